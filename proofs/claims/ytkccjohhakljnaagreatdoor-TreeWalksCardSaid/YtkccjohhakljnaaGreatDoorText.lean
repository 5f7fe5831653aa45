/- tree.Text: a range over a function of two variables, writing a builder. -/
import Derived.Test.YtkccjohhakljnaaGreatDoorTree
import Derived.Test.YtkccjohhakljnaaGreatDoorBuild
import Derived.Test.YtkccjohhakljnaaGreatDoorShelf
import Derived.Lib.BufferKept
namespace Go.Proofs.YtkccjohhakljnaaGreatDoorTree
open Go.RowKit Go.Shelf Go.Proofs Go.Proofs.YtkccjohhakljnaaGreatDoorW.PrintWords Go.Proofs.YtkccjohhakljnaaGreatDoorBuild
set_option linter.unusedVariables false
attribute [local go_sem] Oper.semAt_some
theorem bkept {T e : TypeId} {B b : Nat} {bs : List Value} {W W' : World} {row : Option Nat} (h : Lib.IsBuilderF T e B b bs W) (hg : W.grownBy W' row) (hr : ∀ r, row = some r → ∃ o : Obj, W.heap[r]? = some o ∧ o.isCells = false) : Lib.IsBuilderF T e B b bs W' := by
  have one : ∀ {p : Value}, Lib.BuilderAtF T e B b p bs W → Lib.BuilderAtF T e B b p bs W' := by
    rintro p ⟨hB, v, hbk, hown, hne⟩
    refine ⟨hB, v, (hg.block b (Array.getElem?_eq_some_iff.1 hbk).1 (fun e => ?_)).trans hbk, hown.kept hg ?_, hne⟩
    · obtain ⟨o, ho, hc⟩ := hr _ e.symm
      rw [hbk] at ho
      cases ho
      cases hc
    · rcases hown.2 with ⟨rfl, _⟩ | ⟨g, cap, cur, fz, rfl, _, hg', _⟩
      · exact .inl rfl
      · refine .inr fun e => ?_
        obtain ⟨o, ho, hc⟩ := hr g (by rw [← e]; rfl)
        rw [hg'] at ho
        cases ho
        cases hc
  exact h.elim (fun h => .inl (one h)) (fun h => .inr (one h))
theorem String_k (B b : Nat) (l : List UInt8) (w : World) (h : Lib.IsBuilderF 64 5 B b (Lib.byteCells l) w) (hBw : B ≤ w.heap.size) :
    Calls Tryz.prog 35 #[.pointer (some ⟨b, 0, none⟩)] w fun e w' => e = .returned (.string ⟨l.toArray⟩) ∧ (Lib.IsBuilderF 64 5 B b (Lib.byteCells l) w' ∧ Below B w w' ∧ Lib.OthersKept 5 (some b) w w') :=
  Any.Builder_String_any_k Tryz.lays169 Tryz.Builder_Extra_169 B b l w h hBw
theorem bcell {T e : TypeId} {B b : Nat} {bs : List Value} {W : World} (h : Lib.IsBuilderF T e B b bs W) : ∃ c t fz, W.heap[b]? = some (.cells c t fz) := by
  rcases h with ⟨_, v, hb, _⟩ | ⟨_, v, hb, _⟩
  · exact ⟨_, _, _, hb⟩
  · exact ⟨_, _, _, hb⟩
theorem bkept_own {β : Type} (T e : TypeId) (B b : Nat) (f : β → List Value) (B0 : Nat) : OwnFrom B0 (fun (s : β) W => Lib.IsBuilderF T e B b (f s) W) := fun s X Y row hs hg hr => bkept hs hg (fun r e => (hr r e).2)
/-- While a builder is written: it; all else lies as it lay. -/
def St (h b : Nat) (u : List UInt8) (W Wc : World) : Prop := Lib.IsBuilderF 64 5 h b (Lib.byteCells u) Wc ∧ Lib.OthersKept 5 (some b) W Wc ∧ Below h W Wc ∧ h ≤ W.heap.size
theorem St.size {h b : Nat} {u : List UInt8} {W Wc : World} (s : St h b u W Wc) : W.heap.size ≤ Wc.heap.size := s.2.2.1.size
theorem St.below {h b : Nat} {u : List UInt8} {W Wc W2 : World} (s : St h b u W Wc) (hb : Below Wc.heap.size Wc W2) : St h b u W W2 :=
  ⟨bkept s.1 (grown_of_below hb none) (fun r e => by cases e), s.2.1.below hb, s.2.2.1.trans (hb.mono (Nat.le_trans s.2.2.2 s.size)), s.2.2.2⟩
theorem byteCells_app (u v : List UInt8) : Lib.byteCells u ++ Lib.byteCells v = Lib.byteCells (u ++ v) := by simp [Lib.byteCells]
theorem St.write {h b : Nat} {u : List UInt8} {W Wc : World} (s : St h b u W Wc) (t : ByteArray) (hl : u.length + t.size ≤ 140737488355328) :
    Calls Tryz.prog 33 #[.pointer (some ⟨b, 0, none⟩), .string t] Wc fun e W' => e = .returned (.tuple #[.int .i64 t.size, .nilIface]) ∧ St h b (u ++ t.data.toList) W W' := by
  refine (WriteString_k h b (Lib.byteCells u) t Wc s.1 (by simpa [Lib.byteCells] using hl) (Nat.le_trans s.2.2.2 s.size)).mono ?_
  rintro e W' ⟨rfl, hb, hw, ho⟩
  refine ⟨rfl, .inr ?_, s.2.1.trans ho, s.2.2.1.trans hw, s.2.2.2⟩
  rw [← byteCells_app]
  exact hb
theorem St.cells {h b : Nat} {u : List UInt8} {W Wc : World} (s : St h b u W Wc) {k : Nat} {c : Array Value} {t : TypeId} {fz : Nat × Nat} (hk : W.heap[k]? = some (.cells c t fz)) (hkb : k ≠ b) (ht : t ≠ 5) : Wc.heap[k]? = some (.cells c t fz) :=
  s.2.1 k _ hk (by simpa using hkb) (fun c' fz' e => by injection e with _ e2; exact ht e2)
theorem St.kp {h b : Nat} {u : List UInt8} {W Wc : World} (s : St h b u W Wc) : KpW h b W Wc := ⟨s.2.2.1, fun k c t fz hk hb ht => s.cells hk hb ht⟩
theorem St.from {h b : Nat} {u : List UInt8} {W Wc : World} (s : St h b u W Wc) (hb : ∃ c t fz, W.heap[b]? = some (.cells c t fz)) (B : Nat) : KeepsFrom B W Wc :=
  ⟨s.size, fun k o _ hk ho => s.2.1 k o hk (fun e => by cases e; obtain ⟨c, t, fz, hc⟩ := hb; rw [hc] at hk; cases hk; cases ho) (fun c fz e => by subst e; cases ho)⟩
/-- The bytes of a node's row. -/
def spU : Nat → List UInt8
  | 0 => []
  | n + 1 => spU n ++ [32, 32]
theorem spU_len : ∀ n, (spU n).length = 2 * n
  | 0 => rfl
  | n + 1 => by simp [spU, spU_len n]; omega
def lineU (dF : ByteArray → Nat) (iF : Int → ByteArray) (x : PN) : List UInt8 :=
  spU (dF x.1) ++ x.2.1.data.toList ++ (if x.2.2.2.2 = true then [47] else []) ++ (((⟨#[32]⟩ : ByteArray) ++ iF x.2.2.2.1) ++ (⟨#[10]⟩ : ByteArray)).data.toList
def textU (dF : ByteArray → Nat) (iF : Int → ByteArray) (l : List PN) : List UInt8 := l.flatMap (lineU dF iF)
theorem textU_snoc (dF : ByteArray → Nat) (iF : Int → ByteArray) (l : List PN) (x : PN) : textU dF iF (l ++ [x]) = textU dF iF l ++ lineU dF iF x := by simp [textU]
def NodeBox (W : World) (B : Nat) (x : NV) : Prop := W.heap[B]? = some (.cells #[.string x.1, .int .i64 x.2.1, .int .i64 x.2.2.1, .bool x.2.2.2] 34 (0, 0))
theorem NodeBox.own {W W' : World} {row : Option Nat} {B : Nat} {x : NV} (h : NodeBox W B x) (hg : W.grownBy W' row) (hr : ∀ r, row = some r → ∃ o : Obj, W.heap[r]? = some o ∧ o.isCells = false) : NodeBox W' B x :=
  (hg.block B (Array.getElem?_eq_some_iff.1 h).1 (fun e => by obtain ⟨o, ho, hc⟩ := hr _ e.symm; rw [show W.heap[B]? = _ from h] at ho; cases ho; cases hc)).trans h
set_option maxRecDepth 100000 in
set_option maxHeartbeats 4000000 in
theorem Text_calls (len cap : Nat) (A : Option Addr) (listF : ByteArray → Option (List NV)) (pathF : ByteArray → ByteArray → Option ByteArray) (dF : ByteArray → Nat) (iF : Int → ByteArray) (fd : ByteArray) (m : Nat) (G : PN → Prop) (out : List { x : PN // G x }) (w : World)
    (hL : ∀ fd ns, listF fd = some ns → ns.length ≤ 1000000 ∧ ∀ W, Below w.heap.size w W → Calls Tryz.prog 10 #[.slice A len cap, .string fd] W fun e W' => ∃ v, e = .returned v ∧ Nodes W' W.heap.size v ns ∧ Below W.heap.size W W')
    (hP : ∀ fd nm p, pathF fd nm = some p → ∀ W, Calls Tryz.prog 12 #[.string fd, .string nm] W fun e W' => e = .returned (.string p) ∧ Below W.heap.size W W')
    (hD : ∀ x, G x → dF x.1 ≤ 1000 ∧ x.2.1.size ≤ 1000 ∧ (iF x.2.2.2.1).size ≤ 1000 ∧ ∀ W, Below w.heap.size w W → Calls Tryz.prog 32 #[.string fd, .string x.1] W fun e W' => e = .returned (.int .i64 (dF x.1)) ∧ Below W.heap.size W W')
    (hI : ∀ x, G x → ∀ W, Below w.heap.size w W → Calls Tryz.prog 34 #[.int .i64 x.2.2.2.1] W fun e W' => e = .returned (.string (iF x.2.2.2.1)) ∧ Below W.heap.size W W')
    (hw : walkF listF pathF m fd = some (out.map (·.1))) (hN : out.length ≤ 1000000) :
    Calls Tryz.prog 16 #[.slice A len cap, .string fd] w fun e w' => e = .returned (.string ⟨(textU dF iF (out.map (·.1))).toArray⟩) ∧ Below w.heap.size w w' := by
  refine (callsIn_wide (n := 6)).1 ?_
  refine callsIn_of_wp_marks Tryz.func16 rfl trivial ?_ rfl
  simp only [Tryz.ntmps16, List.size_toArray, List.length_cons, List.length_nil, Nat.reduceAdd, Nat.reduceSub, Array.replicate_succ, Array.replicate_zero, List.push_toArray, List.append_toArray, List.nil_append, List.cons_append]
  gi_wp2_with (refine ⟨trivial, ?_⟩; gi_at_call 15; refine (Walk_in _ _ _ _ _ _).mono ?_; rintro e w' ⟨rfl, rfl⟩)
  have b0 := (((Boxed.new w 9 (.string fd)).alloc (.cells #[.pointer none, .slice none 0 0] 64)).alloc (.cells #[.slice A len cap] 22)).alloc (.cells #[.string fd] 9)
  have bb : ((((w.alloc (.cells #[.string fd] 9)).alloc (.cells #[.pointer none, .slice none 0 0] 64)).alloc (.cells #[.slice A len cap] 22)).alloc (.cells #[.string fd] 9)).heap[w.heap.size + 1]? = some (.cells #[.pointer none, .slice none 0 0] 64 (0, 0)) := by
    have := World.alloc_heap_new (w.alloc (.cells #[.string fd] 9)) (.cells #[.pointer none, .slice none 0 0] 64)
    rw [World.size_alloc] at this
    exact (Below.heap_alloc _ _ _ (by simp)).trans ((Below.heap_alloc _ _ _ (by simp)).trans this)
  have b2 := (Boxed.new ((w.alloc (.cells #[.string fd] 9)).alloc (.cells #[.pointer none, .slice none 0 0] 64)) 22 (.slice A len cap)).alloc (.cells #[.string fd] 9)
  have b3 := Boxed.new (((w.alloc (.cells #[.string fd] 9)).alloc (.cells #[.pointer none, .slice none 0 0] 64)).alloc (.cells #[.slice A len cap] 22)) 9 (.string fd)
  simp only [World.size_alloc] at b2 b3
  have hB0 : Below w.heap.size w ((((w.alloc (.cells #[.string fd] 9)).alloc (.cells #[.pointer none, .slice none 0 0] 64)).alloc (.cells #[.slice A len cap] 22)).alloc (.cells #[.string fd] 9)) := ((((Below.refl _ w).alloc (Nat.le_refl _) _).alloc (by simp) _).alloc (by simp; omega) _).alloc (by simp; omega) _
  have hsz : ((((w.alloc (.cells #[.string fd] 9)).alloc (.cells #[.pointer none, .slice none 0 0] 64)).alloc (.cells #[.slice A len cap] 22)).alloc (.cells #[.string fd] 9)).heap.size = w.heap.size + 4 := by simp
  obtain ⟨W0, hW0⟩ : ∃ W0, ((((w.alloc (.cells #[.string fd] 9)).alloc (.cells #[.pointer none, .slice none 0 0] 64)).alloc (.cells #[.slice A len cap] 22)).alloc (.cells #[.string fd] 9)) = W0 := ⟨_, rfl⟩
  rw [hW0] at b0 bb b2 b3 hB0 hsz ⊢
  clear hW0
  have hbd0 : Lib.IsBuilderF 64 5 w.heap.size (w.heap.size + 1) (Lib.byteCells []) W0 := .inl ⟨by omega, _, bb, World.ownsRowF_nil _ _ _ _, by simp [Value.ownBlock]⟩
  have hbs0 : ∃ c t fz, W0.heap[w.heap.size + 1]? = some (.cells c t fz) := ⟨_, _, _, bb⟩
  have hlenU : ∀ pre : List { x : PN // G x }, (textU dF iF (pre.map (·.1))).length ≤ pre.length * 5000 := by
    intro pre
    induction pre with
    | nil => exact Nat.zero_le _
    | cons x r ih =>
      obtain ⟨h1, h2, h3, _⟩ := hD x.1 x.2
      have e : textU dF iF ((x :: r).map (·.1)) = lineU dF iF x.1 ++ textU dF iF (r.map (·.1)) := rfl
      have hl : (lineU dF iF x.1).length ≤ 5000 := by
        unfold lineU
        simp only [List.length_append, spU_len, Array.length_toList]
        have e1 : (((⟨#[32]⟩ : ByteArray) ++ iF x.1.2.2.2.1) ++ (⟨#[10]⟩ : ByteArray)).data.size = 1 + (iF x.1.2.2.2.1).size + 1 := by
          show (((⟨#[32]⟩ : ByteArray) ++ iF x.1.2.2.2.1) ++ (⟨#[10]⟩ : ByteArray)).size = _
          rw [ByteArray.size_append, ByteArray.size_append]
          rfl
        have e2 : x.1.2.1.data.size = x.1.2.1.size := rfl
        split <;> simp only [List.length_cons, List.length_nil] <;> omega
      rw [e, List.length_append, List.length_cons]
      omega
  refine wpIn_rangeFunc_ownH rfl (by decide) (gf := 30) (lb := #[.pointer (some ⟨w.heap.size + 1 + 1, 0, none⟩), .pointer (some ⟨w.heap.size + 1 + 1 + 1, 0, none⟩)]) rfl trivial (enters_of Tryz.func30 (by kernel_rfl) rfl)
    (walk1_stops 5 (w.heap.size + 1 + 1) (w.heap.size + 1 + 1 + 1) w.heap.size (w.heap.size + 1) len cap A w listF pathF fd m G out hL hP hw W0 hB0 (by omega) (by omega) (by omega) (by omega) b2.cell b3.cell) KpW.trans (kpW_b (by omega)) (Below.refl _ _) (fun _ => rfl)
    (fun pre W => ((Lib.IsBuilderF 64 5 w.heap.size (w.heap.size + 1) (Lib.byteCells (textU dF iF (pre.map (·.1)))) W ∧ Boxed W w.heap.size 9 (.string fd)) ∧ (∃ c t fz, W.heap[w.heap.size + 1]? = some (.cells c t fz))) ∧ Below w.heap.size w W)
    (fun _ _ _ => False)
    (OwnFrom.and (OwnFrom.and (OwnFrom.and (bkept_own _ _ _ _ _ _) (Own.from (boxed_own _ _ _) _)) (fun s X Y row hs hg hr => by
        obtain ⟨c, t, fz, hc⟩ := hs
        exact ⟨c, t, fz, (hg.block _ (Array.getElem?_eq_some_iff.1 hc).1 (fun e => by obtain ⟨_, o, ho, ho2⟩ := hr _ e.symm; rw [hc] at ho; cases ho; cases ho2)).trans hc⟩)) (ownFrom_below (Nat.le_refl _) (by omega)))
    (fun _ _ _ _ _ hs _ _ => hs)
    ⟨⟨⟨hbd0, b0⟩, hbs0⟩, hB0⟩
    (fun x a' W => ∃ Bx, w.heap.size + 1 < Bx ∧ NodeBox W Bx x.1.2 ∧ a' = { tmps := #[.slice A len cap, .string fd, undef, .pointer (some ⟨w.heap.size, 0, none⟩), .string ⟨#[]⟩, .pointer (some ⟨w.heap.size + 1, 0, none⟩), .string x.1.1, .pointer (some ⟨Bx, 0, none⟩), .slice A len cap, .string fd, .func (.func 30) #[] #[.pointer (some ⟨w.heap.size + 1 + 1, 0, none⟩), .pointer (some ⟨w.heap.size + 1 + 1 + 1, 0, none⟩)], .string x.1.1, NV.val x.1.2, undef, undef, undef, undef, undef, undef, undef, undef, undef, undef, undef, undef, undef, undef, undef, undef, undef, undef, undef, undef], defers := [] })
    (fun x a' _ X Y row hs hg hr => by obtain ⟨Bx, h1, h2, h3⟩ := hs; exact ⟨Bx, h1, h2.own hg (fun r e => (hr r e).2), h3⟩)
    ?assign ?body ?done ?stop
  case assign =>
    rintro l pre ⟨⟨p, s, n1, n2, n3⟩, hx⟩ W K ⟨⟨⟨hbd, bF⟩, ⟨c, t, fz, hcb⟩⟩, hB1⟩ hK
    simp only [NV.val] at hK ⊢
    gi_wp2
    have hg := World.grownBy_alloc W (.cells #[.string s, .int .i64 n1, .int .i64 n2, .bool n3] 34) none
    exact hK _ _ ((KeepsOthers.alloc _ _).from _) (KpW.of_grown hg hB1.size) ⟨⟨⟨bkept hbd hg (fun r e => by cases e), bF.alloc _⟩, ⟨c, t, fz, (hg.block _ (Array.getElem?_eq_some_iff.1 hcb).1 (by simp)).trans hcb⟩⟩, hB1.alloc hB1.size _⟩ ⟨W.heap.size, (Array.getElem?_eq_some_iff.1 hcb).1, World.alloc_heap_new W _, rfl⟩
  case body =>
    rintro l pre ⟨x, hx⟩ a' W hl ⟨r, hr⟩ ⟨⟨⟨hbd, bF⟩, hcb⟩, hB1⟩ ⟨Bx, hBx, hX, rfl⟩ hlt
    have cF := bF.cell
    obtain ⟨hd1, hd2, hd3, hdc⟩ := hD x hx
    have hdW := hdc W hB1
    have hIW := hI x hx
    have hlp := hlenU pre
    obtain ⟨u, hu⟩ : ∃ u, u = textU dF iF (pre.map (·.1)) := ⟨_, rfl⟩
    rw [← hu] at hbd hlp
    have hU : u.length ≤ 5000000000 := by omega
    have s0 : St w.heap.size (w.heap.size + 1) u W W := ⟨hbd, Lib.OthersKept.refl _ _ _, Below.refl _ _, hB1.size⟩
    gi_wp2_with (refine ⟨trivial, ?_⟩; gi_at_call 32; refine (CallsIn.inRound l (callsIn_wide.2 hdW)).mono ?_; clear hdW; rintro e W1 ⟨rfl, hb1⟩)
    have s1 := s0.below hb1
    gi_loopw [16] (fun v16 wr => ∃ i : Nat, i ≤ dF x.1 ∧ v16 = .int .i64 i ∧ St w.heap.size (w.heap.size + 1) (u ++ spU i) W wr) (fun v16 _ => dF x.1 - (intOf v16).toNat)
    case atStart => exact ⟨0, Nat.zero_le _, rfl, by simpa [spU] using s1⟩
    case round =>
      obtain ⟨i, hi, rfl, si⟩ := hrel
      have hsl : (u ++ spU i).length ≤ 5000002000 := by rw [List.length_append, spU_len]; omega
      by_cases hlt2 : i < dF x.1
      · have hwr := si.write ⟨#[32, 32]⟩ (by show _ + 2 ≤ _; omega)
        gi_wp2_with (refine ⟨trivial, ?_⟩; gi_at_call 33; refine (CallsIn.inRound l (callsIn_wide.2 hwr)).mono ?_; clear hwr; rintro e W2 ⟨rfl, s2⟩)
        go_roundw
        case rel => exact ⟨i + 1, by omega, by simp, by simpa [spU] using s2⟩
        case measure => simp [intOf]; omega
      · have hi2 : i = dF x.1 := by omega
        subst hi2
        have hfit : ∀ v : List UInt8, v.length ≤ 5000003001 → v.length + (((⟨#[32]⟩ : ByteArray) ++ iF x.2.2.2.1) ++ (⟨#[10]⟩ : ByteArray)).size ≤ 140737488355328 := by
          intro v hv
          rw [ByteArray.size_append, ByteArray.size_append, show (⟨#[32]⟩ : ByteArray).size = 1 from rfl, show (⟨#[10]⟩ : ByteArray).size = 1 from rfl]
          omega
        obtain ⟨q0, q1, q2, q3⟩ := node_cells (si.cells hX (by omega) (by decide))
        have hwn := si.write x.2.1 (by omega)
        gi_upto_region 10 with (first | (refine ⟨trivial, ?_⟩; gi_at_call 33; refine (CallsIn.inRound l (callsIn_wide.2 hwn)).mono ?_; clear hwn; rintro e W3 ⟨rfl, s3⟩))
        have hs3 : (u ++ spU (dF x.1) ++ x.2.1.data.toList).length ≤ 5000003000 := by
          have e1 : x.2.1.data.toList.length = x.2.1.size := Array.length_toList
          rw [List.length_append, e1]
          omega
        obtain ⟨r0, r1, r2, r3⟩ := node_cells (s3.cells hX (by omega) (by decide))
        cases hfo : x.2.2.2.2 with
        | true =>
          rw [hfo] at r3
          have hws := s3.write ⟨#[47]⟩ (by show _ + 1 ≤ _; omega)
          gi_upto_region 12 with (first | (refine ⟨trivial, ?_⟩; gi_at_call 33; refine (CallsIn.inRound l (callsIn_wide.2 hws)).mono ?_; clear hws; rintro e W4 ⟨rfl, s4⟩))
          obtain ⟨t0, t1, t2, t3⟩ := node_cells (s4.cells hX (by omega) (by decide))
          have hit := hIW W4 (hB1.trans s4.2.2.1)
          have hs4 : (u ++ spU (dF x.1) ++ x.2.1.data.toList ++ (⟨#[47]⟩ : ByteArray).data.toList).length ≤ 5000003001 := by
            rw [List.length_append]
            exact Nat.add_le_add hs3 (Nat.le_refl 1)
          gi_wp2_with (first
            | (refine ⟨trivial, ?_⟩; gi_at_call 34; refine (CallsIn.inRound l (callsIn_wide.2 hit)).mono ?_; clear hit; rintro e W5 ⟨rfl, hb5⟩; have hwl := (s4.below hb5).write (((⟨#[32]⟩ : ByteArray) ++ iF x.2.2.2.1) ++ (⟨#[10]⟩ : ByteArray)) (hfit _ hs4)
            )
            | (refine ⟨trivial, ?_⟩; gi_at_call 33; refine (CallsIn.inRound l (callsIn_wide.2 hwl)).mono ?_; clear hwl; rintro e W6 ⟨rfl, s6⟩))
          refine ⟨s6.from hcb _, s6.kp, ⟨⟨?_, s6.cells bF (by omega) (by decide)⟩, bcell s6.1⟩, hB1.trans s6.2.2.1⟩
          have e : textU dF iF ((pre ++ [(⟨x, hx⟩ : { x : PN // G x })]).map (·.1)) = u ++ lineU dF iF x := by rw [List.map_append, List.map_cons, List.map_nil, textU_snoc, hu]
          have e2 : u ++ lineU dF iF x = u ++ spU (dF x.1) ++ x.2.1.data.toList ++ (⟨#[47]⟩ : ByteArray).data.toList ++ (((⟨#[32]⟩ : ByteArray) ++ iF x.2.2.2.1) ++ (⟨#[10]⟩ : ByteArray)).data.toList := by simp [lineU, hfo, List.append_assoc]
          rw [e, e2]
          exact s6.1
        | false =>
          rw [hfo] at r3
          gi_upto_region 12 with (fail)
          have hit := hIW W3 (hB1.trans s3.2.2.1)
          gi_wp2_with (first
            | (refine ⟨trivial, ?_⟩; gi_at_call 34; refine (CallsIn.inRound l (callsIn_wide.2 hit)).mono ?_; clear hit; rintro e W5 ⟨rfl, hb5⟩; have hwl := (s3.below hb5).write (((⟨#[32]⟩ : ByteArray) ++ iF x.2.2.2.1) ++ (⟨#[10]⟩ : ByteArray)) (hfit _ (Nat.le_trans hs3 (by omega)))
            )
            | (refine ⟨trivial, ?_⟩; gi_at_call 33; refine (CallsIn.inRound l (callsIn_wide.2 hwl)).mono ?_; clear hwl; rintro e W6 ⟨rfl, s6⟩))
          refine ⟨s6.from hcb _, s6.kp, ⟨⟨?_, s6.cells bF (by omega) (by decide)⟩, bcell s6.1⟩, hB1.trans s6.2.2.1⟩
          have e : textU dF iF ((pre ++ [(⟨x, hx⟩ : { x : PN // G x })]).map (·.1)) = u ++ lineU dF iF x := by rw [List.map_append, List.map_cons, List.map_nil, textU_snoc, hu]
          have e2 : u ++ lineU dF iF x = u ++ spU (dF x.1) ++ x.2.1.data.toList ++ (((⟨#[32]⟩ : ByteArray) ++ iF x.2.2.2.1) ++ (⟨#[10]⟩ : ByteArray)).data.toList := by simp [lineU, hfo, List.append_assoc]
          rw [e, e2]
          exact s6.1
  case done =>
    rintro D zs W hD0 rfl ⟨⟨⟨hbd, bF⟩, hcb⟩, hB1⟩ hK
    have hst := String_k _ _ _ W hbd hB1.size
    gi_wp2_with (refine ⟨trivial, ?_⟩; gi_at_call 35; refine (callsIn_wide.2 hst).mono ?_; clear hst; rintro e W9 ⟨rfl, hbd9, hb9, ho9⟩)
    have hK9 : W9.heap[D]? = some (.deferred (some [])) := ho9 D _ hK (fun e => by cases e; obtain ⟨c, t, fz, hc⟩ := hcb; rw [hc] at hK; cases hK) (fun c fz e => by cases e)
    refine ⟨by simp, .inl ⟨_, _, rfl, run_takeDeferred hK9, ?_⟩⟩
    exact ⟨_, results_tmp rfl _ _ _, rfl, (hB1.trans hb9).trans (belowK_b (w := w) (Nat.le_refl _) W9 D _ _ (by omega) hK9 rfl rfl)⟩
  case stop =>
    rintro D c pre W _ _ h _
    exact h.elim
end Go.Proofs.YtkccjohhakljnaaGreatDoorTree
