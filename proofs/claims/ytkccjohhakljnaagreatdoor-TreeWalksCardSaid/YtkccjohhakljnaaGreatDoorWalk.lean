/- tree.Walk with a closure as the one who wants the nodes. -/
import Derived.Test.YtkccjohhakljnaaGreatDoorTree
namespace Go.Proofs.YtkccjohhakljnaaGreatDoorTree
open Go.RowKit Go.Shelf Go.Proofs Go.Proofs.YtkccjohhakljnaaGreatDoorW.PrintWords
set_option linter.unusedVariables false
set_option linter.unusedSimpArgs false
attribute [local go_sem] Oper.semAt_some
/-- All lies as it lay, but the blocks from n₀ on and below nx. -/
def KpN (n₀ nx : Nat) (W W' : World) : Prop := Below n₀ W W' ∧ ∀ k, nx ≤ k → k < W.heap.size → W'.heap[k]? = W.heap[k]?
theorem KpN.refl (n₀ nx : Nat) (W : World) : KpN n₀ nx W W := ⟨Below.refl _ _, fun _ _ _ => rfl⟩
theorem KpN.trans {n₀ nx : Nat} {A B C : World} (h : KpN n₀ nx A B) (k : KpN n₀ nx B C) : KpN n₀ nx A C := ⟨h.1.trans k.1, fun i hi hb => (k.2 i hi (Nat.lt_of_lt_of_le hb h.1.size)).trans (h.2 i hi hb)⟩
theorem KpN.of_grown {n₀ nx : Nat} {W W' : World} (h : W.grownBy W' none) (hn : n₀ ≤ W.heap.size) : KpN n₀ nx W W' := ⟨below_of_grown h hn, fun k _ hk => h.block k hk (by simp)⟩
theorem Nodes.keptN {W W' : World} {m nx : Nat} {v : Value} {ns : List NV} (h : Nodes W m v ns) (hb : nx ≤ m) (hk : ∀ k, nx ≤ k → k < W.heap.size → W'.heap[k]? = W.heap[k]?) : Nodes W' m v ns := by
  rcases h with h | ⟨g, c, cur, fz, hv, hm, hg, hc⟩
  · exact .inl h
  · exact .inr ⟨g, c, cur, fz, hv, hm, (hk g (by omega) (Array.getElem?_eq_some_iff.1 hg).1).trans hg, hc⟩
set_option maxRecDepth 100000 in
set_option maxHeartbeats 4000000 in
theorem walkc_in (g_ : FuncId) (hCF : ∀ (args : Array Value) (W : World), Sem.run Tryz.prog (callFunc g_ args) W = .ok (.enter g_ args) W) (lb : Array Value) (n₀ nx len cap : Nat) (FULL : List PN) (A : Option Addr) (w0 : World) (listF : ByteArray → Option (List NV)) (pathF : ByteArray → ByteArray → Option ByteArray)
    (hL : ∀ fd ns, listF fd = some ns → ns.length ≤ 1000000 ∧ ∀ W, Below n₀ w0 W → Calls Tryz.prog 10 #[.slice A len cap, .string fd] W fun e W' => ∃ v, e = .returned v ∧ Nodes W' W.heap.size v ns ∧ Below W.heap.size W W')
    (hP : ∀ fd nm p, pathF fd nm = some p → ∀ W, Calls Tryz.prog 12 #[.string fd, .string nm] W fun e W' => e = .returned (.string p) ∧ Below W.heap.size W W')
    (J Jx : List PN → World → Prop) (hJ : ∀ s W W', J s W → W.grownBy W' none → J s W')
    (hY : ∀ m pre x W, pre ++ [x] <+: FULL → J pre W → nx ≤ W.heap.size → CallsIn Fence.wide m Tryz.prog g_ (#[.string x.1, NV.val x.2] ++ lb) W fun e W' =>
      (e = .returned (.bool true) ∧ J (pre ++ [x]) W' ∧ KpN n₀ nx W W') ∨ (e = .returned (.bool false) ∧ Jx (pre ++ [x]) W')) :
    ∀ (m : Nat) (fd : ByteArray) (out : List PN), walkF listF pathF m fd = some out → ∀ (n : Nat) (pre : List PN) (W : World), pre ++ out <+: FULL → Below n₀ w0 W → n₀ ≤ W.heap.size → nx ≤ W.heap.size → J pre W →
      CallsIn Fence.wide n Tryz.prog 31 #[.slice A len cap, .string fd, .func (.func g_) #[] lb] W fun e W' =>
        (e = .returned (.bool true) ∧ J (pre ++ out) W' ∧ KpN n₀ nx W W') ∨ (e = .returned (.bool false) ∧ ∃ q, q <+: out ∧ Jx (pre ++ q) W')
  | 0, _, _, h => by cases h
  | m + 1, fd, out, h => by
    intro n pre W hGo hB hn0 hbl hJ0
    have ih := walkc_in g_ hCF lb n₀ nx len cap FULL A w0 listF pathF hL hP J Jx hJ hY m
    obtain ⟨ns, hns, hgo⟩ := Option.bind_eq_some_iff.1 h
    obtain ⟨hmax, hLc⟩ := hL fd ns hns
    have hLW := hLc W hB
    clear hL hLc h hns
    refine callsIn_of_wp Tryz.func31 rfl trivial ?_ rfl
    simp only [Tryz.ntmps31, List.size_toArray, List.length_cons, List.length_nil, Nat.reduceAdd, Nat.reduceSub, Array.replicate_succ, Array.replicate_zero, List.push_toArray, List.append_toArray, List.nil_append, List.cons_append]
    have hdd : ∀ k : Nat, (Fence.wide.depth.isSome = true → 1 ≤ k) := fun k h => by cases h
    gi_wp2_with (refine ⟨trivial, hdd _, ?_⟩; gi_at_call 10; refine (callsIn_wide.2 hLW).mono ?_; rintro e W1 ⟨v, rfl, hnd, hb1⟩; obtain ⟨Av, cv, rfl⟩ : ∃ Av cv, v = .slice Av ns.length cv := (by rcases hnd with ⟨rfl, A', c', rfl⟩ | ⟨g, c, cur, fz, hv, _⟩; exact ⟨A', c', rfl⟩; exact ⟨_, _, hv⟩))
    have hg1 : W.grownBy W1 none := grown_of_below hb1 none
    have hJ1 := hJ _ _ _ hJ0 hg1
    have hK1 : KpN n₀ nx W W1 := KpN.of_grown hg1 hn0
    have hbW1 : nx ≤ W1.heap.size := Nat.le_trans hbl hb1.size
    gi_loopw [14] (fun v14 wr => ∃ (k : Nat) (done rest : List PN), k ≤ ns.length ∧ v14 = .int .i64 k ∧ done ++ rest = out ∧ goF pathF (walkF listF pathF m) fd (ns.drop k) = some rest ∧ J (pre ++ done) wr ∧ KpN n₀ nx W1 wr)
      (fun v14 _ => ns.length - (intOf v14).toNat)
    case atStart => exact ⟨0, [], out, Nat.zero_le _, rfl, rfl, hgo, by simpa using hJ1, KpN.refl _ _ _⟩
    case round =>
      obtain ⟨k, done, rest, hk, rfl, hout, hg, hJr, hKr⟩ := hrel
      by_cases hlt : k < ns.length
      · rw [List.drop_eq_getElem_cons hlt] at hg
        obtain ⟨x, hx⟩ : ∃ x, x = ns[k] := ⟨_, rfl⟩
        rw [← hx] at hg
        simp only [goF] at hg
        obtain ⟨p, hp, hg⟩ := Option.bind_eq_some_iff.1 hg
        obtain ⟨sub, hs, hg⟩ := Option.bind_eq_some_iff.1 hg
        obtain ⟨rest2, hr2, hg⟩ := Option.bind_eq_some_iff.1 hg
        obtain rfl := Option.some.inj hg
        have hnd2 := hnd.keptN hbl hKr.2
        rcases hnd2 with ⟨rfl, _⟩ | ⟨g, c, cur, fz, hv, hmg, hgh, hcs⟩
        · simp at hlt
        cases hv
        obtain ⟨c0, c1, c2, c3⟩ := hcs k x (by rw [hx]; exact List.getElem?_eq_getElem hlt)
        have d0 : wr.cell? ⟨g, k * 4, none⟩ = some (.string x.1) := by unfold World.cell?; rw [hgh]; exact c0
        have d1 : wr.cell? ⟨g, k * 4 + 1, none⟩ = some (.int .i64 x.2.1) := by unfold World.cell?; rw [hgh]; exact c1
        have d2 : wr.cell? ⟨g, k * 4 + 2, none⟩ = some (.int .i64 x.2.2.1) := by unfold World.cell?; rw [hgh]; exact c2
        have d3 : wr.cell? ⟨g, k * 4 + 3, none⟩ = some (.bool x.2.2.2) := by unfold World.cell?; rw [hgh]; exact c3
        clear c0 c1 c2 c3 hcs hgh hx
        gi_upto_region 4 with (fail)
        have hW2 : wr.grownBy (wr.alloc (.cells #[.string x.1, .int .i64 x.2.1, .int .i64 x.2.2.1, .bool x.2.2.2] 34)) none := World.grownBy_alloc _ _ _
        have hnw := node_new x wr
        have hs2 : (wr.alloc (.cells #[.string x.1, .int .i64 x.2.1, .int .i64 x.2.2.1, .bool x.2.2.2] 34)).heap.size = wr.heap.size + 1 := by simp
        generalize wr.alloc (.cells #[.string x.1, .int .i64 x.2.1, .int .i64 x.2.2.1, .bool x.2.2.2] 34) = W2 at hW2 hnw hs2 ⊢
        have hszr : W1.heap.size ≤ wr.heap.size := hKr.1.size
        obtain ⟨n0, n1, n2, n3⟩ := node_cells hnw
        have hPk := hP fd x.1 p hp W2
        have hyk : ∀ W3, Below W2.heap.size W2 W3 → J (pre ++ done) W3 ∧ KpN n₀ nx W1 W3 ∧ W3.heap[wr.heap.size]? = some (.cells #[.string x.1, .int .i64 x.2.1, .int .i64 x.2.2.1, .bool x.2.2.2] 34 (0, 0)) := fun W3 hb3 => by
          have hg3 : wr.grownBy W3 none := hW2.trans (grown_of_below hb3 none)
          exact ⟨hJ _ _ _ hJr hg3, hKr.trans (KpN.of_grown hg3 (Nat.le_trans hn0 (Nat.le_trans hb1.size hszr))), (hb3.block _ (by omega)).trans hnw⟩
        have hpx : (pre ++ done) ++ [(p, x)] <+: FULL := by
          refine List.IsPrefix.trans ⟨sub ++ rest2, ?_⟩ hGo
          rw [← hout]
          simp
        have hps : ((pre ++ done) ++ [(p, x)]) ++ sub <+: FULL := by
          refine List.IsPrefix.trans ⟨rest2, ?_⟩ hGo
          rw [← hout]
          simp
        gi_upto_region 5 with (first | (refine ⟨trivial, hdd _, ?_⟩; gi_at_call 12; refine (callsIn_wide.2 hPk).mono ?_; clear hPk; rintro e W3 ⟨rfl, hb3⟩))
        obtain ⟨hJ3, hK3, hn3⟩ := hyk W3 hb3
        obtain ⟨e0, e1, e2, e3⟩ := node_cells hn3
        have hR := hY (n - 1) (pre ++ done) (p, x) W3 hpx hJ3 (Nat.le_trans hbW1 hK3.1.size)
        simp only [NV.val] at hR
        gi_wp2
        refine ⟨trivial, hdd _, hR.mono ?_⟩
        clear hR
        rintro e W4 (⟨rfl, hJ4, hk4⟩ | ⟨rfl, hJx4⟩)
        · have hn4 := (hk4.2 _ (by omega) (Array.getElem?_eq_some_iff.1 hn3).1).trans hn3
          obtain ⟨f0, f1, f2, f3⟩ := node_cells hn4
          have hK4 : KpN n₀ nx W1 W4 := hK3.trans hk4
          cases hfo : x.2.2.2 with
          | false =>
            rw [hfo] at f3
            rw [hfo, if_neg (by decide)] at hs
            obtain rfl := Option.some.inj hs
            gi_wp2
            refine ⟨trivial, ?_⟩
            gi_wp2
            go_roundw
            case rel => exact ⟨k + 1, done ++ [(p, x)], rest2, by omega, by simp, by rw [← hout]; simp, hr2, by rw [← List.append_assoc]; exact hJ4, hK4⟩
            case measure => simp [intOf]; omega
          | true =>
            rw [hfo] at f3
            rw [hfo, if_pos rfl] at hs
            have hih := ih p sub hs (n - 1) (pre ++ done ++ [(p, x)]) W4 hps (hB.trans (hK1.trans hK4).1) (Nat.le_trans hn0 (hK1.trans hK4).1.size) (Nat.le_trans hbl (hK1.trans hK4).1.size) hJ4
            clear ih
            gi_wp2_with (refine ⟨trivial, hdd _, ?_⟩; gi_at_call 31; refine hih.mono ?_; clear hih; rintro e W5 (⟨rfl, hJ5, hk5⟩ | ⟨rfl, q, ⟨t, hq⟩, hJx5⟩))
            · go_roundw
              case rel => exact ⟨k + 1, done ++ (p, x) :: sub, rest2, by omega, by simp, by rw [← hout]; simp, hr2, by simpa using hJ5, hK4.trans hk5⟩
              case measure => simp [intOf]; omega
            · go_ret
              exact .inr ⟨rfl, done ++ (p, x) :: q, ⟨t ++ rest2, by rw [← hout, ← hq]; simp⟩, by simpa using hJx5⟩
        · gi_wp2
          all_goals (first | (exfalso; rename_i h1_ h2_; injection h1_ with h1_; exact absurd h1_ (by simp [undef])) | skip)
          refine ⟨trivial, ?_⟩
          gi_wp2
          all_goals (first | (exfalso; rename_i h1_ h2_; injection h1_ with h1_; exact absurd h1_ (by simp [undef])) | skip)
          go_ret
          exact .inr ⟨rfl, done ++ [(p, x)], ⟨sub ++ rest2, by rw [← hout]; simp⟩, by simpa using hJx4⟩
      · obtain rfl : k = ns.length := by omega
        rw [List.drop_length] at hg
        obtain rfl := Option.some.inj hg
        gi_wp2
        go_ret
        exact .inl ⟨rfl, by rw [← hout, List.append_nil]; exact hJr, hK1.trans hKr⟩
set_option maxHeartbeats 1000000 in
/-- The closure that Walk hands back, called with a closure. -/
theorem walk1f (g_ : FuncId) (hCF : ∀ (args : Array Value) (W : World), Sem.run Tryz.prog (callFunc g_ args) W = .ok (.enter g_ args) W) (lb : Array Value) (Bl Bf n₀ nx len cap : Nat) (A : Option Addr) (w0 : World) (listF : ByteArray → Option (List NV)) (pathF : ByteArray → ByteArray → Option ByteArray) (fd : ByteArray) (m : Nat) (out : List PN) (J Jx : List PN → World → Prop)
    (hL : ∀ fd ns, listF fd = some ns → ns.length ≤ 1000000 ∧ ∀ W, Below n₀ w0 W → Calls Tryz.prog 10 #[.slice A len cap, .string fd] W fun e W' => ∃ v, e = .returned v ∧ Nodes W' W.heap.size v ns ∧ Below W.heap.size W W')
    (hP : ∀ fd nm p, pathF fd nm = some p → ∀ W, Calls Tryz.prog 12 #[.string fd, .string nm] W fun e W' => e = .returned (.string p) ∧ Below W.heap.size W W')
    (hJ : ∀ s W W', J s W → W.grownBy W' none → J s W')
    (hY : ∀ pre x W, pre ++ [x] <+: out → J pre W → nx ≤ W.heap.size → Calls Tryz.prog g_ (#[.string x.1, NV.val x.2] ++ lb) W fun e W' =>
      (e = .returned (.bool true) ∧ J (pre ++ [x]) W' ∧ KpN n₀ nx W W') ∨ (e = .returned (.bool false) ∧ Jx (pre ++ [x]) W'))
    (hw : walkF listF pathF m fd = some out)
    (W : World) (hB : Below n₀ w0 W) (hn0 : n₀ ≤ W.heap.size) (hnx : nx ≤ W.heap.size) (c0 : W.cell? ⟨Bl, 0, none⟩ = some (.slice A len cap)) (c1 : W.cell? ⟨Bf, 0, none⟩ = some (.string fd)) (h0 : J [] W) :
    Calls Tryz.prog 30 #[.func (.func g_) #[] lb, .pointer (some ⟨Bl, 0, none⟩), .pointer (some ⟨Bf, 0, none⟩)] W fun e W' => (∃ v, e = .returned v) ∧ ((J out W' ∧ KpN n₀ nx W W') ∨ ∃ q, q <+: out ∧ Jx q W') := by
  have hp := walkc_in g_ hCF lb n₀ nx len cap out A w0 listF pathF hL hP J Jx hJ (fun _ pre x W hx hj hn => callsIn_wide.2 (hY pre x W hx hj hn)) m fd out hw 5 [] W (by rw [List.nil_append]; exact List.prefix_rfl) hB hn0 hnx h0
  have hdd : ∀ k : Nat, (Fence.wide.depth.isSome = true → 1 ≤ k) := fun k h => by cases h
  refine (callsIn_wide (n := 6)).1 ?_
  refine callsIn_of_wp Tryz.func30 rfl trivial ?_ rfl
  simp only [Tryz.ntmps30, List.size_toArray, List.length_cons, List.length_nil, Nat.reduceAdd, Nat.reduceSub, Array.replicate_succ, Array.replicate_zero, List.push_toArray, List.append_toArray, List.nil_append, List.cons_append]
  gi_wp2_with (refine ⟨trivial, ?_⟩; gi_at_call 31; refine hp.mono ?_; clear hp; rintro e W1 (⟨rfl, hJ1, hk⟩ | ⟨rfl, q, hq, hx⟩))
  · go_end0
    exact ⟨⟨_, rfl⟩, .inl ⟨by simpa using hJ1, hk⟩⟩
  · go_end0
    exact ⟨⟨_, rfl⟩, .inr ⟨q, hq, by simpa using hx⟩⟩
/-- As walk1f, where it doesn't matter at which place a node is told. -/
theorem walk1c (g_ : FuncId) (hCF : ∀ (args : Array Value) (W : World), Sem.run Tryz.prog (callFunc g_ args) W = .ok (.enter g_ args) W) (lb : Array Value) (Bl Bf n₀ nx len cap : Nat) (A : Option Addr) (w0 : World) (listF : ByteArray → Option (List NV)) (pathF : ByteArray → ByteArray → Option ByteArray) (fd : ByteArray) (m : Nat) (G : PN → Prop) (out : List PN) (J Jx : List PN → World → Prop)
    (hL : ∀ fd ns, listF fd = some ns → ns.length ≤ 1000000 ∧ ∀ W, Below n₀ w0 W → Calls Tryz.prog 10 #[.slice A len cap, .string fd] W fun e W' => ∃ v, e = .returned v ∧ Nodes W' W.heap.size v ns ∧ Below W.heap.size W W')
    (hP : ∀ fd nm p, pathF fd nm = some p → ∀ W, Calls Tryz.prog 12 #[.string fd, .string nm] W fun e W' => e = .returned (.string p) ∧ Below W.heap.size W W')
    (hJ : ∀ s W W', J s W → W.grownBy W' none → J s W')
    (hY : ∀ pre x W, G x → J pre W → pre.length < out.length → nx ≤ W.heap.size → Calls Tryz.prog g_ (#[.string x.1, NV.val x.2] ++ lb) W fun e W' =>
      (e = .returned (.bool true) ∧ J (pre ++ [x]) W' ∧ KpN n₀ nx W W') ∨ (e = .returned (.bool false) ∧ Jx (pre ++ [x]) W'))
    (hw : walkF listF pathF m fd = some out) (hGo : ∀ x ∈ out, G x)
    (W : World) (hB : Below n₀ w0 W) (hn0 : n₀ ≤ W.heap.size) (hnx : nx ≤ W.heap.size) (c0 : W.cell? ⟨Bl, 0, none⟩ = some (.slice A len cap)) (c1 : W.cell? ⟨Bf, 0, none⟩ = some (.string fd)) (h0 : J [] W) :
    Calls Tryz.prog 30 #[.func (.func g_) #[] lb, .pointer (some ⟨Bl, 0, none⟩), .pointer (some ⟨Bf, 0, none⟩)] W fun e W' => (∃ v, e = .returned v) ∧ ((J out W' ∧ KpN n₀ nx W W') ∨ ∃ q, q <+: out ∧ Jx q W') :=
  walk1f g_ hCF lb Bl Bf n₀ nx len cap A w0 listF pathF fd m out J Jx hL hP hJ
    (fun pre x W hp hj hn => hY pre x W (hGo x (hp.subset (by simp))) hj (by have := hp.length_le; rw [List.length_append, List.length_cons, List.length_nil] at this; omega) hn) hw W hB hn0 hnx c0 c1 h0
theorem KpN.setCell {n₀ nx : Nat} {W W' : World} (h : KpN n₀ nx W W') {B o : Nat} (h0 : n₀ ≤ B) (h1 : B < nx) (v : Value) : KpN n₀ nx W (W'.setCell ⟨B, o, none⟩ v) :=
  ⟨h.1.setCell (p := ⟨B, o, none⟩) h0 _, fun k hk hl => by
    refine Eq.trans ?_ (h.2 k hk hl)
    unfold World.setCell
    simp only [Array.getElem?_modify]
    rw [if_neg (by show ¬ B = k; omega)]⟩
set_option maxHeartbeats 1000000 in
theorem sums1 (Bl Bn Bd n₀ nx len cap : Nat) (A : Option Addr) (p : ByteArray) (x : NV) (j c : Int) (W : World) (hn0 : n₀ ≤ Bn) (hd0 : n₀ ≤ Bd) (hnx : Bn < nx) (hdx : Bd < nx) (hln : Bl ≠ Bn) (hld : Bl ≠ Bd) (hnd : Bn ≠ Bd) (hW : nx ≤ W.heap.size)
    (hF : ∀ W', W.grownBy W' none → Calls Tryz.prog 20 #[.slice A len cap, .string p] W' fun e W'' => e = .returned (.int .i64 j) ∧ Below W'.heap.size W' W'')
    (hj : 0 ≤ j ∨ x.2.2.2 = true) (bl : Boxed W Bl 22 (.slice A len cap)) (bn : Boxed W Bn 4 (.bool true)) (bd : Boxed W Bd 3 (.int .i64 c)) :
    Calls Tryz.prog 19 #[.string p, NV.val x, .pointer (some ⟨Bl, 0, none⟩), .pointer (some ⟨Bn, 0, none⟩), .pointer (some ⟨Bd, 0, none⟩)] W fun e W' =>
      e = .returned (.bool true) ∧ Boxed W' Bl 22 (.slice A len cap) ∧ Boxed W' Bn 4 (.bool true) ∧ Boxed W' Bd 3 (.int .i64 (if 0 ≤ j then wrap64 (c + 1) else c)) ∧ KpN n₀ nx W W' := by
  simp only [NV.val]
  go_enter Tryz.func19, Tryz.ntmps19
  go_upto_region 1 with (fail)
  have hg := World.grownBy_alloc W (.cells #[.string x.1, .int .i64 x.2.1, .int .i64 x.2.2.1, .bool x.2.2.2] 34) none
  have hk1 : KpN n₀ nx W (W.alloc (.cells #[.string x.1, .int .i64 x.2.1, .int .i64 x.2.2.1, .bool x.2.2.2] 34)) := KpN.of_grown hg (by omega)
  have hnw := node_new x W
  have hs1 : (W.alloc (.cells #[.string x.1, .int .i64 x.2.1, .int .i64 x.2.2.1, .bool x.2.2.2] 34)).heap.size = W.heap.size + 1 := by simp
  generalize W.alloc (.cells #[.string x.1, .int .i64 x.2.1, .int .i64 x.2.2.1, .bool x.2.2.2] 34) = W1 at hg hk1 hnw hs1 ⊢
  have bl1 := bl.kept hg (by simp)
  have cl1 := bl1.cell
  have hF1 := hF W1 hg
  clear hF
  go_upto_region 2 with (first | (go_at_call 20; refine hF1.mono ?_; clear hF1; rintro e W2 ⟨rfl, hb2⟩))
  have hg2 : W.grownBy W2 none := hg.trans (grown_of_below hb2 none)
  have hk2 : KpN n₀ nx W W2 := KpN.of_grown hg2 (by omega)
  have hnw2 := (hb2.block _ (by omega)).trans hnw
  have bl2 := bl.kept hg2 (by simp)
  have bn2 := bn.kept hg2 (by simp)
  have bd2 := bd.kept hg2 (by simp)
  have cn2 := bn2.cell
  have fn2 := bn2.frozen
  have cd2 := bd2.cell
  have fd2 := bd2.frozen
  obtain ⟨n0, n1, n2, n3⟩ := node_cells hnw2
  by_cases hjj : 0 ≤ j
  · have hj1 : decide (0 ≤ j) = true := decide_eq_true hjj
    simp only [ge_iff_le, hj1, if_pos hjj]
    go_wp2
    go_ret
    exact ⟨rfl, (bl2.other hln _).other hld _, (bn2.set _).other hnd _, (bd2.other (Ne.symm hnd) _).set _, (hk2.setCell hn0 hnx _).setCell hd0 hdx _⟩
  · have hj1 : decide (0 ≤ j) = false := decide_eq_false hjj
    have hx3 : x.2.2.2 = true := hj.resolve_left hjj
    rw [hx3] at n3
    simp only [ge_iff_le, hj1, if_neg hjj]
    go_wp2
    go_ret
    exact ⟨rfl, bl2.other hln _, bn2.set _, bd2.other (Ne.symm hnd) _, hk2.setCell hn0 hnx _⟩
end Go.Proofs.YtkccjohhakljnaaGreatDoorTree
