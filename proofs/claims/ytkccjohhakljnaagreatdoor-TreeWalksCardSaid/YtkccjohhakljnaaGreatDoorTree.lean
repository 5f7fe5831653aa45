/- Ranges over functions of tree: the iterator over the files in a folder. -/
import Derived.RangeFuncNested
import Derived.RangeFuncBound
import Derived.RangeFuncCalls
import Derived.RangeFuncLeaves
import Derived.RangeFuncBox
import Derived.RangeFuncFrom
import Derived.Shelf.Abstract
import Derived.Shelf.RegionOpen
import Derived.WalkKit
import Derived.OwnWalkIn
import Derived.TacticsInMore
import Derived.LoopNIn
import Derived.LoopIn
import Derived.Sort.CutIn
import Derived.Scope
import Derived.Maps.AppendAt
import Derived.Test.YtkccjohhakljnaaGreatDoorWWords
import Derived.Test.YtkccjohhakljnaaGreatDoorMpHelp
import Derived.Test.YtkccjohhakljnaaGreatDoorProg
namespace Go.Proofs.YtkccjohhakljnaaGreatDoorTree
open Go.RowKit Go.Shelf Go.Proofs Go.Proofs.YtkccjohhakljnaaGreatDoorW.PrintWords
set_option linter.unusedVariables false
set_option linter.unusedSimpArgs false
attribute [local go_sem] Oper.semAt_some
/-! A scope without jumps, in a fence. -/
section
variable {P : Program} {b : Frame} {a : Act} {k : List Item} {cs : List Frame} {w : World} {Q : Exit → Act → World → Prop}
theorem stepR_scope {c : Code} : step P (lone (b.atR a (.code (.scope c) :: k)) cs w) = .next (lone (b.atR a (.code c :: .inScope c :: k)) cs w) := step_lone_go (by simp [stepG, stepG.exec, Frame.atR])
theorem stepR_inScope {c : Code} : step P (lone (b.atR a (.inScope c :: k)) cs w) = .next (lone (b.atR a k) cs w) := step_lone_go (by simp [stepG, stepG.exec, Frame.atR])
theorem wpIn_scope_straight {F : Fence} {n : Nat} {c : Code} (h : c.wpIn F n P (Exit.noGoto Q) a w) : (Code.scope c).wpIn F n P Q a w := by
  intro b k cs hro hb hr
  have h0 : (lone (b.atR a (.code (.scope c) :: k)) cs w).fenced P F := fenced_calm hb hr rfl
  obtain ⟨e, a₁, w₁, hq, harr⟩ := h b (.inScope c :: k) cs hro hb hr
  cases e with
  | normal => exact ⟨.normal, a₁, w₁, hq, .head h0 stepR_scope (StepsIn.trans harr (.one (fenced_calm hb hr rfl) stepR_inScope))⟩
  | exit id => exact ⟨.exit id, a₁, w₁, hq, fun k' hk => .head h0 stepR_scope (harr.1 k' (by simp [exitTo, hk])), fun hr' hk => let ⟨k₁, h1, h2⟩ := harr.2 hr' (by simp [exitTo, hk]); ⟨k₁, h1, .head h0 stepR_scope h2⟩⟩
  | goto l => exact hq.elim
  | ret => exact ⟨_, a₁, w₁, hq, .of_steps (.one h0 stepR_scope) harr⟩
  | panic ch => exact ⟨_, a₁, w₁, hq, .of_steps (.one h0 stepR_scope) harr⟩
  | outgrown => exact ⟨_, a₁, w₁, hq, .of_steps (.one h0 stepR_scope) harr⟩
end
/-- A file's value. -/
abbrev FV := ByteArray × (Option Addr × Nat × Nat)
def FV.val (x : FV) : Value := .agg #[.string x.1, .slice x.2.1 x.2.2.1 x.2.2.2]
/-- What a round keeps: what lies below n₀, and the box of the folder's name. -/
def KpF (n₀ Bf : Nat) (W W' : World) : Prop := Below n₀ W W' ∧ ∀ v, W.cell? ⟨Bf, 0, none⟩ = some v → W'.cell? ⟨Bf, 0, none⟩ = some v
theorem KpF.trans {n₀ Bf : Nat} {A B C : World} (h : KpF n₀ Bf A B) (k : KpF n₀ Bf B C) : KpF n₀ Bf A C := ⟨h.1.trans k.1, fun v hv => k.2 v (h.2 v hv)⟩
theorem KpF.refl (n₀ Bf : Nat) (W : World) : KpF n₀ Bf W W := ⟨Below.refl _ _, fun _ h => h⟩
def filt (fv : Nat → FV) (inB : Nat → Bool) (k : Nat) : List FV := ((List.range k).filter inB).map fv
theorem filt_in {fv : Nat → FV} {inB : Nat → Bool} {k : Nat} (h : inB k = true) : filt fv inB (k + 1) = filt fv inB k ++ [fv k] := by simp [filt, List.range_succ, List.filter_append, h]
theorem filt_out {fv : Nat → FV} {inB : Nat → Bool} {k : Nat} (h : inB k = false) : filt fv inB (k + 1) = filt fv inB k := by simp [filt, List.range_succ, List.filter_append, h]
theorem filt_len (fv : Nat → FV) (inB : Nat → Bool) (k : Nat) : (filt fv inB k).length ≤ k := by
  unfold filt
  rw [List.length_map]
  exact Nat.le_trans (List.length_filter_le _ _) (by rw [List.length_range]; exact Nat.le_refl _)
theorem cell_new (s : ByteArray) (A : Option Addr) (n c : Nat) (W : World) : (W.alloc (.cells #[.string s, .slice A n c] 49)).cell? ⟨W.heap.size, 0, none⟩ = some (.string s) ∧ (W.alloc (.cells #[.string s, .slice A n c] 49)).cell? ⟨W.heap.size, 1, none⟩ = some (.slice A n c) := by
  have h := World.alloc_heap_new W (.cells #[.string s, .slice A n c] 49)
  constructor <;> (unfold World.cell?; rw [h]; rfl)
theorem below_of_grown {n₀ : Nat} {W W' : World} (h : W.grownBy W' none) (hn : n₀ ≤ W.heap.size) : Below n₀ W W' := ⟨h.os, h.tape, h.output, h.size, fun k hk => h.block k (by omega) (by simp)⟩
set_option maxRecDepth 100000 in
set_option maxHeartbeats 2000000 in
theorem in1_in (n : Nat) (hn : 1 ≤ n) (l Bl Bf n₀ len cap : Nat) (A : Option Addr) (fd : ByteArray) (fv : Nat → FV) (inB : Nat → Bool) (hlen : len ≤ 1000000)
    (hA : ∀ ad, A = some ad → 0 < len → ad.block < n₀)
    (hIn : ∀ k, k < len → ∀ W, Calls Tryz.prog 40 #[.string fd, .string (fv k).1] W fun e W' => e = .returned (.bool (inB k)) ∧ Below W.heap.size W W')
    (J Jx : List FV → World → Prop)
    (hY : ∀ pre x W, J pre W → pre.length < len → YieldAt Fence.wide (n - 1) Tryz.prog l #[x.val] W fun e W' =>
      (e = .returned (.bool true) ∧ J (pre ++ [x]) W' ∧ KpF n₀ Bf W W') ∨ (e = .returned (.bool false) ∧ Jx (pre ++ [x]) W'))
    (W : World) (hJ : AbidesFrom W.heap.size J) (hn0 : n₀ ≤ W.heap.size) (hBfl : Bf < W.heap.size) (hBl : W.cell? ⟨Bl, 0, none⟩ = some (.slice A len cap)) (hBf : W.cell? ⟨Bf, 0, none⟩ = some (.string fd))
    (hc : ∀ k, k < len → ∃ ad, A = some ad ∧ W.cell? (ad.add (k * 2)) = some (.string (fv k).1) ∧ W.cell? ⟨(ad.add (k * 2)).block, (ad.add (k * 2)).off + 1, none⟩ = some (.slice (fv k).2.1 (fv k).2.2.1 (fv k).2.2.2)) (h0 : J [] W) :
    CallsIn Fence.wide n Tryz.prog 39 #[.func (.yield l) #[] #[], .pointer (some ⟨Bl, 0, none⟩), .pointer (some ⟨Bf, 0, none⟩)] W fun e W' => (∃ v, e = .returned v) ∧
      ((∃ ys, ys = filt fv inB len ∧ J ys W') ∨ (∃ pre, (∃ k, k ≤ len ∧ pre = filt fv inB k) ∧ Jx pre W')) := by
  refine callsIn_of_wp Tryz.func39 rfl trivial ?_ rfl
  simp only [Tryz.ntmps39, List.size_toArray, List.length_cons, List.length_nil, Nat.reduceAdd, Nat.reduceSub, Array.replicate_succ, Array.replicate_zero, List.push_toArray, List.append_toArray, List.nil_append, List.cons_append]
  refine wpIn_scope_straight (wpIn_seq (wpIn_label ?_))
  dsimp only [Exit.then]
  gi_wp2
  gi_loopw [8] (fun v8 wr => ∃ k : Nat, k ≤ len ∧ v8 = .int .i64 k ∧ J (filt fv inB k) wr ∧ KpF n₀ Bf W wr ∧ W.heap.size ≤ wr.heap.size)
    (fun v8 _ => len - (intOf v8).toNat)
  case atStart => exact ⟨0, Nat.zero_le _, rfl, h0, KpF.refl _ _ _, Nat.le_refl _⟩
  case round =>
    obtain ⟨k, hk, rfl, hJs, hkp, hsz⟩ := hrel
    by_cases hlt : k < len
    · obtain ⟨ad, rfl, hc0, hc1⟩ := hc k hlt
      have hb0 : ad.block < n₀ := hA ad rfl (by omega)
      have hd0 : wr.cell? (ad.add (k * 2)) = some (.string (fv k).1) := (hkp.1.cell (p := ad.add (k * 2)) (by rw [add_block]; exact hb0)).trans hc0
      have hd1 : wr.cell? ⟨(ad.add (k * 2)).block, (ad.add (k * 2)).off + 1, none⟩ = some (.slice (fv k).2.1 (fv k).2.2.1 (fv k).2.2.2) := (hkp.1.cell (p := ⟨(ad.add (k * 2)).block, (ad.add (k * 2)).off + 1, none⟩) (by show (ad.add (k * 2)).block < n₀; rw [add_block]; exact hb0)).trans hc1
      have hf0 := hkp.2 _ hBf
      gi_upto_region 3 with (fail)
      have hW1 : wr.grownBy (wr.alloc (.cells #[.string (fv k).1, .slice (fv k).2.1 (fv k).2.2.1 (fv k).2.2.2] 49)) none := World.grownBy_alloc _ _ _
      have hn1 := cell_new (fv k).1 (fv k).2.1 (fv k).2.2.1 (fv k).2.2.2 wr
      have hs1 : (wr.alloc (.cells #[.string (fv k).1, .slice (fv k).2.1 (fv k).2.2.1 (fv k).2.2.2] 49)).heap.size = wr.heap.size + 1 := by simp
      have hf1 : (wr.alloc (.cells #[.string (fv k).1, .slice (fv k).2.1 (fv k).2.2.1 (fv k).2.2.2] 49)).cell? ⟨Bf, 0, none⟩ = some (.string fd) := (hW1.cell hf0 (by simp))
      generalize wr.alloc (.cells #[.string (fv k).1, .slice (fv k).2.1 (fv k).2.2.1 (fv k).2.2.2] 49) = W1 at hW1 hn1 hs1 hf1 ⊢
      obtain ⟨hn10, hn11⟩ := hn1
      have hIk := hIn k hlt W1
      clear hIn
      have hkp1 : ∀ W2, Below W1.heap.size W1 W2 → J (filt fv inB k) W2 ∧ KpF n₀ Bf W W2 ∧ W.heap.size ≤ W2.heap.size ∧ W2.cell? ⟨wr.heap.size, 0, none⟩ = some (.string (fv k).1) ∧ W2.cell? ⟨wr.heap.size, 1, none⟩ = some (.slice (fv k).2.1 (fv k).2.2.1 (fv k).2.2.2) := by
        intro W2 hb2
        have hg : wr.grownBy W2 none := hW1.trans (grown_of_below hb2 none)
        refine ⟨hJ _ _ _ none hJs hg (fun r e => by cases e), hkp.trans ⟨below_of_grown hg (by omega), fun v hv => hg.cell hv (by simp)⟩, by have := hg.size; omega, (hb2.cell (p := ⟨wr.heap.size, 0, none⟩) (by show wr.heap.size < _; omega)).trans hn10, (hb2.cell (p := ⟨wr.heap.size, 1, none⟩) (by show wr.heap.size < _; omega)).trans hn11⟩
      cases hbk : inB k with
      | false =>
        rw [hbk] at hIk
        gi_wp2_with (refine ⟨trivial, ?_⟩; gi_at_call 40; refine (callsIn_wide.2 hIk).mono ?_; clear hIk; rintro e W2 ⟨rfl, hb2⟩)
        obtain ⟨g1, g2, g3, _, _⟩ := hkp1 W2 hb2
        go_roundw
        case rel => exact ⟨k + 1, by omega, by simp, by rw [filt_out hbk]; exact g1, g2, g3⟩
        case measure => simp [intOf]; omega
      | true =>
        rw [hbk] at hIk
        gi_wp2_with (first
          | (refine ⟨trivial, ?_⟩; gi_at_call 40; refine (callsIn_wide.2 hIk).mono ?_; clear hIk; rintro e W2 ⟨rfl, hb2⟩; obtain ⟨g1, g2, g3, g4, g5⟩ := hkp1 W2 hb2; obtain ⟨fn, tmps, assign, body, hy, hR⟩ := hY _ (fv k) W2 g1 (Nat.lt_of_le_of_lt (filt_len _ _ _) hlt); simp only [FV.val] at hy))
        refine hR.mono ?_
        rintro e W3 (⟨rfl, hJ3, hk3⟩ | ⟨rfl, hJx3⟩)
        · gi_wp2
          go_roundw
          case rel => exact ⟨k + 1, by omega, by simp, by rw [filt_in hbk]; exact hJ3, g2.trans hk3, Nat.le_trans g3 hk3.1.size⟩
          case measure => simp [intOf]; omega
        · gi_wp2
          simp only [Exit.noGoto]
          go_end0
          exact ⟨⟨_, rfl⟩, .inr ⟨_, ⟨k + 1, by omega, (filt_in hbk).symm⟩, hJx3⟩⟩
    · obtain rfl : k = len := by omega
      gi_wp2
      simp only [Exit.noGoto]
      go_end0
      exact ⟨⟨_, rfl⟩, .inl ⟨_, rfl, hJs⟩⟩
/-- 'in(l, folder)' hands back the closure over two boxes. -/
theorem in_in (n : Nat) (A : Option Addr) (len cap : Nat) (fd : ByteArray) (w : World) :
    CallsIn Fence.wide n Tryz.prog 23 #[.slice A len cap, .string fd] w fun e w' => e = .returned (.func (.func 39) #[] #[.pointer (some ⟨w.heap.size, 0, none⟩), .pointer (some ⟨w.heap.size + 1, 0, none⟩)]) ∧ w' = (w.alloc (.cells #[.slice A len cap] 22)).alloc (.cells #[.string fd] 9) := by
  refine callsIn_of_wp Tryz.func23 rfl trivial ?_ rfl
  simp only [Tryz.ntmps23, List.size_toArray, List.length_cons, List.length_nil, Nat.reduceAdd, Nat.reduceSub, Array.replicate_succ, Array.replicate_zero, List.push_toArray, List.append_toArray, List.nil_append, List.cons_append]
  gi_wp2
  go_ret
  exact ⟨by simp, rfl⟩
/-- What the iterator reads: the files' cells, in blocks below n₀. -/
def Files (n₀ : Nat) (W : World) (A : Option Addr) (len : Nat) (fv : Nat → FV) : Prop :=
  (∀ ad, A = some ad → 0 < len → ad.block < n₀) ∧ ∀ k, k < len → ∃ ad, A = some ad ∧ W.cell? (ad.add (k * 2)) = some (.string (fv k).1) ∧ W.cell? ⟨(ad.add (k * 2)).block, (ad.add (k * 2)).off + 1, none⟩ = some (.slice (fv k).2.1 (fv k).2.2.1 (fv k).2.2.2)
theorem Files.below {n₀ : Nat} {W W' : World} {A : Option Addr} {len : Nat} {fv : Nat → FV} (h : Files n₀ W A len fv) (hb : Below n₀ W W') : Files n₀ W' A len fv := by
  refine ⟨h.1, fun k hk => ?_⟩
  obtain ⟨ad, rfl, h0, h1⟩ := h.2 k hk
  have hb0 := h.1 ad rfl (by omega)
  exact ⟨ad, rfl, (hb.cell (p := ad.add (k * 2)) (by rw [add_block]; exact hb0)).trans h0, (hb.cell (p := ⟨(ad.add (k * 2)).block, (ad.add (k * 2)).off + 1, none⟩) (by show (ad.add (k * 2)).block < n₀; rw [add_block]; exact hb0)).trans h1⟩
theorem in_stops (n : Nat) (hn : 1 ≤ n) (Bl Bf n₀ len cap : Nat) (A : Option Addr) (fd : ByteArray) (fv : Nat → FV) (inB : Nat → Bool) (hlen : len ≤ 1000000)
    (hIn : ∀ k, k < len → ∀ W, Calls Tryz.prog 40 #[.string fd, .string (fv k).1] W fun e W' => e = .returned (.bool (inB k)) ∧ Below W.heap.size W W')
    (w : World) (hn0 : n₀ ≤ w.heap.size) (hBll : Bl < w.heap.size) (hBfl : Bf < w.heap.size) (hBl : w.cell? ⟨Bl, 0, none⟩ = some (.slice A len cap)) (hBf : w.cell? ⟨Bf, 0, none⟩ = some (.string fd)) (hc : Files n₀ w A len fv) :
    SeqStopsK Fence.wide n Tryz.prog 39 #[.pointer (some ⟨Bl, 0, none⟩), .pointer (some ⟨Bf, 0, none⟩)] (fun x : FV => #[x.val]) (KpF n₀ Bf) (fun ys => ys = filt fv inB len) (fun pre => ∃ k, k ≤ len ∧ pre = filt fv inB k) len w := fun l J Jx W hW hJ _ hY h0 => by
  exact in1_in n hn l Bl Bf n₀ len cap A fd fv inB hlen hc.1 hIn J Jx hY W hJ (Nat.le_trans hn0 hW.size) (Nat.lt_of_lt_of_le hBfl hW.size) ((hW.cell (p := ⟨Bl, 0, none⟩) hBll).trans hBl) ((hW.cell (p := ⟨Bf, 0, none⟩) hBfl).trans hBf) (hc.below (hW.mono hn0)).2 h0
theorem kpF_b {n₀ Bf m : Nat} (h : n₀ ≤ m) (hb : Bf < m) : ∀ (W : World) (l : Nat) (o o' : Obj), m ≤ l → W.heap[l]? = some o → o.isCells = false → o.isWalk = false → KpF n₀ Bf W (W.putObj l o') := fun W l o o' hl ho hc hw => by
  have hg := grownBy_putObj' W l o'
  exact ⟨⟨hg.os, hg.tape, hg.output, hg.size, fun k hk => hg.block k (by have := (Array.getElem?_eq_some_iff.1 ho).1; omega) (fun e => by cases e; omega)⟩, fun v hv => hg.cell hv (fun e => absurd (show Bf = l by simpa using e) (by omega))⟩
/-- A file's box. -/
def Box2 (W : World) (B : Nat) (x : FV) : Prop := W.heap[B]? = some (.cells #[.string x.1, .slice x.2.1 x.2.2.1 x.2.2.2] 49 (0, 0))
theorem Box2.kept {W W' : World} {row : Option Nat} {B : Nat} {x : FV} (h : Box2 W B x) (hg : W.grownBy W' row) (hne : some B ≠ row) : Box2 W' B x := (hg.block B (Array.getElem?_eq_some_iff.1 h).1 hne).trans h
theorem Box2.cell1 {W : World} {B : Nat} {x : FV} (h : Box2 W B x) : W.cell? ⟨B, 1, none⟩ = some (.slice x.2.1 x.2.2.1 x.2.2.2) := by unfold World.cell?; rw [show W.heap[B]? = _ from h]; rfl
theorem Box2.own {W W' : World} {row : Option Nat} {B : Nat} {x : FV} (h : Box2 W B x) (hg : W.grownBy W' row) (hr : ∀ r, row = some r → ∃ o : Obj, W.heap[r]? = some o ∧ o.isCells = false) : Box2 W' B x :=
  h.kept hg (fun e => by obtain ⟨o, ho, hc⟩ := hr _ e.symm; rw [show W.heap[B]? = _ from h] at ho; cases ho; cases hc)
def cntF (l : List FV) : Int := l.foldl (fun s _ => wrap64 (s + 1)) 0
def sumF (l : List FV) : Int := l.foldl (fun s x => wrap64 (s + (x.2.2.1 : Int))) 0
theorem cntF_snoc (l : List FV) (x : FV) : cntF (l ++ [x]) = wrap64 (cntF l + 1) := by simp [cntF]
theorem sumF_snoc (l : List FV) (x : FV) : sumF (l ++ [x]) = wrap64 (sumF l + (x.2.2.1 : Int)) := by simp [sumF]
theorem results_two {P : Program} {fn : Func} {p p' : Tmp} {ty ty' : TypeId} (h : fn.results = #[.cell p ty, .cell p' ty']) (tmps : Array Value) (w : World) {a a' : Addr} {v v' : Value} (hp : tmps[p]?.getD undef = .pointer (some a)) (hp' : tmps[p']?.getD undef = .pointer (some a'))
    (hv : (loadVar ty a).run P w = .ok v w) (hv' : (loadVar ty' a').run P w = .ok v' w) : (results fn tmps).run P w = .ok (.tuple #[v, v']) w := by
  unfold results
  rw [h]
  simp [asAddr, hp, hp', hv, hv']
set_option maxRecDepth 100000 in
set_option maxHeartbeats 2000000 in
theorem Total_calls (len cap : Nat) (A : Option Addr) (fd : ByteArray) (fv : Nat → FV) (inB : Nat → Bool) (hlen : len ≤ 1000000)
    (hIn : ∀ k, k < len → ∀ W, Calls Tryz.prog 40 #[.string fd, .string (fv k).1] W fun e W' => e = .returned (.bool (inB k)) ∧ Below W.heap.size W W')
    (w : World) (hc : Files w.heap.size w A len fv) :
    Calls Tryz.prog 8 #[.slice A len cap, .string fd] w fun e w' => e = .returned (.tuple #[.int .i64 (cntF (filt fv inB len)), .int .i64 (sumF (filt fv inB len))]) ∧ Below w.heap.size w w' := by
  refine (callsIn_wide (n := 6)).1 ?_
  refine callsIn_of_wp_marks Tryz.func8 rfl trivial ?_ rfl
  simp only [Tryz.ntmps8, List.size_toArray, List.length_cons, List.length_nil, Nat.reduceAdd, Nat.reduceSub, Array.replicate_succ, Array.replicate_zero, List.push_toArray, List.append_toArray, List.nil_append, List.cons_append]
  gi_wp2_with (refine ⟨trivial, ?_⟩; gi_at_call 23; refine (in_in _ _ _ _ _ _).mono ?_; rintro e w' ⟨rfl, rfl⟩)
  have b0 := (((Boxed.new w 3 (.int .i64 0)).alloc (.cells #[.int .i64 0] 3)).alloc (.cells #[.slice A len cap] 22)).alloc (.cells #[.string fd] 9)
  have b1 := ((Boxed.new (w.alloc (.cells #[.int .i64 0] 3)) 3 (.int .i64 0)).alloc (.cells #[.slice A len cap] 22)).alloc (.cells #[.string fd] 9)
  have b2 := (Boxed.new ((w.alloc (.cells #[.int .i64 0] 3)).alloc (.cells #[.int .i64 0] 3)) 22 (.slice A len cap)).alloc (.cells #[.string fd] 9)
  have b3 := Boxed.new (((w.alloc (.cells #[.int .i64 0] 3)).alloc (.cells #[.int .i64 0] 3)).alloc (.cells #[.slice A len cap] 22)) 9 (.string fd)
  simp only [World.size_alloc] at b1 b2 b3
  have hB0 : Below w.heap.size w ((((w.alloc (.cells #[.int .i64 0] 3)).alloc (.cells #[.int .i64 0] 3)).alloc (.cells #[.slice A len cap] 22)).alloc (.cells #[.string fd] 9)) := ((((Below.refl _ w).alloc (Nat.le_refl _) _).alloc (by simp) _).alloc (by simp; omega) _).alloc (by simp; omega) _
  have hsz : ((((w.alloc (.cells #[.int .i64 0] 3)).alloc (.cells #[.int .i64 0] 3)).alloc (.cells #[.slice A len cap] 22)).alloc (.cells #[.string fd] 9)).heap.size = w.heap.size + 4 := by simp
  obtain ⟨W0, hW0⟩ : ∃ W0, (((w.alloc (.cells #[.int .i64 0] 3)).alloc (.cells #[.int .i64 0] 3)).alloc (.cells #[.slice A len cap] 22)).alloc (.cells #[.string fd] 9) = W0 := ⟨_, rfl⟩
  rw [hW0] at b0 b1 b2 b3 hB0 hsz ⊢
  clear hW0
  refine wpIn_rangeFunc_ownH rfl (by decide) (gf := 39) (lb := #[.pointer (some ⟨w.heap.size + 1 + 1, 0, none⟩), .pointer (some ⟨w.heap.size + 1 + 1 + 1, 0, none⟩)]) rfl trivial (enters_of Tryz.func39 (by kernel_rfl) rfl)
    (in_stops 5 (by decide) (w.heap.size + 1 + 1) (w.heap.size + 1 + 1 + 1) w.heap.size len cap A fd fv inB hlen hIn W0 (by omega) (by omega) (by omega) b2.cell b3.cell (hc.below hB0)) KpF.trans (kpF_b (by omega) (by omega)) (Below.refl _ _) (fun _ => rfl)
    (fun pre W => (Boxed W w.heap.size 3 (.int .i64 (cntF pre)) ∧ Boxed W (w.heap.size + 1) 3 (.int .i64 (sumF pre))) ∧ Below w.heap.size w W)
    (fun _ _ _ => False)
    (OwnFrom.and (OwnFrom.and (Own.from (boxed_own _ _ _) _) (Own.from (boxed_own _ _ _) _)) (ownFrom_below (Nat.le_refl _) (by omega)))
    (fun _ _ _ _ _ hs _ _ => hs)
    ⟨⟨b0, b1⟩, hB0⟩
    (fun x a' W => ∃ Bx, w.heap.size + 1 < Bx ∧ Box2 W Bx x ∧ a' = { tmps := #[.slice A len cap, .string fd, undef, undef, .pointer (some ⟨w.heap.size, 0, none⟩), .pointer (some ⟨w.heap.size + 1, 0, none⟩), .pointer (some ⟨Bx, 0, none⟩), .slice A len cap, .string fd, .func (.func 39) #[] #[.pointer (some ⟨w.heap.size + 1 + 1, 0, none⟩), .pointer (some ⟨w.heap.size + 1 + 1 + 1, 0, none⟩)], x.val, undef, undef, undef, undef, undef, undef, undef, undef, undef], defers := [] })
    (fun x a' _ X Y row hs hg hr => by obtain ⟨Bx, h1, h2, h3⟩ := hs; exact ⟨Bx, h1, h2.own hg (fun r e => (hr r e).2), h3⟩)
    ?assign ?body ?done ?stop
  case assign =>
    rintro l pre ⟨s, A1, n1, c1⟩ W K ⟨⟨bS1, bB1⟩, hB1⟩ hK
    unfold FV.val at hK ⊢
    gi_wp2
    exact hK _ _ ((KeepsOthers.alloc _ _).from _) ⟨(Below.refl _ W).alloc hB1.size _, fun v hv => (World.grownBy_alloc W _ none).cell hv (by simp)⟩ ⟨⟨bS1.alloc _, bB1.alloc _⟩, hB1.alloc hB1.size _⟩ ⟨W.heap.size, bB1.lt, World.alloc_heap_new W _, rfl⟩
  case body =>
    rintro l pre ⟨s, A1, n1, c1⟩ a' W hl ⟨r, hr⟩ ⟨⟨bS1, bB1⟩, hB1⟩ ⟨Bx, hBx, bX, rfl⟩ hlt
    have c0 := bS1.cell
    have f0 := bS1.frozen
    have cB := bB1.cell
    have fB := bB1.frozen
    have cX := bX.cell1
    unfold FV.val
    gi_wp2
    have ho : ∀ (q : Nat) (W : World) (u : Value), q ≠ w.heap.size + 1 + 1 + 1 → (W.setCell ⟨q, 0, none⟩ u).cell? ⟨w.heap.size + 1 + 1 + 1, 0, none⟩ = W.cell? ⟨w.heap.size + 1 + 1 + 1, 0, none⟩ := fun q W u hq => World.cell?_setCell_other _ _ _ _ (by intro e; injection e with e1; omega)
    exact ⟨((KeepsOthers.setCell _ _ _).trans (KeepsOthers.setCell _ _ _)).from _,
      ⟨((Below.refl _ W).setCell (p := ⟨w.heap.size, 0, none⟩) (Nat.le_refl _) _).setCell (p := ⟨w.heap.size + 1, 0, none⟩) (by simp) _, fun v hv => by rw [ho _ _ _ (by omega), ho _ _ _ (by omega)]; exact hv⟩,
      ⟨by rw [cntF_snoc]; exact (bS1.set _).other (by omega) _, by rw [sumF_snoc]; exact (bB1.other (by omega) _).set _⟩, (hB1.setCell (p := ⟨w.heap.size, 0, none⟩) (Nat.le_refl _) _).setCell (p := ⟨w.heap.size + 1, 0, none⟩) (by simp) _⟩
  case done =>
    rintro D zs W hD rfl ⟨⟨bS1, bB1⟩, hB1⟩ hK
    have c0 := bS1.cell
    have f0 := bS1.frozen
    have cB := bB1.cell
    have fB := bB1.frozen
    have hmx : Tryz.prog.follows .mixedOrders = true := by kernel_rfl
    gi_wp2
    gi_region_o
    all_goals gi_wp2
    all_goals (try go_bits)
    have hK2 : ((W.setCell ⟨w.heap.size, 0, none⟩ (.int .i64 (cntF (filt fv inB len)))).setCell ⟨w.heap.size + 1, 0, none⟩ (.int .i64 (sumF (filt fv inB len)))).drew.heap[D]? = some (.deferred (some [])) := (((KeepsOthers.setCell _ _ _).trans (KeepsOthers.setCell _ _ _)).trans (KeepsOthers.drew _)).same D _ hK rfl
    have hB2 : Below w.heap.size w ((W.setCell ⟨w.heap.size, 0, none⟩ (.int .i64 (cntF (filt fv inB len)))).setCell ⟨w.heap.size + 1, 0, none⟩ (.int .i64 (sumF (filt fv inB len)))).drew := below_drew ((hB1.setCell (p := ⟨w.heap.size, 0, none⟩) (Nat.le_refl _) _).setCell (p := ⟨w.heap.size + 1, 0, none⟩) (by simp) _)
    have x0 : Boxed ((W.setCell ⟨w.heap.size, 0, none⟩ (.int .i64 (cntF (filt fv inB len)))).setCell ⟨w.heap.size + 1, 0, none⟩ (.int .i64 (sumF (filt fv inB len)))).drew w.heap.size 3 (.int .i64 (cntF (filt fv inB len))) := (bS1.set _).other (by omega) _
    have x1 : Boxed ((W.setCell ⟨w.heap.size, 0, none⟩ (.int .i64 (cntF (filt fv inB len)))).setCell ⟨w.heap.size + 1, 0, none⟩ (.int .i64 (sumF (filt fv inB len)))).drew (w.heap.size + 1) 3 (.int .i64 (sumF (filt fv inB len))) := (bB1.other (by omega) _).set _
    generalize ((W.setCell ⟨w.heap.size, 0, none⟩ (.int .i64 (cntF (filt fv inB len)))).setCell ⟨w.heap.size + 1, 0, none⟩ (.int .i64 (sumF (filt fv inB len)))).drew = W9 at hK2 hB2 x0 x1 ⊢
    have hg := grownBy_putObj' W9 D (.deferred none)
    have y0 := (x0.kept hg (fun e => by cases e; rw [show W9.heap[w.heap.size]? = _ from x0] at hK2; cases hK2)).cell
    have y1 := (x1.kept hg (fun e => by cases e; rw [show W9.heap[w.heap.size + 1]? = _ from x1] at hK2; cases hK2)).cell
    refine ⟨by simp, .inl ⟨_, _, rfl, run_takeDeferred hK2, ?_⟩⟩
    exact ⟨_, results_two rfl _ _ rfl rfl (by simp [loadVar, y0]) (by simp [loadVar, y1]), rfl, hB2.trans (belowK_b (w := w) (Nat.le_refl _) W9 D _ _ (by omega) hK2 rfl rfl)⟩
  case stop =>
    rintro D c pre W _ _ h _
    exact h.elim
/-! ### The walk -/
abbrev NV := ByteArray × (Int × (Int × Bool))
def NV.val (x : NV) : Value := .agg #[.string x.1, .int .i64 x.2.1, .int .i64 x.2.2.1, .bool x.2.2.2]
abbrev PN := ByteArray × NV
/-- Rows of cells that are no bytes, and not the builder, lie as they lay. -/
def CellsKept (b : Nat) (W W' : World) : Prop := ∀ k c t fz, W.heap[k]? = some (.cells c t fz) → k ≠ b → t ≠ 5 → W'.heap[k]? = some (.cells c t fz)
def KpW (n₀ b : Nat) (W W' : World) : Prop := Below n₀ W W' ∧ CellsKept b W W'
theorem KpW.refl (n₀ b : Nat) (W : World) : KpW n₀ b W W := ⟨Below.refl _ _, fun _ _ _ _ h _ _ => h⟩
theorem KpW.trans {n₀ b : Nat} {A B C : World} (h : KpW n₀ b A B) (k : KpW n₀ b B C) : KpW n₀ b A C := ⟨h.1.trans k.1, fun i c t fz hi hb ht => k.2 i c t fz (h.2 i c t fz hi hb ht) hb ht⟩
theorem KpW.of_grown {n₀ b : Nat} {W W' : World} (h : W.grownBy W' none) (hn : n₀ ≤ W.heap.size) : KpW n₀ b W W' := ⟨below_of_grown h hn, fun k c t fz hk _ _ => (h.block k (Array.getElem?_eq_some_iff.1 hk).1 (by simp)).trans hk⟩
theorem kpW_b {n₀ b m : Nat} (h : n₀ ≤ m) : ∀ (W : World) (l : Nat) (o o' : Obj), m ≤ l → W.heap[l]? = some o → o.isCells = false → o.isWalk = false → KpW n₀ b W (W.putObj l o') := fun W l o o' hl ho hc hw => by
  have hg := grownBy_putObj' W l o'
  exact ⟨⟨hg.os, hg.tape, hg.output, hg.size, fun k hk => hg.block k (by have := (Array.getElem?_eq_some_iff.1 ho).1; omega) (fun e => by cases e; omega)⟩,
    fun k c t fz hk _ _ => (hg.block k (Array.getElem?_eq_some_iff.1 hk).1 (fun e => by cases e; rw [hk] at ho; cases ho; cases hc)).trans hk⟩
/-- A row of nodes, in a block from m on. -/
def Nodes (W : World) (m : Nat) (v : Value) (ns : List NV) : Prop :=
  (ns = [] ∧ ∃ A c, v = .slice A 0 c) ∨ ∃ g c cur fz, v = .slice (some ⟨g, 0, none⟩) ns.length c ∧ m ≤ g ∧ W.heap[g]? = some (.cells cur 34 fz) ∧
    ∀ j x, ns[j]? = some x → cur[j * 4]? = some (.string x.1) ∧ cur[j * 4 + 1]? = some (.int .i64 x.2.1) ∧ cur[j * 4 + 2]? = some (.int .i64 x.2.2.1) ∧ cur[j * 4 + 3]? = some (.bool x.2.2.2)
theorem Nodes.kept {W W' : World} {m b : Nat} {v : Value} {ns : List NV} (h : Nodes W m v ns) (hb : b < m) (hk : CellsKept b W W') : Nodes W' m v ns := by
  rcases h with h | ⟨g, c, cur, fz, hv, hm, hg, hc⟩
  · exact .inl h
  · exact .inr ⟨g, c, cur, fz, hv, hm, hk g cur _ fz hg (by omega) (by decide), hc⟩
def goF (pathF : ByteArray → ByteArray → Option ByteArray) (rec : ByteArray → Option (List PN)) (fd : ByteArray) : List NV → Option (List PN)
  | [] => some []
  | x :: r => (pathF fd x.1).bind fun p => (if x.2.2.2 = true then rec p else some []).bind fun sub => (goF pathF rec fd r).bind fun rest => some ((p, x) :: (sub ++ rest))
def walkF (listF : ByteArray → Option (List NV)) (pathF : ByteArray → ByteArray → Option ByteArray) : Nat → ByteArray → Option (List PN)
  | 0, _ => none
  | m + 1, fd => (listF fd).bind fun ns => goF pathF (walkF listF pathF m) fd ns
theorem goF_mono {pathF : ByteArray → ByteArray → Option ByteArray} {rec rec' : ByteArray → Option (List PN)} (hr : ∀ p o, rec p = some o → rec' p = some o) (fd : ByteArray) : ∀ (ns : List NV) (o : List PN), goF pathF rec fd ns = some o → goF pathF rec' fd ns = some o
  | [], _, h => h
  | x :: r, o, h => by
    simp only [goF] at h ⊢
    obtain ⟨p, hp, h⟩ := Option.bind_eq_some_iff.1 h
    obtain ⟨sub, hs, h⟩ := Option.bind_eq_some_iff.1 h
    obtain ⟨rest, h2, h⟩ := Option.bind_eq_some_iff.1 h
    have hs2 : (if x.2.2.2 = true then rec' p else some []) = some sub := by
      split at hs
      · rw [if_pos ‹_›]; exact hr _ _ hs
      · rw [if_neg ‹_›]; exact hs
    rw [hp, Option.bind_some, hs2, Option.bind_some, goF_mono hr fd r rest h2, Option.bind_some]
    exact h
theorem walkF_mono {L L' : ByteArray → Option (List NV)} {pathF : ByteArray → ByteArray → Option ByteArray} (hL : ∀ fd ns, L fd = some ns → L' fd = some ns) : ∀ (m : Nat) (fd : ByteArray) (o : List PN), walkF L pathF m fd = some o → walkF L' pathF (m + 1) fd = some o
  | 0, _, _, h => by cases h
  | m + 1, fd, o, h => by
    simp only [walkF] at h
    obtain ⟨ns, hn, h⟩ := Option.bind_eq_some_iff.1 h
    show (L' fd).bind (fun ns => goF pathF (walkF L' pathF (m + 1)) fd ns) = some o
    rw [hL _ _ hn, Option.bind_some]
    exact goF_mono (fun p o2 h2 => walkF_mono hL m p o2 h2) fd ns o h
theorem room_of_none {F : Fence} (hd : F.depth = none) (k : Nat) : F.room k := fun d h => by rw [hd] at h; cases h
theorem RoundIn.anyDepth {F : Fence} (hd : F.depth = none) {m m' : Nat} {P : Program} {l : Nat} {f : FuncId} {tmps : Array Value} {assign body : Code} {w : World} {R : Ending → World → Prop}
    (h : RoundIn F m P l f tmps assign body w R) : RoundIn F m' P l f tmps assign body w R := ⟨h.1, fun c cs _ => h.2 c cs (room_of_none hd _)⟩
theorem YieldAt.anyDepth {F : Fence} (hd : F.depth = none) {m : Nat} (m' : Nat) {P : Program} {l : Nat} {args : Array Value} {W : World} {R : Ending → World → Prop} (h : YieldAt F m P l args W R) : YieldAt F m' P l args W R := by
  obtain ⟨fn, tmps, assign, body, hy, hR⟩ := h
  exact ⟨fn, tmps, assign, body, hy, RoundIn.anyDepth hd hR⟩
theorem node_new (x : NV) (W : World) : (W.alloc (.cells #[.string x.1, .int .i64 x.2.1, .int .i64 x.2.2.1, .bool x.2.2.2] 34)).heap[W.heap.size]? = some (.cells #[.string x.1, .int .i64 x.2.1, .int .i64 x.2.2.1, .bool x.2.2.2] 34 (0, 0)) := World.alloc_heap_new W _
theorem node_cells {W : World} {g : Nat} {x : NV} (h : W.heap[g]? = some (.cells #[.string x.1, .int .i64 x.2.1, .int .i64 x.2.2.1, .bool x.2.2.2] 34 (0, 0))) : W.cell? ⟨g, 0, none⟩ = some (.string x.1) ∧ W.cell? ⟨g, 1, none⟩ = some (.int .i64 x.2.1) ∧ W.cell? ⟨g, 2, none⟩ = some (.int .i64 x.2.2.1) ∧ W.cell? ⟨g, 3, none⟩ = some (.bool x.2.2.2) := by
  refine ⟨?_, ?_, ?_, ?_⟩ <;> (unfold World.cell?; rw [h]; rfl)
set_option maxRecDepth 100000 in
set_option maxHeartbeats 4000000 in
theorem walk_in (l n₀ b N len cap : Nat) (A : Option Addr) (w0 : World) (listF : ByteArray → Option (List NV)) (pathF : ByteArray → ByteArray → Option ByteArray)
    (hL : ∀ fd ns, listF fd = some ns → ns.length ≤ 1000000 ∧ ∀ W, Below n₀ w0 W → Calls Tryz.prog 10 #[.slice A len cap, .string fd] W fun e W' => ∃ v, e = .returned v ∧ Nodes W' W.heap.size v ns ∧ Below W.heap.size W W')
    (hP : ∀ fd nm p, pathF fd nm = some p → ∀ W, Calls Tryz.prog 12 #[.string fd, .string nm] W fun e W' => e = .returned (.string p) ∧ Below W.heap.size W W')
    (J Jx : List PN → World → Prop) (hJ : ∀ s W W', J s W → W.grownBy W' none → J s W')
    (G : PN → Prop) (hY : ∀ m pre x W, G x → J pre W → pre.length < N → YieldAt Fence.wide m Tryz.prog l #[.string x.1, NV.val x.2] W fun e W' =>
      (e = .returned (.bool true) ∧ J (pre ++ [x]) W' ∧ KpW n₀ b W W') ∨ (e = .returned (.bool false) ∧ Jx (pre ++ [x]) W')) :
    ∀ (m : Nat) (fd : ByteArray) (out : List PN), walkF listF pathF m fd = some out → (∀ x ∈ out, G x) → ∀ (n : Nat) (pre : List PN) (W : World), Below n₀ w0 W → n₀ ≤ W.heap.size → b < W.heap.size → J pre W → pre.length + out.length ≤ N →
      CallsIn Fence.wide n Tryz.prog 31 #[.slice A len cap, .string fd, .func (.yield l) #[] #[]] W fun e W' =>
        (e = .returned (.bool true) ∧ J (pre ++ out) W' ∧ KpW n₀ b W W') ∨ (e = .returned (.bool false) ∧ ∃ q, q <+: out ∧ Jx (pre ++ q) W')
  | 0, _, _, h => by cases h
  | m + 1, fd, out, h => by
    intro hGo n pre W hB hn0 hbl hJ0 hN
    have ih := walk_in l n₀ b N len cap A w0 listF pathF hL hP J Jx hJ G hY m
    obtain ⟨ns, hns, hgo⟩ := Option.bind_eq_some_iff.1 h
    obtain ⟨hmax, hLc⟩ := hL fd ns hns
    have hLW := hLc W hB
    clear hL hLc h hns
    refine callsIn_of_wp Tryz.func31 rfl trivial ?_ rfl
    simp only [Tryz.ntmps31, List.size_toArray, List.length_cons, List.length_nil, Nat.reduceAdd, Nat.reduceSub, Array.replicate_succ, Array.replicate_zero, List.push_toArray, List.append_toArray, List.nil_append, List.cons_append]
    have hdd : ∀ k : Nat, (Fence.wide.depth.isSome = true → 1 ≤ k) := fun k h => by cases h
    gi_wp2_with (refine ⟨trivial, hdd _, ?_⟩; gi_at_call 10; refine (callsIn_wide.2 hLW).mono ?_; rintro e W1 ⟨v, rfl, hnd, hb1⟩; obtain ⟨Av, cv, rfl⟩ : ∃ Av cv, v = .slice Av ns.length cv := (by rcases hnd with ⟨rfl, A', c', rfl⟩ | ⟨g, c, cur, fz, hv, _⟩; exact ⟨A', c', rfl⟩; exact ⟨_, _, hv⟩))
    have hg1 : W.grownBy W1 none := grown_of_below hb1 none
    have hJ1 := hJ _ _ _ hJ0 hg1
    have hK1 : KpW n₀ b W W1 := KpW.of_grown hg1 hn0
    have hbW1 : b < W1.heap.size := Nat.lt_of_lt_of_le hbl hb1.size
    gi_loopw [14] (fun v14 wr => ∃ (k : Nat) (done rest : List PN), k ≤ ns.length ∧ v14 = .int .i64 k ∧ done ++ rest = out ∧ goF pathF (walkF listF pathF m) fd (ns.drop k) = some rest ∧ J (pre ++ done) wr ∧ KpW n₀ b W1 wr)
      (fun v14 _ => ns.length - (intOf v14).toNat)
    case atStart => exact ⟨0, [], out, Nat.zero_le _, rfl, rfl, hgo, by simpa using hJ1, KpW.refl _ _ _⟩
    case round =>
      obtain ⟨k, done, rest, hk, rfl, hout, hg, hJr, hKr⟩ := hrel
      by_cases hlt : k < ns.length
      · rw [List.drop_eq_getElem_cons hlt] at hg
        obtain ⟨x, hx⟩ : ∃ x, x = ns[k] := ⟨_, rfl⟩
        rw [← hx] at hg
        simp only [goF] at hg
        obtain ⟨p, hp, hg⟩ := Option.bind_eq_some_iff.1 hg
        obtain ⟨sub, hs, hg⟩ := Option.bind_eq_some_iff.1 hg
        obtain ⟨rest2, hr2, hg⟩ := Option.bind_eq_some_iff.1 hg
        obtain rfl := Option.some.inj hg
        have hnd2 := hnd.kept hbl hKr.2
        rcases hnd2 with ⟨rfl, _⟩ | ⟨g, c, cur, fz, hv, hmg, hgh, hcs⟩
        · simp at hlt
        cases hv
        obtain ⟨c0, c1, c2, c3⟩ := hcs k x (by rw [hx]; exact List.getElem?_eq_getElem hlt)
        have d0 : wr.cell? ⟨g, k * 4, none⟩ = some (.string x.1) := by unfold World.cell?; rw [hgh]; exact c0
        have d1 : wr.cell? ⟨g, k * 4 + 1, none⟩ = some (.int .i64 x.2.1) := by unfold World.cell?; rw [hgh]; exact c1
        have d2 : wr.cell? ⟨g, k * 4 + 2, none⟩ = some (.int .i64 x.2.2.1) := by unfold World.cell?; rw [hgh]; exact c2
        have d3 : wr.cell? ⟨g, k * 4 + 3, none⟩ = some (.bool x.2.2.2) := by unfold World.cell?; rw [hgh]; exact c3
        clear c0 c1 c2 c3 hcs hgh hx
        gi_upto_region 4 with (fail)
        have hW2 : wr.grownBy (wr.alloc (.cells #[.string x.1, .int .i64 x.2.1, .int .i64 x.2.2.1, .bool x.2.2.2] 34)) none := World.grownBy_alloc _ _ _
        have hnw := node_new x wr
        have hs2 : (wr.alloc (.cells #[.string x.1, .int .i64 x.2.1, .int .i64 x.2.2.1, .bool x.2.2.2] 34)).heap.size = wr.heap.size + 1 := by simp
        generalize wr.alloc (.cells #[.string x.1, .int .i64 x.2.1, .int .i64 x.2.2.1, .bool x.2.2.2] 34) = W2 at hW2 hnw hs2 ⊢
        have hszr : W1.heap.size ≤ wr.heap.size := hKr.1.size
        obtain ⟨n0, n1, n2, n3⟩ := node_cells hnw
        have hPk := hP fd x.1 p hp W2
        have hyk : ∀ W3, Below W2.heap.size W2 W3 → J (pre ++ done) W3 ∧ KpW n₀ b W1 W3 ∧ W3.heap[wr.heap.size]? = some (.cells #[.string x.1, .int .i64 x.2.1, .int .i64 x.2.2.1, .bool x.2.2.2] 34 (0, 0)) := fun W3 hb3 => by
          have hg3 : wr.grownBy W3 none := hW2.trans (grown_of_below hb3 none)
          exact ⟨hJ _ _ _ hJr hg3, hKr.trans (KpW.of_grown hg3 (Nat.le_trans hn0 (Nat.le_trans hb1.size hszr))), (hb3.block _ (by omega)).trans hnw⟩
        have hlenN : (pre ++ done).length < N := by
          rw [List.length_append]
          have : out.length = done.length + (sub ++ rest2).length + 1 := by rw [← hout]; simp [List.length_append]; omega
          omega
        gi_upto_region 5 with (first | (refine ⟨trivial, hdd _, ?_⟩; gi_at_call 12; refine (callsIn_wide.2 hPk).mono ?_; clear hPk; rintro e W3 ⟨rfl, hb3⟩))
        obtain ⟨hJ3, hK3, hn3⟩ := hyk W3 hb3
        obtain ⟨e0, e1, e2, e3⟩ := node_cells hn3
        obtain ⟨fn, tmps, assign, body, hy, hR⟩ := hY (n - 1) (pre ++ done) (p, x) W3 (hGo _ (by rw [← hout]; simp)) hJ3 hlenN
        simp only [NV.val] at hy
        gi_wp2
        refine ⟨hdd _, hR.mono ?_⟩
        clear hR hy
        rintro e W4 (⟨rfl, hJ4, hk4⟩ | ⟨rfl, hJx4⟩)
        · have hn4 := hk4.2 _ _ _ _ hn3 (by omega) (by decide)
          obtain ⟨f0, f1, f2, f3⟩ := node_cells hn4
          have hK4 : KpW n₀ b W1 W4 := hK3.trans hk4
          cases hfo : x.2.2.2 with
          | false =>
            rw [hfo] at f3
            rw [hfo, if_neg (by decide)] at hs
            obtain rfl := Option.some.inj hs
            gi_wp2
            refine ⟨trivial, ?_⟩
            gi_wp2
            go_roundw
            case rel => exact ⟨k + 1, done ++ [(p, x)], rest2, by omega, by simp, by rw [← hout]; simp, hr2, by rw [← List.append_assoc]; exact hJ4, hK4⟩
            case measure => simp [intOf]; omega
          | true =>
            rw [hfo] at f3
            rw [hfo, if_pos rfl] at hs
            have hih := ih p sub hs (fun y hy_ => hGo y (by rw [← hout]; simp [hy_])) (n - 1) (pre ++ done ++ [(p, x)]) W4 (hB.trans (hK1.trans hK4).1) (Nat.le_trans hn0 (hK1.trans hK4).1.size) (Nat.lt_of_lt_of_le hbl (hK1.trans hK4).1.size) hJ4 (by rw [← hout] at hN; simp only [List.length_append, List.length_cons, List.length_nil] at hN ⊢; omega)
            clear ih
            gi_wp2_with (refine ⟨trivial, hdd _, ?_⟩; gi_at_call 31; refine hih.mono ?_; clear hih; rintro e W5 (⟨rfl, hJ5, hk5⟩ | ⟨rfl, q, ⟨t, hq⟩, hJx5⟩))
            · go_roundw
              case rel => exact ⟨k + 1, done ++ (p, x) :: sub, rest2, by omega, by simp, by rw [← hout]; simp, hr2, by simpa using hJ5, hK4.trans hk5⟩
              case measure => simp [intOf]; omega
            · go_ret
              exact .inr ⟨rfl, done ++ (p, x) :: q, ⟨t ++ rest2, by rw [← hout, ← hq]; simp⟩, by simpa using hJx5⟩
        · gi_wp2
          all_goals (first | (exfalso; rename_i h1_ h2_; injection h1_ with h1_; exact absurd h1_ (by simp [undef])) | skip)
          refine ⟨trivial, ?_⟩
          gi_wp2
          all_goals (first | (exfalso; rename_i h1_ h2_; injection h1_ with h1_; exact absurd h1_ (by simp [undef])) | skip)
          go_ret
          exact .inr ⟨rfl, done ++ [(p, x)], ⟨sub ++ rest2, by rw [← hout]; simp⟩, by simpa using hJx4⟩
      · obtain rfl : k = ns.length := by omega
        rw [List.drop_length] at hg
        obtain rfl := Option.some.inj hg
        gi_wp2
        go_ret
        exact .inl ⟨rfl, by rw [← hout, List.append_nil]; exact hJr, hK1.trans hKr⟩
/-- 'Walk(l, folder)' hands back the closure over two boxes. -/
theorem Walk_in (n : Nat) (A : Option Addr) (len cap : Nat) (fd : ByteArray) (w : World) :
    CallsIn Fence.wide n Tryz.prog 15 #[.slice A len cap, .string fd] w fun e w' => e = .returned (.func (.func 30) #[] #[.pointer (some ⟨w.heap.size, 0, none⟩), .pointer (some ⟨w.heap.size + 1, 0, none⟩)]) ∧ w' = (w.alloc (.cells #[.slice A len cap] 22)).alloc (.cells #[.string fd] 9) := by
  refine callsIn_of_wp Tryz.func15 rfl trivial ?_ rfl
  simp only [Tryz.ntmps15, List.size_toArray, List.length_cons, List.length_nil, Nat.reduceAdd, Nat.reduceSub, Array.replicate_succ, Array.replicate_zero, List.push_toArray, List.append_toArray, List.nil_append, List.cons_append]
  gi_wp2
  go_ret
  exact ⟨by simp, rfl⟩
theorem val_inj {α : Type} {G : α → Prop} : ∀ a b : List { x : α // G x }, a.map (·.1) = b.map (·.1) → a = b
  | [], [], _ => rfl
  | [], _ :: _, h => by simp at h
  | _ :: _, [], h => by simp at h
  | x :: a, y :: b, h => by
    rw [List.map_cons, List.map_cons] at h
    injection h with h1 h2
    rw [Subtype.ext h1, val_inj a b h2]
theorem val_prefix {α : Type} {G : α → Prop} {a b : List { x : α // G x }} (h : a.map (·.1) <+: b.map (·.1)) : a <+: b := by
  have e : a = b.take a.length := val_inj _ _ (by
    rw [List.map_take]
    have := List.prefix_iff_eq_take.1 h
    rwa [List.length_map] at this)
  rw [e]
  exact List.take_prefix _ _
set_option maxHeartbeats 1000000 in
theorem walk1_stops (n : Nat) (Bl Bf n₀ b len cap : Nat) (A : Option Addr) (w0 : World) (listF : ByteArray → Option (List NV)) (pathF : ByteArray → ByteArray → Option ByteArray) (fd : ByteArray) (m : Nat) (G : PN → Prop) (out : List { x : PN // G x })
    (hL : ∀ fd ns, listF fd = some ns → ns.length ≤ 1000000 ∧ ∀ W, Below n₀ w0 W → Calls Tryz.prog 10 #[.slice A len cap, .string fd] W fun e W' => ∃ v, e = .returned v ∧ Nodes W' W.heap.size v ns ∧ Below W.heap.size W W')
    (hP : ∀ fd nm p, pathF fd nm = some p → ∀ W, Calls Tryz.prog 12 #[.string fd, .string nm] W fun e W' => e = .returned (.string p) ∧ Below W.heap.size W W')
    (hw : walkF listF pathF m fd = some (out.map (·.1)))
    (w : World) (hB : Below n₀ w0 w) (hn0 : n₀ ≤ w.heap.size) (hbl : b < w.heap.size) (hBll : Bl < w.heap.size) (hBfl : Bf < w.heap.size) (hBl : w.cell? ⟨Bl, 0, none⟩ = some (.slice A len cap)) (hBf : w.cell? ⟨Bf, 0, none⟩ = some (.string fd)) :
    SeqStopsK Fence.wide n Tryz.prog 30 #[.pointer (some ⟨Bl, 0, none⟩), .pointer (some ⟨Bf, 0, none⟩)] (fun x : { x : PN // G x } => #[Value.string x.1.1, NV.val x.1.2]) (KpW n₀ b) (fun ys => ys = out) (fun pre => pre <+: out) out.length w := fun l J Jx W hW hJ _ hY h0 => by
  have hdd : ∀ k : Nat, (Fence.wide.depth.isSome = true → 1 ≤ k) := fun k h => by cases h
  have hp := walk_in l n₀ b out.length len cap A w0 listF pathF hL hP (fun pre W => ∃ q : List { x : PN // G x }, q.map (·.1) = pre ∧ J q W) (fun pre W => ∃ q : List { x : PN // G x }, q.map (·.1) = pre ∧ Jx q W)
    (fun s W1 W2 hs hg => by obtain ⟨q, hq, hj⟩ := hs; exact ⟨q, hq, hJ _ _ _ none hj hg (fun r e => by cases e)⟩) G
    (fun m pre x W1 hx hj hl => by
      obtain ⟨q, hq, hj⟩ := hj
      refine YieldAt.mono (YieldAt.anyDepth rfl m (hY q ⟨x, hx⟩ W1 hj (by rw [← hq, List.length_map] at hl; exact hl))) fun e W2 hh => hh.elim (fun ⟨he, h1, h2⟩ => .inl ⟨he, ⟨_, by rw [List.map_append, hq]; rfl, h1⟩, h2⟩) (fun ⟨he, h1⟩ => .inr ⟨he, ⟨_, by rw [List.map_append, hq]; rfl, h1⟩⟩))
    m fd _ hw (fun x hx => by obtain ⟨y, _, rfl⟩ := List.mem_map.1 hx; exact y.2) (n - 1) [] W (hB.trans (hW.mono hn0)) (Nat.le_trans hn0 hW.size) (Nat.lt_of_lt_of_le hbl hW.size) ⟨[], rfl, h0⟩ (by simp)
  have c0 := (hW.cell (p := ⟨Bl, 0, none⟩) hBll).trans hBl
  have c1 := (hW.cell (p := ⟨Bf, 0, none⟩) hBfl).trans hBf
  refine callsIn_of_wp Tryz.func30 rfl trivial ?_ rfl
  simp only [Tryz.ntmps30, List.size_toArray, List.length_cons, List.length_nil, Nat.reduceAdd, Nat.reduceSub, Array.replicate_succ, Array.replicate_zero, List.push_toArray, List.append_toArray, List.nil_append, List.cons_append]
  gi_wp2_with (refine ⟨trivial, hdd _, ?_⟩; gi_at_call 31; refine hp.mono ?_; clear hp; rintro e W1 (⟨rfl, ⟨q, hq, hJ1⟩, _⟩ | ⟨rfl, q, hq, ⟨q2, hq2, hx⟩⟩))
  · go_end0
    refine ⟨⟨_, rfl⟩, .inl ⟨_, rfl, ?_⟩⟩
    rw [List.nil_append] at hq
    rw [← val_inj _ _ hq]
    exact hJ1
  · go_end0
    refine ⟨⟨_, rfl⟩, .inr ⟨q2, ?_, hx⟩⟩
    rw [List.nil_append] at hq2
    exact val_prefix (by rw [hq2]; exact hq)
end Go.Proofs.YtkccjohhakljnaaGreatDoorTree
