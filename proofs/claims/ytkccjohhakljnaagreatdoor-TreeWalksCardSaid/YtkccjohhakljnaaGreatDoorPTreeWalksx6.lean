/- The machine side of a law: for each Go function that it uses a Lean function with the same answers, and the proof that the Go code comes to them; or the row of the law over these. Written by a program of this session. -/
import Derived.Test.YtkccjohhakljnaaGreatDoorPTreeWalksx0
import Derived.Test.YtkccjohhakljnaaGreatDoorPTreeWalksx1
import Derived.Test.YtkccjohhakljnaaGreatDoorPTreeWalksx4
import Derived.Test.YtkccjohhakljnaaGreatDoorPTreeWalksx5
namespace Go.Proofs.YtkccjohhakljnaaGreatDoor.PTreeWalks
open Go.RowKit Go.Proofs.YtkccjohhakljnaaGreatDoorW.PrintWords Go.Proofs.YtkccjohhakljnaaGreatDoorW.PrintLast Go.Proofs.YtkccjohhakljnaaGreatDoorW.PrintMore
attribute [local go_sem] max2_int min2_int max_two min_two max_three min_three max_four min_four   -- for this text's walks alone
set_option linter.unusedVariables false
set_option linter.unusedSimpArgs false

/-! ### bindleref39_List: function 11 -/
mutual
def bindleref39_List.j0 : Nat → List (S49) → ByteArray → Int → List ByteArray → Int → Option ((List (S36)))
 | 0, _, _, _, _, _ => none
 | k + 1, x0, x1, x2, x7, x8 => bindleref39_List.l0 k x0 x1 x2 x7 x8 0
def bindleref39_List.l0 : Nat → List (S49) → ByteArray → Int → List ByteArray → Int → Int → Option ((List (S36)))
 | 0, _, _, _, _, _, _ => none
 | k + 1, x0, x1, x2, x7, x8, x9 => if x9 < (x0.length : Int) then (if 0 ≤ x9 then ((bindleref15_In.f k x1 ((rd_T49 x0 x9).f0)).bind fun t209 => (if t209 = true then (if 0 ≤ x8 then (if x8 ≤ (((rd_T49 x0 x9).f0).size : Int) then ((bindleref15_Parts.f k (((rd_T49 x0 x9).f0).extract (x8 : Int).toNat ((rd_T49 x0 x9).f0).size)).bind fun t211 => (if 0 < (t211.length : Int) then (if x7.length < 8796093022208 then (bindleref39_List.l0 k x0 x1 x2 (x7 ++ [rdOf ByteArray.empty t211 0]) x8 (wrap64 (x9 + 1))) else (none)) else (none))) else (none)) else (none)) else (bindleref39_List.l0 k x0 x1 x2 x7 x8 (wrap64 (x9 + 1))))) else (none)) else ((bindleref15_Sort.f k x7).bind fun t218 => (bindleref39_List.l1 k x0 x1 x2 t218 ([] : List (S36)) 0))
def bindleref39_List.l1 : Nat → List (S49) → ByteArray → Int → List ByteArray → List (S36) → Int → Option ((List (S36)))
 | 0, _, _, _, _, _, _ => none
 | k + 1, x0, x1, x2, x7, x10, x11 => if x11 < (x7.length : Int) then (if 0 ≤ x11 then (if x1.toList = ([] : List UInt8) then (bindleref39_List.j3 k x0 x1 x2 x7 x10 x11 (rdOf ByteArray.empty x7 x11) 0 0 false (rdOf ByteArray.empty x7 x11) x2) else (if x1.size + 1 ≤ 9223372036854775807 then (if (x1 ++ (⟨#[47]⟩ : ByteArray)).size + (rdOf ByteArray.empty x7 x11).size ≤ 9223372036854775807 then (bindleref39_List.j3 k x0 x1 x2 x7 x10 x11 (rdOf ByteArray.empty x7 x11) 0 0 false ((x1 ++ (⟨#[47]⟩ : ByteArray)) ++ (rdOf ByteArray.empty x7 x11)) x2) else (none)) else (none))) else (none)) else (some x10)
def bindleref39_List.j3 : Nat → List (S49) → ByteArray → Int → List ByteArray → List (S36) → Int → ByteArray → Int → Int → Bool → ByteArray → Int → Option ((List (S36)))
 | 0, _, _, _, _, _, _, _, _, _, _, _, _ => none
 | k + 1, x0, x1, x2, x7, x10, x11, x224000, x224001, x224002, x224003, x224004, x224005 => (bindleref39_Total.f k x0 x224004).bind fun bt225 => ((bindleref25_Find.f k x0 x224004).bind fun t227 => (if t227 ≥ 0 then (if 0 ≤ t227 then (if t227 < (x0.length : Int) then (if x10.length < 2199023255552 then (bindleref39_List.l1 k x0 x1 x2 x7 (x10 ++ [(⟨x224000, wrap64 (bt225.1 + 1), wrap64 (bt225.2 + (((rd_T49 x0 t227).f1).length : Int)), decide (bt225.1 > 0), x224004, x224005⟩ : S36)]) (wrap64 (x11 + 1))) else (none)) else (none)) else (none)) else (if x10.length < 2199023255552 then (bindleref39_List.l1 k x0 x1 x2 x7 (x10 ++ [(⟨x224000, bt225.1, bt225.2, decide (bt225.1 > 0), x224004, x224005⟩ : S36)]) (wrap64 (x11 + 1))) else (none))))
end
def bindleref39_List.f (k : Nat) (l0 : List (S49)) (a1 : ByteArray) (a2 : Int) : Option ((List (S36))) := if a1.toList = ([] : List UInt8) then (bindleref39_List.j0 k l0 a1 a2 ([] : List ByteArray) 0) else (bindleref39_List.j0 k l0 a1 a2 ([] : List ByteArray) (wrap64 ((a1.size : Int) + 1)))
theorem bindleref39_List.mono_l : ∀ k, (∀ y0 y1 y2 y3 y4, LeO (bindleref39_List.j0 k y0 y1 y2 y3 y4) (bindleref39_List.j0 (k + 1) y0 y1 y2 y3 y4)) ∧ (∀ y0 y1 y2 y3 y4 y5, LeO (bindleref39_List.l0 k y0 y1 y2 y3 y4 y5) (bindleref39_List.l0 (k + 1) y0 y1 y2 y3 y4 y5)) ∧ (∀ y0 y1 y2 y3 y4 y5, LeO (bindleref39_List.l1 k y0 y1 y2 y3 y4 y5) (bindleref39_List.l1 (k + 1) y0 y1 y2 y3 y4 y5)) ∧ (∀ y0 y1 y2 y3 y4 y5 y6 y7 y8 y9 y10 y11, LeO (bindleref39_List.j3 k y0 y1 y2 y3 y4 y5 y6 y7 y8 y9 y10 y11) (bindleref39_List.j3 (k + 1) y0 y1 y2 y3 y4 y5 y6 y7 y8 y9 y10 y11))
 | 0 => ⟨fun _ _ _ _ _ r h => by simp [bindleref39_List.j0] at h, fun _ _ _ _ _ _ r h => by simp [bindleref39_List.l0] at h, fun _ _ _ _ _ _ r h => by simp [bindleref39_List.l1] at h, fun _ _ _ _ _ _ _ _ _ _ _ _ r h => by simp [bindleref39_List.j3] at h⟩
 | k + 1 => by
  obtain ⟨ih0, ih1, ih2, ih3⟩ := bindleref39_List.mono_l k
  refine ⟨?_, ?_, ?_, ?_⟩
  ·intro y0 y1 y2 y3 y4
   unfold bindleref39_List.j0
   repeat' first
   | (with_reducible exact ih0 _ _ _ _ _)
   | (with_reducible exact ih1 _ _ _ _ _ _)
   | (with_reducible exact ih2 _ _ _ _ _ _)
   | (with_reducible exact ih3 _ _ _ _ _ _ _ _ _ _ _ _)
   | (with_reducible exact bindleref15_In.mono _ _ _)
   | (with_reducible exact bindleref15_Parts.mono _ _)
   | (with_reducible exact bindleref15_Sort.mono _ _)
   | (with_reducible exact bindleref25_Find.mono _ _ _)
   | (with_reducible exact bindleref39_Total.mono _ _ _)
   | (with_reducible exact LeO.refl _)
   | (with_reducible exact LeO.none _)
   | (with_reducible refine LeO.ite ?_ ?_)
   | (with_reducible refine LeO.bind ?_ (fun _ => ?_))
   | exact ih0 _ _ _ _ _
   | exact ih1 _ _ _ _ _ _
   | exact ih2 _ _ _ _ _ _
   | exact ih3 _ _ _ _ _ _ _ _ _ _ _ _
   | exact bindleref15_In.mono _ _ _
   | exact bindleref15_Parts.mono _ _
   | exact bindleref15_Sort.mono _ _
   | exact bindleref25_Find.mono _ _ _
   | exact bindleref39_Total.mono _ _ _
   | exact LeO.none _
   | refine LeO.ite ?_ ?_
   | refine LeO.bind ?_ (fun _ => ?_)
  ·intro y0 y1 y2 y3 y4 y5
   unfold bindleref39_List.l0
   repeat' first
   | (with_reducible exact ih0 _ _ _ _ _)
   | (with_reducible exact ih1 _ _ _ _ _ _)
   | (with_reducible exact ih2 _ _ _ _ _ _)
   | (with_reducible exact ih3 _ _ _ _ _ _ _ _ _ _ _ _)
   | (with_reducible exact bindleref15_In.mono _ _ _)
   | (with_reducible exact bindleref15_Parts.mono _ _)
   | (with_reducible exact bindleref15_Sort.mono _ _)
   | (with_reducible exact bindleref25_Find.mono _ _ _)
   | (with_reducible exact bindleref39_Total.mono _ _ _)
   | (with_reducible exact LeO.refl _)
   | (with_reducible exact LeO.none _)
   | (with_reducible refine LeO.ite ?_ ?_)
   | (with_reducible refine LeO.bind ?_ (fun _ => ?_))
   | exact ih0 _ _ _ _ _
   | exact ih1 _ _ _ _ _ _
   | exact ih2 _ _ _ _ _ _
   | exact ih3 _ _ _ _ _ _ _ _ _ _ _ _
   | exact bindleref15_In.mono _ _ _
   | exact bindleref15_Parts.mono _ _
   | exact bindleref15_Sort.mono _ _
   | exact bindleref25_Find.mono _ _ _
   | exact bindleref39_Total.mono _ _ _
   | exact LeO.none _
   | refine LeO.ite ?_ ?_
   | refine LeO.bind ?_ (fun _ => ?_)
  ·intro y0 y1 y2 y3 y4 y5
   unfold bindleref39_List.l1
   repeat' first
   | (with_reducible exact ih0 _ _ _ _ _)
   | (with_reducible exact ih1 _ _ _ _ _ _)
   | (with_reducible exact ih2 _ _ _ _ _ _)
   | (with_reducible exact ih3 _ _ _ _ _ _ _ _ _ _ _ _)
   | (with_reducible exact bindleref15_In.mono _ _ _)
   | (with_reducible exact bindleref15_Parts.mono _ _)
   | (with_reducible exact bindleref15_Sort.mono _ _)
   | (with_reducible exact bindleref25_Find.mono _ _ _)
   | (with_reducible exact bindleref39_Total.mono _ _ _)
   | (with_reducible exact LeO.refl _)
   | (with_reducible exact LeO.none _)
   | (with_reducible refine LeO.ite ?_ ?_)
   | (with_reducible refine LeO.bind ?_ (fun _ => ?_))
   | exact ih0 _ _ _ _ _
   | exact ih1 _ _ _ _ _ _
   | exact ih2 _ _ _ _ _ _
   | exact ih3 _ _ _ _ _ _ _ _ _ _ _ _
   | exact bindleref15_In.mono _ _ _
   | exact bindleref15_Parts.mono _ _
   | exact bindleref15_Sort.mono _ _
   | exact bindleref25_Find.mono _ _ _
   | exact bindleref39_Total.mono _ _ _
   | exact LeO.none _
   | refine LeO.ite ?_ ?_
   | refine LeO.bind ?_ (fun _ => ?_)
  ·intro y0 y1 y2 y3 y4 y5 y6 y7 y8 y9 y10 y11
   unfold bindleref39_List.j3
   repeat' first
   | (with_reducible exact ih0 _ _ _ _ _)
   | (with_reducible exact ih1 _ _ _ _ _ _)
   | (with_reducible exact ih2 _ _ _ _ _ _)
   | (with_reducible exact ih3 _ _ _ _ _ _ _ _ _ _ _ _)
   | (with_reducible exact bindleref15_In.mono _ _ _)
   | (with_reducible exact bindleref15_Parts.mono _ _)
   | (with_reducible exact bindleref15_Sort.mono _ _)
   | (with_reducible exact bindleref25_Find.mono _ _ _)
   | (with_reducible exact bindleref39_Total.mono _ _ _)
   | (with_reducible exact LeO.refl _)
   | (with_reducible exact LeO.none _)
   | (with_reducible refine LeO.ite ?_ ?_)
   | (with_reducible refine LeO.bind ?_ (fun _ => ?_))
   | exact ih0 _ _ _ _ _
   | exact ih1 _ _ _ _ _ _
   | exact ih2 _ _ _ _ _ _
   | exact ih3 _ _ _ _ _ _ _ _ _ _ _ _
   | exact bindleref15_In.mono _ _ _
   | exact bindleref15_Parts.mono _ _
   | exact bindleref15_Sort.mono _ _
   | exact bindleref25_Find.mono _ _ _
   | exact bindleref39_Total.mono _ _ _
   | exact LeO.none _
   | refine LeO.ite ?_ ?_
   | refine LeO.bind ?_ (fun _ => ?_)
theorem bindleref39_List.mono : ∀ a0 a1 a2 k, LeO (bindleref39_List.f k a0 a1 a2) (bindleref39_List.f (k + 1) a0 a1 a2) := by
 intro a0 a1 a2 k
 obtain ⟨ih0, ih1, ih2, ih3⟩ := bindleref39_List.mono_l k
 unfold bindleref39_List.f
 repeat' first
   | (with_reducible exact ih0 _ _ _ _ _)
   | (with_reducible exact ih1 _ _ _ _ _ _)
   | (with_reducible exact ih2 _ _ _ _ _ _)
   | (with_reducible exact ih3 _ _ _ _ _ _ _ _ _ _ _ _)
   | (with_reducible exact bindleref15_In.mono _ _ _)
   | (with_reducible exact bindleref15_Parts.mono _ _)
   | (with_reducible exact bindleref15_Sort.mono _ _)
   | (with_reducible exact bindleref25_Find.mono _ _ _)
   | (with_reducible exact bindleref39_Total.mono _ _ _)
   | (with_reducible exact LeO.refl _)
   | (with_reducible exact LeO.none _)
   | (with_reducible refine LeO.ite ?_ ?_)
   | (with_reducible refine LeO.bind ?_ (fun _ => ?_))
   | exact ih0 _ _ _ _ _
   | exact ih1 _ _ _ _ _ _
   | exact ih2 _ _ _ _ _ _
   | exact ih3 _ _ _ _ _ _ _ _ _ _ _ _
   | exact bindleref15_In.mono _ _ _
   | exact bindleref15_Parts.mono _ _
   | exact bindleref15_Sort.mono _ _
   | exact bindleref25_Find.mono _ _ _
   | exact bindleref39_Total.mono _ _ _
   | exact LeO.none _
   | refine LeO.ite ?_ ?_
   | refine LeO.bind ?_ (fun _ => ?_)
def bindleref39_List.T15 : Bool × List (List Nat × List Nat) := (true, [([], []), ([], []), ([0, 1], [0, 1]), ([2], [2]), ([], []), ([], []), ([4, 5], [4, 5]), ([6], [6]), ([], []), ([3, 7, 8], [3, 7, 8]), ([], []), ([10, 9, 0, 1, 2, 3, 4, 5, 6, 7, 8, 9, 10], [9, 10])])
def bindleref39_List.B15 : List Nat := [0, 0, 3, 7, 0, 0, 48, 112, 0, 511, 0, 2047]
theorem bindleref39_List.tab15 : rtab .any (opsOf Tryz.f11 15) = bindleref39_List.T15 := by kernel_rfl
theorem bindleref39_List.bits15 : waitsOk bindleref39_List.T15.2 bindleref39_List.B15 = true := by kernel_rfl
def bindleref39_List.T25 : Bool × List (List Nat × List Nat) := (true, [([], []), ([0], [0]), ([], []), ([], []), ([2, 3], [2, 3]), ([4], [4]), ([5], [5]), ([6], [6]), ([1, 7], [1, 7]), ([0, 1, 2, 3, 4, 5, 6, 7, 8], []), ([9, 8, 0, 1, 2, 3, 4, 5, 6, 7, 8], [8, 9])])
def bindleref39_List.B25 : List Nat := [0, 1, 0, 0, 12, 28, 60, 124, 255, 511, 1023]
theorem bindleref39_List.tab25 : rtab .any (opsOf Tryz.f11 25) = bindleref39_List.T25 := by kernel_rfl
theorem bindleref39_List.bits25 : waitsOk bindleref39_List.T25.2 bindleref39_List.B25 = true := by kernel_rfl
set_option maxHeartbeats 8000000 in
set_option maxRecDepth 100000 in
theorem bindleref39_List.calls (k : Nat) (A0 : Option Addr) (c0 : Nat) (l0 : List (S49)) (a1 : ByteArray) (a2 : Int) (r : List (S36)) (w : World) (hr0 : Kd.C k49 w A0 l0.length l0) (hc0 : l0.length ≤ c0) (h : bindleref39_List.f k l0 a1 a2 = some r) :
  Calls Tryz.prog 11 #[.slice A0 l0.length c0, .string a1, .int .i64 a2] w fun e w' => ∃ v0_ : Value, e = .returned (v0_) ∧ Kd.R k36 36 w' w.heap.size (fun _ => True) v0_ r ∧ Below w.heap.size w w' := by
 have hu36 := Tryz.underlying36
 have HR0 := Aside0.mk hr0
 have HC0 := Aside0.mk hc0
 clear hr0 hc0
 have HB := Aside0.mk (Below.refl w.heap.size w)
 have H : (if a1.toList = ([] : List UInt8) then (bindleref39_List.j0 k l0 a1 a2 ([] : List ByteArray) 0) else (bindleref39_List.j0 k l0 a1 a2 ([] : List ByteArray) (wrap64 ((a1.size : Int) + 1)))) = some r := h
 clear h
 have HC4 := Aside0.mk H
 clear H
 go_enter Tryz.func11, Tryz.ntmps11
 go_upto_if 17 with (fail)
 go_cut [8] (fun v8 wc => ∃ (kq : Nat) (x8_3 : Int), v8 = .int .i64 x8_3 ∧ Aside0 (bindleref39_List.j0 kq l0 a1 a2 ([] : List ByteArray) x8_3 = some r) ∧ Aside0 (kq ≤ k) ∧ Aside0 (Kd.R Kd.string 9 wc w.heap.size (fun _ => True) (.slice none 0 0) ([] : List ByteArray)) ∧ Aside0 (Below w.heap.size w wc))
 case first =>
  have H := HC4.out
  clear HC4
  by_cases c5 : a1.toList = ([] : List UInt8)
  ·rw [if_pos c5] at H
   have c5b2 : a1.toList.isEmpty = true := by rw [c5]; rfl
   have c5b0 : (a1.toList == ([] : List UInt8)) = true := beq_iff_eq.mpr c5
   have c5b1 : (a1.toList != ([] : List UInt8)) = false := bne_eq_false_iff_eq.mpr c5
   clear c5
   (first | rw [c5b0] | (simp only [i64_w, i32_w]; rw [c5b0]) | rw [c5b1] | (simp only [c5b2, Bool.not_true, Bool.not_false]) | skip)
   clear c5b2
   have H' := Aside0.mk H
   clear H
   go_wp2
   go_meet
   case rel => exact ⟨_, (0), (by first | rfl | (simp only [YtkccjohhakljnaaGreatDoorMpHelp.leq_not, YtkccjohhakljnaaGreatDoorMpHelp.gtr_less]; done) | (simp; done) | (simp [*]; done)), H', ⟨by first | omega | exact Nat.le_refl _⟩, ⟨by first | exact Kd.R_nil _ _ _ _ _ | exact Kd.N_nil _ _ _ _ _ | exact Kd.V_nil _ _ _ _ _ | exact Kd.Q_nil _ _ _ _ _ | exact Kd.S_nil _ _ _ _ _⟩, ⟨by repeat (first | (with_reducible first | exact HB.out | apply below_alloc | apply pw_below_drewN | apply below_drew1) | exact HB.out)⟩⟩
  ·rw [if_neg c5] at H
   have c5b2 : a1.toList.isEmpty = false := by cases hq_ : a1.toList with | nil => exact absurd hq_ c5 | cons _ _ => rfl
   have c5b0 : (a1.toList == ([] : List UInt8)) = false := beq_eq_false_iff_ne.mpr c5
   have c5b1 : (a1.toList != ([] : List UInt8)) = true := bne_iff_ne.mpr c5
   (first | rw [c5b0] | (simp only [i64_w, i32_w]; rw [c5b0]) | rw [c5b1] | (simp only [c5b2, Bool.not_true, Bool.not_false]) | skip)
   clear c5b2
   have H' := Aside0.mk H
   clear H
   go_wp2
   go_meet
   case rel => exact ⟨_, (wrap64 ((a1.size : Int) + 1)), (by first | rfl | (simp only [YtkccjohhakljnaaGreatDoorMpHelp.leq_not, YtkccjohhakljnaaGreatDoorMpHelp.gtr_less]; done) | (simp; done) | (simp [*]; done)), H', ⟨by first | omega | exact Nat.le_refl _⟩, ⟨by first | exact Kd.R_nil _ _ _ _ _ | exact Kd.N_nil _ _ _ _ _ | exact Kd.V_nil _ _ _ _ _ | exact Kd.Q_nil _ _ _ _ _ | exact Kd.S_nil _ _ _ _ _⟩, ⟨by repeat (first | (with_reducible first | exact HB.out | apply below_alloc | apply pw_below_drewN | apply below_drew1) | exact HB.out)⟩⟩
 case rest =>
  clear HC4
  try clear c1
  try clear p2
  try clear c5
  try clear c5b0
  try clear c5b1
  obtain ⟨kq, x8_3, rfl, HA, HJ3, HO_7, HB⟩ := hcut
  cases kq with
  | zero => exact absurd HA.out (by simp [bindleref39_List.j0])
  | succ kj3 =>
   have H := HA.out
   clear HA
   simp only [bindleref39_List.j0] at H
   have H' := Aside0.mk H
   clear H
   go_wp2
   go_loopg [7, 9] kj3 (fun kq v7 v9 w' => ∃ (x7_2 : List ByteArray) (x9_2 : Int), v9 = .int .i64 x9_2 ∧ Aside0 (bindleref39_List.l0 kq l0 a1 a2 x7_2 x8_3 x9_2 = some r) ∧ Aside0 (kq ≤ kj3) ∧ Aside0 (Kd.R Kd.string 9 w' w.heap.size (fun _ => True) v7 x7_2) ∧ Aside0 (Below w.heap.size w w'))
   case atStart => exact ⟨(([] : List ByteArray)), (0), (by first | rfl | (simp only [YtkccjohhakljnaaGreatDoorMpHelp.leq_not, YtkccjohhakljnaaGreatDoorMpHelp.gtr_less]; done) | (simp; done) | (simp [*]; done)), H', ⟨Nat.le_refl _⟩, ⟨by (with_reducible repeat (first | apply Kd.R_alloc | apply Kd.R_drewN | apply Kd.R_drew)); exact HO_7.out⟩, ⟨by repeat (first | (with_reducible first | exact HB.out | apply below_alloc | apply pw_below_drewN | apply below_drew1) | exact HB.out)⟩⟩
   case round =>
    clear H'
    try clear c1
    try clear p2
    try clear c5
    try clear c5b0
    try clear c5b1
    try clear p2
    obtain ⟨x7_2, x9_2, rfl, HA, HK2, HO_7, HB⟩ := hrel
    cases gk with
    | zero => exact absurd HA.out (by simp [bindleref39_List.l0])
    | succ k2 =>
     have H := HA.out
     clear HA
     simp only [bindleref39_List.l0] at H
     by_cases c6 : x9_2 < (l0.length : Int)
     ·rw [if_pos c6] at H
      have c6b0 : decide (x9_2 < (l0.length : Int)) = true := decide_eq_true c6
      clear c6
      by_cases c7 : 0 ≤ x9_2
      ·rw [if_pos c7] at H
       have c7b0 : decide (0 ≤ x9_2) = true := decide_eq_true c7
       clear c7
       replace H := Option.bind_eq_some_iff.mp H
       obtain ⟨t209, A80, H⟩ := H
       replace H : (if t209 = true then (if 0 ≤ x8_3 then (if x8_3 ≤ (((rd_T49 l0 x9_2).f0).size : Int) then ((bindleref15_Parts.f k2 (((rd_T49 l0 x9_2).f0).extract (x8_3 : Int).toNat ((rd_T49 l0 x9_2).f0).size)).bind fun t211 => (if 0 < (t211.length : Int) then (if x7_2.length < 8796093022208 then (bindleref39_List.l0 k2 l0 a1 a2 (x7_2 ++ [rdOf ByteArray.empty t211 0]) x8_3 (wrap64 (x9_2 + 1))) else (none)) else (none))) else (none)) else (none)) else (bindleref39_List.l0 k2 l0 a1 a2 x7_2 x8_3 (wrap64 (x9_2 + 1)))) = some r := H
       have A8 := Aside0.mk A80
       clear A80
       by_cases c9 : t209 = true
       ·subst c9
        have H1 : (if 0 ≤ x8_3 then (if x8_3 ≤ (((rd_T49 l0 x9_2).f0).size : Int) then ((bindleref15_Parts.f k2 (((rd_T49 l0 x9_2).f0).extract (x8_3 : Int).toNat ((rd_T49 l0 x9_2).f0).size)).bind fun t211 => (if 0 < (t211.length : Int) then (if x7_2.length < 8796093022208 then (bindleref39_List.l0 k2 l0 a1 a2 (x7_2 ++ [rdOf ByteArray.empty t211 0]) x8_3 (wrap64 (x9_2 + 1))) else (none)) else (none))) else (none)) else (none)) = some r := by rw [if_pos rfl] at H; exact H
        clear H
        have H := H1
        clear H1
        by_cases c10 : 0 ≤ x8_3
        ·rw [if_pos c10] at H
         have c10b0 := eq_true c10
         have c10b1 : decide (0 ≤ x8_3) = true := decide_eq_true c10
         clear c10
         by_cases c11 : x8_3 ≤ (((rd_T49 l0 x9_2).f0).size : Int)
         ·rw [if_pos c11] at H
          have c11b0 := eq_true c11
          have c11b1 : decide (x8_3 ≤ (((rd_T49 l0 x9_2).f0).size : Int)) = true := decide_eq_true c11
          clear c11
          replace H := Option.bind_eq_some_iff.mp H
          obtain ⟨t211, A120, H⟩ := H
          replace H : (if 0 < (t211.length : Int) then (if x7_2.length < 8796093022208 then (bindleref39_List.l0 k2 l0 a1 a2 (x7_2 ++ [rdOf ByteArray.empty t211 0]) x8_3 (wrap64 (x9_2 + 1))) else (none)) else (none)) = some r := H
          have A12 := Aside0.mk A120
          clear A120
          by_cases c13 : 0 < (t211.length : Int)
          ·rw [if_pos c13] at H
           have c13b0 : decide (0 < (t211.length : Int)) = true := decide_eq_true c13
           have c13b1 : decide (0 < t211.length) = true := decide_eq_true (by omega)
           clear c13
           by_cases c14 : x7_2.length < 8796093022208
           ·rw [if_pos c14] at H
            have LMc14 := Aside0.mk c14
            clear c14
            obtain ⟨y215, hy215⟩ : ∃ y_ : List ByteArray, y_ = (x7_2 ++ [rdOf ByteArray.empty t211 0]) := ⟨_, rfl⟩
            replace H : (bindleref39_List.l0 k2 l0 a1 a2 y215 x8_3 (wrap64 (x9_2 + 1))) = some r := by first | (rw [hy215]; with_reducible exact H) | (have H2_ := (Option.bind_some _ _).symm.trans H; rw [hy215]; with_reducible exact H2_) | (have H2_ := (Option.bind_some _ _).symm.trans H; with_reducible exact H2_) | with_reducible exact H | (rw [hy215]; exact H) | exact H
            have Ny215 := Aside0.mk hy215
            clear hy215
            have H' := Aside0.mk H
            clear H
            have p208 : 0 ≤ (x9_2 : Int) := of_decide_eq_true (by first | (with_reducible assumption) | assumption)
            have q208 : x9_2 < (l0.length : Int) := of_decide_eq_true (by first | (with_reducible assumption) | assumption)
            obtain ⟨ad208, A208_1, c208_1, e208, hx208_0, hx208_1, hl208_1, hi208_1⟩ := at_T49 HR0.out x9_2 p208 q208
            cases e208
            replace hx208_0 := (HB.out.cell (World.block_lt_of_cell? w _ hx208_0)).trans hx208_0
            replace hx208_1 := (HB.out.cell (World.block_lt_of_cell? w _ hx208_1)).trans hx208_1
            have HR208_1 := Aside0.mk hi208_1
            have HC208_1 := Aside0.mk hl208_1
            clear hi208_1 hl208_1
            replace p208 := eq_true p208
            replace q208 := eq_true q208
            go_wp2_with (first | ((with_reducible refine gate_callee (f := 24) rfl ?_); refine goesL_ (some 33) rfl rfl Tryz.func24 (by kernel_rfl) rfl #[.string a1, .string ((rd_T49 l0 x9_2).f0)] rfl (by (try simp only [List.map_toArray, List.map_cons, List.map_nil]); first | done | rfl | (simp only [List.length_drop, List.length_take]; rfl)) ?_; (with_reducible refine (bindleref15_In.calls k2 a1 ((rd_T49 l0 x9_2).f0) true _ A8.out).mono ?_); rintro e w15 ⟨rfl, hb⟩; refine ⟨_, rfl, ?_⟩; have n0_ := Aside0.mk (Kd.R_below (by (with_reducible repeat (first | apply Kd.R_alloc | apply Kd.R_drewN | apply Kd.R_drew)); exact HO_7.out) hb); have n1_ := Aside0.mk (below_step (by repeat (first | (with_reducible first | exact HB.out | apply below_alloc | apply pw_below_drewN | apply below_drew1) | exact HB.out)) hb); clear HO_7; clear HB; have HO_7 := n0_; have HB := n1_; clear n0_ n1_; (try clear hb); (try clear hb2); (try clear hk); (try clear hi); have p210 : 0 ≤ (x9_2 : Int) := of_decide_eq_true (by first | (with_reducible assumption) | assumption); have q210 : x9_2 < (l0.length : Int) := of_decide_eq_true (by first | (with_reducible assumption) | assumption); obtain ⟨ad210, A210_1, c210_1, e210, hx210_0, hx210_1, hl210_1, hi210_1⟩ := at_T49 HR0.out x9_2 p210 q210; obtain rfl : ad208 = ad210 := (by injection e210); replace hx210_0 := (HB.out.cell (World.block_lt_of_cell? w _ hx210_0)).trans hx210_0; replace hx210_1 := (HB.out.cell (World.block_lt_of_cell? w _ hx210_1)).trans hx210_1; have HR210_1 := Aside0.mk hi210_1; have HC210_1 := Aside0.mk hl210_1; clear hi210_1 hl210_1; replace p210 := eq_true p210; replace q210 := eq_true q210) | ((with_reducible refine gate_callee (f := 28) rfl ?_); refine goesL_ (some 42) rfl rfl Tryz.func28 (by kernel_rfl) rfl #[.string (((rd_T49 l0 x9_2).f0).extract (x8_3 : Int).toNat ((rd_T49 l0 x9_2).f0).size)] rfl (by (try simp only [List.map_toArray, List.map_cons, List.map_nil]); first | done | rfl | (simp only [List.length_drop, List.length_take]; rfl)) ?_; (with_reducible refine (bindleref15_Parts.calls k2 (((rd_T49 l0 x9_2).f0).extract (x8_3 : Int).toNat ((rd_T49 l0 x9_2).f0).size) t211 _ A12.out).mono ?_); rintro e w16 ⟨v212, rfl, ho0, hb⟩; refine ⟨_, rfl, ?_⟩; have n0_ := Aside0.mk (Kd.R_elder' (by (with_reducible repeat (first | apply Kd.R_alloc | apply Kd.R_drewN | apply Kd.R_drew)); exact HO_7.out) (Kd.R_base ho0) hb); have n1_ := Aside0.mk (Kd.R_lower (Kd.R_new' ho0 (Kd.R_lt (by (with_reducible repeat (first | apply Kd.R_alloc | apply Kd.R_drewN | apply Kd.R_drew)); exact HO_7.out))) (below_size (by repeat (first | (with_reducible first | exact HB.out | apply below_alloc | apply pw_below_drewN | apply below_drew1) | exact HB.out)))); have n2_ := Aside0.mk (below_step (by repeat (first | (with_reducible first | exact HB.out | apply below_alloc | apply pw_below_drewN | apply below_drew1) | exact HB.out)) hb); clear HO_7; clear HB; have HO_7 := n0_; have HO213 := n1_; have HB := n2_; clear n0_ n1_ n2_; (try clear hb); (try clear hb2); (try clear hk); (try clear hi); (try clear ho0); obtain ⟨Ao17, co17, eo17⟩ := Kd.R_slice HO213.out; subst eo17; have p214 : 0 ≤ (0 : Int) := (by omega); have q214 : 0 < (t211.length : Int) := of_decide_eq_true (by first | (with_reducible assumption) | assumption); obtain ⟨ad214, e214, hx214_0⟩ := Kd.at_string (Kd.R_reads' HO213.out).2.2 0 p214 q214; cases e214; have qi214 : (0 < t211.length) = True := eq_true (by omega); (try rw [show ((0 : Int)).toNat = 0 from rfl] at hx214_0); (try rw [Addr.add_zero'] at hx214_0); replace p214 := eq_true p214; replace q214 := eq_true q214) | ((with_reducible refine gate_builtin (b := .append) (xs := #[.tmp 34, .tmp 45]) rfl ?_); at_builtin; refine Kd.R_append Kd.string (w0 := w) w.heap.size rfl (.tmp 34) (.tmp 45) 55 9 (.string ⟨#[]⟩) 16 rfl Tryz.underlying55 info9 rfl (by decide) (by omega) u7 x7_2 (rdOf ByteArray.empty t211 0) [.string (rdOf ByteArray.empty t211 0)] (fun k_ => some k_ ≠ (.slice (some ad214) t211.length co17 : Value).ownBlock) (fun _ => False) rfl rfl ?aP (fun _ hk => hk.elim) ?aF ?aO ?aB ?aS ?aL ?_; (case aP => exact rfl); (case aB => exact (by repeat (first | (with_reducible first | exact HB.out | apply below_alloc | apply pw_below_drewN | apply below_drew1) | exact HB.out))); (case aF => exact (fun k_ hk => Kd.fresh' (Kd.R_lt (by (with_reducible repeat (first | apply Kd.R_alloc | apply Kd.R_drewN | apply Kd.R_drew)); exact HO213.out)) k_ hk)); (case aO => exact (by (with_reducible repeat (first | apply Kd.R_alloc | apply Kd.R_drewN | apply Kd.R_drew)); exact Kd.R_mono HO_7.out (fun _ hk => hk.2))); (case aS => exact (below_size (by repeat (first | (with_reducible first | exact HB.out | apply below_alloc | apply pw_below_drewN | apply below_drew1) | exact HB.out)))); (case aL => have := LMc14.out; omega); intro v216 w18 ho hb hg hat; rw [← Ny215.out] at ho; have n0_ := Aside0.mk (Kd.R_after (ok := (fun _ => True)) (by (with_reducible repeat (first | apply Kd.R_alloc | apply Kd.R_drewN | apply Kd.R_drew)); exact HO213.out) hg hat); have n1_ := Aside0.mk (hb); have n2_ := Aside0.mk (ho); clear HO213; clear HB; clear HO_7; have HO213 := n0_; have HB := n1_; have HO217 := n2_; clear n0_ n1_ n2_; clear ho hb hg hat))
            go_roundg k2
            case measure => have := HJ3.out; have := HK2.out; omega
            case rel => exact ⟨(y215), (wrap64 (x9_2 + 1)), (by first | rfl | (simp only [YtkccjohhakljnaaGreatDoorMpHelp.leq_not, YtkccjohhakljnaaGreatDoorMpHelp.gtr_less]; done) | (simp; done) | (simp [*]; done)), H', ⟨by have := HJ3.out; have := HK2.out; omega⟩, ⟨by (with_reducible repeat (first | apply Kd.R_alloc | apply Kd.R_drewN | apply Kd.R_drew)); exact Kd.R_mono HO217.out (fun _ hk => trivial)⟩, ⟨by repeat (first | (with_reducible first | exact HB.out | apply below_alloc | apply pw_below_drewN | apply below_drew1) | exact HB.out)⟩⟩
           ·rw [if_neg c14] at H
            exact absurd H (by simp)
          ·rw [if_neg c13] at H
           exact absurd H (by simp)
         ·rw [if_neg c11] at H
          exact absurd H (by simp)
        ·rw [if_neg c10] at H
         exact absurd H (by simp)
       ·replace c9 := Bool.eq_false_iff.mpr c9
        subst c9
        have H1 : (bindleref39_List.l0 k2 l0 a1 a2 x7_2 x8_3 (wrap64 (x9_2 + 1))) = some r := by rw [if_neg (show ¬ (false = true) by decide)] at H; exact H
        clear H
        have H := H1
        clear H1
        have H' := Aside0.mk H
        clear H
        have p208 : 0 ≤ (x9_2 : Int) := of_decide_eq_true (by first | (with_reducible assumption) | assumption)
        have q208 : x9_2 < (l0.length : Int) := of_decide_eq_true (by first | (with_reducible assumption) | assumption)
        obtain ⟨ad208, A208_1, c208_1, e208, hx208_0, hx208_1, hl208_1, hi208_1⟩ := at_T49 HR0.out x9_2 p208 q208
        cases e208
        replace hx208_0 := (HB.out.cell (World.block_lt_of_cell? w _ hx208_0)).trans hx208_0
        replace hx208_1 := (HB.out.cell (World.block_lt_of_cell? w _ hx208_1)).trans hx208_1
        have HR208_1 := Aside0.mk hi208_1
        have HC208_1 := Aside0.mk hl208_1
        clear hi208_1 hl208_1
        replace p208 := eq_true p208
        replace q208 := eq_true q208
        go_wp2_with (first | ((with_reducible refine gate_callee (f := 24) rfl ?_); refine goesL_ (some 33) rfl rfl Tryz.func24 (by kernel_rfl) rfl #[.string a1, .string ((rd_T49 l0 x9_2).f0)] rfl (by (try simp only [List.map_toArray, List.map_cons, List.map_nil]); first | done | rfl | (simp only [List.length_drop, List.length_take]; rfl)) ?_; (with_reducible refine (bindleref15_In.calls k2 a1 ((rd_T49 l0 x9_2).f0) false _ A8.out).mono ?_); rintro e w19 ⟨rfl, hb⟩; refine ⟨_, rfl, ?_⟩; have n0_ := Aside0.mk (Kd.R_below (by (with_reducible repeat (first | apply Kd.R_alloc | apply Kd.R_drewN | apply Kd.R_drew)); exact HO_7.out) hb); have n1_ := Aside0.mk (below_step (by repeat (first | (with_reducible first | exact HB.out | apply below_alloc | apply pw_below_drewN | apply below_drew1) | exact HB.out)) hb); clear HO_7; clear HB; have HO_7 := n0_; have HB := n1_; clear n0_ n1_; (try clear hb); (try clear hb2); (try clear hk); (try clear hi)))
        go_roundg k2
        case measure => have := HJ3.out; have := HK2.out; omega
        case rel => exact ⟨(x7_2), (wrap64 (x9_2 + 1)), (by first | rfl | (simp only [YtkccjohhakljnaaGreatDoorMpHelp.leq_not, YtkccjohhakljnaaGreatDoorMpHelp.gtr_less]; done) | (simp; done) | (simp [*]; done)), H', ⟨by have := HJ3.out; have := HK2.out; omega⟩, ⟨by (with_reducible repeat (first | apply Kd.R_alloc | apply Kd.R_drewN | apply Kd.R_drew)); exact HO_7.out⟩, ⟨by repeat (first | (with_reducible first | exact HB.out | apply below_alloc | apply pw_below_drewN | apply below_drew1) | exact HB.out)⟩⟩
      ·rw [if_neg c7] at H
       exact absurd H (by simp)
     ·rw [if_neg c6] at H
      have c6b0 : decide (x9_2 < (l0.length : Int)) = false := decide_eq_false c6
      clear c6
      replace H := Option.bind_eq_some_iff.mp H
      obtain ⟨t218, A200, H⟩ := H
      replace H : (bindleref39_List.l1 k2 l0 a1 a2 t218 ([] : List (S36)) 0) = some r := H
      have A20 := Aside0.mk A200
      clear A200
      have H' := Aside0.mk H
      clear H
      obtain ⟨Ao21, co21, eo21⟩ := Kd.R_slice HO_7.out
      subst eo21
      go_wp2_with (first | ((with_reducible refine gate_callee (f := 29) rfl ?_); refine goesL_ (some 48) rfl rfl Tryz.func29 (by kernel_rfl) rfl #[.slice Ao21 x7_2.length co21] rfl (by (try simp only [List.map_toArray, List.map_cons, List.map_nil]); first | done | rfl | (simp only [List.length_drop, List.length_take]; rfl)) ?_; (with_reducible refine (bindleref15_Sort.calls k2 _ _ x7_2 t218 _ ?side1 ?side2 A20.out).mono ?_); (case side1 => repeat (first | exact (Kd.R_reads' HO_7.out).2.2 | (with_reducible refine Kd.C_alloc ?_ _) | (with_reducible refine Kd.C_drewN ?_ _) | (with_reducible refine Kd.C_drew ?_))); (case side2 => exact (Kd.R_reads' HO_7.out).2.1); rintro e w22 ⟨v219, rfl, ho0, hb⟩; refine ⟨_, rfl, ?_⟩; have n0_ := Aside0.mk (Kd.R_elder' (by (with_reducible repeat (first | apply Kd.R_alloc | apply Kd.R_drewN | apply Kd.R_drew)); exact HO_7.out) (Kd.R_base ho0) hb); have n1_ := Aside0.mk (Kd.R_lower (Kd.R_new' ho0 (Kd.R_lt (by (with_reducible repeat (first | apply Kd.R_alloc | apply Kd.R_drewN | apply Kd.R_drew)); exact HO_7.out))) (below_size (by repeat (first | (with_reducible first | exact HB.out | apply below_alloc | apply pw_below_drewN | apply below_drew1) | exact HB.out)))); have n2_ := Aside0.mk (below_step (by repeat (first | (with_reducible first | exact HB.out | apply below_alloc | apply pw_below_drewN | apply below_drew1) | exact HB.out)) hb); clear HO_7; clear HB; have HO_7 := n0_; have HO220 := n1_; have HB := n2_; clear n0_ n1_ n2_; (try clear hb); (try clear hb2); (try clear hk); (try clear hi); (try clear ho0)))
      go_loopg [10, 11] k2 (fun kq v10 v11 w' => ∃ (x10_3 : List (S36)) (x11_3 : Int), v11 = .int .i64 x11_3 ∧ Aside0 (bindleref39_List.l1 kq l0 a1 a2 t218 x10_3 x11_3 = some r) ∧ Aside0 (kq ≤ k2) ∧ Aside0 (Kd.R Kd.string 9 w' w.heap.size (fun _ => True) v219 t218) ∧ Aside0 (Kd.R k36 36 w' w.heap.size (fun _ => True) v10 x10_3) ∧ Aside0 (Below w.heap.size w w'))
      case atStart => exact ⟨(([] : List (S36))), (0), (by first | rfl | (simp only [YtkccjohhakljnaaGreatDoorMpHelp.leq_not, YtkccjohhakljnaaGreatDoorMpHelp.gtr_less]; done) | (simp; done) | (simp [*]; done)), H', ⟨Nat.le_refl _⟩, ⟨by (with_reducible repeat (first | apply Kd.R_alloc | apply Kd.R_drewN | apply Kd.R_drew)); exact Kd.R_mono HO220.out (fun _ hk => trivial)⟩, ⟨by first | exact Kd.R_nil _ _ _ _ _ | exact Kd.N_nil _ _ _ _ _ | exact Kd.V_nil _ _ _ _ _ | exact Kd.Q_nil _ _ _ _ _ | exact Kd.S_nil _ _ _ _ _⟩, ⟨by repeat (first | (with_reducible first | exact HB.out | apply below_alloc | apply pw_below_drewN | apply below_drew1) | exact HB.out)⟩⟩
      case round =>
       clear H'
       try clear c1
       try clear c2
       try clear p2
       try clear q2
       try clear hx2
       try clear qi2
       try clear c5
       try clear c5b0
       try clear c5b1
       try clear c6
       try clear c6b0
       try clear p6
       try clear c7
       try clear c7b0
       try clear c9
       try clear c10
       try clear c10b0
       try clear c10b1
       try clear c11
       try clear c11b0
       try clear c11b1
       try clear c13
       try clear c13b0
       try clear c13b1
       try clear c14
       try clear c20
       try clear p20
       try clear q20
       try clear hx20
       try clear c21
       try clear p21
       try clear q21
       try clear hx21
       try clear qi21
       try clear hx208_0
       try clear hx208_1
       try clear hx210_0
       try clear hx210_1
       try clear hx214_0
       try clear p2
       try clear p208
       try clear p210
       try clear p214
       try clear q208
       try clear q210
       try clear q214
       obtain ⟨x10_3, x11_3, rfl, HA, HK3, HO_7, HO_10, HB⟩ := hrel
       cases gk with
       | zero => exact absurd HA.out (by simp [bindleref39_List.l1])
       | succ k3 =>
        have H := HA.out
        clear HA
        simp only [bindleref39_List.l1] at H
        by_cases c23 : x11_3 < (t218.length : Int)
        ·rw [if_pos c23] at H
         have c23b0 : decide (x11_3 < (t218.length : Int)) = true := decide_eq_true c23
         clear c23
         by_cases c24 : 0 ≤ x11_3
         ·rw [if_pos c24] at H
          have c24b0 : decide (0 ≤ x11_3) = true := decide_eq_true c24
          clear c24
          have HC25 := Aside0.mk H
          clear H
          obtain ⟨Ao26, co26, eo26⟩ := Kd.R_slice HO_7.out
          subst eo26
          try go_wp2
          have n0_ := Aside0.mk (Kd.R_drew HO_7.out)
          have n1_ := Aside0.mk (Kd.R_drew HO_10.out)
          have n2_ := Aside0.mk (below_drew1 HB.out)
          clear HO_7
          clear HO_10
          clear HB
          have HO_7 := n0_
          have HO_10 := n1_
          have HB := n2_
          clear n0_ n1_ n2_
          have p221 : 0 ≤ (x11_3 : Int) := of_decide_eq_true (by first | (with_reducible assumption) | assumption)
          have q221 : x11_3 < (t218.length : Int) := of_decide_eq_true (by first | (with_reducible assumption) | assumption)
          obtain ⟨ad221, e221, hx221_0⟩ := Kd.at_string (Kd.R_reads' HO_7.out).2.2 x11_3 p221 q221
          cases e221
          replace p221 := eq_true p221
          replace q221 := eq_true q221
          have p222 : 0 ≤ (x11_3 : Int) := of_decide_eq_true (by first | (with_reducible assumption) | assumption)
          have q222 : x11_3 < (t218.length : Int) := of_decide_eq_true (by first | (with_reducible assumption) | assumption)
          obtain ⟨ad222, e222, hx222_0⟩ := Kd.at_string (Kd.R_reads' HO_7.out).2.2 x11_3 p222 q222
          obtain rfl : ad221 = ad222 := (by injection e222)
          replace p222 := eq_true p222
          replace q222 := eq_true q222
          refine start_ (n := 12) (S := fun w' => w'.cell? (ad221.add (x11_3).toNat) = some (.string (rdOf ByteArray.empty t218 x11_3)) ∧ w'.cell? (ad221.add (x11_3).toNat) = some (.string (rdOf ByteArray.empty t218 x11_3))) (ds := []) #[false, false, false, false, false, false, false, false, false, false, false, false] (by kernel_rfl) rfl rfl ⟨hx221_0, hx222_0⟩ (fun hHeld => ?_); refine with_tabW bindleref39_List.tab15 bindleref39_List.bits15 (fun HT_ HW_ => ?_)
          generalize wr.drew = w27 at HO_7 HO_10 HB hx221_0 hx222_0 hHeld ⊢
          refine pure_ (i := 0) (N := some 55) (v := ?_) (a' := ?_) #[true, false, false, false, false, false, false, false, false, false, false, false] rfl rfl (any_of HT_.out (by kernel_rfl)) (fun _ _ _ h => h) (Or.inl ⟨by rfl, ?_⟩) ?_ ?_
          rotate_left
          ·intro w'
           go_simp
           with_reducible rfl
          rotate_left
          ·simp only [Act.put, List.setIfInBounds_toArray, List.set_cons_zero, List.set_cons_succ, i64_w, i32_w]
           rfl
          refine pure_ (i := 1) (N := some 56) (v := ?_) (a' := ?_) #[true, true, false, false, false, false, false, false, false, false, false, false] rfl rfl (any_of HT_.out (by kernel_rfl)) (fun _ _ _ h => h) (Or.inl ⟨by rfl, ?_⟩) ?_ ?_
          rotate_left
          ·intro w'
           go_simp
           with_reducible rfl
          rotate_left
          ·simp only [Act.put, List.setIfInBounds_toArray, List.set_cons_zero, List.set_cons_succ, i64_w, i32_w]
           rfl
          refine pure_ (i := 2) (N := some 57) (v := ?_) (a' := ?_) #[true, true, true, false, false, false, false, false, false, false, false, false] rfl rfl (any_of HT_.out (by kernel_rfl)) (fun _ _ _ h => h) (Or.inl ⟨by rfl, ?_⟩) ?_ ?_
          rotate_left
          ·intro w'
           go_simp
           with_reducible rfl
          rotate_left
          ·simp only [Act.put, List.setIfInBounds_toArray, List.set_cons_zero, List.set_cons_succ, i64_w, i32_w]
           rfl
          refine pure_ (i := 4) (N := some 59) (v := ?_) (a' := ?_) #[true, true, true, false, true, false, false, false, false, false, false, false] rfl rfl (any_of HT_.out (by kernel_rfl)) (fun _ _ _ h => h) (Or.inl ⟨by rfl, ?_⟩) ?_ ?_
          rotate_left
          ·intro w'
           go_simp
           with_reducible rfl
          rotate_left
          ·simp only [Act.put, List.setIfInBounds_toArray, List.set_cons_zero, List.set_cons_succ, i64_w, i32_w]
           rfl
          refine pure_ (i := 5) (N := some 60) (v := ?_) (a' := ?_) #[true, true, true, false, true, true, false, false, false, false, false, false] rfl rfl (any_of HT_.out (by kernel_rfl)) (fun _ _ _ h => h) (Or.inl ⟨by rfl, ?_⟩) ?_ ?_
          rotate_left
          ·intro w'
           go_simp
           with_reducible rfl
          rotate_left
          ·simp only [Act.put, List.setIfInBounds_toArray, List.set_cons_zero, List.set_cons_succ, i64_w, i32_w]
           rfl
          refine pure_ (i := 6) (N := some 61) (v := ?_) (a' := ?_) #[true, true, true, false, true, true, true, false, false, false, false, false] rfl rfl (any_of HT_.out (by kernel_rfl)) (fun _ _ _ h => h) (Or.inl ⟨by rfl, ?_⟩) ?_ ?_
          rotate_left
          ·intro w'
           go_simp
           with_reducible rfl
          rotate_left
          ·simp only [Act.put, List.setIfInBounds_toArray, List.set_cons_zero, List.set_cons_succ, i64_w, i32_w]
           rfl
          refine pure_ (i := 8) (N := some 63) (v := ?_) (a' := ?_) #[true, true, true, false, true, true, true, false, true, false, false, false] rfl rfl (any_of HT_.out (by kernel_rfl)) (fun _ _ _ h => h) (Or.inl ⟨by rfl, ?_⟩) ?_ ?_
          rotate_left
          ·intro w'
           go_simp
           with_reducible rfl
          rotate_left
          ·simp only [Act.put, List.setIfInBounds_toArray, List.set_cons_zero, List.set_cons_succ, i64_w, i32_w]
           rfl
          refine take_ (i := 3) (N := some 58) (v := ?_) (a' := ?_) #[true, true, true, true, true, true, true, false, true, false, false, false] rfl rfl (take_ofW HT_.out HW_.out (by kernel_rfl)) (fun _ _ _ h => h) (Or.inl ⟨by rfl, ?_⟩) hHeld ?_ ?_
          rotate_left
          ·rintro w' ⟨s0, s1⟩
           go_simp
           with_reducible rfl
          rotate_left
          ·simp only [Act.put, List.setIfInBounds_toArray, List.set_cons_zero, List.set_cons_succ, i64_w, i32_w]
           rfl
          refine take_ (i := 7) (N := some 62) (v := ?_) (a' := ?_) #[true, true, true, true, true, true, true, true, true, false, false, false] rfl rfl (take_ofW HT_.out HW_.out (by kernel_rfl)) (fun _ _ _ h => h) (Or.inl ⟨by rfl, ?_⟩) hHeld ?_ ?_
          rotate_left
          ·rintro w' ⟨s0, s1⟩
           go_simp
           with_reducible rfl
          rotate_left
          ·simp only [Act.put, List.setIfInBounds_toArray, List.set_cons_zero, List.set_cons_succ, i64_w, i32_w]
           rfl
          refine pure_ (i := 9) (N := some 64) (v := ?_) (a' := ?_) #[true, true, true, true, true, true, true, true, true, true, false, false] rfl rfl (any_of HT_.out (by kernel_rfl)) (fun _ _ _ h => h) (Or.inl ⟨by rfl, ?_⟩) ?_ ?_
          rotate_left
          ·intro w'
           go_simp
           with_reducible rfl
          rotate_left
          ·simp only [Act.put, List.setIfInBounds_toArray, List.set_cons_zero, List.set_cons_succ, i64_w, i32_w]
           rfl
          refine one_ (i := 10) (N := some 12) #[true, true, true, true, true, true, true, true, true, true, true, false] rfl rfl (one_of HT_.out (by kernel_rfl)) (by decide) (fun K hK => ?_)
          refine box_step ?hg (N := 12) ?hd (cs := #[.string (⟨#[]⟩ : ByteArray), .int .i64 0, .int .i64 0, .bool false, .string (⟨#[]⟩ : ByteArray), .int .i64 0]) (t := 36) ?hr ?_; (case hd => rfl); (case hg => rfl); (case hr => first | (go_simp; done) | (go_simp; rfl))
          intro gb223 hg w28 hbox hb
          have HS0_ := (hb.cell (World.block_lt_of_cell? _ _ (hHeld.1))).trans (hHeld.1)
          have HS1_ := (hb.cell (World.block_lt_of_cell? _ _ (hHeld.2))).trans (hHeld.2)
          have n0_ := Aside0.mk (Kd.R_below (by (with_reducible repeat (first | apply Kd.R_alloc | apply Kd.R_drewN | apply Kd.R_drew)); exact HO_7.out) hb)
          have n1_ := Aside0.mk (Kd.R_below (Kd.R_elderB (by (with_reducible repeat (first | apply Kd.R_alloc | apply Kd.R_drewN | apply Kd.R_drew)); exact HO_10.out) gb223 (Nat.le_of_eq hg.symm)) hb)
          have n2_ := Aside0.mk (below_step (by repeat (first | (with_reducible first | exact HB.out | apply below_alloc | apply pw_below_drewN | apply below_drew1) | exact HB.out)) hb)
          have n3_ := Aside0.mk (hbox)
          have n4_ := Aside0.mk ((by rw [hg]; exact (below_size (by repeat (first | (with_reducible first | exact HB.out | apply below_alloc | apply pw_below_drewN | apply below_drew1) | exact HB.out))) : w.heap.size ≤ gb223))
          have n5_ := Aside0.mk ((by rw [hg]; exact (below_size (by repeat (first | (with_reducible first | exact HB.out | apply below_alloc | apply pw_below_drewN | apply below_drew1) | exact HB.out))) : w.heap.size ≤ gb223))
          clear HO_7
          clear HO_10
          clear HB
          have HO_7 := n0_
          have HO_10 := n1_
          have HB := n2_
          have BK223 := n3_
          have GW223 := n4_
          have GE223 := n5_
          clear n0_ n1_ n2_ n3_ n4_ n5_
          clear hb hbox hg
          refine hK.out _ _ ⟨HS0_, HS1_⟩ (fun hHeld => ?_)
          clear hK K
          refine norm_ (a' := ?_) ?_ ?_
          rotate_left
          ·show Act.put _ (some 12) _ = _
           simp only [Act.put, List.setIfInBounds_toArray, List.set_cons_zero, List.set_cons_succ, i64_w, i32_w]
           rfl
          refine one_ (i := 11) (N := none) #[true, true, true, true, true, true, true, true, true, true, true, true] rfl rfl (one_of HT_.out (by kernel_rfl)) (by decide) (fun K hK => ?_)
          have hs29 : w28.cell? ⟨gb223, 0, none⟩ = some (.string (⟨#[]⟩ : ByteArray)) := (blk_cell BK223.out 0).trans rfl
          have hfs29 := blk_frozen BK223.out 0
          have hs30 : w28.cell? ⟨gb223, 1, none⟩ = some (.int .i64 0) := (blk_cell BK223.out 1).trans rfl
          have hfs30 := blk_frozen BK223.out 1
          have hs31 : w28.cell? ⟨gb223, 2, none⟩ = some (.int .i64 0) := (blk_cell BK223.out 2).trans rfl
          have hfs31 := blk_frozen BK223.out 2
          have hs32 : w28.cell? ⟨gb223, 3, none⟩ = some (.bool false) := (blk_cell BK223.out 3).trans rfl
          have hfs32 := blk_frozen BK223.out 3
          have hs33 : w28.cell? ⟨gb223, 4, none⟩ = some (.string (⟨#[]⟩ : ByteArray)) := (blk_cell BK223.out 4).trans rfl
          have hfs33 := blk_frozen BK223.out 4
          have hs34 : w28.cell? ⟨gb223, 5, none⟩ = some (.int .i64 0) := (blk_cell BK223.out 5).trans rfl
          have hfs34 := blk_frozen BK223.out 5
          refine skip_ (w1 := ?_) (by rfl) rfl ?_ ?_
          rotate_left
          ·go_simp
           rfl
          refine hK.out _ _ ⟨((cell_far (p := ⟨gb223, _, none⟩) (by first | exact Kd.own_blk (Kd.R_ne HO_7.out BK223.out (by decide)) | (rw [add_block]; exact Kd.own_blk (Kd.R_ne HO_7.out BK223.out (by decide))) | (show (Addr.add _ _).block ≠ _; rw [add_block]; exact Kd.own_blk (Kd.R_ne HO_7.out BK223.out (by decide))) | (dsimp only; exact Kd.own_blk (Kd.R_ne HO_7.out BK223.out (by decide)))) _).trans (((cell_far (p := ⟨gb223, _, none⟩) (by first | exact Kd.own_blk (Kd.R_ne HO_7.out BK223.out (by decide)) | (rw [add_block]; exact Kd.own_blk (Kd.R_ne HO_7.out BK223.out (by decide))) | (show (Addr.add _ _).block ≠ _; rw [add_block]; exact Kd.own_blk (Kd.R_ne HO_7.out BK223.out (by decide))) | (dsimp only; exact Kd.own_blk (Kd.R_ne HO_7.out BK223.out (by decide)))) _).trans (((cell_far (p := ⟨gb223, _, none⟩) (by first | exact Kd.own_blk (Kd.R_ne HO_7.out BK223.out (by decide)) | (rw [add_block]; exact Kd.own_blk (Kd.R_ne HO_7.out BK223.out (by decide))) | (show (Addr.add _ _).block ≠ _; rw [add_block]; exact Kd.own_blk (Kd.R_ne HO_7.out BK223.out (by decide))) | (dsimp only; exact Kd.own_blk (Kd.R_ne HO_7.out BK223.out (by decide)))) _).trans (((cell_far (p := ⟨gb223, _, none⟩) (by first | exact Kd.own_blk (Kd.R_ne HO_7.out BK223.out (by decide)) | (rw [add_block]; exact Kd.own_blk (Kd.R_ne HO_7.out BK223.out (by decide))) | (show (Addr.add _ _).block ≠ _; rw [add_block]; exact Kd.own_blk (Kd.R_ne HO_7.out BK223.out (by decide))) | (dsimp only; exact Kd.own_blk (Kd.R_ne HO_7.out BK223.out (by decide)))) _).trans (((cell_far (p := ⟨gb223, _, none⟩) (by first | exact Kd.own_blk (Kd.R_ne HO_7.out BK223.out (by decide)) | (rw [add_block]; exact Kd.own_blk (Kd.R_ne HO_7.out BK223.out (by decide))) | (show (Addr.add _ _).block ≠ _; rw [add_block]; exact Kd.own_blk (Kd.R_ne HO_7.out BK223.out (by decide))) | (dsimp only; exact Kd.own_blk (Kd.R_ne HO_7.out BK223.out (by decide)))) _).trans (((cell_far (p := ⟨gb223, _, none⟩) (by first | exact Kd.own_blk (Kd.R_ne HO_7.out BK223.out (by decide)) | (rw [add_block]; exact Kd.own_blk (Kd.R_ne HO_7.out BK223.out (by decide))) | (show (Addr.add _ _).block ≠ _; rw [add_block]; exact Kd.own_blk (Kd.R_ne HO_7.out BK223.out (by decide))) | (dsimp only; exact Kd.own_blk (Kd.R_ne HO_7.out BK223.out (by decide)))) _).trans (hHeld.1)))))))))))), ((cell_far (p := ⟨gb223, _, none⟩) (by first | exact Kd.own_blk (Kd.R_ne HO_7.out BK223.out (by decide)) | (rw [add_block]; exact Kd.own_blk (Kd.R_ne HO_7.out BK223.out (by decide))) | (show (Addr.add _ _).block ≠ _; rw [add_block]; exact Kd.own_blk (Kd.R_ne HO_7.out BK223.out (by decide))) | (dsimp only; exact Kd.own_blk (Kd.R_ne HO_7.out BK223.out (by decide)))) _).trans (((cell_far (p := ⟨gb223, _, none⟩) (by first | exact Kd.own_blk (Kd.R_ne HO_7.out BK223.out (by decide)) | (rw [add_block]; exact Kd.own_blk (Kd.R_ne HO_7.out BK223.out (by decide))) | (show (Addr.add _ _).block ≠ _; rw [add_block]; exact Kd.own_blk (Kd.R_ne HO_7.out BK223.out (by decide))) | (dsimp only; exact Kd.own_blk (Kd.R_ne HO_7.out BK223.out (by decide)))) _).trans (((cell_far (p := ⟨gb223, _, none⟩) (by first | exact Kd.own_blk (Kd.R_ne HO_7.out BK223.out (by decide)) | (rw [add_block]; exact Kd.own_blk (Kd.R_ne HO_7.out BK223.out (by decide))) | (show (Addr.add _ _).block ≠ _; rw [add_block]; exact Kd.own_blk (Kd.R_ne HO_7.out BK223.out (by decide))) | (dsimp only; exact Kd.own_blk (Kd.R_ne HO_7.out BK223.out (by decide)))) _).trans (((cell_far (p := ⟨gb223, _, none⟩) (by first | exact Kd.own_blk (Kd.R_ne HO_7.out BK223.out (by decide)) | (rw [add_block]; exact Kd.own_blk (Kd.R_ne HO_7.out BK223.out (by decide))) | (show (Addr.add _ _).block ≠ _; rw [add_block]; exact Kd.own_blk (Kd.R_ne HO_7.out BK223.out (by decide))) | (dsimp only; exact Kd.own_blk (Kd.R_ne HO_7.out BK223.out (by decide)))) _).trans (((cell_far (p := ⟨gb223, _, none⟩) (by first | exact Kd.own_blk (Kd.R_ne HO_7.out BK223.out (by decide)) | (rw [add_block]; exact Kd.own_blk (Kd.R_ne HO_7.out BK223.out (by decide))) | (show (Addr.add _ _).block ≠ _; rw [add_block]; exact Kd.own_blk (Kd.R_ne HO_7.out BK223.out (by decide))) | (dsimp only; exact Kd.own_blk (Kd.R_ne HO_7.out BK223.out (by decide)))) _).trans (((cell_far (p := ⟨gb223, _, none⟩) (by first | exact Kd.own_blk (Kd.R_ne HO_7.out BK223.out (by decide)) | (rw [add_block]; exact Kd.own_blk (Kd.R_ne HO_7.out BK223.out (by decide))) | (show (Addr.add _ _).block ≠ _; rw [add_block]; exact Kd.own_blk (Kd.R_ne HO_7.out BK223.out (by decide))) | (dsimp only; exact Kd.own_blk (Kd.R_ne HO_7.out BK223.out (by decide)))) _).trans (hHeld.2))))))))))))⟩ (fun hHeld => ?_)
          clear hK K
          refine done_ (done_of HT_.out (by kernel_rfl)) ?_
          go_upto_if 66 with (fail)
          go_cut [] (fun wc => ∃ (kq : Nat) (x224004_24 : ByteArray), Aside0 (bindleref39_List.j3 kq l0 a1 a2 t218 x10_3 x11_3 (rdOf ByteArray.empty t218 x11_3) 0 0 false x224004_24 a2 = some r) ∧ Aside0 (kq ≤ k3) ∧ Aside0 (Kd.R Kd.string 9 wc w.heap.size (fun _ => True) (.slice (some ad221) t218.length co26) t218) ∧ Aside0 (Kd.R k36 36 wc w.heap.size (fun k_ => k_ ≠ gb223) u10 x10_3) ∧ Aside0 (wc.heap[gb223]? = some (.cells #[.string (rdOf ByteArray.empty t218 x11_3), .int .i64 0, .int .i64 0, .bool false, .string x224004_24, .int .i64 a2] 36 (0, 0))) ∧ Aside0 (Below w.heap.size w wc))
          case first =>
           have H := HC25.out
           clear HC25
           by_cases c35 : a1.toList = ([] : List UInt8)
           ·rw [if_pos c35] at H
            have c35b2 : a1.toList.isEmpty = true := by rw [c35]; rfl
            have c35b0 : (a1.toList == ([] : List UInt8)) = true := beq_iff_eq.mpr c35
            have c35b1 : (a1.toList != ([] : List UInt8)) = false := bne_eq_false_iff_eq.mpr c35
            clear c35
            (first | rw [c35b0] | (simp only [i64_w, i32_w]; rw [c35b0]) | rw [c35b1] | (simp only [c35b2, Bool.not_true, Bool.not_false]) | skip)
            clear c35b2
            have H' := Aside0.mk H
            clear H
            go_wp2
            go_meet
            case rel => exact ⟨_, (rdOf ByteArray.empty t218 x11_3), H', ⟨by have := HJ3.out; have := HK2.out; have := HK3.out; first | omega | exact Nat.le_refl _⟩, ⟨by (with_reducible repeat (first | apply Kd.R_alloc | apply Kd.R_drewN | apply Kd.R_drew)); exact Kd.R_mono (Kd.R_far (p := ⟨gb223, 5, none⟩) (Kd.R_far (p := ⟨gb223, 4, none⟩) (Kd.R_far (p := ⟨gb223, 3, none⟩) (Kd.R_far (p := ⟨gb223, 2, none⟩) (Kd.R_far (p := ⟨gb223, 1, none⟩) (Kd.R_far (p := ⟨gb223, 0, none⟩) (Kd.R_types HO_7.out BK223.out (by decide)) (fun _ hk => hk.2) (.string (rdOf ByteArray.empty t218 x11_3))) (fun _ hk => hk.2) (.int .i64 0)) (fun _ hk => hk.2) (.int .i64 0)) (fun _ hk => hk.2) (.bool false)) (fun _ hk => hk.2) (.string (rdOf ByteArray.empty t218 x11_3))) (fun _ hk => hk.2) (.int .i64 a2)) (fun _ hk => trivial)⟩, ⟨by (with_reducible repeat (first | apply Kd.R_alloc | apply Kd.R_drewN | apply Kd.R_drew)); exact Kd.R_mono (Kd.R_far (p := ⟨gb223, 5, none⟩) (Kd.R_far (p := ⟨gb223, 4, none⟩) (Kd.R_far (p := ⟨gb223, 3, none⟩) (Kd.R_far (p := ⟨gb223, 2, none⟩) (Kd.R_far (p := ⟨gb223, 1, none⟩) (Kd.R_far (p := ⟨gb223, 0, none⟩) (Kd.R_mono HO_10.out (fun k_ hk => (⟨hk, hk.2⟩ : _ ∧ k_ ≠ gb223))) (fun _ hk => hk.2) (.string (rdOf ByteArray.empty t218 x11_3))) (fun _ hk => hk.2) (.int .i64 0)) (fun _ hk => hk.2) (.int .i64 0)) (fun _ hk => hk.2) (.bool false)) (fun _ hk => hk.2) (.string (rdOf ByteArray.empty t218 x11_3))) (fun _ hk => hk.2) (.int .i64 a2)) (fun _ hk => hk.1.2)⟩, ⟨by (with_reducible repeat (first | refine blk_drewN ?_ _ | refine blk_drew ?_ | refine blk_alloc ?_ _)); refine blk_put (cs := #[.string (rdOf ByteArray.empty t218 x11_3), .int .i64 0, .int .i64 0, .bool false, .string (rdOf ByteArray.empty t218 x11_3), .int .i64 0]) ?_ 5 _ rfl; (with_reducible repeat (first | refine blk_drewN ?_ _ | refine blk_drew ?_ | refine blk_alloc ?_ _)); refine blk_put (cs := #[.string (rdOf ByteArray.empty t218 x11_3), .int .i64 0, .int .i64 0, .bool false, .string (⟨#[]⟩ : ByteArray), .int .i64 0]) ?_ 4 _ rfl; (with_reducible repeat (first | refine blk_drewN ?_ _ | refine blk_drew ?_ | refine blk_alloc ?_ _)); refine blk_put (cs := #[.string (rdOf ByteArray.empty t218 x11_3), .int .i64 0, .int .i64 0, .bool false, .string (⟨#[]⟩ : ByteArray), .int .i64 0]) ?_ 3 _ rfl; (with_reducible repeat (first | refine blk_drewN ?_ _ | refine blk_drew ?_ | refine blk_alloc ?_ _)); refine blk_put (cs := #[.string (rdOf ByteArray.empty t218 x11_3), .int .i64 0, .int .i64 0, .bool false, .string (⟨#[]⟩ : ByteArray), .int .i64 0]) ?_ 2 _ rfl; (with_reducible repeat (first | refine blk_drewN ?_ _ | refine blk_drew ?_ | refine blk_alloc ?_ _)); refine blk_put (cs := #[.string (rdOf ByteArray.empty t218 x11_3), .int .i64 0, .int .i64 0, .bool false, .string (⟨#[]⟩ : ByteArray), .int .i64 0]) ?_ 1 _ rfl; (with_reducible repeat (first | refine blk_drewN ?_ _ | refine blk_drew ?_ | refine blk_alloc ?_ _)); refine blk_put (cs := #[.string (⟨#[]⟩ : ByteArray), .int .i64 0, .int .i64 0, .bool false, .string (⟨#[]⟩ : ByteArray), .int .i64 0]) ?_ 0 _ rfl; (with_reducible repeat (first | refine blk_drewN ?_ _ | refine blk_drew ?_ | refine blk_alloc ?_ _)); exact BK223.out⟩, ⟨by repeat (first | (with_reducible first | exact HB.out | apply below_alloc | apply pw_below_drewN | apply below_drew1 | refine below_set ?_ GE223.out) | exact HB.out)⟩⟩
           ·rw [if_neg c35] at H
            have c35b2 : a1.toList.isEmpty = false := by cases hq_ : a1.toList with | nil => exact absurd hq_ c35 | cons _ _ => rfl
            have c35b0 : (a1.toList == ([] : List UInt8)) = false := beq_eq_false_iff_ne.mpr c35
            have c35b1 : (a1.toList != ([] : List UInt8)) = true := bne_iff_ne.mpr c35
            (first | rw [c35b0] | (simp only [i64_w, i32_w]; rw [c35b0]) | rw [c35b1] | (simp only [c35b2, Bool.not_true, Bool.not_false]) | skip)
            clear c35b2
            by_cases c36 : a1.size + 1 ≤ 9223372036854775807
            ·rw [if_pos c36] at H
             have c36b0 := eq_true c36
             have c36b1 : decide (a1.size + 1 ≤ 9223372036854775807) = true := decide_eq_true c36
             try have c36b2 : (9223372036854775807 < a1.size + 1) = False := eq_false (Nat.not_lt.2 c36)
             by_cases c37 : (a1 ++ (⟨#[47]⟩ : ByteArray)).size + (rdOf ByteArray.empty t218 x11_3).size ≤ 9223372036854775807
             ·rw [if_pos c37] at H
              have c37b0 := eq_true c37
              have c37b1 : decide ((a1 ++ (⟨#[47]⟩ : ByteArray)).size + (rdOf ByteArray.empty t218 x11_3).size ≤ 9223372036854775807) = true := decide_eq_true c37
              try have c37b2 : (9223372036854775807 < (a1 ++ (⟨#[47]⟩ : ByteArray)).size + (rdOf ByteArray.empty t218 x11_3).size) = False := eq_false (Nat.not_lt.2 c37)
              try (have c37b3 := c37; simp only [ByteArray.size_append, show ((⟨#[47]⟩ : ByteArray)).size = 1 from rfl] at c37b3; have c37b4 := eq_false (Nat.not_lt.2 c37b3))
              have H' := Aside0.mk H
              clear H
              have p224 : 0 ≤ (x11_3 : Int) := of_decide_eq_true (by first | (with_reducible assumption) | assumption)
              have q224 : x11_3 < (t218.length : Int) := of_decide_eq_true (by first | (with_reducible assumption) | assumption)
              obtain ⟨ad224, e224, hx224_0⟩ := Kd.at_string (Kd.R_reads' HO_7.out).2.2 x11_3 p224 q224
              obtain rfl : ad221 = ad224 := (by injection e224)
              have hn224_0 : ad221.block ≠ gb223 := Kd.own_blk (Kd.R_ne HO_7.out BK223.out (by decide))
              have hn224_1 : ad221.block ≠ gb223 := Kd.own_blk (Kd.R_ne HO_7.out BK223.out (by decide))
              have hn224_2 : ad221.block ≠ gb223 := Kd.own_blk (Kd.R_ne HO_7.out BK223.out (by decide))
              have hn224_3 : ad221.block ≠ gb223 := Kd.own_blk (Kd.R_ne HO_7.out BK223.out (by decide))
              have hn224_4 : ad221.block ≠ gb223 := Kd.own_blk (Kd.R_ne HO_7.out BK223.out (by decide))
              have hn224_5 : ad221.block ≠ gb223 := Kd.own_blk (Kd.R_ne HO_7.out BK223.out (by decide))
              replace hx224_0 := (cell_far (p := ⟨gb223, 0, none⟩) (by first | (rw [add_block]; exact hn224_0) | (show (Addr.add _ _).block ≠ _; rw [add_block]; exact hn224_0) | exact hn224_0) (.string (rdOf ByteArray.empty t218 x11_3))).trans hx224_0
              replace hx224_0 := (cell_far (p := ⟨gb223, 1, none⟩) (by first | (rw [add_block]; exact hn224_1) | (show (Addr.add _ _).block ≠ _; rw [add_block]; exact hn224_1) | exact hn224_1) (.int .i64 0)).trans hx224_0
              replace hx224_0 := (cell_far (p := ⟨gb223, 2, none⟩) (by first | (rw [add_block]; exact hn224_2) | (show (Addr.add _ _).block ≠ _; rw [add_block]; exact hn224_2) | exact hn224_2) (.int .i64 0)).trans hx224_0
              replace hx224_0 := (cell_far (p := ⟨gb223, 3, none⟩) (by first | (rw [add_block]; exact hn224_3) | (show (Addr.add _ _).block ≠ _; rw [add_block]; exact hn224_3) | exact hn224_3) (.bool false)).trans hx224_0
              replace hx224_0 := (cell_far (p := ⟨gb223, 4, none⟩) (by first | (rw [add_block]; exact hn224_4) | (show (Addr.add _ _).block ≠ _; rw [add_block]; exact hn224_4) | exact hn224_4) (.string (rdOf ByteArray.empty t218 x11_3))).trans hx224_0
              replace hx224_0 := (cell_far (p := ⟨gb223, 5, none⟩) (by first | (rw [add_block]; exact hn224_5) | (show (Addr.add _ _).block ≠ _; rw [add_block]; exact hn224_5) | exact hn224_5) (.int .i64 a2)).trans hx224_0
              clear hn224_0
              clear hn224_1
              clear hn224_2
              clear hn224_3
              clear hn224_4
              clear hn224_5
              replace p224 := eq_true p224
              replace q224 := eq_true q224
              have hcz38_0 : w28.cell? ⟨gb223, 0, none⟩ = some (.string (⟨#[]⟩ : ByteArray)) := (blk_cell BK223.out 0).trans rfl
              have hcz38_1 : w28.cell? ⟨gb223, 1, none⟩ = some (.int .i64 0) := (blk_cell BK223.out 1).trans rfl
              have hcz38_2 : w28.cell? ⟨gb223, 2, none⟩ = some (.int .i64 0) := (blk_cell BK223.out 2).trans rfl
              have hcz38_3 : w28.cell? ⟨gb223, 3, none⟩ = some (.bool false) := (blk_cell BK223.out 3).trans rfl
              have hcz38_4 : w28.cell? ⟨gb223, 4, none⟩ = some (.string (⟨#[]⟩ : ByteArray)) := (blk_cell BK223.out 4).trans rfl
              have hcz38_5 : w28.cell? ⟨gb223, 5, none⟩ = some (.int .i64 0) := (blk_cell BK223.out 5).trans rfl
              have hfz38_0 := blk_frozen BK223.out 0
              have hfz38_1 := blk_frozen BK223.out 1
              have hfz38_2 := blk_frozen BK223.out 2
              have hfz38_3 := blk_frozen BK223.out 3
              have hfz38_4 := blk_frozen BK223.out 4
              have hfz38_5 := blk_frozen BK223.out 5
              go_wp2
              go_meet
              case rel => exact ⟨_, ((a1 ++ (⟨#[47]⟩ : ByteArray)) ++ (rdOf ByteArray.empty t218 x11_3)), H', ⟨by have := HJ3.out; have := HK2.out; have := HK3.out; first | omega | exact Nat.le_refl _⟩, ⟨by (with_reducible repeat (first | apply Kd.R_alloc | apply Kd.R_drewN | apply Kd.R_drew)); exact Kd.R_mono (Kd.R_far (p := ⟨gb223, 4, none⟩) (Kd.R_far (p := ⟨gb223, 5, none⟩) (Kd.R_far (p := ⟨gb223, 4, none⟩) (Kd.R_far (p := ⟨gb223, 3, none⟩) (Kd.R_far (p := ⟨gb223, 2, none⟩) (Kd.R_far (p := ⟨gb223, 1, none⟩) (Kd.R_far (p := ⟨gb223, 0, none⟩) (Kd.R_types HO_7.out BK223.out (by decide)) (fun _ hk => hk.2) (.string (rdOf ByteArray.empty t218 x11_3))) (fun _ hk => hk.2) (.int .i64 0)) (fun _ hk => hk.2) (.int .i64 0)) (fun _ hk => hk.2) (.bool false)) (fun _ hk => hk.2) (.string (rdOf ByteArray.empty t218 x11_3))) (fun _ hk => hk.2) (.int .i64 a2)) (fun _ hk => hk.2) (.string ((a1 ++ (⟨#[47]⟩ : ByteArray)) ++ (rdOf ByteArray.empty t218 x11_3)))) (fun _ hk => trivial)⟩, ⟨by (with_reducible repeat (first | apply Kd.R_alloc | apply Kd.R_drewN | apply Kd.R_drew)); exact Kd.R_mono (Kd.R_far (p := ⟨gb223, 4, none⟩) (Kd.R_far (p := ⟨gb223, 5, none⟩) (Kd.R_far (p := ⟨gb223, 4, none⟩) (Kd.R_far (p := ⟨gb223, 3, none⟩) (Kd.R_far (p := ⟨gb223, 2, none⟩) (Kd.R_far (p := ⟨gb223, 1, none⟩) (Kd.R_far (p := ⟨gb223, 0, none⟩) (Kd.R_mono HO_10.out (fun k_ hk => (⟨hk, hk.2⟩ : _ ∧ k_ ≠ gb223))) (fun _ hk => hk.2) (.string (rdOf ByteArray.empty t218 x11_3))) (fun _ hk => hk.2) (.int .i64 0)) (fun _ hk => hk.2) (.int .i64 0)) (fun _ hk => hk.2) (.bool false)) (fun _ hk => hk.2) (.string (rdOf ByteArray.empty t218 x11_3))) (fun _ hk => hk.2) (.int .i64 a2)) (fun _ hk => hk.2) (.string ((a1 ++ (⟨#[47]⟩ : ByteArray)) ++ (rdOf ByteArray.empty t218 x11_3)))) (fun _ hk => hk.1.2)⟩, ⟨by (with_reducible repeat (first | refine blk_drewN ?_ _ | refine blk_drew ?_ | refine blk_alloc ?_ _)); refine blk_put (cs := #[.string (rdOf ByteArray.empty t218 x11_3), .int .i64 0, .int .i64 0, .bool false, .string (rdOf ByteArray.empty t218 x11_3), .int .i64 a2]) ?_ 4 _ rfl; (with_reducible repeat (first | refine blk_drewN ?_ _ | refine blk_drew ?_ | refine blk_alloc ?_ _)); refine blk_put (cs := #[.string (rdOf ByteArray.empty t218 x11_3), .int .i64 0, .int .i64 0, .bool false, .string (rdOf ByteArray.empty t218 x11_3), .int .i64 0]) ?_ 5 _ rfl; (with_reducible repeat (first | refine blk_drewN ?_ _ | refine blk_drew ?_ | refine blk_alloc ?_ _)); refine blk_put (cs := #[.string (rdOf ByteArray.empty t218 x11_3), .int .i64 0, .int .i64 0, .bool false, .string (⟨#[]⟩ : ByteArray), .int .i64 0]) ?_ 4 _ rfl; (with_reducible repeat (first | refine blk_drewN ?_ _ | refine blk_drew ?_ | refine blk_alloc ?_ _)); refine blk_put (cs := #[.string (rdOf ByteArray.empty t218 x11_3), .int .i64 0, .int .i64 0, .bool false, .string (⟨#[]⟩ : ByteArray), .int .i64 0]) ?_ 3 _ rfl; (with_reducible repeat (first | refine blk_drewN ?_ _ | refine blk_drew ?_ | refine blk_alloc ?_ _)); refine blk_put (cs := #[.string (rdOf ByteArray.empty t218 x11_3), .int .i64 0, .int .i64 0, .bool false, .string (⟨#[]⟩ : ByteArray), .int .i64 0]) ?_ 2 _ rfl; (with_reducible repeat (first | refine blk_drewN ?_ _ | refine blk_drew ?_ | refine blk_alloc ?_ _)); refine blk_put (cs := #[.string (rdOf ByteArray.empty t218 x11_3), .int .i64 0, .int .i64 0, .bool false, .string (⟨#[]⟩ : ByteArray), .int .i64 0]) ?_ 1 _ rfl; (with_reducible repeat (first | refine blk_drewN ?_ _ | refine blk_drew ?_ | refine blk_alloc ?_ _)); refine blk_put (cs := #[.string (⟨#[]⟩ : ByteArray), .int .i64 0, .int .i64 0, .bool false, .string (⟨#[]⟩ : ByteArray), .int .i64 0]) ?_ 0 _ rfl; (with_reducible repeat (first | refine blk_drewN ?_ _ | refine blk_drew ?_ | refine blk_alloc ?_ _)); exact BK223.out⟩, ⟨by repeat (first | (with_reducible first | exact HB.out | apply below_alloc | apply pw_below_drewN | apply below_drew1 | refine below_set ?_ GE223.out) | exact HB.out)⟩⟩
             ·rw [if_neg c37] at H
              exact absurd H (by simp)
            ·rw [if_neg c36] at H
             exact absurd H (by simp)
          case rest =>
           clear HC25
           try clear c1
           try clear c2
           try clear p2
           try clear q2
           try clear hx2
           try clear qi2
           try clear c3
           try clear c5
           try clear c5b0
           try clear c5b1
           try clear c6
           try clear c6b0
           try clear p6
           try clear c7
           try clear c7b0
           try clear c9
           try clear c10
           try clear c10b0
           try clear c10b1
           try clear c11
           try clear c11b0
           try clear c11b1
           try clear c13
           try clear c13b0
           try clear c13b1
           try clear c14
           try clear c20
           try clear p20
           try clear q20
           try clear hx20
           try clear c21
           try clear p21
           try clear q21
           try clear hx21
           try clear qi21
           try clear p22
           try clear q22
           try clear hx22
           try clear c23
           try clear c23b0
           try clear c24
           try clear c24b0
           try clear c28
           try clear c29
           try clear c35
           try clear c35b0
           try clear c35b1
           try clear c36
           try clear c36b0
           try clear c36b1
           try clear c36b2
           try clear c37
           try clear c37b0
           try clear c37b1
           try clear c37b2
           try clear c37b3
           try clear c37b4
           try clear hcz38_0
           try clear hcz38_1
           try clear hcz38_2
           try clear hcz38_3
           try clear hcz38_4
           try clear hcz38_5
           try clear hfz38_0
           try clear hfz38_1
           try clear hfz38_2
           try clear hfz38_3
           try clear hfz38_4
           try clear hfz38_5
           try clear hx208_0
           try clear hx208_1
           try clear hx210_0
           try clear hx210_1
           try clear hx214_0
           try clear hx221_0
           try clear hx222_0
           try clear hx224_0
           try clear p2
           try clear p20
           try clear p208
           try clear p21
           try clear p210
           try clear p214
           try clear p221
           try clear p222
           try clear p224
           try clear p6
           try clear q2
           try clear q20
           try clear q208
           try clear q21
           try clear q210
           try clear q214
           try clear q221
           try clear q222
           try clear q224
           obtain ⟨kq, x224004_24, HA, HJ24, HO_7, HO_10, BK223, HB⟩ := hcut
           cases kq with
           | zero => exact absurd HA.out (by simp [bindleref39_List.j3])
           | succ kj24 =>
            have H := HA.out
            clear HA
            simp only [bindleref39_List.j3] at H
            replace H := Option.bind_eq_some_iff.mp H
            obtain ⟨⟨t225, t226⟩, A390, H⟩ := H
            replace H : ((bindleref25_Find.f kj24 l0 x224004_24).bind fun t227 => (if t227 ≥ 0 then (if 0 ≤ t227 then (if t227 < (l0.length : Int) then (if x10_3.length < 2199023255552 then (bindleref39_List.l1 kj24 l0 a1 a2 t218 (x10_3 ++ [(⟨(rdOf ByteArray.empty t218 x11_3), wrap64 (t225 + 1), wrap64 (t226 + (((rd_T49 l0 t227).f1).length : Int)), decide (t225 > 0), x224004_24, a2⟩ : S36)]) (wrap64 (x11_3 + 1))) else (none)) else (none)) else (none)) else (if x10_3.length < 2199023255552 then (bindleref39_List.l1 kj24 l0 a1 a2 t218 (x10_3 ++ [(⟨(rdOf ByteArray.empty t218 x11_3), t225, t226, decide (t225 > 0), x224004_24, a2⟩ : S36)]) (wrap64 (x11_3 + 1))) else (none)))) = some r := H
            have A39 := Aside0.mk A390
            clear A390
            replace H := Option.bind_eq_some_iff.mp H
            obtain ⟨t227, A400, H⟩ := H
            replace H : (if t227 ≥ 0 then (if 0 ≤ t227 then (if t227 < (l0.length : Int) then (if x10_3.length < 2199023255552 then (bindleref39_List.l1 kj24 l0 a1 a2 t218 (x10_3 ++ [(⟨(rdOf ByteArray.empty t218 x11_3), wrap64 (t225 + 1), wrap64 (t226 + (((rd_T49 l0 t227).f1).length : Int)), decide (t225 > 0), x224004_24, a2⟩ : S36)]) (wrap64 (x11_3 + 1))) else (none)) else (none)) else (none)) else (if x10_3.length < 2199023255552 then (bindleref39_List.l1 kj24 l0 a1 a2 t218 (x10_3 ++ [(⟨(rdOf ByteArray.empty t218 x11_3), t225, t226, decide (t225 > 0), x224004_24, a2⟩ : S36)]) (wrap64 (x11_3 + 1))) else (none))) = some r := H
            have A40 := Aside0.mk A400
            clear A400
            by_cases c41 : t227 ≥ 0
            ·rw [if_pos c41] at H
             have c41b0 : decide (0 ≤ t227) = true := decide_eq_true c41
             clear c41
             by_cases c42 : 0 ≤ t227
             ·rw [if_pos c42] at H
              have c42b0 : decide (0 ≤ t227) = true := decide_eq_true c42
              clear c42
              by_cases c43 : t227 < (l0.length : Int)
              ·rw [if_pos c43] at H
               have c43b0 : decide (t227 < (l0.length : Int)) = true := decide_eq_true c43
               clear c43
               by_cases c44 : x10_3.length < 2199023255552
               ·rw [if_pos c44] at H
                have LMc44 := Aside0.mk c44
                clear c44
                obtain ⟨y229, hy229⟩ : ∃ y_ : List (S36), y_ = (x10_3 ++ [(⟨(rdOf ByteArray.empty t218 x11_3), wrap64 (t225 + 1), wrap64 (t226 + (((rd_T49 l0 t227).f1).length : Int)), decide (t225 > 0), x224004_24, a2⟩ : S36)]) := ⟨_, rfl⟩
                replace H : (bindleref39_List.l1 kj24 l0 a1 a2 t218 y229 (wrap64 (x11_3 + 1))) = some r := by first | (rw [hy229]; with_reducible exact H) | (have H2_ := (Option.bind_some _ _).symm.trans H; rw [hy229]; with_reducible exact H2_) | (have H2_ := (Option.bind_some _ _).symm.trans H; with_reducible exact H2_) | with_reducible exact H | (rw [hy229]; exact H) | exact H
                have Ny229 := Aside0.mk hy229
                clear hy229
                have H' := Aside0.mk H
                clear H
                have hcz45_0 : wc.cell? ⟨gb223, 0, none⟩ = some (.string (rdOf ByteArray.empty t218 x11_3)) := (blk_cell BK223.out 0).trans rfl
                have hcz45_1 : wc.cell? ⟨gb223, 1, none⟩ = some (.int .i64 0) := (blk_cell BK223.out 1).trans rfl
                have hcz45_2 : wc.cell? ⟨gb223, 2, none⟩ = some (.int .i64 0) := (blk_cell BK223.out 2).trans rfl
                have hcz45_3 : wc.cell? ⟨gb223, 3, none⟩ = some (.bool false) := (blk_cell BK223.out 3).trans rfl
                have hcz45_4 : wc.cell? ⟨gb223, 4, none⟩ = some (.string x224004_24) := (blk_cell BK223.out 4).trans rfl
                have hcz45_5 : wc.cell? ⟨gb223, 5, none⟩ = some (.int .i64 a2) := (blk_cell BK223.out 5).trans rfl
                have hfz45_0 := blk_frozen BK223.out 0
                have hfz45_1 := blk_frozen BK223.out 1
                have hfz45_2 := blk_frozen BK223.out 2
                have hfz45_3 := blk_frozen BK223.out 3
                have hfz45_4 := blk_frozen BK223.out 4
                have hfz45_5 := blk_frozen BK223.out 5
                try go_wp2_with (first | ((with_reducible refine gate_callee (f := 9) rfl ?_); refine goesL_ (some 79) rfl rfl Tryz.func9 (by kernel_rfl) rfl #[.slice A0 l0.length c0, .string x224004_24] rfl (by (try simp only [List.map_toArray, List.map_cons, List.map_nil]); first | done | rfl | (simp only [List.length_drop, List.length_take]; rfl)) ?_; (with_reducible refine (bindleref39_Total.calls kj24 _ _ l0 x224004_24 t225 t226 _ ?side1 ?side2 A39.out).mono ?_); (case side1 => repeat (first | exact (Kd.C_below HR0.out HB.out) | (with_reducible refine Kd.C_alloc ?_ _) | (with_reducible refine Kd.C_drewN ?_ _) | (with_reducible refine Kd.C_drew ?_))); (case side2 => exact HC0.out); rintro e w46 ⟨rfl, hb⟩; refine ⟨_, rfl, ?_⟩; have n0_ := Aside0.mk (Kd.R_below (by (with_reducible repeat (first | apply Kd.R_alloc | apply Kd.R_drewN | apply Kd.R_drew)); exact HO_7.out) hb); have n1_ := Aside0.mk (Kd.R_below (by (with_reducible repeat (first | apply Kd.R_alloc | apply Kd.R_drewN | apply Kd.R_drew)); exact HO_10.out) hb); have n2_ := Aside0.mk (blk_below (g := gb223) (o := .cells #[.string (rdOf ByteArray.empty t218 x11_3), .int .i64 0, .int .i64 0, .bool false, .string x224004_24, .int .i64 a2] 36 (0, 0)) (by (with_reducible repeat (first | refine blk_drewN ?_ _ | refine blk_drew ?_ | refine blk_alloc ?_ _)); exact BK223.out) hb); have n3_ := Aside0.mk (below_step (by repeat (first | (with_reducible first | exact HB.out | apply below_alloc | apply pw_below_drewN | apply below_drew1 | refine below_set ?_ GE223.out) | exact HB.out)) hb); clear HO_7; clear HO_10; clear BK223; clear HB; have HO_7 := n0_; have HO_10 := n1_; have BK223 := n2_; have HB := n3_; clear n0_ n1_ n2_ n3_; (try clear hb); (try clear hb2); (try clear hk); (try clear hi); have hcz47_0 : w46.cell? ⟨gb223, 0, none⟩ = some (.string (rdOf ByteArray.empty t218 x11_3)) := (blk_cell BK223.out 0).trans rfl; have hcz47_1 : w46.cell? ⟨gb223, 1, none⟩ = some (.int .i64 0) := (blk_cell BK223.out 1).trans rfl; have hcz47_2 : w46.cell? ⟨gb223, 2, none⟩ = some (.int .i64 0) := (blk_cell BK223.out 2).trans rfl; have hcz47_3 : w46.cell? ⟨gb223, 3, none⟩ = some (.bool false) := (blk_cell BK223.out 3).trans rfl; have hcz47_4 : w46.cell? ⟨gb223, 4, none⟩ = some (.string x224004_24) := (blk_cell BK223.out 4).trans rfl; have hcz47_5 : w46.cell? ⟨gb223, 5, none⟩ = some (.int .i64 a2) := (blk_cell BK223.out 5).trans rfl; have hfz47_0 := blk_frozen BK223.out 0; have hfz47_1 := blk_frozen BK223.out 1; have hfz47_2 := blk_frozen BK223.out 2; have hfz47_3 := blk_frozen BK223.out 3; have hfz47_4 := blk_frozen BK223.out 4; have hfz47_5 := blk_frozen BK223.out 5) | ((with_reducible refine gate_callee (f := 20) rfl ?_); refine goesL_ (some 92) rfl rfl Tryz.func20 (by kernel_rfl) rfl #[.slice A0 l0.length c0, .string x224004_24] rfl (by (try simp only [List.map_toArray, List.map_cons, List.map_nil]); first | done | rfl | (simp only [List.length_drop, List.length_take]; rfl)) ?_; (with_reducible refine (bindleref25_Find.calls kj24 _ _ l0 x224004_24 t227 _ ?side1 ?side2 A40.out).mono ?_); (case side1 => exact Kd.C_below HR0.out (by repeat (first | (with_reducible first | exact HB.out | apply below_alloc | apply pw_below_drewN | apply below_drew1 | refine below_set ?_ GE223.out) | exact HB.out))); (case side2 => exact HC0.out); rintro e w' ⟨rfl, ⟨nd, rfl⟩⟩; refine ⟨_, rfl, ?_⟩))
                have hsd_ : ∀ (w : World) (n : Nat) (p : Addr) (v : Value), (w.drewN n).setCell p v = (w.setCell p v).drewN n := fun w n p v => rfl
                (try simp only [hsd_])
                clear hsd_
                have n0_ : Aside0 (Kd.R Kd.string 9 ((((w46.setCell ⟨gb223, 1, none⟩ (.int .i64 t225)).setCell ⟨gb223, 2, none⟩ (.int .i64 t226)).setCell ⟨gb223, 3, none⟩ (.bool (decide (t225 > 0)))).setCell ⟨gb223, 1, none⟩ (.int .i64 (wrap64 (t225 + 1)))) w.heap.size (fun _ => True) (.slice (some ad221) t218.length co26) t218) := ⟨by (with_reducible repeat (first | apply Kd.R_alloc | apply Kd.R_drewN | apply Kd.R_drew)); exact Kd.R_mono (Kd.R_far (p := ⟨gb223, 1, none⟩) (Kd.R_far (p := ⟨gb223, 3, none⟩) (Kd.R_far (p := ⟨gb223, 2, none⟩) (Kd.R_far (p := ⟨gb223, 1, none⟩) (Kd.R_types HO_7.out BK223.out (by decide)) (fun _ hk => hk.2) (.int .i64 t225)) (fun _ hk => hk.2) (.int .i64 t226)) (fun _ hk => hk.2) (.bool (decide (t225 > 0)))) (fun _ hk => hk.2) (.int .i64 (wrap64 (t225 + 1)))) (fun _ hk => trivial)⟩
                have n1_ : Aside0 (Kd.R k36 36 ((((w46.setCell ⟨gb223, 1, none⟩ (.int .i64 t225)).setCell ⟨gb223, 2, none⟩ (.int .i64 t226)).setCell ⟨gb223, 3, none⟩ (.bool (decide (t225 > 0)))).setCell ⟨gb223, 1, none⟩ (.int .i64 (wrap64 (t225 + 1)))) w.heap.size (fun k_ => k_ ≠ gb223) u10 x10_3) := ⟨by (with_reducible repeat (first | apply Kd.R_alloc | apply Kd.R_drewN | apply Kd.R_drew)); exact Kd.R_mono (Kd.R_far (p := ⟨gb223, 1, none⟩) (Kd.R_far (p := ⟨gb223, 3, none⟩) (Kd.R_far (p := ⟨gb223, 2, none⟩) (Kd.R_far (p := ⟨gb223, 1, none⟩) (Kd.R_mono HO_10.out (fun k_ hk => (⟨hk, hk⟩ : _ ∧ k_ ≠ gb223))) (fun _ hk => hk.2) (.int .i64 t225)) (fun _ hk => hk.2) (.int .i64 t226)) (fun _ hk => hk.2) (.bool (decide (t225 > 0)))) (fun _ hk => hk.2) (.int .i64 (wrap64 (t225 + 1)))) (fun _ hk => hk.1)⟩
                have n2_ : Aside0 (((((w46.setCell ⟨gb223, 1, none⟩ (.int .i64 t225)).setCell ⟨gb223, 2, none⟩ (.int .i64 t226)).setCell ⟨gb223, 3, none⟩ (.bool (decide (t225 > 0)))).setCell ⟨gb223, 1, none⟩ (.int .i64 (wrap64 (t225 + 1)))).heap[gb223]? = some (.cells #[.string (rdOf ByteArray.empty t218 x11_3), .int .i64 (wrap64 (t225 + 1)), .int .i64 t226, .bool (decide (t225 > 0)), .string x224004_24, .int .i64 a2] 36 (0, 0))) := ⟨by (with_reducible repeat (first | refine blk_drewN ?_ _ | refine blk_drew ?_ | refine blk_alloc ?_ _)); refine blk_put (cs := #[.string (rdOf ByteArray.empty t218 x11_3), .int .i64 t225, .int .i64 t226, .bool (decide (t225 > 0)), .string x224004_24, .int .i64 a2]) ?_ 1 _ rfl; (with_reducible repeat (first | refine blk_drewN ?_ _ | refine blk_drew ?_ | refine blk_alloc ?_ _)); refine blk_put (cs := #[.string (rdOf ByteArray.empty t218 x11_3), .int .i64 t225, .int .i64 t226, .bool false, .string x224004_24, .int .i64 a2]) ?_ 3 _ rfl; (with_reducible repeat (first | refine blk_drewN ?_ _ | refine blk_drew ?_ | refine blk_alloc ?_ _)); refine blk_put (cs := #[.string (rdOf ByteArray.empty t218 x11_3), .int .i64 t225, .int .i64 0, .bool false, .string x224004_24, .int .i64 a2]) ?_ 2 _ rfl; (with_reducible repeat (first | refine blk_drewN ?_ _ | refine blk_drew ?_ | refine blk_alloc ?_ _)); refine blk_put (cs := #[.string (rdOf ByteArray.empty t218 x11_3), .int .i64 0, .int .i64 0, .bool false, .string x224004_24, .int .i64 a2]) ?_ 1 _ rfl; (with_reducible repeat (first | refine blk_drewN ?_ _ | refine blk_drew ?_ | refine blk_alloc ?_ _)); exact BK223.out⟩
                have n3_ : Aside0 (Below w.heap.size w ((((w46.setCell ⟨gb223, 1, none⟩ (.int .i64 t225)).setCell ⟨gb223, 2, none⟩ (.int .i64 t226)).setCell ⟨gb223, 3, none⟩ (.bool (decide (t225 > 0)))).setCell ⟨gb223, 1, none⟩ (.int .i64 (wrap64 (t225 + 1))))) := ⟨by repeat (first | (with_reducible first | exact HB.out | apply below_alloc | apply pw_below_drewN | apply below_drew1 | refine below_set ?_ GE223.out) | exact HB.out)⟩
                (try clear HO_7)
                (try clear HO_10)
                (try clear BK223)
                (try clear HB)
                generalize ((((w46.setCell ⟨gb223, 1, none⟩ (.int .i64 t225)).setCell ⟨gb223, 2, none⟩ (.int .i64 t226)).setCell ⟨gb223, 3, none⟩ (.bool (decide (t225 > 0)))).setCell ⟨gb223, 1, none⟩ (.int .i64 (wrap64 (t225 + 1)))) = w48 at n0_ n1_ n2_ n3_ ⊢
                have HO_7 := n0_
                have HO_10 := n1_
                have BK223 := n2_
                have HB := n3_
                clear n0_ n1_ n2_ n3_
                (try (rw [drewN_self w48]; generalize hq_ : World.drewN w48 _ = w48; have n0_ : Aside0 (Kd.R k36 36 w48 w.heap.size (fun k_ => k_ ≠ gb223) u10 x10_3) := ⟨by rw [← hq_]; exact (by (with_reducible repeat (first | apply Kd.R_alloc | apply Kd.R_drewN | apply Kd.R_drew)); exact HO_10.out)⟩; have n1_ : Aside0 (Kd.R Kd.string 9 w48 w.heap.size (fun _ => True) (.slice (some ad221) t218.length co26) t218) := ⟨by rw [← hq_]; exact (by (with_reducible repeat (first | apply Kd.R_alloc | apply Kd.R_drewN | apply Kd.R_drew)); exact HO_7.out)⟩; have n2_ : Aside0 (w48.heap[gb223]? = some (.cells #[.string (rdOf ByteArray.empty t218 x11_3), .int .i64 (wrap64 (t225 + 1)), .int .i64 t226, .bool (decide (t225 > 0)), .string x224004_24, .int .i64 a2] 36 (0, 0))) := ⟨by rw [← hq_]; exact (by (with_reducible repeat (first | refine blk_drewN ?_ _ | refine blk_drew ?_ | refine blk_alloc ?_ _)); exact BK223.out)⟩; have n3_ : Aside0 (Below w.heap.size w w48) := ⟨by rw [← hq_]; exact (by repeat (first | (with_reducible first | exact HB.out | apply below_alloc | apply pw_below_drewN | apply below_drew1 | refine below_set ?_ GE223.out) | exact HB.out))⟩; clear HO_10 HO_7 BK223 HB hq_; have HO_10 := n0_; have HO_7 := n1_; have BK223 := n2_; have HB := n3_; clear n0_ n1_ n2_ n3_))
                have n0_ := Aside0.mk (Kd.R_drew HO_7.out)
                have n1_ := Aside0.mk (Kd.R_drew HO_10.out)
                have n2_ := Aside0.mk (blk_drew BK223.out)
                have n3_ := Aside0.mk (below_drew1 HB.out)
                clear HO_7
                clear HO_10
                clear BK223
                clear HB
                have HO_7 := n0_
                have HO_10 := n1_
                have BK223 := n2_
                have HB := n3_
                clear n0_ n1_ n2_ n3_
                have p228 : 0 ≤ (t227 : Int) := of_decide_eq_true (by first | (with_reducible assumption) | assumption)
                have q228 : t227 < (l0.length : Int) := of_decide_eq_true (by first | (with_reducible assumption) | assumption)
                obtain ⟨ad228, A228_1, c228_1, e228, hx228_0, hx228_1, hl228_1, hi228_1⟩ := at_T49 HR0.out t227 p228 q228
                have hw228_1 := hx228_1
                have hw228_0 := hx228_0
                cases e228
                replace hx228_0 := (HB.out.cell (World.block_lt_of_cell? w _ hx228_0)).trans hx228_0
                replace hx228_1 := (HB.out.cell (World.block_lt_of_cell? w _ hx228_1)).trans hx228_1
                have HR228_1 := Aside0.mk hi228_1
                have HC228_1 := Aside0.mk hl228_1
                clear hi228_1 hl228_1
                replace p228 := eq_true p228
                replace q228 := eq_true q228
                refine start_ (n := 11) (S := fun w' => w'.cell? ⟨gb223, 0, none⟩ = some (.string (rdOf ByteArray.empty t218 x11_3)) ∧ w'.cell? ⟨gb223, 1, none⟩ = some (.int .i64 (wrap64 (t225 + 1))) ∧ w'.cell? ⟨gb223, 2, none⟩ = some (.int .i64 t226) ∧ w'.cell? ⟨gb223, 3, none⟩ = some (.bool (decide (t225 > 0))) ∧ w'.cell? ⟨gb223, 4, none⟩ = some (.string x224004_24) ∧ w'.cell? ⟨gb223, 5, none⟩ = some (.int .i64 a2) ∧ w'.cell? (ad228.add ((t227).toNat * 2)) = some (.string ((rd_T49 l0 t227).f0)) ∧ w'.cell? ⟨(ad228.add ((t227).toNat * 2)).block, (ad228.add ((t227).toNat * 2)).off + 1, none⟩ = some (.slice A228_1 ((rd_T49 l0 t227).f1).length c228_1)) (ds := [10]) #[false, false, false, false, false, false, false, false, false, false, false] (by kernel_rfl) rfl rfl ⟨(blk_cell BK223.out 0).trans rfl, (blk_cell BK223.out 1).trans rfl, (blk_cell BK223.out 2).trans rfl, (blk_cell BK223.out 3).trans rfl, (blk_cell BK223.out 4).trans rfl, (blk_cell BK223.out 5).trans rfl, ((HB.out.cell (World.block_lt_of_cell? w _ hw228_0)).trans hw228_0), ((HB.out.cell (World.block_lt_of_cell? w _ hw228_1)).trans hw228_1)⟩ (fun hHeld => ?_); refine with_tabW bindleref39_List.tab25 bindleref39_List.bits25 (fun HT_ HW_ => ?_)
                generalize w48.drew = w49 at HO_7 HO_10 BK223 HB HR228_1 hx228_0 hx228_1 hHeld ⊢
                refine pure_ (i := 0) (N := some 99) (v := ?_) (a' := ?_) #[true, false, false, false, false, false, false, false, false, false, false] rfl rfl (any_of HT_.out (by kernel_rfl)) (fun _ _ _ h => h) (Or.inl ⟨by rfl, ?_⟩) ?_ ?_
                rotate_left
                ·intro w'
                 go_simp
                 with_reducible rfl
                rotate_left
                ·simp only [Act.put, List.setIfInBounds_toArray, List.set_cons_zero, List.set_cons_succ, i64_w, i32_w]
                 rfl
                refine pure_ (i := 2) (N := some 101) (v := ?_) (a' := ?_) #[true, false, true, false, false, false, false, false, false, false, false] rfl rfl (any_of HT_.out (by kernel_rfl)) (fun _ _ _ h => h) (Or.inl ⟨by rfl, ?_⟩) ?_ ?_
                rotate_left
                ·intro w'
                 go_simp
                 with_reducible rfl
                rotate_left
                ·simp only [Act.put, List.setIfInBounds_toArray, List.set_cons_zero, List.set_cons_succ, i64_w, i32_w]
                 rfl
                refine pure_ (i := 3) (N := some 102) (v := ?_) (a' := ?_) #[true, false, true, true, false, false, false, false, false, false, false] rfl rfl (any_of HT_.out (by kernel_rfl)) (fun _ _ _ h => h) (Or.inl ⟨by rfl, ?_⟩) ?_ ?_
                rotate_left
                ·intro w'
                 go_simp
                 with_reducible rfl
                rotate_left
                ·simp only [Act.put, List.setIfInBounds_toArray, List.set_cons_zero, List.set_cons_succ, i64_w, i32_w]
                 rfl
                refine pure_ (i := 4) (N := some 103) (v := ?_) (a' := ?_) #[true, false, true, true, true, false, false, false, false, false, false] rfl rfl (any_of HT_.out (by kernel_rfl)) (fun _ _ _ h => h) (Or.inl ⟨by rfl, ?_⟩) ?_ ?_
                rotate_left
                ·intro w'
                 go_simp
                 with_reducible rfl
                rotate_left
                ·simp only [Act.put, List.setIfInBounds_toArray, List.set_cons_zero, List.set_cons_succ, i64_w, i32_w]
                 rfl
                refine pure_ (i := 5) (N := some 104) (v := ?_) (a' := ?_) #[true, false, true, true, true, true, false, false, false, false, false] rfl rfl (any_of HT_.out (by kernel_rfl)) (fun _ _ _ h => h) (Or.inl ⟨by rfl, ?_⟩) ?_ ?_
                rotate_left
                ·intro w'
                 go_simp
                 with_reducible rfl
                rotate_left
                ·simp only [Act.put, List.setIfInBounds_toArray, List.set_cons_zero, List.set_cons_succ, i64_w, i32_w]
                 rfl
                refine take_ (i := 1) (N := some 100) (v := ?_) (a' := ?_) #[true, true, true, true, true, true, false, false, false, false, false] rfl rfl (take_ofW HT_.out HW_.out (by kernel_rfl)) (fun _ _ _ h => h) (Or.inl ⟨by rfl, ?_⟩) hHeld ?_ ?_
                rotate_left
                ·rintro w' ⟨s0, s1, s2, s3, s4, s5, s6, s7⟩
                 go_simp
                 with_reducible rfl
                rotate_left
                ·simp only [Act.put, List.setIfInBounds_toArray, List.set_cons_zero, List.set_cons_succ, i64_w, i32_w]
                 rfl
                refine take_ (i := 6) (N := some 105) (v := ?_) (a' := ?_) #[true, true, true, true, true, true, true, false, false, false, false] rfl rfl (take_ofW HT_.out HW_.out (by kernel_rfl)) (fun _ _ _ h => h) (Or.inl ⟨by rfl, ?_⟩) hHeld ?_ ?_
                rotate_left
                ·rintro w' ⟨s0, s1, s2, s3, s4, s5, s6, s7⟩
                 go_simp
                 with_reducible rfl
                rotate_left
                ·simp only [Act.put, List.setIfInBounds_toArray, List.set_cons_zero, List.set_cons_succ, i64_w, i32_w]
                 rfl
                refine pure_ (i := 7) (N := some 106) (v := ?_) (a' := ?_) #[true, true, true, true, true, true, true, true, false, false, false] rfl rfl (any_of HT_.out (by kernel_rfl)) (fun _ _ _ h => h) (Or.inl ⟨by rfl, ?_⟩) ?_ ?_
                rotate_left
                ·intro w'
                 go_simp
                 with_reducible rfl
                rotate_left
                ·simp only [Act.put, List.setIfInBounds_toArray, List.set_cons_zero, List.set_cons_succ, i64_w, i32_w]
                 rfl
                refine pure_ (i := 8) (N := some 107) (v := ?_) (a' := ?_) #[true, true, true, true, true, true, true, true, true, false, false] rfl rfl (any_of HT_.out (by kernel_rfl)) (fun _ _ _ h => h) (Or.inl ⟨by rfl, ?_⟩) ?_ ?_
                rotate_left
                ·intro w'
                 go_simp
                 with_reducible rfl
                rotate_left
                ·simp only [Act.put, List.setIfInBounds_toArray, List.set_cons_zero, List.set_cons_succ, i64_w, i32_w]
                 rfl
                refine pure_ (i := 9) (N := some 108) (v := ?_) (a' := ?_) #[true, true, true, true, true, true, true, true, true, true, false] rfl rfl (any_of HT_.out (by kernel_rfl)) (fun _ _ _ h => h) (Or.inl ⟨by rfl, ?_⟩) ?_ ?_
                rotate_left
                ·intro w'
                 go_simp
                 with_reducible rfl
                rotate_left
                ·simp only [Act.put, List.setIfInBounds_toArray, List.set_cons_zero, List.set_cons_succ, i64_w, i32_w]
                 rfl
                refine last_ (i := 10) (N := none) #[true, true, true, true, true, true, true, true, true, true, true] rfl rfl (one_of HT_.out (by kernel_rfl)) (by decide) (fun K hK => ?_)
                have hs50 : w49.cell? ⟨gb223, 2, none⟩ = some (.int .i64 t226) := (blk_cell BK223.out 2).trans rfl
                have hfs50 := blk_frozen BK223.out 2
                refine skip_ (w1 := ?_) (by rfl) rfl ?_ ?_
                rotate_left
                ·go_simp
                 rfl
                refine hK.out _ _ ?_
                clear hK K
                refine done_ (done_of HT_.out (by kernel_rfl)) ?_
                have hcz51_0 : w49.cell? ⟨gb223, 0, none⟩ = some (.string (rdOf ByteArray.empty t218 x11_3)) := (blk_cell BK223.out 0).trans rfl
                have hcz51_1 : w49.cell? ⟨gb223, 1, none⟩ = some (.int .i64 (wrap64 (t225 + 1))) := (blk_cell BK223.out 1).trans rfl
                have hcz51_2 : w49.cell? ⟨gb223, 2, none⟩ = some (.int .i64 t226) := (blk_cell BK223.out 2).trans rfl
                have hcz51_3 : w49.cell? ⟨gb223, 3, none⟩ = some (.bool (decide (t225 > 0))) := (blk_cell BK223.out 3).trans rfl
                have hcz51_4 : w49.cell? ⟨gb223, 4, none⟩ = some (.string x224004_24) := (blk_cell BK223.out 4).trans rfl
                have hcz51_5 : w49.cell? ⟨gb223, 5, none⟩ = some (.int .i64 a2) := (blk_cell BK223.out 5).trans rfl
                have hfz51_0 := blk_frozen BK223.out 0
                have hfz51_1 := blk_frozen BK223.out 1
                have hfz51_2 := blk_frozen BK223.out 2
                have hfz51_3 := blk_frozen BK223.out 3
                have hfz51_4 := blk_frozen BK223.out 4
                have hfz51_5 := blk_frozen BK223.out 5
                try go_wp2_with (first | ((with_reducible refine gate_builtin (b := .append) (xs := #[.tmp 109, .tmp 111]) rfl ?_); at_builtin; refine Kd.R_append k36 (w0 := w) w.heap.size rfl (.tmp 109) (.tmp 111) 29 36 (.agg #[(.string ⟨#[]⟩), (.int .i64 0), (.int .i64 0), (.bool false), (.string ⟨#[]⟩), (.int .i64 0)]) 64 rfl Tryz.underlying29 info36 rfl (by decide) (by omega) u10 x10_3 (⟨(rdOf ByteArray.empty t218 x11_3), wrap64 (t225 + 1), wrap64 (t226 + (((rd_T49 l0 t227).f1).length : Int)), decide (t225 > 0), x224004_24, a2⟩ : S36) [.string (rdOf ByteArray.empty t218 x11_3), .int .i64 (wrap64 (t225 + 1)), .int .i64 (wrap64 (t226 + (((rd_T49 l0 t227).f1).length : Int))), .bool (decide (t225 > 0)), .string x224004_24, .int .i64 a2] (fun k_ => k_ ≠ gb223) (fun _ => False) rfl (by first | (go_simp; done) | (go_simp; rfl)) ?aP (fun _ hk => hk.elim) ?aF ?aO ?aB ?aS ?aL ?_; (case aP => exact k36_mkM _ _ _ (⟨(rdOf ByteArray.empty t218 x11_3), wrap64 (t225 + 1), wrap64 (t226 + (((rd_T49 l0 t227).f1).length : Int)), decide (t225 > 0), x224004_24, a2⟩ : S36)); (case aB => exact (by repeat (first | (with_reducible first | exact HB.out | apply below_alloc | apply pw_below_drewN | apply below_drew1 | refine below_set ?_ GE223.out) | exact HB.out))); (case aF => exact (fun k_ hk => Kd.freshB (g := gb223) (o := .cells #[.string (rdOf ByteArray.empty t218 x11_3), .int .i64 (wrap64 (t225 + 1)), .int .i64 (wrap64 (t226 + (((rd_T49 l0 t227).f1).length : Int))), .bool (decide (t225 > 0)), .string x224004_24, .int .i64 a2] 36 (0, 0)) (by (with_reducible repeat (first | refine blk_drewN ?_ _ | refine blk_drew ?_ | refine blk_alloc ?_ _)); refine blk_put (cs := #[.string (rdOf ByteArray.empty t218 x11_3), .int .i64 (wrap64 (t225 + 1)), .int .i64 t226, .bool (decide (t225 > 0)), .string x224004_24, .int .i64 a2]) ?_ 2 _ rfl; (with_reducible repeat (first | refine blk_drewN ?_ _ | refine blk_drew ?_ | refine blk_alloc ?_ _)); exact BK223.out) k_ hk)); (case aO => exact (by (with_reducible repeat (first | apply Kd.R_alloc | apply Kd.R_drewN | apply Kd.R_drew)); exact Kd.R_mono (Kd.R_far (p := ⟨gb223, 2, none⟩) (Kd.R_mono HO_10.out (fun k_ hk => (⟨hk, hk⟩ : _ ∧ k_ ≠ gb223))) (fun _ hk => hk.2) (.int .i64 (wrap64 (t226 + (((rd_T49 l0 t227).f1).length : Int))))) (fun _ hk => hk.1))); (case aS => exact (below_size (by repeat (first | (with_reducible first | exact HB.out | apply below_alloc | apply pw_below_drewN | apply below_drew1 | refine below_set ?_ GE223.out) | exact HB.out)))); (case aL => have := LMc44.out; omega); intro v230 w52 ho hb hg hat; rw [← Ny229.out] at ho; have n0_ := Aside0.mk (Kd.R_over' (by (with_reducible repeat (first | apply Kd.R_alloc | apply Kd.R_drewN | apply Kd.R_drew)); exact (Kd.R_mono (Kd.R_far (p := ⟨gb223, 2, none⟩) (Kd.R_types HO_7.out BK223.out (by decide)) (fun _ hk => hk.2) (.int .i64 (wrap64 (t226 + (((rd_T49 l0 t227).f1).length : Int))))) (fun _ h_ => h_.1))) (Kd.R_typed (by (with_reducible repeat (first | apply Kd.R_alloc | apply Kd.R_drewN | apply Kd.R_drew)); exact (Kd.R_mono (Kd.R_far (p := ⟨gb223, 2, none⟩) (Kd.R_mono HO_10.out (fun k_ hk => (⟨hk, hk⟩ : _ ∧ k_ ≠ gb223))) (fun _ hk => hk.2) (.int .i64 (wrap64 (t226 + (((rd_T49 l0 t227).f1).length : Int))))) (fun _ h_ => h_.1)))) (by decide) hg); have n1_ := Aside0.mk (blk_grown (g := gb223) (o := .cells #[.string (rdOf ByteArray.empty t218 x11_3), .int .i64 (wrap64 (t225 + 1)), .int .i64 (wrap64 (t226 + (((rd_T49 l0 t227).f1).length : Int))), .bool (decide (t225 > 0)), .string x224004_24, .int .i64 a2] 36 (0, 0)) (by (with_reducible repeat (first | refine blk_drewN ?_ _ | refine blk_drew ?_ | refine blk_alloc ?_ _)); refine blk_put (cs := #[.string (rdOf ByteArray.empty t218 x11_3), .int .i64 (wrap64 (t225 + 1)), .int .i64 t226, .bool (decide (t225 > 0)), .string x224004_24, .int .i64 a2]) ?_ 2 _ rfl; (with_reducible repeat (first | refine blk_drewN ?_ _ | refine blk_drew ?_ | refine blk_alloc ?_ _)); exact BK223.out) hg (Kd.R_away HO_10.out (fun _ hk => hk))); have n2_ := Aside0.mk (hb); have n3_ := Aside0.mk (ho); clear HO_7; clear BK223; clear HB; clear HO_10; have HO_7 := n0_; have BK223 := n1_; have HB := n2_; have HO231 := n3_; clear n0_ n1_ n2_ n3_; clear ho hb hg hat))
                go_roundg kj24
                case measure => have := HJ3.out; have := HK2.out; have := HK3.out; have := HJ24.out; omega
                case rel => exact ⟨(y229), (wrap64 (x11_3 + 1)), (by first | rfl | (simp only [YtkccjohhakljnaaGreatDoorMpHelp.leq_not, YtkccjohhakljnaaGreatDoorMpHelp.gtr_less]; done) | (simp; done) | (simp [*]; done)), H', ⟨by have := HJ3.out; have := HK2.out; have := HK3.out; have := HJ24.out; omega⟩, ⟨by (with_reducible repeat (first | apply Kd.R_alloc | apply Kd.R_drewN | apply Kd.R_drew)); exact HO_7.out⟩, ⟨by (with_reducible repeat (first | apply Kd.R_alloc | apply Kd.R_drewN | apply Kd.R_drew)); exact Kd.R_mono HO231.out (fun _ hk => trivial)⟩, ⟨by repeat (first | (with_reducible first | exact HB.out | apply below_alloc | apply pw_below_drewN | apply below_drew1 | refine below_set ?_ GE223.out) | exact HB.out)⟩⟩
               ·rw [if_neg c44] at H
                exact absurd H (by simp)
              ·rw [if_neg c43] at H
               exact absurd H (by simp)
             ·rw [if_neg c42] at H
              exact absurd H (by simp)
            ·rw [if_neg c41] at H
             have c41b0 : decide (0 ≤ t227) = false := decide_eq_false c41
             clear c41
             by_cases c53 : x10_3.length < 2199023255552
             ·rw [if_pos c53] at H
              have LMc53 := Aside0.mk c53
              clear c53
              obtain ⟨y232, hy232⟩ : ∃ y_ : List (S36), y_ = (x10_3 ++ [(⟨(rdOf ByteArray.empty t218 x11_3), t225, t226, decide (t225 > 0), x224004_24, a2⟩ : S36)]) := ⟨_, rfl⟩
              replace H : (bindleref39_List.l1 kj24 l0 a1 a2 t218 y232 (wrap64 (x11_3 + 1))) = some r := by first | (rw [hy232]; with_reducible exact H) | (have H2_ := (Option.bind_some _ _).symm.trans H; rw [hy232]; with_reducible exact H2_) | (have H2_ := (Option.bind_some _ _).symm.trans H; with_reducible exact H2_) | with_reducible exact H | (rw [hy232]; exact H) | exact H
              have Ny232 := Aside0.mk hy232
              clear hy232
              have H' := Aside0.mk H
              clear H
              have hcz54_0 : wc.cell? ⟨gb223, 0, none⟩ = some (.string (rdOf ByteArray.empty t218 x11_3)) := (blk_cell BK223.out 0).trans rfl
              have hcz54_1 : wc.cell? ⟨gb223, 1, none⟩ = some (.int .i64 0) := (blk_cell BK223.out 1).trans rfl
              have hcz54_2 : wc.cell? ⟨gb223, 2, none⟩ = some (.int .i64 0) := (blk_cell BK223.out 2).trans rfl
              have hcz54_3 : wc.cell? ⟨gb223, 3, none⟩ = some (.bool false) := (blk_cell BK223.out 3).trans rfl
              have hcz54_4 : wc.cell? ⟨gb223, 4, none⟩ = some (.string x224004_24) := (blk_cell BK223.out 4).trans rfl
              have hcz54_5 : wc.cell? ⟨gb223, 5, none⟩ = some (.int .i64 a2) := (blk_cell BK223.out 5).trans rfl
              have hfz54_0 := blk_frozen BK223.out 0
              have hfz54_1 := blk_frozen BK223.out 1
              have hfz54_2 := blk_frozen BK223.out 2
              have hfz54_3 := blk_frozen BK223.out 3
              have hfz54_4 := blk_frozen BK223.out 4
              have hfz54_5 := blk_frozen BK223.out 5
              go_wp2_with (first | ((with_reducible refine gate_callee (f := 9) rfl ?_); refine goesL_ (some 79) rfl rfl Tryz.func9 (by kernel_rfl) rfl #[.slice A0 l0.length c0, .string x224004_24] rfl (by (try simp only [List.map_toArray, List.map_cons, List.map_nil]); first | done | rfl | (simp only [List.length_drop, List.length_take]; rfl)) ?_; (with_reducible refine (bindleref39_Total.calls kj24 _ _ l0 x224004_24 t225 t226 _ ?side1 ?side2 A39.out).mono ?_); (case side1 => repeat (first | exact (Kd.C_below HR0.out HB.out) | (with_reducible refine Kd.C_alloc ?_ _) | (with_reducible refine Kd.C_drewN ?_ _) | (with_reducible refine Kd.C_drew ?_))); (case side2 => exact HC0.out); rintro e w55 ⟨rfl, hb⟩; refine ⟨_, rfl, ?_⟩; have n0_ := Aside0.mk (Kd.R_below (by (with_reducible repeat (first | apply Kd.R_alloc | apply Kd.R_drewN | apply Kd.R_drew)); exact HO_7.out) hb); have n1_ := Aside0.mk (Kd.R_below (by (with_reducible repeat (first | apply Kd.R_alloc | apply Kd.R_drewN | apply Kd.R_drew)); exact HO_10.out) hb); have n2_ := Aside0.mk (blk_below (g := gb223) (o := .cells #[.string (rdOf ByteArray.empty t218 x11_3), .int .i64 0, .int .i64 0, .bool false, .string x224004_24, .int .i64 a2] 36 (0, 0)) (by (with_reducible repeat (first | refine blk_drewN ?_ _ | refine blk_drew ?_ | refine blk_alloc ?_ _)); exact BK223.out) hb); have n3_ := Aside0.mk (below_step (by repeat (first | (with_reducible first | exact HB.out | apply below_alloc | apply pw_below_drewN | apply below_drew1 | refine below_set ?_ GE223.out) | exact HB.out)) hb); clear HO_7; clear HO_10; clear BK223; clear HB; have HO_7 := n0_; have HO_10 := n1_; have BK223 := n2_; have HB := n3_; clear n0_ n1_ n2_ n3_; (try clear hb); (try clear hb2); (try clear hk); (try clear hi); have hcz56_0 : w55.cell? ⟨gb223, 0, none⟩ = some (.string (rdOf ByteArray.empty t218 x11_3)) := (blk_cell BK223.out 0).trans rfl; have hcz56_1 : w55.cell? ⟨gb223, 1, none⟩ = some (.int .i64 0) := (blk_cell BK223.out 1).trans rfl; have hcz56_2 : w55.cell? ⟨gb223, 2, none⟩ = some (.int .i64 0) := (blk_cell BK223.out 2).trans rfl; have hcz56_3 : w55.cell? ⟨gb223, 3, none⟩ = some (.bool false) := (blk_cell BK223.out 3).trans rfl; have hcz56_4 : w55.cell? ⟨gb223, 4, none⟩ = some (.string x224004_24) := (blk_cell BK223.out 4).trans rfl; have hcz56_5 : w55.cell? ⟨gb223, 5, none⟩ = some (.int .i64 a2) := (blk_cell BK223.out 5).trans rfl; have hfz56_0 := blk_frozen BK223.out 0; have hfz56_1 := blk_frozen BK223.out 1; have hfz56_2 := blk_frozen BK223.out 2; have hfz56_3 := blk_frozen BK223.out 3; have hfz56_4 := blk_frozen BK223.out 4; have hfz56_5 := blk_frozen BK223.out 5) | ((with_reducible refine gate_callee (f := 20) rfl ?_); refine goesL_ (some 92) rfl rfl Tryz.func20 (by kernel_rfl) rfl #[.slice A0 l0.length c0, .string x224004_24] rfl (by (try simp only [List.map_toArray, List.map_cons, List.map_nil]); first | done | rfl | (simp only [List.length_drop, List.length_take]; rfl)) ?_; (with_reducible refine (bindleref25_Find.calls kj24 _ _ l0 x224004_24 t227 _ ?side1 ?side2 A40.out).mono ?_); (case side1 => exact Kd.C_below HR0.out (by repeat (first | (with_reducible first | exact HB.out | apply below_alloc | apply pw_below_drewN | apply below_drew1 | refine below_set ?_ GE223.out) | exact HB.out))); (case side2 => exact HC0.out); rintro e w' ⟨rfl, ⟨nd, rfl⟩⟩; refine ⟨_, rfl, ?_⟩) | ((with_reducible refine gate_builtin (b := .append) (xs := #[.tmp 109, .tmp 111]) rfl ?_); at_builtin; refine Kd.R_append k36 (w0 := w) w.heap.size rfl (.tmp 109) (.tmp 111) 29 36 (.agg #[(.string ⟨#[]⟩), (.int .i64 0), (.int .i64 0), (.bool false), (.string ⟨#[]⟩), (.int .i64 0)]) 64 rfl Tryz.underlying29 info36 rfl (by decide) (by omega) u10 x10_3 (⟨(rdOf ByteArray.empty t218 x11_3), t225, t226, decide (t225 > 0), x224004_24, a2⟩ : S36) [.string (rdOf ByteArray.empty t218 x11_3), .int .i64 t225, .int .i64 t226, .bool (decide (t225 > 0)), .string x224004_24, .int .i64 a2] (fun k_ => k_ ≠ gb223) (fun _ => False) rfl (by first | (go_simp; done) | (go_simp; rfl)) ?aP (fun _ hk => hk.elim) ?aF ?aO ?aB ?aS ?aL ?_; (case aP => exact k36_mkM _ _ _ (⟨(rdOf ByteArray.empty t218 x11_3), t225, t226, decide (t225 > 0), x224004_24, a2⟩ : S36)); (case aB => exact (by repeat (first | (with_reducible first | exact HB.out | apply below_alloc | apply pw_below_drewN | apply below_drew1 | refine below_set ?_ GE223.out) | exact HB.out))); (case aF => exact (fun k_ hk => Kd.freshB (g := gb223) (o := .cells #[.string (rdOf ByteArray.empty t218 x11_3), .int .i64 t225, .int .i64 t226, .bool (decide (t225 > 0)), .string x224004_24, .int .i64 a2] 36 (0, 0)) (by (with_reducible repeat (first | refine blk_drewN ?_ _ | refine blk_drew ?_ | refine blk_alloc ?_ _)); refine blk_put (cs := #[.string (rdOf ByteArray.empty t218 x11_3), .int .i64 t225, .int .i64 t226, .bool false, .string x224004_24, .int .i64 a2]) ?_ 3 _ rfl; (with_reducible repeat (first | refine blk_drewN ?_ _ | refine blk_drew ?_ | refine blk_alloc ?_ _)); refine blk_put (cs := #[.string (rdOf ByteArray.empty t218 x11_3), .int .i64 t225, .int .i64 0, .bool false, .string x224004_24, .int .i64 a2]) ?_ 2 _ rfl; (with_reducible repeat (first | refine blk_drewN ?_ _ | refine blk_drew ?_ | refine blk_alloc ?_ _)); refine blk_put (cs := #[.string (rdOf ByteArray.empty t218 x11_3), .int .i64 0, .int .i64 0, .bool false, .string x224004_24, .int .i64 a2]) ?_ 1 _ rfl; (with_reducible repeat (first | refine blk_drewN ?_ _ | refine blk_drew ?_ | refine blk_alloc ?_ _)); exact BK223.out) k_ hk)); (case aO => exact (by (with_reducible repeat (first | apply Kd.R_alloc | apply Kd.R_drewN | apply Kd.R_drew)); exact Kd.R_mono (Kd.R_far (p := ⟨gb223, 3, none⟩) (Kd.R_far (p := ⟨gb223, 2, none⟩) (Kd.R_far (p := ⟨gb223, 1, none⟩) (Kd.R_mono HO_10.out (fun k_ hk => (⟨hk, hk⟩ : _ ∧ k_ ≠ gb223))) (fun _ hk => hk.2) (.int .i64 t225)) (fun _ hk => hk.2) (.int .i64 t226)) (fun _ hk => hk.2) (.bool (decide (t225 > 0)))) (fun _ hk => hk.1))); (case aS => exact (below_size (by repeat (first | (with_reducible first | exact HB.out | apply below_alloc | apply pw_below_drewN | apply below_drew1 | refine below_set ?_ GE223.out) | exact HB.out)))); (case aL => have := LMc53.out; omega); intro v233 w57 ho hb hg hat; rw [← Ny232.out] at ho; have n0_ := Aside0.mk (Kd.R_over' (by (with_reducible repeat (first | apply Kd.R_alloc | apply Kd.R_drewN | apply Kd.R_drew)); exact (Kd.R_mono (Kd.R_far (p := ⟨gb223, 3, none⟩) (Kd.R_far (p := ⟨gb223, 2, none⟩) (Kd.R_far (p := ⟨gb223, 1, none⟩) (Kd.R_types HO_7.out BK223.out (by decide)) (fun _ hk => hk.2) (.int .i64 t225)) (fun _ hk => hk.2) (.int .i64 t226)) (fun _ hk => hk.2) (.bool (decide (t225 > 0)))) (fun _ h_ => h_.1))) (Kd.R_typed (by (with_reducible repeat (first | apply Kd.R_alloc | apply Kd.R_drewN | apply Kd.R_drew)); exact (Kd.R_mono (Kd.R_far (p := ⟨gb223, 3, none⟩) (Kd.R_far (p := ⟨gb223, 2, none⟩) (Kd.R_far (p := ⟨gb223, 1, none⟩) (Kd.R_mono HO_10.out (fun k_ hk => (⟨hk, hk⟩ : _ ∧ k_ ≠ gb223))) (fun _ hk => hk.2) (.int .i64 t225)) (fun _ hk => hk.2) (.int .i64 t226)) (fun _ hk => hk.2) (.bool (decide (t225 > 0)))) (fun _ h_ => h_.1)))) (by decide) hg); have n1_ := Aside0.mk (blk_grown (g := gb223) (o := .cells #[.string (rdOf ByteArray.empty t218 x11_3), .int .i64 t225, .int .i64 t226, .bool (decide (t225 > 0)), .string x224004_24, .int .i64 a2] 36 (0, 0)) (by (with_reducible repeat (first | refine blk_drewN ?_ _ | refine blk_drew ?_ | refine blk_alloc ?_ _)); refine blk_put (cs := #[.string (rdOf ByteArray.empty t218 x11_3), .int .i64 t225, .int .i64 t226, .bool false, .string x224004_24, .int .i64 a2]) ?_ 3 _ rfl; (with_reducible repeat (first | refine blk_drewN ?_ _ | refine blk_drew ?_ | refine blk_alloc ?_ _)); refine blk_put (cs := #[.string (rdOf ByteArray.empty t218 x11_3), .int .i64 t225, .int .i64 0, .bool false, .string x224004_24, .int .i64 a2]) ?_ 2 _ rfl; (with_reducible repeat (first | refine blk_drewN ?_ _ | refine blk_drew ?_ | refine blk_alloc ?_ _)); refine blk_put (cs := #[.string (rdOf ByteArray.empty t218 x11_3), .int .i64 0, .int .i64 0, .bool false, .string x224004_24, .int .i64 a2]) ?_ 1 _ rfl; (with_reducible repeat (first | refine blk_drewN ?_ _ | refine blk_drew ?_ | refine blk_alloc ?_ _)); exact BK223.out) hg (Kd.R_away HO_10.out (fun _ hk => hk))); have n2_ := Aside0.mk (hb); have n3_ := Aside0.mk (ho); clear HO_7; clear BK223; clear HB; clear HO_10; have HO_7 := n0_; have BK223 := n1_; have HB := n2_; have HO234 := n3_; clear n0_ n1_ n2_ n3_; clear ho hb hg hat))
              go_roundg kj24
              case measure => have := HJ3.out; have := HK2.out; have := HK3.out; have := HJ24.out; omega
              case rel => exact ⟨(y232), (wrap64 (x11_3 + 1)), (by first | rfl | (simp only [YtkccjohhakljnaaGreatDoorMpHelp.leq_not, YtkccjohhakljnaaGreatDoorMpHelp.gtr_less]; done) | (simp; done) | (simp [*]; done)), H', ⟨by have := HJ3.out; have := HK2.out; have := HK3.out; have := HJ24.out; omega⟩, ⟨by (with_reducible repeat (first | apply Kd.R_alloc | apply Kd.R_drewN | apply Kd.R_drew)); exact HO_7.out⟩, ⟨by (with_reducible repeat (first | apply Kd.R_alloc | apply Kd.R_drewN | apply Kd.R_drew)); exact Kd.R_mono HO234.out (fun _ hk => trivial)⟩, ⟨by repeat (first | (with_reducible first | exact HB.out | apply below_alloc | apply pw_below_drewN | apply below_drew1 | refine below_set ?_ GE223.out) | exact HB.out)⟩⟩
             ·rw [if_neg c53] at H
              exact absurd H (by simp)
         ·rw [if_neg c24] at H
          exact absurd H (by simp)
        ·rw [if_neg c23] at H
         have c23b0 : decide (x11_3 < (t218.length : Int)) = false := decide_eq_false c23
         clear c23
         obtain rfl := Option.some.inj H
         obtain ⟨Ao58, co58, eo58⟩ := Kd.R_slice HO_7.out
         subst eo58
         go_wp2
         go_ret
         exact ⟨_, by first | rfl | (simp [errW_none, errW_some] <;> rfl) | (simp [*, errW_none, errW_some] <;> rfl), by (with_reducible repeat (first | apply Kd.R_alloc | apply Kd.R_drewN | apply Kd.R_drew)); exact HO_10.out, by repeat (first | (with_reducible first | exact HB.out | apply below_alloc | apply pw_below_drewN | apply below_drew1) | exact HB.out)⟩

end Go.Proofs.YtkccjohhakljnaaGreatDoor.PTreeWalks
