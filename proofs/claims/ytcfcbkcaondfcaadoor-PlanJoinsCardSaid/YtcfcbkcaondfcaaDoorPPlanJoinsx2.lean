/- The machine side of a law: for each Go function that it uses a Lean function with the same answers, and the proof that the Go code comes to them; or the row of the law over these. Written by a program of this session. -/
import Derived.Test.YtcfcbkcaondfcaaDoorPPlanJoinsx0
namespace Go.Proofs.YtcfcbkcaondfcaaDoor.PPlanJoins
open Go.RowKit Go.Proofs.YtcfcbkcaondfcaaDoorW.PrintWords Go.Proofs.YtcfcbkcaondfcaaDoorW.PrintLast Go.Proofs.YtcfcbkcaondfcaaDoorW.PrintMore
attribute [local go_sem] max2_int min2_int max_two min_two max_three min_three max_four min_four   -- for this text's walks alone
set_option linter.unusedVariables false
set_option linter.unusedSimpArgs false

/-! ### bindleref15_Same: function 16 -/
def bindleref15_Same.l0 : Nat → List ByteArray → List ByteArray → Int → Option (Bool)
 | 0, _, _, _ => none
 | k + 1, x0, x1, x5 => if x5 < (x0.length : Int) then (if 0 ≤ x5 then (if x5 < (x1.length : Int) then (if (rdOf ByteArray.empty x0 x5).toList = (rdOf ByteArray.empty x1 x5).toList then (bindleref15_Same.l0 k x0 x1 (wrap64 (x5 + 1))) else (some false)) else (none)) else (none)) else (some true)
def bindleref15_Same.f (k : Nat) (l0 : List ByteArray) (l1 : List ByteArray) : Option (Bool) := if (l0.length : Int) = (l1.length : Int) then (bindleref15_Same.l0 k l0 l1 0) else (some false)
theorem bindleref15_Same.mono_l : ∀ k, (∀ y0 y1 y2, LeO (bindleref15_Same.l0 k y0 y1 y2) (bindleref15_Same.l0 (k + 1) y0 y1 y2))
 | 0 => fun _ _ _ r h => by simp [bindleref15_Same.l0] at h
 | k + 1 => by
  have ih0 := bindleref15_Same.mono_l k
  ·intro y0 y1 y2
   unfold bindleref15_Same.l0
   repeat' first
   | (with_reducible exact ih0 _ _ _)
   | (with_reducible exact LeO.refl _)
   | (with_reducible exact LeO.none _)
   | (with_reducible refine LeO.ite ?_ ?_)
   | (with_reducible refine LeO.bind ?_ (fun _ => ?_))
   | exact ih0 _ _ _
   | exact LeO.none _
   | refine LeO.ite ?_ ?_
   | refine LeO.bind ?_ (fun _ => ?_)
theorem bindleref15_Same.mono : ∀ a0 a1 k, LeO (bindleref15_Same.f k a0 a1) (bindleref15_Same.f (k + 1) a0 a1) := by
 intro a0 a1 k
 have ih0 := bindleref15_Same.mono_l k
 unfold bindleref15_Same.f
 repeat' first
   | (with_reducible exact ih0 _ _ _)
   | (with_reducible exact LeO.refl _)
   | (with_reducible exact LeO.none _)
   | (with_reducible refine LeO.ite ?_ ?_)
   | (with_reducible refine LeO.bind ?_ (fun _ => ?_))
   | exact ih0 _ _ _
   | exact LeO.none _
   | refine LeO.ite ?_ ?_
   | refine LeO.bind ?_ (fun _ => ?_)
set_option maxHeartbeats 8000000 in
set_option maxRecDepth 100000 in
theorem bindleref15_Same.calls (k : Nat) (A0 : Option Addr) (c0 : Nat) (l0 : List ByteArray) (A1 : Option Addr) (c1 : Nat) (l1 : List ByteArray) (r : Bool) (w : World) (hr0 : Kd.C Kd.string w A0 l0.length l0) (hc0 : l0.length ≤ c0) (hr1 : Kd.C Kd.string w A1 l1.length l1) (hc1 : l1.length ≤ c1) (h : bindleref15_Same.f k l0 l1 = some r) :
  Calls Tryd.prog 16 #[.slice A0 l0.length c0, .slice A1 l1.length c1] w fun e w' => e = .returned (.bool r) ∧ Drawn0 w w' := by
 have HR0 := Aside0.mk hr0
 have HC0 := Aside0.mk hc0
 clear hr0 hc0
 have HR1 := Aside0.mk hr1
 have HC1 := Aside0.mk hc1
 clear hr1 hc1
 have H : (if (l0.length : Int) = (l1.length : Int) then (bindleref15_Same.l0 k l0 l1 0) else (some false)) = some r := h
 clear h
 by_cases c3 : (l0.length : Int) = (l1.length : Int)
 ·rw [if_pos c3] at H
  have c3b0 : ((l0.length : Int) == (l1.length : Int)) = true := beq_iff_eq.mpr c3
  have c3b1 : ((l0.length : Int) != (l1.length : Int)) = false := bne_eq_false_iff_eq.mpr c3
  have c3b2 : (l0.length == l1.length) = true := by first | simpa using c3 | (simp at c3 ⊢; omega)
  clear c3
  have H' := Aside0.mk H
  clear H
  go_enter Tryd.func16, Tryd.ntmps16
  go_wp2
  repeat (go_quiet (fail); try go_wp2)
  go_loopg [5] k (fun kq v5 w' => ∃ (x5_1 : Int), v5 = .int .i64 x5_1 ∧ Aside0 (bindleref15_Same.l0 kq l0 l1 x5_1 = some r) ∧ Aside0 (kq ≤ k) ∧ Drawn0 w w')
  case atStart => exact ⟨(0), (by first | rfl | (simp only [YtcfcbkcaondfcaaDoorMpHelp.leq_not, YtcfcbkcaondfcaaDoorMpHelp.gtr_less]; done) | (simp; done) | (simp [*]; done)), H', ⟨Nat.le_refl _⟩, by repeat (first | exact Drawn0.refl _ | apply Drawn0.step)⟩
  case round =>
   clear H'
   try clear c1
   try clear p2
   try clear c3
   try clear c3b0
   try clear c3b1
   try clear c3b2
   obtain ⟨x5_1, rfl, HA, HK1, ⟨m1, rfl⟩⟩ := hrel
   cases gk with
   | zero => exact absurd HA.out (by simp [bindleref15_Same.l0])
   | succ k1 =>
    have H := HA.out
    clear HA
    simp only [bindleref15_Same.l0] at H
    by_cases c4 : x5_1 < (l0.length : Int)
    ·rw [if_pos c4] at H
     have c4b0 : decide (x5_1 < (l0.length : Int)) = true := decide_eq_true c4
     clear c4
     by_cases c5 : 0 ≤ x5_1
     ·rw [if_pos c5] at H
      have c5b0 : decide (0 ≤ x5_1) = true := decide_eq_true c5
      clear c5
      by_cases c6 : x5_1 < (l1.length : Int)
      ·rw [if_pos c6] at H
       have c6b0 : decide (x5_1 < (l1.length : Int)) = true := decide_eq_true c6
       clear c6
       by_cases c7 : (rdOf ByteArray.empty l0 x5_1).toList = (rdOf ByteArray.empty l1 x5_1).toList
       ·rw [if_pos c7] at H
        have c7b0 : ((rdOf ByteArray.empty l0 x5_1).toList == (rdOf ByteArray.empty l1 x5_1).toList) = true := beq_iff_eq.mpr c7
        have c7b1 : ((rdOf ByteArray.empty l0 x5_1).toList != (rdOf ByteArray.empty l1 x5_1).toList) = false := bne_eq_false_iff_eq.mpr c7
        clear c7
        have H' := Aside0.mk H
        clear H
        have p101 : 0 ≤ (x5_1 : Int) := of_decide_eq_true (by first | (with_reducible assumption) | assumption)
        have q101 : x5_1 < (l0.length : Int) := of_decide_eq_true (by first | (with_reducible assumption) | assumption)
        obtain ⟨ad101, e101, hx101_0⟩ := Kd.at_string HR0.out x5_1 p101 q101
        cases e101
        replace p101 := eq_true p101
        replace q101 := eq_true q101
        have p102 : 0 ≤ (x5_1 : Int) := of_decide_eq_true (by first | (with_reducible assumption) | assumption)
        have q102 : x5_1 < (l1.length : Int) := of_decide_eq_true (by first | (with_reducible assumption) | assumption)
        obtain ⟨ad102, e102, hx102_0⟩ := Kd.at_string HR1.out x5_1 p102 q102
        cases e102
        replace p102 := eq_true p102
        replace q102 := eq_true q102
        go_wp2
        repeat (go_quiet (fail); try go_wp2)
        go_roundg k1
        case measure => have := HK1.out; omega
        case rel => exact ⟨(wrap64 (x5_1 + 1)), (by first | rfl | (simp only [YtcfcbkcaondfcaaDoorMpHelp.leq_not, YtcfcbkcaondfcaaDoorMpHelp.gtr_less]; done) | (simp; done) | (simp [*]; done)), H', ⟨by have := HK1.out; omega⟩, by repeat (first | exact Drawn0.refl _ | apply Drawn0.step)⟩
       ·rw [if_neg c7] at H
        have c7b0 : ((rdOf ByteArray.empty l0 x5_1).toList == (rdOf ByteArray.empty l1 x5_1).toList) = false := beq_eq_false_iff_ne.mpr c7
        have c7b1 : ((rdOf ByteArray.empty l0 x5_1).toList != (rdOf ByteArray.empty l1 x5_1).toList) = true := bne_iff_ne.mpr c7
        obtain rfl := Option.some.inj H
        have p101 : 0 ≤ (x5_1 : Int) := of_decide_eq_true (by first | (with_reducible assumption) | assumption)
        have q101 : x5_1 < (l0.length : Int) := of_decide_eq_true (by first | (with_reducible assumption) | assumption)
        obtain ⟨ad101, e101, hx101_0⟩ := Kd.at_string HR0.out x5_1 p101 q101
        cases e101
        replace p101 := eq_true p101
        replace q101 := eq_true q101
        have p102 : 0 ≤ (x5_1 : Int) := of_decide_eq_true (by first | (with_reducible assumption) | assumption)
        have q102 : x5_1 < (l1.length : Int) := of_decide_eq_true (by first | (with_reducible assumption) | assumption)
        obtain ⟨ad102, e102, hx102_0⟩ := Kd.at_string HR1.out x5_1 p102 q102
        cases e102
        replace p102 := eq_true p102
        replace q102 := eq_true q102
        go_wp2
        repeat (go_quiet (fail); try go_wp2)
        go_ret
        exact ⟨by first | rfl | (simp only [YtcfcbkcaondfcaaDoorMpHelp.leq_not, YtcfcbkcaondfcaaDoorMpHelp.gtr_less]; done) | (simp; done) | (simp [*]; done), by repeat (first | exact Drawn0.refl _ | apply Drawn0.step)⟩
      ·rw [if_neg c6] at H
       exact absurd H (by simp)
     ·rw [if_neg c5] at H
      exact absurd H (by simp)
    ·rw [if_neg c4] at H
     have c4b0 : decide (x5_1 < (l0.length : Int)) = false := decide_eq_false c4
     clear c4
     obtain rfl := Option.some.inj H
     go_wp2
     repeat (go_quiet (fail); try go_wp2)
     go_ret
     exact ⟨by first | rfl | (simp only [YtcfcbkcaondfcaaDoorMpHelp.leq_not, YtcfcbkcaondfcaaDoorMpHelp.gtr_less]; done) | (simp; done) | (simp [*]; done), by repeat (first | exact Drawn0.refl _ | apply Drawn0.step)⟩
 ·rw [if_neg c3] at H
  have c3b0 : ((l0.length : Int) == (l1.length : Int)) = false := beq_eq_false_iff_ne.mpr c3
  have c3b1 : ((l0.length : Int) != (l1.length : Int)) = true := bne_iff_ne.mpr c3
  have c3b2 : (l0.length == l1.length) = false := by first | simpa using c3 | (simp at c3 ⊢; omega)
  obtain rfl := Option.some.inj H
  go_enter Tryd.func16, Tryd.ntmps16
  go_wp2
  repeat (go_quiet (fail); try go_wp2)
  go_ret
  exact ⟨by first | rfl | (simp only [YtcfcbkcaondfcaaDoorMpHelp.leq_not, YtcfcbkcaondfcaaDoorMpHelp.gtr_less]; done) | (simp; done) | (simp [*]; done), by repeat (first | exact Drawn0.refl _ | apply Drawn0.step)⟩

/-! ### bindlelaw38_wide: function 26 -/
mutual
def bindlelaw38_wide.l0 : Nat → List (S45) → Int → Option (Bool)
 | 0, _, _ => none
 | k + 1, x0, x3 => if x3 < (x0.length : Int) then (bindlelaw38_wide.j1 k x0 x3 (decide (x3 < 300))) else (bindlelaw38_wide.j1 k x0 x3 false)
def bindlelaw38_wide.j1 : Nat → List (S45) → Int → Bool → Option (Bool)
 | 0, _, _, _ => none
 | k + 1, x0, x3, x11 => if x11 = true then (if 0 ≤ x3 then (if x3 < (x0.length : Int) then (if (((rd_T45 x0 x3).f0).size : Int) > 300 then (some true) else (if (((rd_T45 x0 x3).f1).length : Int) > 70000 then (some true) else (bindlelaw38_wide.l0 k x0 (wrap64 (x3 + 1))))) else (none)) else (none)) else (some (decide ((x0.length : Int) > 250)))
end
def bindlelaw38_wide.f (k : Nat) (l0 : List (S45)) : Option (Bool) := bindlelaw38_wide.l0 k l0 0
theorem bindlelaw38_wide.mono_l : ∀ k, (∀ y0 y1, LeO (bindlelaw38_wide.l0 k y0 y1) (bindlelaw38_wide.l0 (k + 1) y0 y1)) ∧ (∀ y0 y1 y2, LeO (bindlelaw38_wide.j1 k y0 y1 y2) (bindlelaw38_wide.j1 (k + 1) y0 y1 y2))
 | 0 => ⟨fun _ _ r h => by simp [bindlelaw38_wide.l0] at h, fun _ _ _ r h => by simp [bindlelaw38_wide.j1] at h⟩
 | k + 1 => by
  obtain ⟨ih0, ih1⟩ := bindlelaw38_wide.mono_l k
  refine ⟨?_, ?_⟩
  ·intro y0 y1
   unfold bindlelaw38_wide.l0
   repeat' first
   | (with_reducible exact ih0 _ _)
   | (with_reducible exact ih1 _ _ _)
   | (with_reducible exact LeO.refl _)
   | (with_reducible exact LeO.none _)
   | (with_reducible refine LeO.ite ?_ ?_)
   | (with_reducible refine LeO.bind ?_ (fun _ => ?_))
   | exact ih0 _ _
   | exact ih1 _ _ _
   | exact LeO.none _
   | refine LeO.ite ?_ ?_
   | refine LeO.bind ?_ (fun _ => ?_)
  ·intro y0 y1 y2
   unfold bindlelaw38_wide.j1
   repeat' first
   | (with_reducible exact ih0 _ _)
   | (with_reducible exact ih1 _ _ _)
   | (with_reducible exact LeO.refl _)
   | (with_reducible exact LeO.none _)
   | (with_reducible refine LeO.ite ?_ ?_)
   | (with_reducible refine LeO.bind ?_ (fun _ => ?_))
   | exact ih0 _ _
   | exact ih1 _ _ _
   | exact LeO.none _
   | refine LeO.ite ?_ ?_
   | refine LeO.bind ?_ (fun _ => ?_)
theorem bindlelaw38_wide.mono : ∀ a0 k, LeO (bindlelaw38_wide.f k a0) (bindlelaw38_wide.f (k + 1) a0) := by
 intro a0 k
 obtain ⟨ih0, ih1⟩ := bindlelaw38_wide.mono_l k
 unfold bindlelaw38_wide.f
 repeat' first
   | (with_reducible exact ih0 _ _)
   | (with_reducible exact ih1 _ _ _)
   | (with_reducible exact LeO.refl _)
   | (with_reducible exact LeO.none _)
   | (with_reducible refine LeO.ite ?_ ?_)
   | (with_reducible refine LeO.bind ?_ (fun _ => ?_))
   | exact ih0 _ _
   | exact ih1 _ _ _
   | exact LeO.none _
   | refine LeO.ite ?_ ?_
   | refine LeO.bind ?_ (fun _ => ?_)
set_option maxHeartbeats 8000000 in
set_option maxRecDepth 100000 in
theorem bindlelaw38_wide.calls (k : Nat) (A0 : Option Addr) (c0 : Nat) (l0 : List (S45)) (r : Bool) (w : World) (hr0 : Kd.C k45 w A0 l0.length l0) (hc0 : l0.length ≤ c0) (h : bindlelaw38_wide.f k l0 = some r) :
  Calls Tryd.prog 26 #[.slice A0 l0.length c0] w fun e w' => e = .returned (.bool r) ∧ Drawn0 w w' := by
 have HR0 := Aside0.mk hr0
 have HC0 := Aside0.mk hc0
 clear hr0 hc0
 have H : (bindlelaw38_wide.l0 k l0 0) = some r := h
 clear h
 have H' := Aside0.mk H
 clear H
 go_enter Tryd.func26, Tryd.ntmps26
 go_wp2
 go_loopg [3] k (fun kq v3 w' => ∃ (x3_1 : Int), v3 = .int .i64 x3_1 ∧ Aside0 (bindlelaw38_wide.l0 kq l0 x3_1 = some r) ∧ Aside0 (kq ≤ k) ∧ Drawn0 w w')
 case atStart => exact ⟨(0), (by first | rfl | (simp only [YtcfcbkcaondfcaaDoorMpHelp.leq_not, YtcfcbkcaondfcaaDoorMpHelp.gtr_less]; done) | (simp; done) | (simp [*]; done)), H', ⟨Nat.le_refl _⟩, by repeat (first | exact Drawn0.refl _ | apply Drawn0.step)⟩
 case round =>
  clear H'
  obtain ⟨x3_1, rfl, HA, HK1, ⟨m1, rfl⟩⟩ := hrel
  cases gk with
  | zero => exact absurd HA.out (by simp [bindlelaw38_wide.l0])
  | succ k1 =>
   have H := HA.out
   clear HA
   simp only [bindlelaw38_wide.l0] at H
   have HC2 := Aside0.mk H
   clear H
   go_upto_region 2 with (fail)
   go_cut [11] (fun v11 wc => ∃ (kq : Nat) (x11_1 : Bool), v11 = .bool x11_1 ∧ Aside0 (bindlelaw38_wide.j1 kq l0 x3_1 x11_1 = some r) ∧ Aside0 (kq ≤ k1) ∧ Drawn0 w wc)
   case first =>
    have H := HC2.out
    clear HC2
    by_cases c3 : x3_1 < (l0.length : Int)
    ·rw [if_pos c3] at H
     have c3b0 : decide (x3_1 < (l0.length : Int)) = true := decide_eq_true c3
     clear c3
     (first | rw [c3b0] | (simp only [i64_w, i32_w]; rw [c3b0]) | rw [c3b1] | skip)
     have H' := Aside0.mk H
     clear H
     go_wp2
     go_meet
     case rel => exact ⟨_, (decide (x3_1 < 300)), (by first | rfl | (simp only [YtcfcbkcaondfcaaDoorMpHelp.leq_not, YtcfcbkcaondfcaaDoorMpHelp.gtr_less]; done) | (simp; done) | (simp [*]; done)), H', ⟨by have := HK1.out; first | omega | exact Nat.le_refl _⟩, by repeat (first | exact Drawn0.refl _ | apply Drawn0.step)⟩
    ·rw [if_neg c3] at H
     have c3b0 : decide (x3_1 < (l0.length : Int)) = false := decide_eq_false c3
     clear c3
     (first | rw [c3b0] | (simp only [i64_w, i32_w]; rw [c3b0]) | rw [c3b1] | skip)
     have H' := Aside0.mk H
     clear H
     go_wp2
     go_meet
     case rel => exact ⟨_, (false), (by first | rfl | (simp only [YtcfcbkcaondfcaaDoorMpHelp.leq_not, YtcfcbkcaondfcaaDoorMpHelp.gtr_less]; done) | (simp; done) | (simp [*]; done)), H', ⟨by have := HK1.out; first | omega | exact Nat.le_refl _⟩, by repeat (first | exact Drawn0.refl _ | apply Drawn0.step)⟩
   case rest =>
    clear HC2
    try clear c2
    try clear p2
    try clear c3
    try clear c3b0
    try clear c3b1
    obtain ⟨kq, x11_1, rfl, HA, HJ1, ⟨mc1, rfl⟩⟩ := hcut
    cases kq with
    | zero => exact absurd HA.out (by simp [bindlelaw38_wide.j1])
    | succ kj1 =>
     have H := HA.out
     clear HA
     simp only [bindlelaw38_wide.j1] at H
     by_cases c4 : x11_1 = true
     ·subst c4
      have H1 : (if 0 ≤ x3_1 then (if x3_1 < (l0.length : Int) then (if (((rd_T45 l0 x3_1).f0).size : Int) > 300 then (some true) else (if (((rd_T45 l0 x3_1).f1).length : Int) > 70000 then (some true) else (bindlelaw38_wide.l0 kj1 l0 (wrap64 (x3_1 + 1))))) else (none)) else (none)) = some r := by rw [if_pos rfl] at H; exact H
      clear H
      have H := H1
      clear H1
      by_cases c5 : 0 ≤ x3_1
      ·rw [if_pos c5] at H
       have c5b0 : decide (0 ≤ x3_1) = true := decide_eq_true c5
       clear c5
       by_cases c6 : x3_1 < (l0.length : Int)
       ·rw [if_pos c6] at H
        have c6b0 : decide (x3_1 < (l0.length : Int)) = true := decide_eq_true c6
        clear c6
        by_cases c7 : (((rd_T45 l0 x3_1).f0).size : Int) > 300
        ·rw [if_pos c7] at H
         have c7b0 : decide (300 < (((rd_T45 l0 x3_1).f0).size : Int)) = true := decide_eq_true c7
         have c7b1 : decide (300 < ((rd_T45 l0 x3_1).f0).size) = true := decide_eq_true (by omega)
         clear c7
         obtain rfl := Option.some.inj H
         have p103 : 0 ≤ (x3_1 : Int) := of_decide_eq_true (by first | (with_reducible assumption) | assumption)
         have q103 : x3_1 < (l0.length : Int) := of_decide_eq_true (by first | (with_reducible assumption) | assumption)
         obtain ⟨ad103, A103_1, c103_1, e103, hx103_0, hx103_1, hl103_1, hi103_1⟩ := at_T45 HR0.out x3_1 p103 q103
         cases e103
         have HR103_1 := Aside0.mk hi103_1
         have HC103_1 := Aside0.mk hl103_1
         clear hi103_1 hl103_1
         replace p103 := eq_true p103
         replace q103 := eq_true q103
         go_wp2
         go_ret
         exact ⟨by first | rfl | (simp only [YtcfcbkcaondfcaaDoorMpHelp.leq_not, YtcfcbkcaondfcaaDoorMpHelp.gtr_less]; done) | (simp; done) | (simp [*]; done), by repeat (first | exact Drawn0.refl _ | apply Drawn0.step)⟩
        ·rw [if_neg c7] at H
         have c7b0 : decide (300 < (((rd_T45 l0 x3_1).f0).size : Int)) = false := decide_eq_false c7
         have c7b1 : decide (300 < ((rd_T45 l0 x3_1).f0).size) = false := decide_eq_false (by omega)
         clear c7
         by_cases c8 : (((rd_T45 l0 x3_1).f1).length : Int) > 70000
         ·rw [if_pos c8] at H
          have c8b0 : decide (70000 < (((rd_T45 l0 x3_1).f1).length : Int)) = true := decide_eq_true c8
          have c8b1 : decide (70000 < ((rd_T45 l0 x3_1).f1).length) = true := decide_eq_true (by omega)
          clear c8
          obtain rfl := Option.some.inj H
          have p103 : 0 ≤ (x3_1 : Int) := of_decide_eq_true (by first | (with_reducible assumption) | assumption)
          have q103 : x3_1 < (l0.length : Int) := of_decide_eq_true (by first | (with_reducible assumption) | assumption)
          obtain ⟨ad103, A103_1, c103_1, e103, hx103_0, hx103_1, hl103_1, hi103_1⟩ := at_T45 HR0.out x3_1 p103 q103
          cases e103
          have HR103_1 := Aside0.mk hi103_1
          have HC103_1 := Aside0.mk hl103_1
          clear hi103_1 hl103_1
          replace p103 := eq_true p103
          replace q103 := eq_true q103
          have p104 : 0 ≤ (x3_1 : Int) := of_decide_eq_true (by first | (with_reducible assumption) | assumption)
          have q104 : x3_1 < (l0.length : Int) := of_decide_eq_true (by first | (with_reducible assumption) | assumption)
          obtain ⟨ad104, A104_1, c104_1, e104, hx104_0, hx104_1, hl104_1, hi104_1⟩ := at_T45 HR0.out x3_1 p104 q104
          obtain rfl : ad103 = ad104 := (by injection e104)
          have HR104_1 := Aside0.mk hi104_1
          have HC104_1 := Aside0.mk hl104_1
          clear hi104_1 hl104_1
          replace p104 := eq_true p104
          replace q104 := eq_true q104
          have ea_ := Option.some.inj (hx103_1.symm.trans hx104_1)
          injection ea_ with ea_ en_ ec_
          subst ea_
          subst ec_
          clear en_
          go_wp2
          go_ret
          exact ⟨by first | rfl | (simp only [YtcfcbkcaondfcaaDoorMpHelp.leq_not, YtcfcbkcaondfcaaDoorMpHelp.gtr_less]; done) | (simp; done) | (simp [*]; done), by repeat (first | exact Drawn0.refl _ | apply Drawn0.step)⟩
         ·rw [if_neg c8] at H
          have c8b0 : decide (70000 < (((rd_T45 l0 x3_1).f1).length : Int)) = false := decide_eq_false c8
          have c8b1 : decide (70000 < ((rd_T45 l0 x3_1).f1).length) = false := decide_eq_false (by omega)
          clear c8
          have H' := Aside0.mk H
          clear H
          have p103 : 0 ≤ (x3_1 : Int) := of_decide_eq_true (by first | (with_reducible assumption) | assumption)
          have q103 : x3_1 < (l0.length : Int) := of_decide_eq_true (by first | (with_reducible assumption) | assumption)
          obtain ⟨ad103, A103_1, c103_1, e103, hx103_0, hx103_1, hl103_1, hi103_1⟩ := at_T45 HR0.out x3_1 p103 q103
          cases e103
          have HR103_1 := Aside0.mk hi103_1
          have HC103_1 := Aside0.mk hl103_1
          clear hi103_1 hl103_1
          replace p103 := eq_true p103
          replace q103 := eq_true q103
          have p104 : 0 ≤ (x3_1 : Int) := of_decide_eq_true (by first | (with_reducible assumption) | assumption)
          have q104 : x3_1 < (l0.length : Int) := of_decide_eq_true (by first | (with_reducible assumption) | assumption)
          obtain ⟨ad104, A104_1, c104_1, e104, hx104_0, hx104_1, hl104_1, hi104_1⟩ := at_T45 HR0.out x3_1 p104 q104
          obtain rfl : ad103 = ad104 := (by injection e104)
          have HR104_1 := Aside0.mk hi104_1
          have HC104_1 := Aside0.mk hl104_1
          clear hi104_1 hl104_1
          replace p104 := eq_true p104
          replace q104 := eq_true q104
          have ea_ := Option.some.inj (hx103_1.symm.trans hx104_1)
          injection ea_ with ea_ en_ ec_
          subst ea_
          subst ec_
          clear en_
          go_wp2
          go_roundg kj1
          case measure => have := HK1.out; have := HJ1.out; omega
          case rel => exact ⟨(wrap64 (x3_1 + 1)), (by first | rfl | (simp only [YtcfcbkcaondfcaaDoorMpHelp.leq_not, YtcfcbkcaondfcaaDoorMpHelp.gtr_less]; done) | (simp; done) | (simp [*]; done)), H', ⟨by have := HK1.out; have := HJ1.out; omega⟩, by repeat (first | exact Drawn0.refl _ | apply Drawn0.step)⟩
       ·rw [if_neg c6] at H
        exact absurd H (by simp)
      ·rw [if_neg c5] at H
       exact absurd H (by simp)
     ·replace c4 := Bool.eq_false_iff.mpr c4
      subst c4
      have H1 : (some (decide ((l0.length : Int) > 250))) = some r := by rw [if_neg (show ¬ (false = true) by decide)] at H; exact H
      clear H
      have H := H1
      clear H1
      obtain rfl := Option.some.inj H
      go_wp2
      go_ret
      exact ⟨by first | rfl | (simp only [YtcfcbkcaondfcaaDoorMpHelp.leq_not, YtcfcbkcaondfcaaDoorMpHelp.gtr_less]; done) | (simp; done) | (simp [*]; done), by repeat (first | exact Drawn0.refl _ | apply Drawn0.step)⟩

/-! ### plan_names: function 52 (told by hand) -/
def plan_names.all_ (l0 : List (List S45)) : List ByteArray := l0.flatMap fun l => l.map (·.f0)
def plan_names.sorted (xs : List ByteArray) : List (List UInt8) := (xs.map (·.data.toList)).mergeSort fun x y => decide (x ≤ y)
theorem plan_names.sorted_len (xs : List ByteArray) : (plan_names.sorted xs).length = xs.length := by simp [plan_names.sorted]
theorem plan_names.cmp_lt : ∀ a b : List UInt8, Lib.compareBytes a b < 0 ↔ a < b
  | [], [] => by simp [Lib.compareBytes]
  | [], b :: y => by simp [Lib.compareBytes]
  | a :: x, [] => by simp [Lib.compareBytes]
  | a :: x, b :: y => by
    have ih := plan_names.cmp_lt x y
    unfold Lib.compareBytes
    rw [List.cons_lt_cons_iff]
    by_cases h1 : a < b
    · simp [h1]
    · by_cases h2 : b < a
      · simp [h1, h2]
        rintro rfl
        exact absurd h2 (by simp [UInt8.lt_irrefl])
      · have e : a = b := UInt8.le_antisymm (UInt8.not_lt.1 h2) (UInt8.not_lt.1 h1)
        subst e
        simp [h1, ih]
theorem plan_names.lt_eq : ltOf Lib.compareBytes = Go.Sort.ltStr := by
  funext x y
  unfold ltOf Go.Sort.ltStr
  exact decide_eq_decide.2 (plan_names.cmp_lt x y)
theorem plan_names.swo : Go.Sort.SWO (ltOf Lib.compareBytes) := by rw [plan_names.lt_eq]; exact Go.Sort.swo_ltStr
theorem plan_names.tot (x y : List UInt8) (h1 : ltOf Lib.compareBytes x y = false) (h2 : ltOf Lib.compareBytes y x = false) : x = y := by
  rw [plan_names.lt_eq] at h1 h2
  exact List.le_antisymm (of_decide_eq_false h2) (of_decide_eq_false h1)
theorem plan_names.le_eq : (fun x y => !(ltOf Lib.compareBytes) y x) = fun x y : List UInt8 => decide (x ≤ y) := by
  funext x y
  rw [plan_names.lt_eq]
  unfold Go.Sort.ltStr
  rw [Bool.eq_iff_iff, Bool.not_eq_true', decide_eq_false_iff_not, decide_eq_true_iff]
  exact Iff.rfl
/-- slices.SortFunc(out, strings.Compare). -/
theorem plan_names.sort (g cap : Nat) (xs : List ByteArray) (w : World) (hH : Go.Sort.Holds encStr w g 0 (xs.map (·.data.toList)).toArray) (hg : g < w.heap.size) (hs : xs.length ≤ 1000000) :
    Calls Tryd.prog 76 #[.slice (some ⟨g, 0, none⟩) xs.length cap, .func (.func 77) #[] #[]] w fun e w' => e = .returned (.tuple #[]) ∧ ∃ n os, w' = Go.Sort.grow (Go.Sort.putRow encStr (Go.Sort.ahead w n) g 0 (plan_names.sorted xs).toArray) os := by
  have hd : (xs.map (·.data.toList)).toArray.size = xs.length := by simp
  have := Tryd.slices_SortFunc_total encStr (fun _ => rfl) Lib.compareBytes plan_names.swo 77 #[] g 0 cap (xs.map (·.data.toList)).toArray w (enters_of Tryd.func77 (by kernel_rfl) rfl)
    (fun m os dk _ x y => (Tryd.strings_Compare ⟨x.toArray⟩ ⟨y.toArray⟩ _).mono fun e w' ⟨he, hw⟩ => ⟨he, 0, #[], by rw [hw, Go.Sort.grow_empty]; rfl⟩) hH hg (by rw [hd]; omega) plan_names.tot
  rw [hd, plan_names.le_eq] at this
  exact this
theorem plan_names.info : (Tryd.prog.info? 9).map (fun i => (i.zero, i.size, i.bytes)) = some (some (.string ByteArray.empty), 1, 16) := by kernel_rfl
set_option maxRecDepth 100000 in
set_option maxHeartbeats 4000000 in
theorem plan_names.go (A0 : Option Addr) (c0 : Nat) (l0 : List (List S45)) (w : World) (hr0 : Kd.C (Kd.slice 45 k45) w A0 l0.length l0) (hlen : (plan_names.all_ l0).length ≤ 1000000) :
    Calls Tryd.prog 52 #[.slice A0 l0.length c0] w fun e w' => ∃ v0_ : Value, e = .returned (v0_) ∧ Kd.R Kd.string 9 w' w.heap.size (fun _ => True) v0_ ((Lib.compact (plan_names.sorted (plan_names.all_ l0))).map fun l => (⟨l.toArray⟩ : ByteArray)) ∧ Below w.heap.size w w' := by
  have hll : l0.length ≤ 9223372036854775807 := hr0.2.1
  have hel : ∀ i, (hi : i < l0.length) → ∃ ad A1 c1, A0 = some ad ∧ l0[i].length ≤ c1 ∧ ∀ W, Below w.heap.size w W → W.cell? (ad.add i) = some (.slice A1 l0[i].length c1) ∧ Kd.C k45 W A1 l0[i].length l0[i] := fun i hi => by
    obtain ⟨ad, rfl, hc⟩ := hr0.2.2 (by omega)
    obtain ⟨c, hs, hk, hu⟩ := hc i _ (List.getElem?_eq_getElem hi)
    obtain ⟨A1, c1, rfl, hl, hC⟩ := hk
    have h1 := hu 0 _ rfl
    have e1 : i * (Kd.slice 45 k45).sz + 0 = i := by simp [Kd.slice]
    rw [e1] at h1
    have hlt : (ad.add i).block < w.heap.size := by
      unfold World.cell? at h1
      cases hb : w.heap[(ad.add i).block]? with
      | none => rw [hb] at h1; cases h1
      | some o => exact (Array.getElem?_eq_some_iff.1 hb).1
    exact ⟨ad, A1, c1, rfl, hl, fun W hW => ⟨(hW.cell (p := ad.add i) hlt).trans h1, Kd.C_below hC hW⟩⟩
  generalize hout : ((Lib.compact (plan_names.sorted (plan_names.all_ l0))).map fun l => (⟨l.toArray⟩ : ByteArray)) = out
  have HOUT := Aside0.mk hout
  clear hout
  have HE := Aside0.mk hel
  have HL := Aside0.mk hlen
  clear hel hr0 hlen
  go_enter Tryd.func52, Tryd.ntmps52
  go_wp2_with fail
  go_loopw [10, 3] (fun s10 s3 w' => ∃ k : Nat, k ≤ l0.length ∧ s10 = .int .i64 k ∧ Aside0 (Below w.heap.size w w') ∧ Aside0 (Kd.R Kd.string 9 w' w.heap.size (fun _ => True) s3 (plan_names.all_ (l0.take k)))) (fun i _ _ => l0.length - (intOf i).toNat)
  case atStart => exact ⟨0, Nat.zero_le _, rfl, ⟨Below.refl _ _⟩, ⟨Kd.R_nil _ _ _ _ _⟩⟩
  case round =>
    obtain ⟨k, hk, rfl, HB, HO⟩ := hrel
    by_cases hlt : k < l0.length
    · obtain ⟨ad, A1, c1, rfl, hl1, hcs⟩ := HE.out k hlt
      obtain ⟨hc1, hC1⟩ := hcs _ HB.out
      have HCS := Aside0.mk hcs
      clear hcs
      have hlz : (k : Int) < (l0.length : Int) := by omega
      have htk : plan_names.all_ (l0.take (k + 1)) = plan_names.all_ (l0.take k) ++ l0[k].map (·.f0) := by
        unfold plan_names.all_
        rw [List.take_succ_eq_append_getElem hlt, List.flatMap_append, List.flatMap_cons, List.flatMap_nil, List.append_nil]
      have hle : (plan_names.all_ (l0.take k)).length + l0[k].length ≤ 1000000 := by
        have h1 := congrArg List.length htk
        rw [List.length_append, List.length_map] at h1
        have h2 : (plan_names.all_ l0).length = (plan_names.all_ (l0.take (k + 1))).length + (plan_names.all_ (l0.drop (k + 1))).length := by
          rw [← List.length_append]
          congr 1
          conv => lhs; rw [← List.take_append_drop (k + 1) l0]
          simp only [plan_names.all_, List.flatMap_append]
        have := HL.out
        omega
      have HTK := Aside0.mk htk
      clear htk hC1
      generalize plan_names.all_ (l0.take k) = pre at HO HTK hle
      generalize hlx : l0[k] = l at *
      clear hlx
      go_wp2_with fail
      go_loopw [16, 3] (fun s16 s3 w2 => ∃ m : Nat, m ≤ l.length ∧ s16 = .int .i64 m ∧ Aside0 (Below w.heap.size w w2) ∧ Aside0 (Kd.R Kd.string 9 w2 w.heap.size (fun _ => True) s3 (pre ++ (l.take m).map (·.f0)))) (fun i _ _ => l.length - (intOf i).toNat)
      case atStart => exact ⟨0, Nat.zero_le _, rfl, HB, ⟨by simpa using HO.out⟩⟩
      case round =>
        obtain ⟨m, hm, rfl, HB2, HO2⟩ := hrel
        by_cases hlt2 : m < l.length
        · obtain ⟨ad2, A2, c2, rfl, hx1, hx2, _, _⟩ := at_T45 (HCS.out _ HB2.out).2 (m : Int) (by omega) (by omega)
          have er : rd_T45 l (m : Int) = l[m] := by simp [rd_T45, hlt2]
          rw [er, Int.toNat_natCast] at hx1
          rw [er, Int.toNat_natCast] at hx2
          have htm : l.take (m + 1) = l.take m ++ [l[m]] := List.take_succ_eq_append_getElem hlt2
          have HTM := Aside0.mk htm
          clear htm er
          have hmz : (m : Int) < (l.length : Int) := by omega
          generalize hxx : l[m] = x at *
          clear hxx
          have hml : (l.take m).length = m := by rw [List.length_take]; omega
          have HC : ∀ W0 : World, Kd.C Kd.string (W0.alloc (.cells #[.string x.f0] 9)) (some ⟨W0.heap.size, 0, none⟩) 1 [x.f0] := fun W0 =>
            YtcfcbkcaondfcaaDoorMpHelp.C_of_block (YtcfcbkcaondfcaaDoorMpHelp.heap_new W0 _) (by simp) fun j p hj => by
              have hj0 : j = 0 := by have := (List.getElem?_eq_some_iff.1 hj).1; simpa using this
              subst hj0
              simp only [List.getElem?_cons_zero, Option.some.injEq] at hj
              subst hj
              exact ⟨_, rfl, rfl, fun i u hu => by simpa [Kd.string, Kd.scalar] using hu⟩
          have HCA := Aside0.mk HC
          clear HC
          go_wp2_with (at_builtin; refine Kd.R_append_row Value.string ByteArray.empty (h1 := fun _ => rfl) (w0 := w) w.heap.size rfl _ _ 22 9 (.string ByteArray.empty) 16 rfl Tryd.underlying22 plan_names.info rfl (by decide) _ (pre ++ (l.take m).map (·.f0)) [x.f0] (some ⟨wr.heap.size + 1, 0, none⟩) 1 1 (fun _ => True) rfl rfl (fun _ _ => trivial) (Kd.R_alloc (Kd.R_alloc HO2.out _) _) (by have := HCA.out (wr.alloc (.cells #[.string x.f0, .slice A2 x.f1.length c2] 45)); rwa [World.size_alloc] at this) (below_alloc (below_alloc HB2.out _) _) (Nat.le_trans HB2.out.size (by simp; omega)) (by rw [List.length_append, List.length_map, hml]; omega) ?_; intro v1 w1 hR hB hg hob)
          have HR := Aside0.mk hR
          have HB3 := Aside0.mk hB
          clear hR hB hg hob HB2 HO2 hx1 hx2
          go_wp2
          go_roundw
          case rel => exact ⟨m + 1, by omega, by go_num, HB3, ⟨by rw [HTM.out, List.map_append, ← List.append_assoc]; exact HR.out⟩⟩
          case measure => simp [intOf]; omega
        · obtain rfl : m = l.length := by omega
          have hO3 := HO2.out
          rw [List.take_length, ← HTK.out] at hO3
          have HO3 := Aside0.mk hO3
          clear hO3
          clear HO2
          go_wp2
          go_roundw
          case rel => exact ⟨k + 1, by omega, by go_num, HB2, HO3⟩
          case measure => simp [intOf]; omega
    · obtain rfl : k = l0.length := by omega
      have hO := HO.out
      rw [List.take_length] at hO
      generalize hxs : plan_names.all_ l0 = xs at *
      clear hxs
      obtain ⟨_, inner, ho, hreps⟩ := hO
      have hin : inner = xs.map Value.string := by
        obtain ⟨hl, hp⟩ := hreps
        apply List.ext_getElem?
        intro j
        by_cases hj : j < xs.length
        · have := hp j _ (List.getElem?_eq_getElem hj)
          have e : List.take 1 (List.drop (j * 1) inner) = [Value.string xs[j]] := this
          have h0 := congrArg (·[0]?) e
          simpa [hj] using h0
        · have hl' : inner.length = xs.length * 1 := hl
          rw [List.getElem?_eq_none (by omega), List.getElem?_eq_none (by simp; omega)]
      subst hin
      rcases ho.2 with ⟨rfl, hz⟩ | ⟨g, cap, cur, rfl, hbase, hgb, r1, r2, r3, r4⟩
      · have hxs : xs = [] := List.eq_nil_of_length_eq_zero hz
        subst hxs
        clear ho hreps HO
        go_wp2_with fail
        refine (Tryd.slices_SortFunc_none (α := List UInt8) none 0 _ _).mono ?_
        rintro e w1 ⟨rfl, rfl⟩
        go_wp2_with fail
        refine (Tryd.slices_Compact_string_empty none 0 _).mono ?_
        rintro e w1 ⟨rfl, rfl⟩
        go_wp2
        go_ret
        have e0 : out = [] := by
          rw [← HOUT.out]
          exact List.eq_nil_of_length_eq_zero (by
            have := Lib.compact_length_le (plan_names.sorted [])
            rw [plan_names.sorted_len] at this
            simpa using this)
        rw [e0]
        exact ⟨_, rfl, Kd.R_nil _ _ _ _ _, HB.out⟩
      · have hr4 : cur.toList.take xs.length = xs.map Value.string := by
          have := r4
          rwa [show xs.length * Kd.string.sz = xs.length from Nat.mul_one _] at this
        have henc : (xs.map (·.data.toList)).map encStr = xs.map Value.string := by
          rw [List.map_map]
          exact List.map_congr_left fun b _ => rfl
        have hH : Go.Sort.Holds encStr wr g 0 (xs.map (·.data.toList)).toArray := holds_of_block hgb (by rw [List.length_map, henc]; exact hr4)
        have hgl : g < wr.heap.size := (Array.getElem?_eq_some_iff.1 hgb).1
        have hr3 : cur.size = cap := r3.trans (Nat.mul_one _)
        have hlx := HL.out
        have hM : maxLen = 9223372036854775807 := rfl
        have cS := plan_names.sort g cap xs wr hH hgl hlx
        have hfacts : ∀ W2 : World, (∃ n os, W2 = Go.Sort.grow (Go.Sort.putRow encStr (Go.Sort.ahead wr n) g 0 (plan_names.sorted xs).toArray) os) →
            ∃ cur2, W2.heap[g]? = some (.cells cur2 9 (0, 0)) ∧ cur2.size = cap ∧ cur2.toList.take xs.length = (plan_names.sorted xs).map encStr ∧ Below w.heap.size w W2 := by
          rintro W2 ⟨n, os, rfl⟩
          refine ⟨_, heap_sorted _ hgb, by simp [Go.Sort.putCells, hr3], ?_, HB.out.grown (grownBy_sorted _) HB.out.size (fun j hj => by cases hj; exact hbase)⟩
          have hT := take_putCells cur (plan_names.sorted xs) (by rw [plan_names.sorted_len]; omega)
          rw [plan_names.sorted_len] at hT
          exact hT
        have HS := Aside0.mk cS
        have HF := Aside0.mk hfacts
        clear cS hfacts hH ho hreps HO henc hr4 r3 r4 hgb HB HL hgl
        go_wp2_with fail
        refine HS.out.mono ?_
        rintro e W2 ⟨rfl, hw2⟩
        obtain ⟨cur2, h1, h2, h3, h4⟩ := HF.out W2 hw2
        clear hw2 HS HF
        have hcl : (Lib.compact (plan_names.sorted xs)).length ≤ xs.length := by
          have := Lib.compact_length_le (plan_names.sorted xs)
          rwa [plan_names.sorted_len] at this
        have hH2 : Go.Sort.Holds encStr W2 g 0 (plan_names.sorted xs).toArray := holds_of_block h1 (by rw [plan_names.sorted_len]; exact h3)
        have cC := Tryd.slices_Compact_string g 0 cap (plan_names.sorted xs) W2 hH2 (by rw [plan_names.sorted_len]; omega) (by rw [plan_names.sorted_len]; exact r1)
        rw [plan_names.sorted_len] at cC
        have hfin : ∀ W3 : World, (∃ q, W3 = Go.Sort.putRow encStr (Go.Sort.ahead W2 q) g 0 (Lib.compact (plan_names.sorted xs) ++ List.replicate (xs.length - (Lib.compact (plan_names.sorted xs)).length) []).toArray) →
            ∃ cur3, W3.heap[g]? = some (.cells cur3 9 (0, 0)) ∧ cur3.size = cap ∧ cur3.toList.take (Lib.compact (plan_names.sorted xs)).length = (Lib.compact (plan_names.sorted xs)).map encStr ∧ Below w.heap.size w W3 := by
          rintro W3 ⟨q, rfl⟩
          have hgr := grownBy_sorted (w := W2) (g := g) (n := q) (os := #[]) (Lib.compact (plan_names.sorted xs) ++ List.replicate (xs.length - (Lib.compact (plan_names.sorted xs)).length) []).toArray
          have hhp := heap_sorted (w := W2) (g := g) (n := q) (os := #[]) (Lib.compact (plan_names.sorted xs) ++ List.replicate (xs.length - (Lib.compact (plan_names.sorted xs)).length) []).toArray h1
          rw [Go.Sort.grow_empty] at hgr hhp
          refine ⟨_, hhp, by simp [Go.Sort.putCells, h2], ?_, h4.grown hgr h4.size (fun j hj => by cases hj; exact hbase)⟩
          have hlen : (Lib.compact (plan_names.sorted xs) ++ List.replicate (xs.length - (Lib.compact (plan_names.sorted xs)).length) ([] : List UInt8)).length = xs.length := by
            rw [List.length_append, List.length_replicate]
            omega
          have hT := take_putCells cur2 (Lib.compact (plan_names.sorted xs) ++ List.replicate (xs.length - (Lib.compact (plan_names.sorted xs)).length) []) (by rw [hlen]; omega)
          rw [hlen] at hT
          have hT2 := congrArg (List.take (Lib.compact (plan_names.sorted xs)).length) hT
          rw [List.take_take, Nat.min_eq_left hcl] at hT2
          refine hT2.trans ?_
          rw [List.map_append]
          exact List.take_left' (by rw [List.length_map])
        have HC := Aside0.mk cC
        have HF2 := Aside0.mk hfin
        clear cC hfin hH2 h1 h2 h3 h4
        go_wp2_with fail
        refine HC.out.mono ?_
        rintro e W3 ⟨rfl, hw3⟩
        obtain ⟨cur3, f1, f2, f3, f4⟩ := HF2.out W3 hw3
        clear hw3 HC HF2
        have FF := Aside0.mk (show W3.heap[g]? = _ ∧ cur3.size = cap ∧ cur3.toList.take _ = _ ∧ Below w.heap.size w W3 from ⟨f1, f2, f3, f4⟩)
        clear f1 f2 f3 f4
        go_wp2
        go_ret
        obtain ⟨f1, f2, f3, f4⟩ := FF.out
        refine ⟨_, rfl, ?_, f4⟩
        rw [← HOUT.out]
        have hlm : ((Lib.compact (plan_names.sorted xs)).map fun l => (⟨l.toArray⟩ : ByteArray)).length = (Lib.compact (plan_names.sorted xs)).length := List.length_map _
        refine ⟨fun _ _ => trivial, (Lib.compact (plan_names.sorted xs)).map fun l => Value.string ⟨l.toArray⟩, ⟨by simp [Kd.string, Kd.scalar], .inr ⟨g, cap, cur3, by rw [hlm]; rfl, hbase, f1, by rw [hlm]; omega, r2, f2.trans (Nat.mul_one _).symm, ?_⟩⟩, ?_⟩
        · have e1 : ((Lib.compact (plan_names.sorted xs)).map fun l => (⟨l.toArray⟩ : ByteArray)).length * Kd.string.sz = (Lib.compact (plan_names.sorted xs)).length := by simp [Kd.string, Kd.scalar]
          rw [e1, f3]
        · refine ⟨by simp [Kd.string, Kd.scalar], fun j p hj => ?_⟩
          rw [List.getElem?_map] at hj
          obtain ⟨q, hq, rfl⟩ := Option.map_eq_some_iff.1 hj
          show List.take 1 (List.drop (j * 1) ((Lib.compact (plan_names.sorted xs)).map fun l => Value.string ⟨l.toArray⟩)) = [Value.string ⟨q.toArray⟩]
          obtain ⟨hlt, hget⟩ := List.getElem?_eq_some_iff.1 hq
          rw [Nat.mul_one, List.drop_eq_getElem_cons (by rw [List.length_map]; exact hlt), List.getElem_map, hget]
          rfl
def plan_names.f (l0 : List (List S45)) : Option (List ByteArray) := if (plan_names.all_ l0).length ≤ 1000000 then some ((Lib.compact (plan_names.sorted (plan_names.all_ l0))).map fun l => (⟨l.toArray⟩ : ByteArray)) else none
theorem plan_names.calls (A0 : Option Addr) (c0 : Nat) (l0 : List (List S45)) (r : List ByteArray) (w : World) (hr0 : Kd.C (Kd.slice 45 k45) w A0 l0.length l0) (hc0 : l0.length ≤ c0) (h : plan_names.f l0 = some r) :
    Calls Tryd.prog 52 #[.slice A0 l0.length c0] w fun e w' => ∃ v0_ : Value, e = .returned (v0_) ∧ Kd.R Kd.string 9 w' w.heap.size (fun _ => True) v0_ r ∧ Below w.heap.size w w' := by
  unfold plan_names.f at h
  by_cases hs : (plan_names.all_ l0).length ≤ 1000000
  · rw [if_pos hs] at h
    obtain rfl := Option.some.inj h
    exact plan_names.go A0 c0 l0 w hr0 hs
  · rw [if_neg hs] at h
    cases h


/-! ### slices_Clone_byte_byte: function 80 (told by hand) -/
def slices_Clone_byte_byte.f (l0 : List Int) : Option (List Int) := if l0.length ≤ 140737488355328 then some l0 else none
theorem slices_Clone_byte_byte.info : (Tryd.prog.info? 5).map (fun i => (i.zero, i.size, i.bytes)) = some (some (.int .u8 0), 1, 1) := by kernel_rfl
set_option maxHeartbeats 2000000 in
theorem slices_Clone_byte_byte.calls (A0 : Option Addr) (c0 : Nat) (l0 : List Int) (r : List Int) (w : World) (hr0 : (Kd.int .u8).C w A0 l0.length l0) (hc0 : l0.length ≤ c0) (h : slices_Clone_byte_byte.f l0 = some r) : Calls Tryd.prog 80 #[.slice A0 l0.length c0] w fun e w' => ∃ v0_ : Value, e = .returned (v0_) ∧ Kd.R (Kd.int .u8) 5 w' w.heap.size (fun _ => True) v0_ r ∧ Below w.heap.size w w' := by
  unfold slices_Clone_byte_byte.f at h
  by_cases hb : l0.length ≤ 140737488355328
  · rw [if_pos hb] at h
    obtain rfl := Option.some.inj h
    have q22 : ∀ (w : World) (a : Option Addr) (n c n' c' : Nat), (binOp .eql 43 (.slice a n c) (.slice none n' c')).run Tryd.prog w = .ok (.bool a.isNone) w := fun w a n c n' c' => Lib.run_eql_slice_nil w _ _ a n c n' c' Tryd.underlying43
    cases A0 with
    | none =>
      have h0 : l0 = [] := by
        rcases Nat.eq_zero_or_pos l0.length with h | h
        · exact List.eq_nil_of_length_eq_zero h
        · obtain ⟨ad, e, _⟩ := hr0.2.2 h
          cases e
      subst h0
      clear hr0 hb hc0
      go_enter Tryd.func80, Tryd.ntmps80
      go_wp2
      go_ret
      exact ⟨_, rfl, Kd.R_nil _ _ _ _ _, Below.refl _ _⟩
    | some ad =>
      have HR := Aside0.mk hr0
      clear hr0
      go_enter Tryd.func80, Tryd.ntmps80
      have HO : Kd.R (Kd.int .u8) 5 (w.alloc (.cells #[] 5)) w.heap.size (fun _ => True) (.slice (some ⟨w.heap.size, 0, none⟩) 0 0) [] :=
        ⟨fun _ _ => trivial, [], World.ownsRow_made w #[] 0 (Nat.le_refl _) (Nat.zero_le _) rfl, ⟨rfl, fun j p hj => by simp at hj⟩⟩
      have HOA := Aside0.mk HO
      clear HO
      go_wp2_with (at_builtin; refine Kd.R_append_row (Value.int .u8) 0 (h1 := fun _ => rfl) (w0 := w) w.heap.size rfl _ _ 43 5 (.int .u8 0) 1 rfl Tryd.underlying43 slices_Clone_byte_byte.info rfl (by decide) _ [] l0 (some ad) l0.length c0 (fun _ => True) rfl rfl (fun _ _ => trivial) HOA.out (Kd.C_alloc HR.out _) (below_alloc (Below.refl _ _) _) (by simp) (by simp; omega) ?_; intro v1 w1 hR hB hg hob)
      go_ret
      exact ⟨_, rfl, hR, hB⟩
  · rw [if_neg hb] at h
    cases h


/-! ### strings_Compare: function 77 (told by hand) -/
def strings_Compare.f (a0 a1 : ByteArray) : Option Int := some (Lib.compareBytes a0.data.toList a1.data.toList)
theorem strings_Compare.calls (a0 a1 : ByteArray) (r : Int) (w : World) (h : strings_Compare.f a0 a1 = some r) : Calls Tryd.prog 77 #[.string a0, .string a1] w fun e w' => e = .returned (.int .i64 r) ∧ Drawn0 w w' := by
  obtain rfl := Option.some.inj h
  refine (Tryd.strings_Compare a0 a1 w).mono ?_
  rintro e w' ⟨rfl, rfl⟩
  exact ⟨rfl, Drawn0.refl _⟩


/-! ### model_place: function 81 (told by hand) -/
theorem model_place.cmp_lt : ∀ a b : List UInt8, (Lib.compareBytes a b < 0 ↔ a < b) ∧ (Lib.compareBytes a b = 0 ↔ a = b)
  | [], [] => by simp [Lib.compareBytes]
  | [], b :: y => by simp [Lib.compareBytes]
  | a :: x, [] => by simp [Lib.compareBytes]
  | a :: x, b :: y => by
    have ih := model_place.cmp_lt x y
    unfold Lib.compareBytes
    rw [List.cons_lt_cons_iff]
    by_cases h1 : a < b
    · simp [h1]
      rintro rfl
      exact absurd h1 (by simp [UInt8.lt_irrefl])
    · by_cases h2 : b < a
      · simp [h1, h2]
        refine ⟨?_, ?_⟩
        · rintro rfl
          exact absurd h2 (by simp [UInt8.lt_irrefl])
        · rintro rfl
          exact absurd h2 (by simp [UInt8.lt_irrefl])
      · have e : a = b := UInt8.le_antisymm (UInt8.not_lt.1 h2) (UInt8.not_lt.1 h1)
        subst e
        simp [h1, ih]
def model_place.less (l : List S45) (s : ByteArray) : Nat := l.countP fun y => decide (y.f0.data.toList < s.data.toList)
def model_place.f (l0 : List S45) (a1 : ByteArray) : Option (Int × Bool) := if l0.length ≤ 1000000 ∧ (l0.map (·.f0.data.toList)).Pairwise (· ≤ ·) then
    some (((model_place.less l0 a1 : Nat) : Int), match l0[model_place.less l0 a1]? with | some y => y.f0.data.toList == a1.data.toList | none => false) else none
theorem model_place.closure (n s : ByteArray) (A : Option Addr) (m c : Nat) (w : World) : Calls Tryd.prog 96 #[.agg #[.string n, .slice A m c], .string s] w fun e w' => e = .returned (.int .i64 (Lib.compareBytes n.data.toList s.data.toList)) ∧ Below w.heap.size w w' := by
  generalize hr : Lib.compareBytes n.data.toList s.data.toList = r
  have HR := Aside0.mk hr
  clear hr
  go_enter Tryd.func96, Tryd.ntmps96
  go_wp2_with fail
  refine (strings_Compare.calls n s r _ (congrArg some HR.out)).mono ?_
  rintro e w1 ⟨rfl, ⟨nd, rfl⟩⟩
  go_wp2
  go_ret
  exact ⟨rfl, by repeat (first | exact Below.refl _ _ | apply below_alloc | apply pw_below_drewN | apply below_drew1)⟩
set_option maxRecDepth 100000 in
set_option maxHeartbeats 4000000 in
theorem model_place.bs (A0 : Option Addr) (c0 : Nat) (l0 : List S45) (a1 : ByteArray) (w : World) (hr0 : Kd.C k45 w A0 l0.length l0) (hlen : l0.length ≤ 1000000) (hsort : (l0.map (·.f0.data.toList)).Pairwise (· ≤ ·)) :
    Calls Tryd.prog 95 #[.slice A0 l0.length c0, .string a1, .func (.func 96) #[] #[]] w fun e w' =>
      e = .returned (.tuple #[.int .i64 (model_place.less l0 a1 : Nat), .bool (match l0[model_place.less l0 a1]? with | some y => y.f0.data.toList == a1.data.toList | none => false)]) ∧ Below w.heap.size w w' := by
  have hel : ∀ i, (hi : i < l0.length) → ∃ ad A1 c1, A0 = some ad ∧ ∀ W, Below w.heap.size w W → W.cell? (ad.add (i * 2)) = some (.string l0[i].f0) ∧ W.cell? ⟨(ad.add (i * 2)).block, (ad.add (i * 2)).off + 1, none⟩ = some (.slice A1 l0[i].f1.length c1) := fun i hi => by
    obtain ⟨ad, A1, c1, e, h1, h2, _, _⟩ := at_T45 hr0 (i : Int) (by omega) (by omega)
    have er : rd_T45 l0 (i : Int) = l0[i] := by
      simp [rd_T45, hi]
    rw [er, Int.toNat_natCast] at h1
    rw [er, Int.toNat_natCast] at h2
    have hlt : (ad.add (i * 2)).block < w.heap.size := by
      unfold World.cell? at h1
      cases hb : w.heap[(ad.add (i * 2)).block]? with
      | none => rw [hb] at h1; cases h1
      | some o => exact (Array.getElem?_eq_some_iff.1 hb).1
    exact ⟨ad, A1, c1, e, fun W hW => ⟨(hW.cell (p := ad.add (i * 2)) hlt).trans h1, (hW.cell (p := ⟨(ad.add (i * 2)).block, (ad.add (i * 2)).off + 1, none⟩) hlt).trans h2⟩⟩
  have hmono : ∀ a b, (ha : a < l0.length) → (hb : b < l0.length) → a ≤ b → l0[b].f0.data.toList < a1.data.toList → l0[a].f0.data.toList < a1.data.toList := fun a b ha hb hab h => by
    rcases Nat.lt_or_eq_of_le hab with hlt | rfl
    · have := List.pairwise_iff_getElem.1 hsort a b (by simpa using ha) (by simpa using hb) hlt
      rw [List.getElem_map, List.getElem_map] at this
      by_cases e : l0[a].f0.data.toList = l0[b].f0.data.toList
      · rw [e]; exact h
      · by_cases hl : l0[a].f0.data.toList < l0[b].f0.data.toList
        · exact List.lt_trans hl h
        · exact absurd (List.le_antisymm this hl) e
    · exact h
  have HE := Aside0.mk hel
  have HM := Aside0.mk hmono
  clear hel hmono hr0 hsort
  generalize hfb : (match l0[model_place.less l0 a1]? with | some y => y.f0.data.toList == a1.data.toList | none => false) = fb
  generalize hcnt : model_place.less l0 a1 = cnt at hfb ⊢
  have FB := Aside0.mk hfb
  have CN := Aside0.mk hcnt
  clear hfb hcnt
  go_enter Tryd.func95, Tryd.ntmps95
  go_wp2_with fail
  go_loopg [9, 10] l0.length (fun kx s9 s10 wr => ∃ (lo hi : Nat), s9 = .int .i64 lo ∧ s10 = .int .i64 hi ∧ lo ≤ hi ∧ hi ≤ l0.length ∧ hi - lo ≤ kx ∧ Aside0 (Below w.heap.size w wr) ∧
    Aside0 ((∀ t, t < lo → ∀ h : t < l0.length, l0[t].f0.data.toList < a1.data.toList) ∧ (∀ t, hi ≤ t → ∀ h : t < l0.length, ¬ l0[t].f0.data.toList < a1.data.toList)))
  case atStart => exact ⟨0, l0.length, rfl, rfl, Nat.zero_le _, Nat.le_refl _, by omega, ⟨Below.refl _ _⟩, ⟨fun t ht => absurd ht (Nat.not_lt_zero _), fun t h1 h2 => by omega⟩⟩
  case round =>
    obtain ⟨lo, hi, rfl, rfl, hlh, hin, hg, HB, I⟩ := hrel
    by_cases hlt : lo < hi
    · have hmid : (lo + hi) / 2 < l0.length := by omega
      obtain ⟨ad, A1, c1, rfl, hcs⟩ := HE.out ((lo + hi) / 2) hmid
      obtain ⟨hc1, hc2⟩ := hcs wr HB.out
      clear hcs
      have hz : (((lo + hi) / 2 : Nat) : Int) = ((lo : Int) + (hi : Int)) / 2 := by omega
      have hnn : (((lo + hi) / 2 : Nat) : Int) < (l0.length : Int) := by omega
      have htn : (((lo : Int) + (hi : Int)) / 2).toNat = (lo + hi) / 2 := by omega
      have hz2 : ((lo : Int) + (hi : Int)) / 2 < (l0.length : Int) := by omega
      have hz3 : 0 ≤ ((lo : Int) + (hi : Int)) / 2 := by omega
      generalize hx : l0[(lo + hi) / 2] = x at hc1 hc2
      have HX := Aside0.mk hx
      clear hx
      go_wp2_with fail
      refine (model_place.closure x.f0 a1 A1 _ c1 wr).mono ?_
      have hcl := (model_place.cmp_lt x.f0.data.toList a1.data.toList).1
      generalize Lib.compareBytes x.f0.data.toList a1.data.toList = r at hcl ⊢
      rintro e w1 ⟨rfl, hb⟩
      have HB2 := Aside0.mk (below_step HB.out hb)
      clear hb HB hc1 hc2
      by_cases hs : x.f0.data.toList < a1.data.toList
      · have d1 : decide (r < 0) = true := decide_eq_true (hcl.2 hs)
        have I2 : Aside0 ((∀ t, t < (lo + hi) / 2 + 1 → ∀ h : t < l0.length, l0[t].f0.data.toList < a1.data.toList) ∧ (∀ t, hi ≤ t → ∀ h : t < l0.length, ¬ l0[t].f0.data.toList < a1.data.toList)) :=
          ⟨fun t ht h => HM.out t ((lo + hi) / 2) h hmid (by omega) (by rw [HX.out]; exact hs), I.out.2⟩
        clear hcl hs HX I
        go_wp2
        go_roundg (hi - ((lo + hi) / 2 + 1))
        case measure => omega
        case rel => exact ⟨(lo + hi) / 2 + 1, hi, by rw [show ((lo : Int) + (hi : Int)) / 2 + 1 = (((lo + hi) / 2 + 1 : Nat) : Int) by omega], rfl, by omega, hin, Nat.le_refl _, HB2, I2⟩
      · have d1 : decide (r < 0) = false := decide_eq_false fun h => hs (hcl.1 h)
        have I2 : Aside0 ((∀ t, t < lo → ∀ h : t < l0.length, l0[t].f0.data.toList < a1.data.toList) ∧ (∀ t, (lo + hi) / 2 ≤ t → ∀ h : t < l0.length, ¬ l0[t].f0.data.toList < a1.data.toList)) :=
          ⟨I.out.1, fun t ht h hl => hs (by rw [← HX.out]; exact HM.out ((lo + hi) / 2) t hmid h ht hl)⟩
        clear hcl hs HX I
        go_wp2
        go_roundg ((lo + hi) / 2 - lo)
        case measure => omega
        case rel => exact ⟨lo, (lo + hi) / 2, rfl, by rw [show ((lo : Int) + (hi : Int)) / 2 = (((lo + hi) / 2 : Nat) : Int) by omega], by omega, by omega, Nat.le_refl _, HB2, I2⟩
    · obtain rfl : hi = lo := by omega
      have ecnt : model_place.less l0 a1 = hi := by
        unfold model_place.less
        have e1 : l0 = l0.take hi ++ l0.drop hi := (List.take_append_drop hi l0).symm
        rw [e1, List.countP_append]
        have h1 : (l0.take hi).countP (fun y => decide (y.f0.data.toList < a1.data.toList)) = hi := by
          have : (l0.take hi).length = hi := by rw [List.length_take]; omega
          conv => rhs; rw [← this]
          rw [List.countP_eq_length]
          intro y hy
          obtain ⟨j, hj, rfl⟩ := List.mem_iff_getElem.1 hy
          rw [List.getElem_take]
          exact decide_eq_true (I.out.1 j (by rw [List.length_take] at hj; omega) _)
        have h2 : (l0.drop hi).countP (fun y => decide (y.f0.data.toList < a1.data.toList)) = 0 := by
          rw [List.countP_eq_zero]
          intro y hy
          obtain ⟨j, hj, rfl⟩ := List.mem_iff_getElem.1 hy
          rw [List.getElem_drop]
          simpa using I.out.2 (hi + j) (by omega) _
        omega
      have ec : cnt = hi := CN.out.symm.trans ecnt
      clear I HM ecnt CN
      subst ec
      have hfb := FB.out
      clear FB
      by_cases hlt2 : cnt < l0.length
      · obtain ⟨ad, A1, c1, rfl, hcs⟩ := HE.out cnt hlt2
        obtain ⟨hc1, hc2⟩ := hcs wr HB.out
        clear hcs
        rw [List.getElem?_eq_getElem hlt2] at hfb
        have hz2 : (cnt : Int) < (l0.length : Int) := by omega
        generalize l0[cnt] = x at hc1 hc2 hfb
        subst hfb
        go_wp2_with fail
        refine (model_place.closure x.f0 a1 A1 _ c1 wr).mono ?_
        have hcl := (model_place.cmp_lt x.f0.data.toList a1.data.toList).2
        generalize Lib.compareBytes x.f0.data.toList a1.data.toList = r at hcl ⊢
        rintro e w1 ⟨rfl, hb⟩
        have HB2 := Aside0.mk (below_step HB.out hb)
        have HCL := Aside0.mk hcl
        clear hb HB hc1 hc2 hcl
        go_wp2
        go_ret2
        refine ⟨?_, HB2.out⟩
        have e2 : (r == 0) = (x.f0.data.toList == a1.data.toList) := by
          rw [Bool.eq_iff_iff, beq_iff_eq, beq_iff_eq]
          exact HCL.out
        have e3 : (r == 0) = (x.f0.data == a1.data) := by
          rw [Bool.eq_iff_iff, beq_iff_eq, beq_iff_eq]
          exact HCL.out.trans Array.toList_inj
        show Ending.returned (.tuple #[.int .i64 (cnt : Int), .bool (r == 0)]) = Ending.returned (.tuple #[.int .i64 (cnt : Int), .bool (x.f0.data == a1.data)])
        rw [e3]
      · rw [List.getElem?_eq_none (by omega)] at hfb
        subst hfb
        have hz2 : ¬ (cnt : Int) < (l0.length : Int) := by omega
        go_wp2
        go_ret2
        exact ⟨rfl, HB.out⟩
theorem model_place.calls (A0 : Option Addr) (c0 : Nat) (l0 : List S45) (a1 : ByteArray) (r1 : Int) (r2 : Bool) (w : World) (hr0 : Kd.C k45 w A0 l0.length l0) (hc0 : l0.length ≤ c0) (h : model_place.f l0 a1 = some (r1, r2)) :
    Calls Tryd.prog 81 #[.slice A0 l0.length c0, .string a1] w fun e w' => e = .returned (.tuple #[.int .i64 r1, .bool r2]) ∧ Below w.heap.size w w' := by
  unfold model_place.f at h
  by_cases hs : l0.length ≤ 1000000 ∧ (l0.map (·.f0.data.toList)).Pairwise (· ≤ ·)
  · rw [if_pos hs] at h
    obtain ⟨h1, h2⟩ := Prod.mk.inj (Option.some.inj h)
    have HS := Aside0.mk (model_place.bs A0 c0 l0 a1 w hr0 hs.1 hs.2)
    rw [h1, h2] at HS
    clear hr0 h1 h2 hs h
    go_enter Tryd.func81, Tryd.ntmps81
    go_wp2_with fail
    refine HS.out.mono ?_
    rintro e w1 ⟨rfl, hb⟩
    have HB := Aside0.mk hb
    clear hb HS
    go_wp2
    go_ret2
    exact ⟨rfl, HB.out⟩
  · rw [if_neg hs] at h
    cases h


end Go.Proofs.YtcfcbkcaondfcaaDoor.PPlanJoins
