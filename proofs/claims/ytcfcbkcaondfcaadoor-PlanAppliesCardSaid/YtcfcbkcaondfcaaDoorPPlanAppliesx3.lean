/- The machine side of a law: for each Go function that it uses a Lean function with the same answers, and the proof that the Go code comes to them; or the row of the law over these. Written by a program of this session. -/
import Derived.Test.YtcfcbkcaondfcaaDoorPPlanAppliesx0
namespace Go.Proofs.YtcfcbkcaondfcaaDoor.PPlanApplies
open Go.RowKit Go.Proofs.YtcfcbkcaondfcaaDoorW.PrintWords Go.Proofs.YtcfcbkcaondfcaaDoorW.PrintLast Go.Proofs.YtcfcbkcaondfcaaDoorW.PrintMore
attribute [local go_sem] max2_int min2_int max_two min_two max_three min_three max_four min_four   -- for this text's walks alone
set_option linter.unusedVariables false
set_option linter.unusedSimpArgs false

/-! ### bindleref38_Same: function 31 -/
def bindleref38_Same.l0 : Nat → List (S72) → List (S72) → Int → Option (Bool)
 | 0, _, _, _ => none
 | k + 1, x0, x1, x5 => if x5 < (x0.length : Int) then (if 0 ≤ x5 then (if x5 < (x1.length : Int) then (if ((rd_T72 x0 x5).f0) = ((rd_T72 x1 x5).f0) then (if ((rd_T72 x0 x5).f1).toList = ((rd_T72 x1 x5).f1).toList then (if (strOfNums ((rd_T72 x0 x5).f2)).toList = (strOfNums ((rd_T72 x1 x5).f2)).toList then (if ((rd_T72 x0 x5).f3) = 0 then (if (((rd_T72 x0 x5).f4.f0).length : Int) = 0 then (if ((rd_T72 x0 x5).f4.f1) = 0 then (if ((rd_T72 x0 x5).f4.f2) = 0 then (bindleref38_Same.l0 k x0 x1 (wrap64 (x5 + 1))) else (some false)) else (some false)) else (some false)) else (some false)) else (some false)) else (some false)) else (some false)) else (none)) else (none)) else (some true)
def bindleref38_Same.f (k : Nat) (l0 : List (S72)) (l1 : List (S72)) : Option (Bool) := if (l0.length : Int) = (l1.length : Int) then (bindleref38_Same.l0 k l0 l1 0) else (some false)
theorem bindleref38_Same.mono_l : ∀ k, (∀ y0 y1 y2, LeO (bindleref38_Same.l0 k y0 y1 y2) (bindleref38_Same.l0 (k + 1) y0 y1 y2))
 | 0 => fun _ _ _ r h => by simp [bindleref38_Same.l0] at h
 | k + 1 => by
  have ih0 := bindleref38_Same.mono_l k
  ·intro y0 y1 y2
   unfold bindleref38_Same.l0
   repeat' first
   | (with_reducible exact ih0 _ _ _)
   | (with_reducible exact LeO.refl _)
   | (with_reducible exact LeO.none _)
   | (with_reducible refine LeO.ite ?_ ?_)
   | (with_reducible refine LeO.bind ?_ (fun _ => ?_))
   | exact ih0 _ _ _
   | exact LeO.none _
   | refine LeO.ite ?_ ?_
   | refine LeO.bind ?_ (fun _ => ?_)
theorem bindleref38_Same.mono : ∀ a0 a1 k, LeO (bindleref38_Same.f k a0 a1) (bindleref38_Same.f (k + 1) a0 a1) := by
 intro a0 a1 k
 have ih0 := bindleref38_Same.mono_l k
 unfold bindleref38_Same.f
 repeat' first
   | (with_reducible exact ih0 _ _ _)
   | (with_reducible exact LeO.refl _)
   | (with_reducible exact LeO.none _)
   | (with_reducible refine LeO.ite ?_ ?_)
   | (with_reducible refine LeO.bind ?_ (fun _ => ?_))
   | exact ih0 _ _ _
   | exact LeO.none _
   | refine LeO.ite ?_ ?_
   | refine LeO.bind ?_ (fun _ => ?_)
set_option maxHeartbeats 8000000 in
set_option maxRecDepth 100000 in
theorem bindleref38_Same.calls (k : Nat) (A0 : Option Addr) (c0 : Nat) (l0 : List (S72)) (A1 : Option Addr) (c1 : Nat) (l1 : List (S72)) (r : Bool) (w : World) (hr0 : Kd.C k72 w A0 l0.length l0) (hc0 : l0.length ≤ c0) (hr1 : Kd.C k72 w A1 l1.length l1) (hc1 : l1.length ≤ c1) (h : bindleref38_Same.f k l0 l1 = some r) :
  Calls Tryd.prog 31 #[.slice A0 l0.length c0, .slice A1 l1.length c1] w fun e w' => e = .returned (.bool r) ∧ Drawn0 w w' := by
 have HR0 := Aside0.mk hr0
 have HC0 := Aside0.mk hc0
 clear hr0 hc0
 have HR1 := Aside0.mk hr1
 have HC1 := Aside0.mk hc1
 clear hr1 hc1
 have H : (if (l0.length : Int) = (l1.length : Int) then (bindleref38_Same.l0 k l0 l1 0) else (some false)) = some r := h
 clear h
 by_cases c3 : (l0.length : Int) = (l1.length : Int)
 ·rw [if_pos c3] at H
  have c3b0 : ((l0.length : Int) == (l1.length : Int)) = true := beq_iff_eq.mpr c3
  have c3b1 : ((l0.length : Int) != (l1.length : Int)) = false := bne_eq_false_iff_eq.mpr c3
  have c3b2 : (l0.length == l1.length) = true := by first | simpa using c3 | (simp at c3 ⊢; omega)
  clear c3
  have H' := Aside0.mk H
  clear H
  go_enter Tryd.func31, Tryd.ntmps31
  go_wp2
  repeat (go_quiet (fail); try go_wp2)
  go_loopg [5] k (fun kq v5 w' => ∃ (x5_1 : Int), v5 = .int .i64 x5_1 ∧ Aside0 (bindleref38_Same.l0 kq l0 l1 x5_1 = some r) ∧ Aside0 (kq ≤ k) ∧ Drawn0 w w')
  case atStart => exact ⟨(0), (by first | rfl | (simp only [YtcfcbkcaondfcaaDoorMpHelp.leq_not, YtcfcbkcaondfcaaDoorMpHelp.gtr_less]; done) | (simp; done) | (simp [*]; done)), H', ⟨Nat.le_refl _⟩, by repeat (first | exact Drawn0.refl _ | apply Drawn0.step)⟩
  case round =>
   clear H'
   try clear c1
   try clear p2
   try clear c3
   try clear c3b0
   try clear c3b1
   try clear c3b2
   obtain ⟨x5_1, rfl, HA, HK1, ⟨m1, rfl⟩⟩ := hrel
   cases gk with
   | zero => exact absurd HA.out (by simp [bindleref38_Same.l0])
   | succ k1 =>
    have H := HA.out
    clear HA
    simp only [bindleref38_Same.l0] at H
    by_cases c4 : x5_1 < (l0.length : Int)
    ·rw [if_pos c4] at H
     have c4b0 : decide (x5_1 < (l0.length : Int)) = true := decide_eq_true c4
     clear c4
     by_cases c5 : 0 ≤ x5_1
     ·rw [if_pos c5] at H
      have c5b0 : decide (0 ≤ x5_1) = true := decide_eq_true c5
      clear c5
      by_cases c6 : x5_1 < (l1.length : Int)
      ·rw [if_pos c6] at H
       have c6b0 : decide (x5_1 < (l1.length : Int)) = true := decide_eq_true c6
       clear c6
       by_cases c7 : ((rd_T72 l0 x5_1).f0) = ((rd_T72 l1 x5_1).f0)
       ·rw [if_pos c7] at H
        have c7b0 : (((rd_T72 l0 x5_1).f0) == ((rd_T72 l1 x5_1).f0)) = true := beq_iff_eq.mpr c7
        have c7b1 : (((rd_T72 l0 x5_1).f0) != ((rd_T72 l1 x5_1).f0)) = false := bne_eq_false_iff_eq.mpr c7
        clear c7
        by_cases c8 : ((rd_T72 l0 x5_1).f1).toList = ((rd_T72 l1 x5_1).f1).toList
        ·rw [if_pos c8] at H
         have c8b0 : (((rd_T72 l0 x5_1).f1).toList == ((rd_T72 l1 x5_1).f1).toList) = true := beq_iff_eq.mpr c8
         have c8b1 : (((rd_T72 l0 x5_1).f1).toList != ((rd_T72 l1 x5_1).f1).toList) = false := bne_eq_false_iff_eq.mpr c8
         clear c8
         by_cases c9 : (strOfNums ((rd_T72 l0 x5_1).f2)).toList = (strOfNums ((rd_T72 l1 x5_1).f2)).toList
         ·rw [if_pos c9] at H
          have c9b0 : ((strOfNums ((rd_T72 l0 x5_1).f2)).toList == (strOfNums ((rd_T72 l1 x5_1).f2)).toList) = true := beq_iff_eq.mpr c9
          have c9b1 : ((strOfNums ((rd_T72 l0 x5_1).f2)).toList != (strOfNums ((rd_T72 l1 x5_1).f2)).toList) = false := bne_eq_false_iff_eq.mpr c9
          clear c9
          by_cases c10 : ((rd_T72 l0 x5_1).f3) = 0
          ·rw [if_pos c10] at H
           have c10b0 : (((rd_T72 l0 x5_1).f3) == 0) = true := beq_iff_eq.mpr c10
           have c10b1 : (((rd_T72 l0 x5_1).f3) != 0) = false := bne_eq_false_iff_eq.mpr c10
           clear c10
           by_cases c11 : (((rd_T72 l0 x5_1).f4.f0).length : Int) = 0
           ·rw [if_pos c11] at H
            have c11b0 : ((((rd_T72 l0 x5_1).f4.f0).length : Int) == 0) = true := beq_iff_eq.mpr c11
            have c11b1 : ((((rd_T72 l0 x5_1).f4.f0).length : Int) != 0) = false := bne_eq_false_iff_eq.mpr c11
            clear c11
            by_cases c12 : ((rd_T72 l0 x5_1).f4.f1) = 0
            ·rw [if_pos c12] at H
             have c12b0 : (((rd_T72 l0 x5_1).f4.f1) == 0) = true := beq_iff_eq.mpr c12
             have c12b1 : (((rd_T72 l0 x5_1).f4.f1) != 0) = false := bne_eq_false_iff_eq.mpr c12
             clear c12
             by_cases c13 : ((rd_T72 l0 x5_1).f4.f2) = 0
             ·rw [if_pos c13] at H
              have c13b0 : (((rd_T72 l0 x5_1).f4.f2) == 0) = true := beq_iff_eq.mpr c13
              have c13b1 : (((rd_T72 l0 x5_1).f4.f2) != 0) = false := bne_eq_false_iff_eq.mpr c13
              clear c13
              have H' := Aside0.mk H
              clear H
              have p129 : 0 ≤ (x5_1 : Int) := of_decide_eq_true (by first | (with_reducible assumption) | assumption)
              have q129 : x5_1 < (l0.length : Int) := of_decide_eq_true (by first | (with_reducible assumption) | assumption)
              obtain ⟨ad129, A129_2, c129_2, A129_4, c129_4, e129, hx129_0, hx129_1, hx129_2, hx129_3, hx129_4, hx129_5, hx129_6, hl129_2, hi129_2, hl129_4, hi129_4⟩ := at_T72 HR0.out x5_1 p129 q129
              cases e129
              have HR129_2 := Aside0.mk hi129_2
              have HC129_2 := Aside0.mk hl129_2
              clear hi129_2 hl129_2
              have HR129_4 := Aside0.mk hi129_4
              have HC129_4 := Aside0.mk hl129_4
              clear hi129_4 hl129_4
              replace p129 := eq_true p129
              replace q129 := eq_true q129
              have p130 : 0 ≤ (x5_1 : Int) := of_decide_eq_true (by first | (with_reducible assumption) | assumption)
              have q130 : x5_1 < (l1.length : Int) := of_decide_eq_true (by first | (with_reducible assumption) | assumption)
              obtain ⟨ad130, A130_2, c130_2, A130_4, c130_4, e130, hx130_0, hx130_1, hx130_2, hx130_3, hx130_4, hx130_5, hx130_6, hl130_2, hi130_2, hl130_4, hi130_4⟩ := at_T72 HR1.out x5_1 p130 q130
              cases e130
              have HR130_2 := Aside0.mk hi130_2
              have HC130_2 := Aside0.mk hl130_2
              clear hi130_2 hl130_2
              have HR130_4 := Aside0.mk hi130_4
              have HC130_4 := Aside0.mk hl130_4
              clear hi130_4 hl130_4
              replace p130 := eq_true p130
              replace q130 := eq_true q130
              have p131 : 0 ≤ (x5_1 : Int) := of_decide_eq_true (by first | (with_reducible assumption) | assumption)
              have q131 : x5_1 < (l0.length : Int) := of_decide_eq_true (by first | (with_reducible assumption) | assumption)
              obtain ⟨ad131, A131_2, c131_2, A131_4, c131_4, e131, hx131_0, hx131_1, hx131_2, hx131_3, hx131_4, hx131_5, hx131_6, hl131_2, hi131_2, hl131_4, hi131_4⟩ := at_T72 HR0.out x5_1 p131 q131
              obtain rfl : ad129 = ad131 := (by injection e131)
              have HR131_2 := Aside0.mk hi131_2
              have HC131_2 := Aside0.mk hl131_2
              clear hi131_2 hl131_2
              have HR131_4 := Aside0.mk hi131_4
              have HC131_4 := Aside0.mk hl131_4
              clear hi131_4 hl131_4
              replace p131 := eq_true p131
              replace q131 := eq_true q131
              have ea_ := Option.some.inj (hx129_2.symm.trans hx131_2)
              injection ea_ with ea_ en_ ec_
              subst ea_
              subst ec_
              clear en_
              have ea_ := Option.some.inj (hx129_4.symm.trans hx131_4)
              injection ea_ with ea_ en_ ec_
              subst ea_
              subst ec_
              clear en_
              have p132 : 0 ≤ (x5_1 : Int) := of_decide_eq_true (by first | (with_reducible assumption) | assumption)
              have q132 : x5_1 < (l1.length : Int) := of_decide_eq_true (by first | (with_reducible assumption) | assumption)
              obtain ⟨ad132, A132_2, c132_2, A132_4, c132_4, e132, hx132_0, hx132_1, hx132_2, hx132_3, hx132_4, hx132_5, hx132_6, hl132_2, hi132_2, hl132_4, hi132_4⟩ := at_T72 HR1.out x5_1 p132 q132
              obtain rfl : ad130 = ad132 := (by injection e132)
              have HR132_2 := Aside0.mk hi132_2
              have HC132_2 := Aside0.mk hl132_2
              clear hi132_2 hl132_2
              have HR132_4 := Aside0.mk hi132_4
              have HC132_4 := Aside0.mk hl132_4
              clear hi132_4 hl132_4
              replace p132 := eq_true p132
              replace q132 := eq_true q132
              have ea_ := Option.some.inj (hx130_2.symm.trans hx132_2)
              injection ea_ with ea_ en_ ec_
              subst ea_
              subst ec_
              clear en_
              have ea_ := Option.some.inj (hx130_4.symm.trans hx132_4)
              injection ea_ with ea_ en_ ec_
              subst ea_
              subst ec_
              clear en_
              have p133 : 0 ≤ (x5_1 : Int) := of_decide_eq_true (by first | (with_reducible assumption) | assumption)
              have q133 : x5_1 < (l0.length : Int) := of_decide_eq_true (by first | (with_reducible assumption) | assumption)
              obtain ⟨ad133, A133_2, c133_2, A133_4, c133_4, e133, hx133_0, hx133_1, hx133_2, hx133_3, hx133_4, hx133_5, hx133_6, hl133_2, hi133_2, hl133_4, hi133_4⟩ := at_T72 HR0.out x5_1 p133 q133
              obtain rfl : ad129 = ad133 := (by injection e133)
              have HR133_2 := Aside0.mk hi133_2
              have HC133_2 := Aside0.mk hl133_2
              clear hi133_2 hl133_2
              have HR133_4 := Aside0.mk hi133_4
              have HC133_4 := Aside0.mk hl133_4
              clear hi133_4 hl133_4
              replace p133 := eq_true p133
              replace q133 := eq_true q133
              have ea_ := Option.some.inj (hx129_2.symm.trans hx133_2)
              injection ea_ with ea_ en_ ec_
              subst ea_
              subst ec_
              clear en_
              have ea_ := Option.some.inj (hx129_4.symm.trans hx133_4)
              injection ea_ with ea_ en_ ec_
              subst ea_
              subst ec_
              clear en_
              have hcv14 := Kd.C_string (P := Tryd.prog) (A := A129_2) (c := c129_2) Tryd.underlying43 Tryd.underlying5 Tryd.underlying9 HR133_2.out
              try have hcv14w := fun (m_ n_ : Nat) => Kd.C_string (P := Tryd.prog) (A := A129_2) (c := c129_2) Tryd.underlying43 Tryd.underlying5 Tryd.underlying9 (Kd.C_drewN (Kd.C_drewN HR133_2.out m_) n_)
              try have hcv14v := fun (m_ : Nat) => Kd.C_string (P := Tryd.prog) (A := A129_2) (c := c129_2) Tryd.underlying43 Tryd.underlying5 Tryd.underlying9 (Kd.C_drewN HR133_2.out m_)
              have p134 : 0 ≤ (x5_1 : Int) := of_decide_eq_true (by first | (with_reducible assumption) | assumption)
              have q134 : x5_1 < (l1.length : Int) := of_decide_eq_true (by first | (with_reducible assumption) | assumption)
              obtain ⟨ad134, A134_2, c134_2, A134_4, c134_4, e134, hx134_0, hx134_1, hx134_2, hx134_3, hx134_4, hx134_5, hx134_6, hl134_2, hi134_2, hl134_4, hi134_4⟩ := at_T72 HR1.out x5_1 p134 q134
              obtain rfl : ad130 = ad134 := (by injection e134)
              have HR134_2 := Aside0.mk hi134_2
              have HC134_2 := Aside0.mk hl134_2
              clear hi134_2 hl134_2
              have HR134_4 := Aside0.mk hi134_4
              have HC134_4 := Aside0.mk hl134_4
              clear hi134_4 hl134_4
              replace p134 := eq_true p134
              replace q134 := eq_true q134
              have ea_ := Option.some.inj (hx130_2.symm.trans hx134_2)
              injection ea_ with ea_ en_ ec_
              subst ea_
              subst ec_
              clear en_
              have ea_ := Option.some.inj (hx130_4.symm.trans hx134_4)
              injection ea_ with ea_ en_ ec_
              subst ea_
              subst ec_
              clear en_
              have hcv15 := Kd.C_string (P := Tryd.prog) (A := A130_2) (c := c130_2) Tryd.underlying43 Tryd.underlying5 Tryd.underlying9 HR134_2.out
              try have hcv15w := fun (m_ n_ : Nat) => Kd.C_string (P := Tryd.prog) (A := A130_2) (c := c130_2) Tryd.underlying43 Tryd.underlying5 Tryd.underlying9 (Kd.C_drewN (Kd.C_drewN HR134_2.out m_) n_)
              try have hcv15v := fun (m_ : Nat) => Kd.C_string (P := Tryd.prog) (A := A130_2) (c := c130_2) Tryd.underlying43 Tryd.underlying5 Tryd.underlying9 (Kd.C_drewN HR134_2.out m_)
              have p135 : 0 ≤ (x5_1 : Int) := of_decide_eq_true (by first | (with_reducible assumption) | assumption)
              have q135 : x5_1 < (l0.length : Int) := of_decide_eq_true (by first | (with_reducible assumption) | assumption)
              obtain ⟨ad135, A135_2, c135_2, A135_4, c135_4, e135, hx135_0, hx135_1, hx135_2, hx135_3, hx135_4, hx135_5, hx135_6, hl135_2, hi135_2, hl135_4, hi135_4⟩ := at_T72 HR0.out x5_1 p135 q135
              obtain rfl : ad129 = ad135 := (by injection e135)
              have HR135_2 := Aside0.mk hi135_2
              have HC135_2 := Aside0.mk hl135_2
              clear hi135_2 hl135_2
              have HR135_4 := Aside0.mk hi135_4
              have HC135_4 := Aside0.mk hl135_4
              clear hi135_4 hl135_4
              replace p135 := eq_true p135
              replace q135 := eq_true q135
              have ea_ := Option.some.inj (hx129_2.symm.trans hx135_2)
              injection ea_ with ea_ en_ ec_
              subst ea_
              subst ec_
              clear en_
              have ea_ := Option.some.inj (hx129_4.symm.trans hx135_4)
              injection ea_ with ea_ en_ ec_
              subst ea_
              subst ec_
              clear en_
              have p136 : 0 ≤ (x5_1 : Int) := of_decide_eq_true (by first | (with_reducible assumption) | assumption)
              have q136 : x5_1 < (l0.length : Int) := of_decide_eq_true (by first | (with_reducible assumption) | assumption)
              obtain ⟨ad136, A136_2, c136_2, A136_4, c136_4, e136, hx136_0, hx136_1, hx136_2, hx136_3, hx136_4, hx136_5, hx136_6, hl136_2, hi136_2, hl136_4, hi136_4⟩ := at_T72 HR0.out x5_1 p136 q136
              obtain rfl : ad129 = ad136 := (by injection e136)
              have HR136_2 := Aside0.mk hi136_2
              have HC136_2 := Aside0.mk hl136_2
              clear hi136_2 hl136_2
              have HR136_4 := Aside0.mk hi136_4
              have HC136_4 := Aside0.mk hl136_4
              clear hi136_4 hl136_4
              replace p136 := eq_true p136
              replace q136 := eq_true q136
              have ea_ := Option.some.inj (hx129_2.symm.trans hx136_2)
              injection ea_ with ea_ en_ ec_
              subst ea_
              subst ec_
              clear en_
              have ea_ := Option.some.inj (hx129_4.symm.trans hx136_4)
              injection ea_ with ea_ en_ ec_
              subst ea_
              subst ec_
              clear en_
              have p137 : 0 ≤ (x5_1 : Int) := of_decide_eq_true (by first | (with_reducible assumption) | assumption)
              have q137 : x5_1 < (l0.length : Int) := of_decide_eq_true (by first | (with_reducible assumption) | assumption)
              obtain ⟨ad137, A137_2, c137_2, A137_4, c137_4, e137, hx137_0, hx137_1, hx137_2, hx137_3, hx137_4, hx137_5, hx137_6, hl137_2, hi137_2, hl137_4, hi137_4⟩ := at_T72 HR0.out x5_1 p137 q137
              obtain rfl : ad129 = ad137 := (by injection e137)
              have HR137_2 := Aside0.mk hi137_2
              have HC137_2 := Aside0.mk hl137_2
              clear hi137_2 hl137_2
              have HR137_4 := Aside0.mk hi137_4
              have HC137_4 := Aside0.mk hl137_4
              clear hi137_4 hl137_4
              replace p137 := eq_true p137
              replace q137 := eq_true q137
              have ea_ := Option.some.inj (hx129_2.symm.trans hx137_2)
              injection ea_ with ea_ en_ ec_
              subst ea_
              subst ec_
              clear en_
              have ea_ := Option.some.inj (hx129_4.symm.trans hx137_4)
              injection ea_ with ea_ en_ ec_
              subst ea_
              subst ec_
              clear en_
              have p138 : 0 ≤ (x5_1 : Int) := of_decide_eq_true (by first | (with_reducible assumption) | assumption)
              have q138 : x5_1 < (l0.length : Int) := of_decide_eq_true (by first | (with_reducible assumption) | assumption)
              obtain ⟨ad138, A138_2, c138_2, A138_4, c138_4, e138, hx138_0, hx138_1, hx138_2, hx138_3, hx138_4, hx138_5, hx138_6, hl138_2, hi138_2, hl138_4, hi138_4⟩ := at_T72 HR0.out x5_1 p138 q138
              obtain rfl : ad129 = ad138 := (by injection e138)
              have HR138_2 := Aside0.mk hi138_2
              have HC138_2 := Aside0.mk hl138_2
              clear hi138_2 hl138_2
              have HR138_4 := Aside0.mk hi138_4
              have HC138_4 := Aside0.mk hl138_4
              clear hi138_4 hl138_4
              replace p138 := eq_true p138
              replace q138 := eq_true q138
              have ea_ := Option.some.inj (hx129_2.symm.trans hx138_2)
              injection ea_ with ea_ en_ ec_
              subst ea_
              subst ec_
              clear en_
              have ea_ := Option.some.inj (hx129_4.symm.trans hx138_4)
              injection ea_ with ea_ en_ ec_
              subst ea_
              subst ec_
              clear en_
              go_wp2
              repeat (go_quiet (fail); try go_wp2)
              go_roundg k1
              case measure => have := HK1.out; omega
              case rel => exact ⟨(wrap64 (x5_1 + 1)), (by first | rfl | (simp only [YtcfcbkcaondfcaaDoorMpHelp.leq_not, YtcfcbkcaondfcaaDoorMpHelp.gtr_less]; done) | (simp; done) | (simp [*]; done)), H', ⟨by have := HK1.out; omega⟩, by repeat (first | exact Drawn0.refl _ | apply Drawn0.step)⟩
             ·rw [if_neg c13] at H
              have c13b0 : (((rd_T72 l0 x5_1).f4.f2) == 0) = false := beq_eq_false_iff_ne.mpr c13
              have c13b1 : (((rd_T72 l0 x5_1).f4.f2) != 0) = true := bne_iff_ne.mpr c13
              obtain rfl := Option.some.inj H
              have p129 : 0 ≤ (x5_1 : Int) := of_decide_eq_true (by first | (with_reducible assumption) | assumption)
              have q129 : x5_1 < (l0.length : Int) := of_decide_eq_true (by first | (with_reducible assumption) | assumption)
              obtain ⟨ad129, A129_2, c129_2, A129_4, c129_4, e129, hx129_0, hx129_1, hx129_2, hx129_3, hx129_4, hx129_5, hx129_6, hl129_2, hi129_2, hl129_4, hi129_4⟩ := at_T72 HR0.out x5_1 p129 q129
              cases e129
              have HR129_2 := Aside0.mk hi129_2
              have HC129_2 := Aside0.mk hl129_2
              clear hi129_2 hl129_2
              have HR129_4 := Aside0.mk hi129_4
              have HC129_4 := Aside0.mk hl129_4
              clear hi129_4 hl129_4
              replace p129 := eq_true p129
              replace q129 := eq_true q129
              have p130 : 0 ≤ (x5_1 : Int) := of_decide_eq_true (by first | (with_reducible assumption) | assumption)
              have q130 : x5_1 < (l1.length : Int) := of_decide_eq_true (by first | (with_reducible assumption) | assumption)
              obtain ⟨ad130, A130_2, c130_2, A130_4, c130_4, e130, hx130_0, hx130_1, hx130_2, hx130_3, hx130_4, hx130_5, hx130_6, hl130_2, hi130_2, hl130_4, hi130_4⟩ := at_T72 HR1.out x5_1 p130 q130
              cases e130
              have HR130_2 := Aside0.mk hi130_2
              have HC130_2 := Aside0.mk hl130_2
              clear hi130_2 hl130_2
              have HR130_4 := Aside0.mk hi130_4
              have HC130_4 := Aside0.mk hl130_4
              clear hi130_4 hl130_4
              replace p130 := eq_true p130
              replace q130 := eq_true q130
              have p131 : 0 ≤ (x5_1 : Int) := of_decide_eq_true (by first | (with_reducible assumption) | assumption)
              have q131 : x5_1 < (l0.length : Int) := of_decide_eq_true (by first | (with_reducible assumption) | assumption)
              obtain ⟨ad131, A131_2, c131_2, A131_4, c131_4, e131, hx131_0, hx131_1, hx131_2, hx131_3, hx131_4, hx131_5, hx131_6, hl131_2, hi131_2, hl131_4, hi131_4⟩ := at_T72 HR0.out x5_1 p131 q131
              obtain rfl : ad129 = ad131 := (by injection e131)
              have HR131_2 := Aside0.mk hi131_2
              have HC131_2 := Aside0.mk hl131_2
              clear hi131_2 hl131_2
              have HR131_4 := Aside0.mk hi131_4
              have HC131_4 := Aside0.mk hl131_4
              clear hi131_4 hl131_4
              replace p131 := eq_true p131
              replace q131 := eq_true q131
              have ea_ := Option.some.inj (hx129_2.symm.trans hx131_2)
              injection ea_ with ea_ en_ ec_
              subst ea_
              subst ec_
              clear en_
              have ea_ := Option.some.inj (hx129_4.symm.trans hx131_4)
              injection ea_ with ea_ en_ ec_
              subst ea_
              subst ec_
              clear en_
              have p132 : 0 ≤ (x5_1 : Int) := of_decide_eq_true (by first | (with_reducible assumption) | assumption)
              have q132 : x5_1 < (l1.length : Int) := of_decide_eq_true (by first | (with_reducible assumption) | assumption)
              obtain ⟨ad132, A132_2, c132_2, A132_4, c132_4, e132, hx132_0, hx132_1, hx132_2, hx132_3, hx132_4, hx132_5, hx132_6, hl132_2, hi132_2, hl132_4, hi132_4⟩ := at_T72 HR1.out x5_1 p132 q132
              obtain rfl : ad130 = ad132 := (by injection e132)
              have HR132_2 := Aside0.mk hi132_2
              have HC132_2 := Aside0.mk hl132_2
              clear hi132_2 hl132_2
              have HR132_4 := Aside0.mk hi132_4
              have HC132_4 := Aside0.mk hl132_4
              clear hi132_4 hl132_4
              replace p132 := eq_true p132
              replace q132 := eq_true q132
              have ea_ := Option.some.inj (hx130_2.symm.trans hx132_2)
              injection ea_ with ea_ en_ ec_
              subst ea_
              subst ec_
              clear en_
              have ea_ := Option.some.inj (hx130_4.symm.trans hx132_4)
              injection ea_ with ea_ en_ ec_
              subst ea_
              subst ec_
              clear en_
              have p133 : 0 ≤ (x5_1 : Int) := of_decide_eq_true (by first | (with_reducible assumption) | assumption)
              have q133 : x5_1 < (l0.length : Int) := of_decide_eq_true (by first | (with_reducible assumption) | assumption)
              obtain ⟨ad133, A133_2, c133_2, A133_4, c133_4, e133, hx133_0, hx133_1, hx133_2, hx133_3, hx133_4, hx133_5, hx133_6, hl133_2, hi133_2, hl133_4, hi133_4⟩ := at_T72 HR0.out x5_1 p133 q133
              obtain rfl : ad129 = ad133 := (by injection e133)
              have HR133_2 := Aside0.mk hi133_2
              have HC133_2 := Aside0.mk hl133_2
              clear hi133_2 hl133_2
              have HR133_4 := Aside0.mk hi133_4
              have HC133_4 := Aside0.mk hl133_4
              clear hi133_4 hl133_4
              replace p133 := eq_true p133
              replace q133 := eq_true q133
              have ea_ := Option.some.inj (hx129_2.symm.trans hx133_2)
              injection ea_ with ea_ en_ ec_
              subst ea_
              subst ec_
              clear en_
              have ea_ := Option.some.inj (hx129_4.symm.trans hx133_4)
              injection ea_ with ea_ en_ ec_
              subst ea_
              subst ec_
              clear en_
              have hcv16 := Kd.C_string (P := Tryd.prog) (A := A129_2) (c := c129_2) Tryd.underlying43 Tryd.underlying5 Tryd.underlying9 HR133_2.out
              try have hcv16w := fun (m_ n_ : Nat) => Kd.C_string (P := Tryd.prog) (A := A129_2) (c := c129_2) Tryd.underlying43 Tryd.underlying5 Tryd.underlying9 (Kd.C_drewN (Kd.C_drewN HR133_2.out m_) n_)
              try have hcv16v := fun (m_ : Nat) => Kd.C_string (P := Tryd.prog) (A := A129_2) (c := c129_2) Tryd.underlying43 Tryd.underlying5 Tryd.underlying9 (Kd.C_drewN HR133_2.out m_)
              have p134 : 0 ≤ (x5_1 : Int) := of_decide_eq_true (by first | (with_reducible assumption) | assumption)
              have q134 : x5_1 < (l1.length : Int) := of_decide_eq_true (by first | (with_reducible assumption) | assumption)
              obtain ⟨ad134, A134_2, c134_2, A134_4, c134_4, e134, hx134_0, hx134_1, hx134_2, hx134_3, hx134_4, hx134_5, hx134_6, hl134_2, hi134_2, hl134_4, hi134_4⟩ := at_T72 HR1.out x5_1 p134 q134
              obtain rfl : ad130 = ad134 := (by injection e134)
              have HR134_2 := Aside0.mk hi134_2
              have HC134_2 := Aside0.mk hl134_2
              clear hi134_2 hl134_2
              have HR134_4 := Aside0.mk hi134_4
              have HC134_4 := Aside0.mk hl134_4
              clear hi134_4 hl134_4
              replace p134 := eq_true p134
              replace q134 := eq_true q134
              have ea_ := Option.some.inj (hx130_2.symm.trans hx134_2)
              injection ea_ with ea_ en_ ec_
              subst ea_
              subst ec_
              clear en_
              have ea_ := Option.some.inj (hx130_4.symm.trans hx134_4)
              injection ea_ with ea_ en_ ec_
              subst ea_
              subst ec_
              clear en_
              have hcv17 := Kd.C_string (P := Tryd.prog) (A := A130_2) (c := c130_2) Tryd.underlying43 Tryd.underlying5 Tryd.underlying9 HR134_2.out
              try have hcv17w := fun (m_ n_ : Nat) => Kd.C_string (P := Tryd.prog) (A := A130_2) (c := c130_2) Tryd.underlying43 Tryd.underlying5 Tryd.underlying9 (Kd.C_drewN (Kd.C_drewN HR134_2.out m_) n_)
              try have hcv17v := fun (m_ : Nat) => Kd.C_string (P := Tryd.prog) (A := A130_2) (c := c130_2) Tryd.underlying43 Tryd.underlying5 Tryd.underlying9 (Kd.C_drewN HR134_2.out m_)
              have p135 : 0 ≤ (x5_1 : Int) := of_decide_eq_true (by first | (with_reducible assumption) | assumption)
              have q135 : x5_1 < (l0.length : Int) := of_decide_eq_true (by first | (with_reducible assumption) | assumption)
              obtain ⟨ad135, A135_2, c135_2, A135_4, c135_4, e135, hx135_0, hx135_1, hx135_2, hx135_3, hx135_4, hx135_5, hx135_6, hl135_2, hi135_2, hl135_4, hi135_4⟩ := at_T72 HR0.out x5_1 p135 q135
              obtain rfl : ad129 = ad135 := (by injection e135)
              have HR135_2 := Aside0.mk hi135_2
              have HC135_2 := Aside0.mk hl135_2
              clear hi135_2 hl135_2
              have HR135_4 := Aside0.mk hi135_4
              have HC135_4 := Aside0.mk hl135_4
              clear hi135_4 hl135_4
              replace p135 := eq_true p135
              replace q135 := eq_true q135
              have ea_ := Option.some.inj (hx129_2.symm.trans hx135_2)
              injection ea_ with ea_ en_ ec_
              subst ea_
              subst ec_
              clear en_
              have ea_ := Option.some.inj (hx129_4.symm.trans hx135_4)
              injection ea_ with ea_ en_ ec_
              subst ea_
              subst ec_
              clear en_
              have p136 : 0 ≤ (x5_1 : Int) := of_decide_eq_true (by first | (with_reducible assumption) | assumption)
              have q136 : x5_1 < (l0.length : Int) := of_decide_eq_true (by first | (with_reducible assumption) | assumption)
              obtain ⟨ad136, A136_2, c136_2, A136_4, c136_4, e136, hx136_0, hx136_1, hx136_2, hx136_3, hx136_4, hx136_5, hx136_6, hl136_2, hi136_2, hl136_4, hi136_4⟩ := at_T72 HR0.out x5_1 p136 q136
              obtain rfl : ad129 = ad136 := (by injection e136)
              have HR136_2 := Aside0.mk hi136_2
              have HC136_2 := Aside0.mk hl136_2
              clear hi136_2 hl136_2
              have HR136_4 := Aside0.mk hi136_4
              have HC136_4 := Aside0.mk hl136_4
              clear hi136_4 hl136_4
              replace p136 := eq_true p136
              replace q136 := eq_true q136
              have ea_ := Option.some.inj (hx129_2.symm.trans hx136_2)
              injection ea_ with ea_ en_ ec_
              subst ea_
              subst ec_
              clear en_
              have ea_ := Option.some.inj (hx129_4.symm.trans hx136_4)
              injection ea_ with ea_ en_ ec_
              subst ea_
              subst ec_
              clear en_
              have p137 : 0 ≤ (x5_1 : Int) := of_decide_eq_true (by first | (with_reducible assumption) | assumption)
              have q137 : x5_1 < (l0.length : Int) := of_decide_eq_true (by first | (with_reducible assumption) | assumption)
              obtain ⟨ad137, A137_2, c137_2, A137_4, c137_4, e137, hx137_0, hx137_1, hx137_2, hx137_3, hx137_4, hx137_5, hx137_6, hl137_2, hi137_2, hl137_4, hi137_4⟩ := at_T72 HR0.out x5_1 p137 q137
              obtain rfl : ad129 = ad137 := (by injection e137)
              have HR137_2 := Aside0.mk hi137_2
              have HC137_2 := Aside0.mk hl137_2
              clear hi137_2 hl137_2
              have HR137_4 := Aside0.mk hi137_4
              have HC137_4 := Aside0.mk hl137_4
              clear hi137_4 hl137_4
              replace p137 := eq_true p137
              replace q137 := eq_true q137
              have ea_ := Option.some.inj (hx129_2.symm.trans hx137_2)
              injection ea_ with ea_ en_ ec_
              subst ea_
              subst ec_
              clear en_
              have ea_ := Option.some.inj (hx129_4.symm.trans hx137_4)
              injection ea_ with ea_ en_ ec_
              subst ea_
              subst ec_
              clear en_
              have p138 : 0 ≤ (x5_1 : Int) := of_decide_eq_true (by first | (with_reducible assumption) | assumption)
              have q138 : x5_1 < (l0.length : Int) := of_decide_eq_true (by first | (with_reducible assumption) | assumption)
              obtain ⟨ad138, A138_2, c138_2, A138_4, c138_4, e138, hx138_0, hx138_1, hx138_2, hx138_3, hx138_4, hx138_5, hx138_6, hl138_2, hi138_2, hl138_4, hi138_4⟩ := at_T72 HR0.out x5_1 p138 q138
              obtain rfl : ad129 = ad138 := (by injection e138)
              have HR138_2 := Aside0.mk hi138_2
              have HC138_2 := Aside0.mk hl138_2
              clear hi138_2 hl138_2
              have HR138_4 := Aside0.mk hi138_4
              have HC138_4 := Aside0.mk hl138_4
              clear hi138_4 hl138_4
              replace p138 := eq_true p138
              replace q138 := eq_true q138
              have ea_ := Option.some.inj (hx129_2.symm.trans hx138_2)
              injection ea_ with ea_ en_ ec_
              subst ea_
              subst ec_
              clear en_
              have ea_ := Option.some.inj (hx129_4.symm.trans hx138_4)
              injection ea_ with ea_ en_ ec_
              subst ea_
              subst ec_
              clear en_
              go_wp2
              repeat (go_quiet (fail); try go_wp2)
              go_ret
              exact ⟨by first | rfl | (simp only [YtcfcbkcaondfcaaDoorMpHelp.leq_not, YtcfcbkcaondfcaaDoorMpHelp.gtr_less]; done) | (simp; done) | (simp [*]; done), by repeat (first | exact Drawn0.refl _ | apply Drawn0.step)⟩
            ·rw [if_neg c12] at H
             have c12b0 : (((rd_T72 l0 x5_1).f4.f1) == 0) = false := beq_eq_false_iff_ne.mpr c12
             have c12b1 : (((rd_T72 l0 x5_1).f4.f1) != 0) = true := bne_iff_ne.mpr c12
             obtain rfl := Option.some.inj H
             have p129 : 0 ≤ (x5_1 : Int) := of_decide_eq_true (by first | (with_reducible assumption) | assumption)
             have q129 : x5_1 < (l0.length : Int) := of_decide_eq_true (by first | (with_reducible assumption) | assumption)
             obtain ⟨ad129, A129_2, c129_2, A129_4, c129_4, e129, hx129_0, hx129_1, hx129_2, hx129_3, hx129_4, hx129_5, hx129_6, hl129_2, hi129_2, hl129_4, hi129_4⟩ := at_T72 HR0.out x5_1 p129 q129
             cases e129
             have HR129_2 := Aside0.mk hi129_2
             have HC129_2 := Aside0.mk hl129_2
             clear hi129_2 hl129_2
             have HR129_4 := Aside0.mk hi129_4
             have HC129_4 := Aside0.mk hl129_4
             clear hi129_4 hl129_4
             replace p129 := eq_true p129
             replace q129 := eq_true q129
             have p130 : 0 ≤ (x5_1 : Int) := of_decide_eq_true (by first | (with_reducible assumption) | assumption)
             have q130 : x5_1 < (l1.length : Int) := of_decide_eq_true (by first | (with_reducible assumption) | assumption)
             obtain ⟨ad130, A130_2, c130_2, A130_4, c130_4, e130, hx130_0, hx130_1, hx130_2, hx130_3, hx130_4, hx130_5, hx130_6, hl130_2, hi130_2, hl130_4, hi130_4⟩ := at_T72 HR1.out x5_1 p130 q130
             cases e130
             have HR130_2 := Aside0.mk hi130_2
             have HC130_2 := Aside0.mk hl130_2
             clear hi130_2 hl130_2
             have HR130_4 := Aside0.mk hi130_4
             have HC130_4 := Aside0.mk hl130_4
             clear hi130_4 hl130_4
             replace p130 := eq_true p130
             replace q130 := eq_true q130
             have p131 : 0 ≤ (x5_1 : Int) := of_decide_eq_true (by first | (with_reducible assumption) | assumption)
             have q131 : x5_1 < (l0.length : Int) := of_decide_eq_true (by first | (with_reducible assumption) | assumption)
             obtain ⟨ad131, A131_2, c131_2, A131_4, c131_4, e131, hx131_0, hx131_1, hx131_2, hx131_3, hx131_4, hx131_5, hx131_6, hl131_2, hi131_2, hl131_4, hi131_4⟩ := at_T72 HR0.out x5_1 p131 q131
             obtain rfl : ad129 = ad131 := (by injection e131)
             have HR131_2 := Aside0.mk hi131_2
             have HC131_2 := Aside0.mk hl131_2
             clear hi131_2 hl131_2
             have HR131_4 := Aside0.mk hi131_4
             have HC131_4 := Aside0.mk hl131_4
             clear hi131_4 hl131_4
             replace p131 := eq_true p131
             replace q131 := eq_true q131
             have ea_ := Option.some.inj (hx129_2.symm.trans hx131_2)
             injection ea_ with ea_ en_ ec_
             subst ea_
             subst ec_
             clear en_
             have ea_ := Option.some.inj (hx129_4.symm.trans hx131_4)
             injection ea_ with ea_ en_ ec_
             subst ea_
             subst ec_
             clear en_
             have p132 : 0 ≤ (x5_1 : Int) := of_decide_eq_true (by first | (with_reducible assumption) | assumption)
             have q132 : x5_1 < (l1.length : Int) := of_decide_eq_true (by first | (with_reducible assumption) | assumption)
             obtain ⟨ad132, A132_2, c132_2, A132_4, c132_4, e132, hx132_0, hx132_1, hx132_2, hx132_3, hx132_4, hx132_5, hx132_6, hl132_2, hi132_2, hl132_4, hi132_4⟩ := at_T72 HR1.out x5_1 p132 q132
             obtain rfl : ad130 = ad132 := (by injection e132)
             have HR132_2 := Aside0.mk hi132_2
             have HC132_2 := Aside0.mk hl132_2
             clear hi132_2 hl132_2
             have HR132_4 := Aside0.mk hi132_4
             have HC132_4 := Aside0.mk hl132_4
             clear hi132_4 hl132_4
             replace p132 := eq_true p132
             replace q132 := eq_true q132
             have ea_ := Option.some.inj (hx130_2.symm.trans hx132_2)
             injection ea_ with ea_ en_ ec_
             subst ea_
             subst ec_
             clear en_
             have ea_ := Option.some.inj (hx130_4.symm.trans hx132_4)
             injection ea_ with ea_ en_ ec_
             subst ea_
             subst ec_
             clear en_
             have p133 : 0 ≤ (x5_1 : Int) := of_decide_eq_true (by first | (with_reducible assumption) | assumption)
             have q133 : x5_1 < (l0.length : Int) := of_decide_eq_true (by first | (with_reducible assumption) | assumption)
             obtain ⟨ad133, A133_2, c133_2, A133_4, c133_4, e133, hx133_0, hx133_1, hx133_2, hx133_3, hx133_4, hx133_5, hx133_6, hl133_2, hi133_2, hl133_4, hi133_4⟩ := at_T72 HR0.out x5_1 p133 q133
             obtain rfl : ad129 = ad133 := (by injection e133)
             have HR133_2 := Aside0.mk hi133_2
             have HC133_2 := Aside0.mk hl133_2
             clear hi133_2 hl133_2
             have HR133_4 := Aside0.mk hi133_4
             have HC133_4 := Aside0.mk hl133_4
             clear hi133_4 hl133_4
             replace p133 := eq_true p133
             replace q133 := eq_true q133
             have ea_ := Option.some.inj (hx129_2.symm.trans hx133_2)
             injection ea_ with ea_ en_ ec_
             subst ea_
             subst ec_
             clear en_
             have ea_ := Option.some.inj (hx129_4.symm.trans hx133_4)
             injection ea_ with ea_ en_ ec_
             subst ea_
             subst ec_
             clear en_
             have hcv18 := Kd.C_string (P := Tryd.prog) (A := A129_2) (c := c129_2) Tryd.underlying43 Tryd.underlying5 Tryd.underlying9 HR133_2.out
             try have hcv18w := fun (m_ n_ : Nat) => Kd.C_string (P := Tryd.prog) (A := A129_2) (c := c129_2) Tryd.underlying43 Tryd.underlying5 Tryd.underlying9 (Kd.C_drewN (Kd.C_drewN HR133_2.out m_) n_)
             try have hcv18v := fun (m_ : Nat) => Kd.C_string (P := Tryd.prog) (A := A129_2) (c := c129_2) Tryd.underlying43 Tryd.underlying5 Tryd.underlying9 (Kd.C_drewN HR133_2.out m_)
             have p134 : 0 ≤ (x5_1 : Int) := of_decide_eq_true (by first | (with_reducible assumption) | assumption)
             have q134 : x5_1 < (l1.length : Int) := of_decide_eq_true (by first | (with_reducible assumption) | assumption)
             obtain ⟨ad134, A134_2, c134_2, A134_4, c134_4, e134, hx134_0, hx134_1, hx134_2, hx134_3, hx134_4, hx134_5, hx134_6, hl134_2, hi134_2, hl134_4, hi134_4⟩ := at_T72 HR1.out x5_1 p134 q134
             obtain rfl : ad130 = ad134 := (by injection e134)
             have HR134_2 := Aside0.mk hi134_2
             have HC134_2 := Aside0.mk hl134_2
             clear hi134_2 hl134_2
             have HR134_4 := Aside0.mk hi134_4
             have HC134_4 := Aside0.mk hl134_4
             clear hi134_4 hl134_4
             replace p134 := eq_true p134
             replace q134 := eq_true q134
             have ea_ := Option.some.inj (hx130_2.symm.trans hx134_2)
             injection ea_ with ea_ en_ ec_
             subst ea_
             subst ec_
             clear en_
             have ea_ := Option.some.inj (hx130_4.symm.trans hx134_4)
             injection ea_ with ea_ en_ ec_
             subst ea_
             subst ec_
             clear en_
             have hcv19 := Kd.C_string (P := Tryd.prog) (A := A130_2) (c := c130_2) Tryd.underlying43 Tryd.underlying5 Tryd.underlying9 HR134_2.out
             try have hcv19w := fun (m_ n_ : Nat) => Kd.C_string (P := Tryd.prog) (A := A130_2) (c := c130_2) Tryd.underlying43 Tryd.underlying5 Tryd.underlying9 (Kd.C_drewN (Kd.C_drewN HR134_2.out m_) n_)
             try have hcv19v := fun (m_ : Nat) => Kd.C_string (P := Tryd.prog) (A := A130_2) (c := c130_2) Tryd.underlying43 Tryd.underlying5 Tryd.underlying9 (Kd.C_drewN HR134_2.out m_)
             have p135 : 0 ≤ (x5_1 : Int) := of_decide_eq_true (by first | (with_reducible assumption) | assumption)
             have q135 : x5_1 < (l0.length : Int) := of_decide_eq_true (by first | (with_reducible assumption) | assumption)
             obtain ⟨ad135, A135_2, c135_2, A135_4, c135_4, e135, hx135_0, hx135_1, hx135_2, hx135_3, hx135_4, hx135_5, hx135_6, hl135_2, hi135_2, hl135_4, hi135_4⟩ := at_T72 HR0.out x5_1 p135 q135
             obtain rfl : ad129 = ad135 := (by injection e135)
             have HR135_2 := Aside0.mk hi135_2
             have HC135_2 := Aside0.mk hl135_2
             clear hi135_2 hl135_2
             have HR135_4 := Aside0.mk hi135_4
             have HC135_4 := Aside0.mk hl135_4
             clear hi135_4 hl135_4
             replace p135 := eq_true p135
             replace q135 := eq_true q135
             have ea_ := Option.some.inj (hx129_2.symm.trans hx135_2)
             injection ea_ with ea_ en_ ec_
             subst ea_
             subst ec_
             clear en_
             have ea_ := Option.some.inj (hx129_4.symm.trans hx135_4)
             injection ea_ with ea_ en_ ec_
             subst ea_
             subst ec_
             clear en_
             have p136 : 0 ≤ (x5_1 : Int) := of_decide_eq_true (by first | (with_reducible assumption) | assumption)
             have q136 : x5_1 < (l0.length : Int) := of_decide_eq_true (by first | (with_reducible assumption) | assumption)
             obtain ⟨ad136, A136_2, c136_2, A136_4, c136_4, e136, hx136_0, hx136_1, hx136_2, hx136_3, hx136_4, hx136_5, hx136_6, hl136_2, hi136_2, hl136_4, hi136_4⟩ := at_T72 HR0.out x5_1 p136 q136
             obtain rfl : ad129 = ad136 := (by injection e136)
             have HR136_2 := Aside0.mk hi136_2
             have HC136_2 := Aside0.mk hl136_2
             clear hi136_2 hl136_2
             have HR136_4 := Aside0.mk hi136_4
             have HC136_4 := Aside0.mk hl136_4
             clear hi136_4 hl136_4
             replace p136 := eq_true p136
             replace q136 := eq_true q136
             have ea_ := Option.some.inj (hx129_2.symm.trans hx136_2)
             injection ea_ with ea_ en_ ec_
             subst ea_
             subst ec_
             clear en_
             have ea_ := Option.some.inj (hx129_4.symm.trans hx136_4)
             injection ea_ with ea_ en_ ec_
             subst ea_
             subst ec_
             clear en_
             have p137 : 0 ≤ (x5_1 : Int) := of_decide_eq_true (by first | (with_reducible assumption) | assumption)
             have q137 : x5_1 < (l0.length : Int) := of_decide_eq_true (by first | (with_reducible assumption) | assumption)
             obtain ⟨ad137, A137_2, c137_2, A137_4, c137_4, e137, hx137_0, hx137_1, hx137_2, hx137_3, hx137_4, hx137_5, hx137_6, hl137_2, hi137_2, hl137_4, hi137_4⟩ := at_T72 HR0.out x5_1 p137 q137
             obtain rfl : ad129 = ad137 := (by injection e137)
             have HR137_2 := Aside0.mk hi137_2
             have HC137_2 := Aside0.mk hl137_2
             clear hi137_2 hl137_2
             have HR137_4 := Aside0.mk hi137_4
             have HC137_4 := Aside0.mk hl137_4
             clear hi137_4 hl137_4
             replace p137 := eq_true p137
             replace q137 := eq_true q137
             have ea_ := Option.some.inj (hx129_2.symm.trans hx137_2)
             injection ea_ with ea_ en_ ec_
             subst ea_
             subst ec_
             clear en_
             have ea_ := Option.some.inj (hx129_4.symm.trans hx137_4)
             injection ea_ with ea_ en_ ec_
             subst ea_
             subst ec_
             clear en_
             go_wp2
             repeat (go_quiet (fail); try go_wp2)
             go_ret
             exact ⟨by first | rfl | (simp only [YtcfcbkcaondfcaaDoorMpHelp.leq_not, YtcfcbkcaondfcaaDoorMpHelp.gtr_less]; done) | (simp; done) | (simp [*]; done), by repeat (first | exact Drawn0.refl _ | apply Drawn0.step)⟩
           ·rw [if_neg c11] at H
            have c11b0 : ((((rd_T72 l0 x5_1).f4.f0).length : Int) == 0) = false := beq_eq_false_iff_ne.mpr c11
            have c11b1 : ((((rd_T72 l0 x5_1).f4.f0).length : Int) != 0) = true := bne_iff_ne.mpr c11
            have c11b2 : ¬ (((rd_T72 l0 x5_1).f4.f0) = []) := fun h_ => c11 (by rw [h_]; rfl)
            obtain rfl := Option.some.inj H
            have p129 : 0 ≤ (x5_1 : Int) := of_decide_eq_true (by first | (with_reducible assumption) | assumption)
            have q129 : x5_1 < (l0.length : Int) := of_decide_eq_true (by first | (with_reducible assumption) | assumption)
            obtain ⟨ad129, A129_2, c129_2, A129_4, c129_4, e129, hx129_0, hx129_1, hx129_2, hx129_3, hx129_4, hx129_5, hx129_6, hl129_2, hi129_2, hl129_4, hi129_4⟩ := at_T72 HR0.out x5_1 p129 q129
            cases e129
            have HR129_2 := Aside0.mk hi129_2
            have HC129_2 := Aside0.mk hl129_2
            clear hi129_2 hl129_2
            have HR129_4 := Aside0.mk hi129_4
            have HC129_4 := Aside0.mk hl129_4
            clear hi129_4 hl129_4
            replace p129 := eq_true p129
            replace q129 := eq_true q129
            have p130 : 0 ≤ (x5_1 : Int) := of_decide_eq_true (by first | (with_reducible assumption) | assumption)
            have q130 : x5_1 < (l1.length : Int) := of_decide_eq_true (by first | (with_reducible assumption) | assumption)
            obtain ⟨ad130, A130_2, c130_2, A130_4, c130_4, e130, hx130_0, hx130_1, hx130_2, hx130_3, hx130_4, hx130_5, hx130_6, hl130_2, hi130_2, hl130_4, hi130_4⟩ := at_T72 HR1.out x5_1 p130 q130
            cases e130
            have HR130_2 := Aside0.mk hi130_2
            have HC130_2 := Aside0.mk hl130_2
            clear hi130_2 hl130_2
            have HR130_4 := Aside0.mk hi130_4
            have HC130_4 := Aside0.mk hl130_4
            clear hi130_4 hl130_4
            replace p130 := eq_true p130
            replace q130 := eq_true q130
            have p131 : 0 ≤ (x5_1 : Int) := of_decide_eq_true (by first | (with_reducible assumption) | assumption)
            have q131 : x5_1 < (l0.length : Int) := of_decide_eq_true (by first | (with_reducible assumption) | assumption)
            obtain ⟨ad131, A131_2, c131_2, A131_4, c131_4, e131, hx131_0, hx131_1, hx131_2, hx131_3, hx131_4, hx131_5, hx131_6, hl131_2, hi131_2, hl131_4, hi131_4⟩ := at_T72 HR0.out x5_1 p131 q131
            obtain rfl : ad129 = ad131 := (by injection e131)
            have HR131_2 := Aside0.mk hi131_2
            have HC131_2 := Aside0.mk hl131_2
            clear hi131_2 hl131_2
            have HR131_4 := Aside0.mk hi131_4
            have HC131_4 := Aside0.mk hl131_4
            clear hi131_4 hl131_4
            replace p131 := eq_true p131
            replace q131 := eq_true q131
            have ea_ := Option.some.inj (hx129_2.symm.trans hx131_2)
            injection ea_ with ea_ en_ ec_
            subst ea_
            subst ec_
            clear en_
            have ea_ := Option.some.inj (hx129_4.symm.trans hx131_4)
            injection ea_ with ea_ en_ ec_
            subst ea_
            subst ec_
            clear en_
            have p132 : 0 ≤ (x5_1 : Int) := of_decide_eq_true (by first | (with_reducible assumption) | assumption)
            have q132 : x5_1 < (l1.length : Int) := of_decide_eq_true (by first | (with_reducible assumption) | assumption)
            obtain ⟨ad132, A132_2, c132_2, A132_4, c132_4, e132, hx132_0, hx132_1, hx132_2, hx132_3, hx132_4, hx132_5, hx132_6, hl132_2, hi132_2, hl132_4, hi132_4⟩ := at_T72 HR1.out x5_1 p132 q132
            obtain rfl : ad130 = ad132 := (by injection e132)
            have HR132_2 := Aside0.mk hi132_2
            have HC132_2 := Aside0.mk hl132_2
            clear hi132_2 hl132_2
            have HR132_4 := Aside0.mk hi132_4
            have HC132_4 := Aside0.mk hl132_4
            clear hi132_4 hl132_4
            replace p132 := eq_true p132
            replace q132 := eq_true q132
            have ea_ := Option.some.inj (hx130_2.symm.trans hx132_2)
            injection ea_ with ea_ en_ ec_
            subst ea_
            subst ec_
            clear en_
            have ea_ := Option.some.inj (hx130_4.symm.trans hx132_4)
            injection ea_ with ea_ en_ ec_
            subst ea_
            subst ec_
            clear en_
            have p133 : 0 ≤ (x5_1 : Int) := of_decide_eq_true (by first | (with_reducible assumption) | assumption)
            have q133 : x5_1 < (l0.length : Int) := of_decide_eq_true (by first | (with_reducible assumption) | assumption)
            obtain ⟨ad133, A133_2, c133_2, A133_4, c133_4, e133, hx133_0, hx133_1, hx133_2, hx133_3, hx133_4, hx133_5, hx133_6, hl133_2, hi133_2, hl133_4, hi133_4⟩ := at_T72 HR0.out x5_1 p133 q133
            obtain rfl : ad129 = ad133 := (by injection e133)
            have HR133_2 := Aside0.mk hi133_2
            have HC133_2 := Aside0.mk hl133_2
            clear hi133_2 hl133_2
            have HR133_4 := Aside0.mk hi133_4
            have HC133_4 := Aside0.mk hl133_4
            clear hi133_4 hl133_4
            replace p133 := eq_true p133
            replace q133 := eq_true q133
            have ea_ := Option.some.inj (hx129_2.symm.trans hx133_2)
            injection ea_ with ea_ en_ ec_
            subst ea_
            subst ec_
            clear en_
            have ea_ := Option.some.inj (hx129_4.symm.trans hx133_4)
            injection ea_ with ea_ en_ ec_
            subst ea_
            subst ec_
            clear en_
            have hcv20 := Kd.C_string (P := Tryd.prog) (A := A129_2) (c := c129_2) Tryd.underlying43 Tryd.underlying5 Tryd.underlying9 HR133_2.out
            try have hcv20w := fun (m_ n_ : Nat) => Kd.C_string (P := Tryd.prog) (A := A129_2) (c := c129_2) Tryd.underlying43 Tryd.underlying5 Tryd.underlying9 (Kd.C_drewN (Kd.C_drewN HR133_2.out m_) n_)
            try have hcv20v := fun (m_ : Nat) => Kd.C_string (P := Tryd.prog) (A := A129_2) (c := c129_2) Tryd.underlying43 Tryd.underlying5 Tryd.underlying9 (Kd.C_drewN HR133_2.out m_)
            have p134 : 0 ≤ (x5_1 : Int) := of_decide_eq_true (by first | (with_reducible assumption) | assumption)
            have q134 : x5_1 < (l1.length : Int) := of_decide_eq_true (by first | (with_reducible assumption) | assumption)
            obtain ⟨ad134, A134_2, c134_2, A134_4, c134_4, e134, hx134_0, hx134_1, hx134_2, hx134_3, hx134_4, hx134_5, hx134_6, hl134_2, hi134_2, hl134_4, hi134_4⟩ := at_T72 HR1.out x5_1 p134 q134
            obtain rfl : ad130 = ad134 := (by injection e134)
            have HR134_2 := Aside0.mk hi134_2
            have HC134_2 := Aside0.mk hl134_2
            clear hi134_2 hl134_2
            have HR134_4 := Aside0.mk hi134_4
            have HC134_4 := Aside0.mk hl134_4
            clear hi134_4 hl134_4
            replace p134 := eq_true p134
            replace q134 := eq_true q134
            have ea_ := Option.some.inj (hx130_2.symm.trans hx134_2)
            injection ea_ with ea_ en_ ec_
            subst ea_
            subst ec_
            clear en_
            have ea_ := Option.some.inj (hx130_4.symm.trans hx134_4)
            injection ea_ with ea_ en_ ec_
            subst ea_
            subst ec_
            clear en_
            have hcv21 := Kd.C_string (P := Tryd.prog) (A := A130_2) (c := c130_2) Tryd.underlying43 Tryd.underlying5 Tryd.underlying9 HR134_2.out
            try have hcv21w := fun (m_ n_ : Nat) => Kd.C_string (P := Tryd.prog) (A := A130_2) (c := c130_2) Tryd.underlying43 Tryd.underlying5 Tryd.underlying9 (Kd.C_drewN (Kd.C_drewN HR134_2.out m_) n_)
            try have hcv21v := fun (m_ : Nat) => Kd.C_string (P := Tryd.prog) (A := A130_2) (c := c130_2) Tryd.underlying43 Tryd.underlying5 Tryd.underlying9 (Kd.C_drewN HR134_2.out m_)
            have p135 : 0 ≤ (x5_1 : Int) := of_decide_eq_true (by first | (with_reducible assumption) | assumption)
            have q135 : x5_1 < (l0.length : Int) := of_decide_eq_true (by first | (with_reducible assumption) | assumption)
            obtain ⟨ad135, A135_2, c135_2, A135_4, c135_4, e135, hx135_0, hx135_1, hx135_2, hx135_3, hx135_4, hx135_5, hx135_6, hl135_2, hi135_2, hl135_4, hi135_4⟩ := at_T72 HR0.out x5_1 p135 q135
            obtain rfl : ad129 = ad135 := (by injection e135)
            have HR135_2 := Aside0.mk hi135_2
            have HC135_2 := Aside0.mk hl135_2
            clear hi135_2 hl135_2
            have HR135_4 := Aside0.mk hi135_4
            have HC135_4 := Aside0.mk hl135_4
            clear hi135_4 hl135_4
            replace p135 := eq_true p135
            replace q135 := eq_true q135
            have ea_ := Option.some.inj (hx129_2.symm.trans hx135_2)
            injection ea_ with ea_ en_ ec_
            subst ea_
            subst ec_
            clear en_
            have ea_ := Option.some.inj (hx129_4.symm.trans hx135_4)
            injection ea_ with ea_ en_ ec_
            subst ea_
            subst ec_
            clear en_
            have p136 : 0 ≤ (x5_1 : Int) := of_decide_eq_true (by first | (with_reducible assumption) | assumption)
            have q136 : x5_1 < (l0.length : Int) := of_decide_eq_true (by first | (with_reducible assumption) | assumption)
            obtain ⟨ad136, A136_2, c136_2, A136_4, c136_4, e136, hx136_0, hx136_1, hx136_2, hx136_3, hx136_4, hx136_5, hx136_6, hl136_2, hi136_2, hl136_4, hi136_4⟩ := at_T72 HR0.out x5_1 p136 q136
            obtain rfl : ad129 = ad136 := (by injection e136)
            have HR136_2 := Aside0.mk hi136_2
            have HC136_2 := Aside0.mk hl136_2
            clear hi136_2 hl136_2
            have HR136_4 := Aside0.mk hi136_4
            have HC136_4 := Aside0.mk hl136_4
            clear hi136_4 hl136_4
            replace p136 := eq_true p136
            replace q136 := eq_true q136
            have ea_ := Option.some.inj (hx129_2.symm.trans hx136_2)
            injection ea_ with ea_ en_ ec_
            subst ea_
            subst ec_
            clear en_
            have ea_ := Option.some.inj (hx129_4.symm.trans hx136_4)
            injection ea_ with ea_ en_ ec_
            subst ea_
            subst ec_
            clear en_
            go_wp2
            repeat (go_quiet (fail); try go_wp2)
            go_ret
            exact ⟨by first | rfl | (simp only [YtcfcbkcaondfcaaDoorMpHelp.leq_not, YtcfcbkcaondfcaaDoorMpHelp.gtr_less]; done) | (simp; done) | (simp [*]; done), by repeat (first | exact Drawn0.refl _ | apply Drawn0.step)⟩
          ·rw [if_neg c10] at H
           have c10b0 : (((rd_T72 l0 x5_1).f3) == 0) = false := beq_eq_false_iff_ne.mpr c10
           have c10b1 : (((rd_T72 l0 x5_1).f3) != 0) = true := bne_iff_ne.mpr c10
           obtain rfl := Option.some.inj H
           have p129 : 0 ≤ (x5_1 : Int) := of_decide_eq_true (by first | (with_reducible assumption) | assumption)
           have q129 : x5_1 < (l0.length : Int) := of_decide_eq_true (by first | (with_reducible assumption) | assumption)
           obtain ⟨ad129, A129_2, c129_2, A129_4, c129_4, e129, hx129_0, hx129_1, hx129_2, hx129_3, hx129_4, hx129_5, hx129_6, hl129_2, hi129_2, hl129_4, hi129_4⟩ := at_T72 HR0.out x5_1 p129 q129
           cases e129
           have HR129_2 := Aside0.mk hi129_2
           have HC129_2 := Aside0.mk hl129_2
           clear hi129_2 hl129_2
           have HR129_4 := Aside0.mk hi129_4
           have HC129_4 := Aside0.mk hl129_4
           clear hi129_4 hl129_4
           replace p129 := eq_true p129
           replace q129 := eq_true q129
           have p130 : 0 ≤ (x5_1 : Int) := of_decide_eq_true (by first | (with_reducible assumption) | assumption)
           have q130 : x5_1 < (l1.length : Int) := of_decide_eq_true (by first | (with_reducible assumption) | assumption)
           obtain ⟨ad130, A130_2, c130_2, A130_4, c130_4, e130, hx130_0, hx130_1, hx130_2, hx130_3, hx130_4, hx130_5, hx130_6, hl130_2, hi130_2, hl130_4, hi130_4⟩ := at_T72 HR1.out x5_1 p130 q130
           cases e130
           have HR130_2 := Aside0.mk hi130_2
           have HC130_2 := Aside0.mk hl130_2
           clear hi130_2 hl130_2
           have HR130_4 := Aside0.mk hi130_4
           have HC130_4 := Aside0.mk hl130_4
           clear hi130_4 hl130_4
           replace p130 := eq_true p130
           replace q130 := eq_true q130
           have p131 : 0 ≤ (x5_1 : Int) := of_decide_eq_true (by first | (with_reducible assumption) | assumption)
           have q131 : x5_1 < (l0.length : Int) := of_decide_eq_true (by first | (with_reducible assumption) | assumption)
           obtain ⟨ad131, A131_2, c131_2, A131_4, c131_4, e131, hx131_0, hx131_1, hx131_2, hx131_3, hx131_4, hx131_5, hx131_6, hl131_2, hi131_2, hl131_4, hi131_4⟩ := at_T72 HR0.out x5_1 p131 q131
           obtain rfl : ad129 = ad131 := (by injection e131)
           have HR131_2 := Aside0.mk hi131_2
           have HC131_2 := Aside0.mk hl131_2
           clear hi131_2 hl131_2
           have HR131_4 := Aside0.mk hi131_4
           have HC131_4 := Aside0.mk hl131_4
           clear hi131_4 hl131_4
           replace p131 := eq_true p131
           replace q131 := eq_true q131
           have ea_ := Option.some.inj (hx129_2.symm.trans hx131_2)
           injection ea_ with ea_ en_ ec_
           subst ea_
           subst ec_
           clear en_
           have ea_ := Option.some.inj (hx129_4.symm.trans hx131_4)
           injection ea_ with ea_ en_ ec_
           subst ea_
           subst ec_
           clear en_
           have p132 : 0 ≤ (x5_1 : Int) := of_decide_eq_true (by first | (with_reducible assumption) | assumption)
           have q132 : x5_1 < (l1.length : Int) := of_decide_eq_true (by first | (with_reducible assumption) | assumption)
           obtain ⟨ad132, A132_2, c132_2, A132_4, c132_4, e132, hx132_0, hx132_1, hx132_2, hx132_3, hx132_4, hx132_5, hx132_6, hl132_2, hi132_2, hl132_4, hi132_4⟩ := at_T72 HR1.out x5_1 p132 q132
           obtain rfl : ad130 = ad132 := (by injection e132)
           have HR132_2 := Aside0.mk hi132_2
           have HC132_2 := Aside0.mk hl132_2
           clear hi132_2 hl132_2
           have HR132_4 := Aside0.mk hi132_4
           have HC132_4 := Aside0.mk hl132_4
           clear hi132_4 hl132_4
           replace p132 := eq_true p132
           replace q132 := eq_true q132
           have ea_ := Option.some.inj (hx130_2.symm.trans hx132_2)
           injection ea_ with ea_ en_ ec_
           subst ea_
           subst ec_
           clear en_
           have ea_ := Option.some.inj (hx130_4.symm.trans hx132_4)
           injection ea_ with ea_ en_ ec_
           subst ea_
           subst ec_
           clear en_
           have p133 : 0 ≤ (x5_1 : Int) := of_decide_eq_true (by first | (with_reducible assumption) | assumption)
           have q133 : x5_1 < (l0.length : Int) := of_decide_eq_true (by first | (with_reducible assumption) | assumption)
           obtain ⟨ad133, A133_2, c133_2, A133_4, c133_4, e133, hx133_0, hx133_1, hx133_2, hx133_3, hx133_4, hx133_5, hx133_6, hl133_2, hi133_2, hl133_4, hi133_4⟩ := at_T72 HR0.out x5_1 p133 q133
           obtain rfl : ad129 = ad133 := (by injection e133)
           have HR133_2 := Aside0.mk hi133_2
           have HC133_2 := Aside0.mk hl133_2
           clear hi133_2 hl133_2
           have HR133_4 := Aside0.mk hi133_4
           have HC133_4 := Aside0.mk hl133_4
           clear hi133_4 hl133_4
           replace p133 := eq_true p133
           replace q133 := eq_true q133
           have ea_ := Option.some.inj (hx129_2.symm.trans hx133_2)
           injection ea_ with ea_ en_ ec_
           subst ea_
           subst ec_
           clear en_
           have ea_ := Option.some.inj (hx129_4.symm.trans hx133_4)
           injection ea_ with ea_ en_ ec_
           subst ea_
           subst ec_
           clear en_
           have hcv22 := Kd.C_string (P := Tryd.prog) (A := A129_2) (c := c129_2) Tryd.underlying43 Tryd.underlying5 Tryd.underlying9 HR133_2.out
           try have hcv22w := fun (m_ n_ : Nat) => Kd.C_string (P := Tryd.prog) (A := A129_2) (c := c129_2) Tryd.underlying43 Tryd.underlying5 Tryd.underlying9 (Kd.C_drewN (Kd.C_drewN HR133_2.out m_) n_)
           try have hcv22v := fun (m_ : Nat) => Kd.C_string (P := Tryd.prog) (A := A129_2) (c := c129_2) Tryd.underlying43 Tryd.underlying5 Tryd.underlying9 (Kd.C_drewN HR133_2.out m_)
           have p134 : 0 ≤ (x5_1 : Int) := of_decide_eq_true (by first | (with_reducible assumption) | assumption)
           have q134 : x5_1 < (l1.length : Int) := of_decide_eq_true (by first | (with_reducible assumption) | assumption)
           obtain ⟨ad134, A134_2, c134_2, A134_4, c134_4, e134, hx134_0, hx134_1, hx134_2, hx134_3, hx134_4, hx134_5, hx134_6, hl134_2, hi134_2, hl134_4, hi134_4⟩ := at_T72 HR1.out x5_1 p134 q134
           obtain rfl : ad130 = ad134 := (by injection e134)
           have HR134_2 := Aside0.mk hi134_2
           have HC134_2 := Aside0.mk hl134_2
           clear hi134_2 hl134_2
           have HR134_4 := Aside0.mk hi134_4
           have HC134_4 := Aside0.mk hl134_4
           clear hi134_4 hl134_4
           replace p134 := eq_true p134
           replace q134 := eq_true q134
           have ea_ := Option.some.inj (hx130_2.symm.trans hx134_2)
           injection ea_ with ea_ en_ ec_
           subst ea_
           subst ec_
           clear en_
           have ea_ := Option.some.inj (hx130_4.symm.trans hx134_4)
           injection ea_ with ea_ en_ ec_
           subst ea_
           subst ec_
           clear en_
           have hcv23 := Kd.C_string (P := Tryd.prog) (A := A130_2) (c := c130_2) Tryd.underlying43 Tryd.underlying5 Tryd.underlying9 HR134_2.out
           try have hcv23w := fun (m_ n_ : Nat) => Kd.C_string (P := Tryd.prog) (A := A130_2) (c := c130_2) Tryd.underlying43 Tryd.underlying5 Tryd.underlying9 (Kd.C_drewN (Kd.C_drewN HR134_2.out m_) n_)
           try have hcv23v := fun (m_ : Nat) => Kd.C_string (P := Tryd.prog) (A := A130_2) (c := c130_2) Tryd.underlying43 Tryd.underlying5 Tryd.underlying9 (Kd.C_drewN HR134_2.out m_)
           have p135 : 0 ≤ (x5_1 : Int) := of_decide_eq_true (by first | (with_reducible assumption) | assumption)
           have q135 : x5_1 < (l0.length : Int) := of_decide_eq_true (by first | (with_reducible assumption) | assumption)
           obtain ⟨ad135, A135_2, c135_2, A135_4, c135_4, e135, hx135_0, hx135_1, hx135_2, hx135_3, hx135_4, hx135_5, hx135_6, hl135_2, hi135_2, hl135_4, hi135_4⟩ := at_T72 HR0.out x5_1 p135 q135
           obtain rfl : ad129 = ad135 := (by injection e135)
           have HR135_2 := Aside0.mk hi135_2
           have HC135_2 := Aside0.mk hl135_2
           clear hi135_2 hl135_2
           have HR135_4 := Aside0.mk hi135_4
           have HC135_4 := Aside0.mk hl135_4
           clear hi135_4 hl135_4
           replace p135 := eq_true p135
           replace q135 := eq_true q135
           have ea_ := Option.some.inj (hx129_2.symm.trans hx135_2)
           injection ea_ with ea_ en_ ec_
           subst ea_
           subst ec_
           clear en_
           have ea_ := Option.some.inj (hx129_4.symm.trans hx135_4)
           injection ea_ with ea_ en_ ec_
           subst ea_
           subst ec_
           clear en_
           go_wp2
           repeat (go_quiet (fail); try go_wp2)
           go_ret
           exact ⟨by first | rfl | (simp only [YtcfcbkcaondfcaaDoorMpHelp.leq_not, YtcfcbkcaondfcaaDoorMpHelp.gtr_less]; done) | (simp; done) | (simp [*]; done), by repeat (first | exact Drawn0.refl _ | apply Drawn0.step)⟩
         ·rw [if_neg c9] at H
          have c9b0 : ((strOfNums ((rd_T72 l0 x5_1).f2)).toList == (strOfNums ((rd_T72 l1 x5_1).f2)).toList) = false := beq_eq_false_iff_ne.mpr c9
          have c9b1 : ((strOfNums ((rd_T72 l0 x5_1).f2)).toList != (strOfNums ((rd_T72 l1 x5_1).f2)).toList) = true := bne_iff_ne.mpr c9
          obtain rfl := Option.some.inj H
          have p129 : 0 ≤ (x5_1 : Int) := of_decide_eq_true (by first | (with_reducible assumption) | assumption)
          have q129 : x5_1 < (l0.length : Int) := of_decide_eq_true (by first | (with_reducible assumption) | assumption)
          obtain ⟨ad129, A129_2, c129_2, A129_4, c129_4, e129, hx129_0, hx129_1, hx129_2, hx129_3, hx129_4, hx129_5, hx129_6, hl129_2, hi129_2, hl129_4, hi129_4⟩ := at_T72 HR0.out x5_1 p129 q129
          cases e129
          have HR129_2 := Aside0.mk hi129_2
          have HC129_2 := Aside0.mk hl129_2
          clear hi129_2 hl129_2
          have HR129_4 := Aside0.mk hi129_4
          have HC129_4 := Aside0.mk hl129_4
          clear hi129_4 hl129_4
          replace p129 := eq_true p129
          replace q129 := eq_true q129
          have p130 : 0 ≤ (x5_1 : Int) := of_decide_eq_true (by first | (with_reducible assumption) | assumption)
          have q130 : x5_1 < (l1.length : Int) := of_decide_eq_true (by first | (with_reducible assumption) | assumption)
          obtain ⟨ad130, A130_2, c130_2, A130_4, c130_4, e130, hx130_0, hx130_1, hx130_2, hx130_3, hx130_4, hx130_5, hx130_6, hl130_2, hi130_2, hl130_4, hi130_4⟩ := at_T72 HR1.out x5_1 p130 q130
          cases e130
          have HR130_2 := Aside0.mk hi130_2
          have HC130_2 := Aside0.mk hl130_2
          clear hi130_2 hl130_2
          have HR130_4 := Aside0.mk hi130_4
          have HC130_4 := Aside0.mk hl130_4
          clear hi130_4 hl130_4
          replace p130 := eq_true p130
          replace q130 := eq_true q130
          have p131 : 0 ≤ (x5_1 : Int) := of_decide_eq_true (by first | (with_reducible assumption) | assumption)
          have q131 : x5_1 < (l0.length : Int) := of_decide_eq_true (by first | (with_reducible assumption) | assumption)
          obtain ⟨ad131, A131_2, c131_2, A131_4, c131_4, e131, hx131_0, hx131_1, hx131_2, hx131_3, hx131_4, hx131_5, hx131_6, hl131_2, hi131_2, hl131_4, hi131_4⟩ := at_T72 HR0.out x5_1 p131 q131
          obtain rfl : ad129 = ad131 := (by injection e131)
          have HR131_2 := Aside0.mk hi131_2
          have HC131_2 := Aside0.mk hl131_2
          clear hi131_2 hl131_2
          have HR131_4 := Aside0.mk hi131_4
          have HC131_4 := Aside0.mk hl131_4
          clear hi131_4 hl131_4
          replace p131 := eq_true p131
          replace q131 := eq_true q131
          have ea_ := Option.some.inj (hx129_2.symm.trans hx131_2)
          injection ea_ with ea_ en_ ec_
          subst ea_
          subst ec_
          clear en_
          have ea_ := Option.some.inj (hx129_4.symm.trans hx131_4)
          injection ea_ with ea_ en_ ec_
          subst ea_
          subst ec_
          clear en_
          have p132 : 0 ≤ (x5_1 : Int) := of_decide_eq_true (by first | (with_reducible assumption) | assumption)
          have q132 : x5_1 < (l1.length : Int) := of_decide_eq_true (by first | (with_reducible assumption) | assumption)
          obtain ⟨ad132, A132_2, c132_2, A132_4, c132_4, e132, hx132_0, hx132_1, hx132_2, hx132_3, hx132_4, hx132_5, hx132_6, hl132_2, hi132_2, hl132_4, hi132_4⟩ := at_T72 HR1.out x5_1 p132 q132
          obtain rfl : ad130 = ad132 := (by injection e132)
          have HR132_2 := Aside0.mk hi132_2
          have HC132_2 := Aside0.mk hl132_2
          clear hi132_2 hl132_2
          have HR132_4 := Aside0.mk hi132_4
          have HC132_4 := Aside0.mk hl132_4
          clear hi132_4 hl132_4
          replace p132 := eq_true p132
          replace q132 := eq_true q132
          have ea_ := Option.some.inj (hx130_2.symm.trans hx132_2)
          injection ea_ with ea_ en_ ec_
          subst ea_
          subst ec_
          clear en_
          have ea_ := Option.some.inj (hx130_4.symm.trans hx132_4)
          injection ea_ with ea_ en_ ec_
          subst ea_
          subst ec_
          clear en_
          have p133 : 0 ≤ (x5_1 : Int) := of_decide_eq_true (by first | (with_reducible assumption) | assumption)
          have q133 : x5_1 < (l0.length : Int) := of_decide_eq_true (by first | (with_reducible assumption) | assumption)
          obtain ⟨ad133, A133_2, c133_2, A133_4, c133_4, e133, hx133_0, hx133_1, hx133_2, hx133_3, hx133_4, hx133_5, hx133_6, hl133_2, hi133_2, hl133_4, hi133_4⟩ := at_T72 HR0.out x5_1 p133 q133
          obtain rfl : ad129 = ad133 := (by injection e133)
          have HR133_2 := Aside0.mk hi133_2
          have HC133_2 := Aside0.mk hl133_2
          clear hi133_2 hl133_2
          have HR133_4 := Aside0.mk hi133_4
          have HC133_4 := Aside0.mk hl133_4
          clear hi133_4 hl133_4
          replace p133 := eq_true p133
          replace q133 := eq_true q133
          have ea_ := Option.some.inj (hx129_2.symm.trans hx133_2)
          injection ea_ with ea_ en_ ec_
          subst ea_
          subst ec_
          clear en_
          have ea_ := Option.some.inj (hx129_4.symm.trans hx133_4)
          injection ea_ with ea_ en_ ec_
          subst ea_
          subst ec_
          clear en_
          have hcv24 := Kd.C_string (P := Tryd.prog) (A := A129_2) (c := c129_2) Tryd.underlying43 Tryd.underlying5 Tryd.underlying9 HR133_2.out
          try have hcv24w := fun (m_ n_ : Nat) => Kd.C_string (P := Tryd.prog) (A := A129_2) (c := c129_2) Tryd.underlying43 Tryd.underlying5 Tryd.underlying9 (Kd.C_drewN (Kd.C_drewN HR133_2.out m_) n_)
          try have hcv24v := fun (m_ : Nat) => Kd.C_string (P := Tryd.prog) (A := A129_2) (c := c129_2) Tryd.underlying43 Tryd.underlying5 Tryd.underlying9 (Kd.C_drewN HR133_2.out m_)
          have p134 : 0 ≤ (x5_1 : Int) := of_decide_eq_true (by first | (with_reducible assumption) | assumption)
          have q134 : x5_1 < (l1.length : Int) := of_decide_eq_true (by first | (with_reducible assumption) | assumption)
          obtain ⟨ad134, A134_2, c134_2, A134_4, c134_4, e134, hx134_0, hx134_1, hx134_2, hx134_3, hx134_4, hx134_5, hx134_6, hl134_2, hi134_2, hl134_4, hi134_4⟩ := at_T72 HR1.out x5_1 p134 q134
          obtain rfl : ad130 = ad134 := (by injection e134)
          have HR134_2 := Aside0.mk hi134_2
          have HC134_2 := Aside0.mk hl134_2
          clear hi134_2 hl134_2
          have HR134_4 := Aside0.mk hi134_4
          have HC134_4 := Aside0.mk hl134_4
          clear hi134_4 hl134_4
          replace p134 := eq_true p134
          replace q134 := eq_true q134
          have ea_ := Option.some.inj (hx130_2.symm.trans hx134_2)
          injection ea_ with ea_ en_ ec_
          subst ea_
          subst ec_
          clear en_
          have ea_ := Option.some.inj (hx130_4.symm.trans hx134_4)
          injection ea_ with ea_ en_ ec_
          subst ea_
          subst ec_
          clear en_
          have hcv25 := Kd.C_string (P := Tryd.prog) (A := A130_2) (c := c130_2) Tryd.underlying43 Tryd.underlying5 Tryd.underlying9 HR134_2.out
          try have hcv25w := fun (m_ n_ : Nat) => Kd.C_string (P := Tryd.prog) (A := A130_2) (c := c130_2) Tryd.underlying43 Tryd.underlying5 Tryd.underlying9 (Kd.C_drewN (Kd.C_drewN HR134_2.out m_) n_)
          try have hcv25v := fun (m_ : Nat) => Kd.C_string (P := Tryd.prog) (A := A130_2) (c := c130_2) Tryd.underlying43 Tryd.underlying5 Tryd.underlying9 (Kd.C_drewN HR134_2.out m_)
          go_wp2
          repeat (go_quiet (fail); try go_wp2)
          go_ret
          exact ⟨by first | rfl | (simp only [YtcfcbkcaondfcaaDoorMpHelp.leq_not, YtcfcbkcaondfcaaDoorMpHelp.gtr_less]; done) | (simp; done) | (simp [*]; done), by repeat (first | exact Drawn0.refl _ | apply Drawn0.step)⟩
        ·rw [if_neg c8] at H
         have c8b0 : (((rd_T72 l0 x5_1).f1).toList == ((rd_T72 l1 x5_1).f1).toList) = false := beq_eq_false_iff_ne.mpr c8
         have c8b1 : (((rd_T72 l0 x5_1).f1).toList != ((rd_T72 l1 x5_1).f1).toList) = true := bne_iff_ne.mpr c8
         obtain rfl := Option.some.inj H
         have p129 : 0 ≤ (x5_1 : Int) := of_decide_eq_true (by first | (with_reducible assumption) | assumption)
         have q129 : x5_1 < (l0.length : Int) := of_decide_eq_true (by first | (with_reducible assumption) | assumption)
         obtain ⟨ad129, A129_2, c129_2, A129_4, c129_4, e129, hx129_0, hx129_1, hx129_2, hx129_3, hx129_4, hx129_5, hx129_6, hl129_2, hi129_2, hl129_4, hi129_4⟩ := at_T72 HR0.out x5_1 p129 q129
         cases e129
         have HR129_2 := Aside0.mk hi129_2
         have HC129_2 := Aside0.mk hl129_2
         clear hi129_2 hl129_2
         have HR129_4 := Aside0.mk hi129_4
         have HC129_4 := Aside0.mk hl129_4
         clear hi129_4 hl129_4
         replace p129 := eq_true p129
         replace q129 := eq_true q129
         have p130 : 0 ≤ (x5_1 : Int) := of_decide_eq_true (by first | (with_reducible assumption) | assumption)
         have q130 : x5_1 < (l1.length : Int) := of_decide_eq_true (by first | (with_reducible assumption) | assumption)
         obtain ⟨ad130, A130_2, c130_2, A130_4, c130_4, e130, hx130_0, hx130_1, hx130_2, hx130_3, hx130_4, hx130_5, hx130_6, hl130_2, hi130_2, hl130_4, hi130_4⟩ := at_T72 HR1.out x5_1 p130 q130
         cases e130
         have HR130_2 := Aside0.mk hi130_2
         have HC130_2 := Aside0.mk hl130_2
         clear hi130_2 hl130_2
         have HR130_4 := Aside0.mk hi130_4
         have HC130_4 := Aside0.mk hl130_4
         clear hi130_4 hl130_4
         replace p130 := eq_true p130
         replace q130 := eq_true q130
         have p131 : 0 ≤ (x5_1 : Int) := of_decide_eq_true (by first | (with_reducible assumption) | assumption)
         have q131 : x5_1 < (l0.length : Int) := of_decide_eq_true (by first | (with_reducible assumption) | assumption)
         obtain ⟨ad131, A131_2, c131_2, A131_4, c131_4, e131, hx131_0, hx131_1, hx131_2, hx131_3, hx131_4, hx131_5, hx131_6, hl131_2, hi131_2, hl131_4, hi131_4⟩ := at_T72 HR0.out x5_1 p131 q131
         obtain rfl : ad129 = ad131 := (by injection e131)
         have HR131_2 := Aside0.mk hi131_2
         have HC131_2 := Aside0.mk hl131_2
         clear hi131_2 hl131_2
         have HR131_4 := Aside0.mk hi131_4
         have HC131_4 := Aside0.mk hl131_4
         clear hi131_4 hl131_4
         replace p131 := eq_true p131
         replace q131 := eq_true q131
         have ea_ := Option.some.inj (hx129_2.symm.trans hx131_2)
         injection ea_ with ea_ en_ ec_
         subst ea_
         subst ec_
         clear en_
         have ea_ := Option.some.inj (hx129_4.symm.trans hx131_4)
         injection ea_ with ea_ en_ ec_
         subst ea_
         subst ec_
         clear en_
         have p132 : 0 ≤ (x5_1 : Int) := of_decide_eq_true (by first | (with_reducible assumption) | assumption)
         have q132 : x5_1 < (l1.length : Int) := of_decide_eq_true (by first | (with_reducible assumption) | assumption)
         obtain ⟨ad132, A132_2, c132_2, A132_4, c132_4, e132, hx132_0, hx132_1, hx132_2, hx132_3, hx132_4, hx132_5, hx132_6, hl132_2, hi132_2, hl132_4, hi132_4⟩ := at_T72 HR1.out x5_1 p132 q132
         obtain rfl : ad130 = ad132 := (by injection e132)
         have HR132_2 := Aside0.mk hi132_2
         have HC132_2 := Aside0.mk hl132_2
         clear hi132_2 hl132_2
         have HR132_4 := Aside0.mk hi132_4
         have HC132_4 := Aside0.mk hl132_4
         clear hi132_4 hl132_4
         replace p132 := eq_true p132
         replace q132 := eq_true q132
         have ea_ := Option.some.inj (hx130_2.symm.trans hx132_2)
         injection ea_ with ea_ en_ ec_
         subst ea_
         subst ec_
         clear en_
         have ea_ := Option.some.inj (hx130_4.symm.trans hx132_4)
         injection ea_ with ea_ en_ ec_
         subst ea_
         subst ec_
         clear en_
         go_wp2
         repeat (go_quiet (fail); try go_wp2)
         go_ret
         exact ⟨by first | rfl | (simp only [YtcfcbkcaondfcaaDoorMpHelp.leq_not, YtcfcbkcaondfcaaDoorMpHelp.gtr_less]; done) | (simp; done) | (simp [*]; done), by repeat (first | exact Drawn0.refl _ | apply Drawn0.step)⟩
       ·rw [if_neg c7] at H
        have c7b0 : (((rd_T72 l0 x5_1).f0) == ((rd_T72 l1 x5_1).f0)) = false := beq_eq_false_iff_ne.mpr c7
        have c7b1 : (((rd_T72 l0 x5_1).f0) != ((rd_T72 l1 x5_1).f0)) = true := bne_iff_ne.mpr c7
        obtain rfl := Option.some.inj H
        have p129 : 0 ≤ (x5_1 : Int) := of_decide_eq_true (by first | (with_reducible assumption) | assumption)
        have q129 : x5_1 < (l0.length : Int) := of_decide_eq_true (by first | (with_reducible assumption) | assumption)
        obtain ⟨ad129, A129_2, c129_2, A129_4, c129_4, e129, hx129_0, hx129_1, hx129_2, hx129_3, hx129_4, hx129_5, hx129_6, hl129_2, hi129_2, hl129_4, hi129_4⟩ := at_T72 HR0.out x5_1 p129 q129
        cases e129
        have HR129_2 := Aside0.mk hi129_2
        have HC129_2 := Aside0.mk hl129_2
        clear hi129_2 hl129_2
        have HR129_4 := Aside0.mk hi129_4
        have HC129_4 := Aside0.mk hl129_4
        clear hi129_4 hl129_4
        replace p129 := eq_true p129
        replace q129 := eq_true q129
        have p130 : 0 ≤ (x5_1 : Int) := of_decide_eq_true (by first | (with_reducible assumption) | assumption)
        have q130 : x5_1 < (l1.length : Int) := of_decide_eq_true (by first | (with_reducible assumption) | assumption)
        obtain ⟨ad130, A130_2, c130_2, A130_4, c130_4, e130, hx130_0, hx130_1, hx130_2, hx130_3, hx130_4, hx130_5, hx130_6, hl130_2, hi130_2, hl130_4, hi130_4⟩ := at_T72 HR1.out x5_1 p130 q130
        cases e130
        have HR130_2 := Aside0.mk hi130_2
        have HC130_2 := Aside0.mk hl130_2
        clear hi130_2 hl130_2
        have HR130_4 := Aside0.mk hi130_4
        have HC130_4 := Aside0.mk hl130_4
        clear hi130_4 hl130_4
        replace p130 := eq_true p130
        replace q130 := eq_true q130
        go_wp2
        repeat (go_quiet (fail); try go_wp2)
        go_ret
        exact ⟨by first | rfl | (simp only [YtcfcbkcaondfcaaDoorMpHelp.leq_not, YtcfcbkcaondfcaaDoorMpHelp.gtr_less]; done) | (simp; done) | (simp [*]; done), by repeat (first | exact Drawn0.refl _ | apply Drawn0.step)⟩
      ·rw [if_neg c6] at H
       exact absurd H (by simp)
     ·rw [if_neg c5] at H
      exact absurd H (by simp)
    ·rw [if_neg c4] at H
     have c4b0 : decide (x5_1 < (l0.length : Int)) = false := decide_eq_false c4
     clear c4
     obtain rfl := Option.some.inj H
     go_wp2
     repeat (go_quiet (fail); try go_wp2)
     go_ret
     exact ⟨by first | rfl | (simp only [YtcfcbkcaondfcaaDoorMpHelp.leq_not, YtcfcbkcaondfcaaDoorMpHelp.gtr_less]; done) | (simp; done) | (simp [*]; done), by repeat (first | exact Drawn0.refl _ | apply Drawn0.step)⟩
 ·rw [if_neg c3] at H
  have c3b0 : ((l0.length : Int) == (l1.length : Int)) = false := beq_eq_false_iff_ne.mpr c3
  have c3b1 : ((l0.length : Int) != (l1.length : Int)) = true := bne_iff_ne.mpr c3
  have c3b2 : (l0.length == l1.length) = false := by first | simpa using c3 | (simp at c3 ⊢; omega)
  obtain rfl := Option.some.inj H
  go_enter Tryd.func31, Tryd.ntmps31
  go_wp2
  repeat (go_quiet (fail); try go_wp2)
  go_ret
  exact ⟨by first | rfl | (simp only [YtcfcbkcaondfcaaDoorMpHelp.leq_not, YtcfcbkcaondfcaaDoorMpHelp.gtr_less]; done) | (simp; done) | (simp [*]; done), by repeat (first | exact Drawn0.refl _ | apply Drawn0.step)⟩

end Go.Proofs.YtcfcbkcaondfcaaDoor.PPlanApplies
