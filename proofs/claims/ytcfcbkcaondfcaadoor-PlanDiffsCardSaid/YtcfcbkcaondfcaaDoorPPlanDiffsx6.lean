/- The machine side of a law: for each Go function that it uses a Lean function with the same answers, and the proof that the Go code comes to them; or the row of the law over these. Written by a program of this session. -/
import Derived.Test.YtcfcbkcaondfcaaDoorPPlanDiffsx0
namespace Go.Proofs.YtcfcbkcaondfcaaDoor.PPlanDiffs
open Go.RowKit Go.Proofs.YtcfcbkcaondfcaaDoorW.PrintWords Go.Proofs.YtcfcbkcaondfcaaDoorW.PrintLast Go.Proofs.YtcfcbkcaondfcaaDoorW.PrintMore
attribute [local go_sem] max2_int min2_int max_two min_two max_three min_three max_four min_four   -- for this text's walks alone
set_option linter.unusedVariables false
set_option linter.unusedSimpArgs false

/-! ### bindleref38_Same: function 31 -/
def bindleref38_Same.l0 : Nat → List (S72) → List (S72) → Int → Option (Bool)
  | 0, _, _, _ => none
  | k + 1, x0, x1, x5 => if x5 < (x0.length : Int) then (if 0 ≤ x5 then (if x5 < (x1.length : Int) then (if ((rd_T72 x0 x5).f0) = ((rd_T72 x1 x5).f0) then (if ((rd_T72 x0 x5).f1).toList = ((rd_T72 x1 x5).f1).toList then (if (strOfNums ((rd_T72 x0 x5).f2)).toList = (strOfNums ((rd_T72 x1 x5).f2)).toList then (if ((rd_T72 x0 x5).f3) = 0 then (if (((rd_T72 x0 x5).f4.f0).length : Int) = 0 then (if ((rd_T72 x0 x5).f4.f1) = 0 then (if ((rd_T72 x0 x5).f4.f2) = 0 then (bindleref38_Same.l0 k x0 x1 (wrap64 (x5 + 1))) else (some false)) else (some false)) else (some false)) else (some false)) else (some false)) else (some false)) else (some false)) else (none)) else (none)) else (some true)
def bindleref38_Same.f (k : Nat) (l0 : List (S72)) (l1 : List (S72)) : Option (Bool) := if (l0.length : Int) = (l1.length : Int) then (bindleref38_Same.l0 k l0 l1 0) else (some false)
theorem bindleref38_Same.mono_l : ∀ k, (∀ y0 y1 y2, LeO (bindleref38_Same.l0 k y0 y1 y2) (bindleref38_Same.l0 (k + 1) y0 y1 y2))
  | 0 => fun _ _ _ r h => by simp [bindleref38_Same.l0] at h
  | k + 1 => by
    have ih0 := bindleref38_Same.mono_l k
    · intro y0 y1 y2
      unfold bindleref38_Same.l0
      repeat' first
      | (with_reducible exact ih0 _ _ _)
      | (with_reducible exact LeO.refl _)
      | (with_reducible exact LeO.none _)
      | (with_reducible refine LeO.ite ?_ ?_)
      | (with_reducible refine LeO.bind ?_ (fun _ => ?_))
      | exact ih0 _ _ _
      | exact LeO.none _
      | refine LeO.ite ?_ ?_
      | refine LeO.bind ?_ (fun _ => ?_)
theorem bindleref38_Same.mono : ∀ a0 a1 k, LeO (bindleref38_Same.f k a0 a1) (bindleref38_Same.f (k + 1) a0 a1) := by
  intro a0 a1 k
  have ih0 := bindleref38_Same.mono_l k
  unfold bindleref38_Same.f
  repeat' first
      | (with_reducible exact ih0 _ _ _)
      | (with_reducible exact LeO.refl _)
      | (with_reducible exact LeO.none _)
      | (with_reducible refine LeO.ite ?_ ?_)
      | (with_reducible refine LeO.bind ?_ (fun _ => ?_))
      | exact ih0 _ _ _
      | exact LeO.none _
      | refine LeO.ite ?_ ?_
      | refine LeO.bind ?_ (fun _ => ?_)
set_option maxHeartbeats 8000000 in
set_option maxRecDepth 100000 in
theorem bindleref38_Same.calls (k : Nat) (A0 : Option Addr) (c0 : Nat) (l0 : List (S72)) (A1 : Option Addr) (c1 : Nat) (l1 : List (S72)) (r : Bool) (w : World) (hr0 : Kd.C k72 w A0 l0.length l0) (hc0 : l0.length ≤ c0) (hr1 : Kd.C k72 w A1 l1.length l1) (hc1 : l1.length ≤ c1) (h : bindleref38_Same.f k l0 l1 = some r) :
    Calls Tryd.prog 31 #[.slice A0 l0.length c0, .slice A1 l1.length c1] w fun e w' => e = .returned (.bool r) ∧ Drawn0 w w' := by
  have HR0 := Aside0.mk hr0
  have HC0 := Aside0.mk hc0
  clear hr0 hc0
  have HR1 := Aside0.mk hr1
  have HC1 := Aside0.mk hc1
  clear hr1 hc1
  have H : (if (l0.length : Int) = (l1.length : Int) then (bindleref38_Same.l0 k l0 l1 0) else (some false)) = some r := h
  clear h
  by_cases c3 : (l0.length : Int) = (l1.length : Int)
  · rw [if_pos c3] at H
    have c3b0 : ((l0.length : Int) == (l1.length : Int)) = true := beq_iff_eq.mpr c3
    have c3b1 : ((l0.length : Int) != (l1.length : Int)) = false := bne_eq_false_iff_eq.mpr c3
    have c3b2 : (l0.length == l1.length) = true := by first | simpa using c3 | (simp at c3 ⊢; omega)
    clear c3
    have H' := Aside0.mk H
    clear H
    go_enter Tryd.func31, Tryd.ntmps31
    go_wp2
    repeat (go_quiet (fail); try go_wp2)
    go_loopg [5] k (fun kq v5 w' => ∃ (x5_1 : Int), v5 = .int .i64 x5_1 ∧ Aside0 (bindleref38_Same.l0 kq l0 l1 x5_1 = some r) ∧ Aside0 (kq ≤ k) ∧ Drawn0 w w')
    case atStart => exact ⟨(0), (by first | rfl | (simp only [YtcfcbkcaondfcaaDoorMpHelp.leq_not, YtcfcbkcaondfcaaDoorMpHelp.gtr_less]; done) | (simp; done) | (simp [*]; done)), H', ⟨Nat.le_refl _⟩, by repeat (first | exact Drawn0.refl _ | apply Drawn0.step)⟩
    case round =>
      clear H'
      try clear c1
      try clear p2
      try clear c3
      try clear c3b0
      try clear c3b1
      try clear c3b2
      obtain ⟨x5_1, rfl, HA, HK1, ⟨m1, rfl⟩⟩ := hrel
      cases gk with
      | zero => exact absurd HA.out (by simp [bindleref38_Same.l0])
      | succ k1 =>
        have H := HA.out
        clear HA
        simp only [bindleref38_Same.l0] at H
        by_cases c4 : x5_1 < (l0.length : Int)
        · rw [if_pos c4] at H
          have c4b0 : decide (x5_1 < (l0.length : Int)) = true := decide_eq_true c4
          clear c4
          by_cases c5 : 0 ≤ x5_1
          · rw [if_pos c5] at H
            have c5b0 : decide (0 ≤ x5_1) = true := decide_eq_true c5
            clear c5
            by_cases c6 : x5_1 < (l1.length : Int)
            · rw [if_pos c6] at H
              have c6b0 : decide (x5_1 < (l1.length : Int)) = true := decide_eq_true c6
              clear c6
              by_cases c7 : ((rd_T72 l0 x5_1).f0) = ((rd_T72 l1 x5_1).f0)
              · rw [if_pos c7] at H
                have c7b0 : (((rd_T72 l0 x5_1).f0) == ((rd_T72 l1 x5_1).f0)) = true := beq_iff_eq.mpr c7
                have c7b1 : (((rd_T72 l0 x5_1).f0) != ((rd_T72 l1 x5_1).f0)) = false := bne_eq_false_iff_eq.mpr c7
                clear c7
                by_cases c8 : ((rd_T72 l0 x5_1).f1).toList = ((rd_T72 l1 x5_1).f1).toList
                · rw [if_pos c8] at H
                  have c8b0 : (((rd_T72 l0 x5_1).f1).toList == ((rd_T72 l1 x5_1).f1).toList) = true := beq_iff_eq.mpr c8
                  have c8b1 : (((rd_T72 l0 x5_1).f1).toList != ((rd_T72 l1 x5_1).f1).toList) = false := bne_eq_false_iff_eq.mpr c8
                  clear c8
                  by_cases c9 : (strOfNums ((rd_T72 l0 x5_1).f2)).toList = (strOfNums ((rd_T72 l1 x5_1).f2)).toList
                  · rw [if_pos c9] at H
                    have c9b0 : ((strOfNums ((rd_T72 l0 x5_1).f2)).toList == (strOfNums ((rd_T72 l1 x5_1).f2)).toList) = true := beq_iff_eq.mpr c9
                    have c9b1 : ((strOfNums ((rd_T72 l0 x5_1).f2)).toList != (strOfNums ((rd_T72 l1 x5_1).f2)).toList) = false := bne_eq_false_iff_eq.mpr c9
                    clear c9
                    by_cases c10 : ((rd_T72 l0 x5_1).f3) = 0
                    · rw [if_pos c10] at H
                      have c10b0 : (((rd_T72 l0 x5_1).f3) == 0) = true := beq_iff_eq.mpr c10
                      have c10b1 : (((rd_T72 l0 x5_1).f3) != 0) = false := bne_eq_false_iff_eq.mpr c10
                      clear c10
                      by_cases c11 : (((rd_T72 l0 x5_1).f4.f0).length : Int) = 0
                      · rw [if_pos c11] at H
                        have c11b0 : ((((rd_T72 l0 x5_1).f4.f0).length : Int) == 0) = true := beq_iff_eq.mpr c11
                        have c11b1 : ((((rd_T72 l0 x5_1).f4.f0).length : Int) != 0) = false := bne_eq_false_iff_eq.mpr c11
                        clear c11
                        by_cases c12 : ((rd_T72 l0 x5_1).f4.f1) = 0
                        · rw [if_pos c12] at H
                          have c12b0 : (((rd_T72 l0 x5_1).f4.f1) == 0) = true := beq_iff_eq.mpr c12
                          have c12b1 : (((rd_T72 l0 x5_1).f4.f1) != 0) = false := bne_eq_false_iff_eq.mpr c12
                          clear c12
                          by_cases c13 : ((rd_T72 l0 x5_1).f4.f2) = 0
                          · rw [if_pos c13] at H
                            have c13b0 : (((rd_T72 l0 x5_1).f4.f2) == 0) = true := beq_iff_eq.mpr c13
                            have c13b1 : (((rd_T72 l0 x5_1).f4.f2) != 0) = false := bne_eq_false_iff_eq.mpr c13
                            clear c13
                            have H' := Aside0.mk H
                            clear H
                            have p149 : 0 ≤ (x5_1 : Int) := of_decide_eq_true (by first | (with_reducible assumption) | assumption)
                            have q149 : x5_1 < (l0.length : Int) := of_decide_eq_true (by first | (with_reducible assumption) | assumption)
                            obtain ⟨ad149, A149_2, c149_2, A149_4, c149_4, e149, hx149_0, hx149_1, hx149_2, hx149_3, hx149_4, hx149_5, hx149_6, hl149_2, hi149_2, hl149_4, hi149_4⟩ := at_T72 HR0.out x5_1 p149 q149
                            cases e149
                            have HR149_2 := Aside0.mk hi149_2
                            have HC149_2 := Aside0.mk hl149_2
                            clear hi149_2 hl149_2
                            have HR149_4 := Aside0.mk hi149_4
                            have HC149_4 := Aside0.mk hl149_4
                            clear hi149_4 hl149_4
                            replace p149 := eq_true p149
                            replace q149 := eq_true q149
                            have p150 : 0 ≤ (x5_1 : Int) := of_decide_eq_true (by first | (with_reducible assumption) | assumption)
                            have q150 : x5_1 < (l1.length : Int) := of_decide_eq_true (by first | (with_reducible assumption) | assumption)
                            obtain ⟨ad150, A150_2, c150_2, A150_4, c150_4, e150, hx150_0, hx150_1, hx150_2, hx150_3, hx150_4, hx150_5, hx150_6, hl150_2, hi150_2, hl150_4, hi150_4⟩ := at_T72 HR1.out x5_1 p150 q150
                            cases e150
                            have HR150_2 := Aside0.mk hi150_2
                            have HC150_2 := Aside0.mk hl150_2
                            clear hi150_2 hl150_2
                            have HR150_4 := Aside0.mk hi150_4
                            have HC150_4 := Aside0.mk hl150_4
                            clear hi150_4 hl150_4
                            replace p150 := eq_true p150
                            replace q150 := eq_true q150
                            have p151 : 0 ≤ (x5_1 : Int) := of_decide_eq_true (by first | (with_reducible assumption) | assumption)
                            have q151 : x5_1 < (l0.length : Int) := of_decide_eq_true (by first | (with_reducible assumption) | assumption)
                            obtain ⟨ad151, A151_2, c151_2, A151_4, c151_4, e151, hx151_0, hx151_1, hx151_2, hx151_3, hx151_4, hx151_5, hx151_6, hl151_2, hi151_2, hl151_4, hi151_4⟩ := at_T72 HR0.out x5_1 p151 q151
                            obtain rfl : ad149 = ad151 := (by injection e151)
                            have HR151_2 := Aside0.mk hi151_2
                            have HC151_2 := Aside0.mk hl151_2
                            clear hi151_2 hl151_2
                            have HR151_4 := Aside0.mk hi151_4
                            have HC151_4 := Aside0.mk hl151_4
                            clear hi151_4 hl151_4
                            replace p151 := eq_true p151
                            replace q151 := eq_true q151
                            have ea_ := Option.some.inj (hx149_2.symm.trans hx151_2)
                            injection ea_ with ea_ en_ ec_
                            subst ea_
                            subst ec_
                            clear en_
                            have ea_ := Option.some.inj (hx149_4.symm.trans hx151_4)
                            injection ea_ with ea_ en_ ec_
                            subst ea_
                            subst ec_
                            clear en_
                            have p152 : 0 ≤ (x5_1 : Int) := of_decide_eq_true (by first | (with_reducible assumption) | assumption)
                            have q152 : x5_1 < (l1.length : Int) := of_decide_eq_true (by first | (with_reducible assumption) | assumption)
                            obtain ⟨ad152, A152_2, c152_2, A152_4, c152_4, e152, hx152_0, hx152_1, hx152_2, hx152_3, hx152_4, hx152_5, hx152_6, hl152_2, hi152_2, hl152_4, hi152_4⟩ := at_T72 HR1.out x5_1 p152 q152
                            obtain rfl : ad150 = ad152 := (by injection e152)
                            have HR152_2 := Aside0.mk hi152_2
                            have HC152_2 := Aside0.mk hl152_2
                            clear hi152_2 hl152_2
                            have HR152_4 := Aside0.mk hi152_4
                            have HC152_4 := Aside0.mk hl152_4
                            clear hi152_4 hl152_4
                            replace p152 := eq_true p152
                            replace q152 := eq_true q152
                            have ea_ := Option.some.inj (hx150_2.symm.trans hx152_2)
                            injection ea_ with ea_ en_ ec_
                            subst ea_
                            subst ec_
                            clear en_
                            have ea_ := Option.some.inj (hx150_4.symm.trans hx152_4)
                            injection ea_ with ea_ en_ ec_
                            subst ea_
                            subst ec_
                            clear en_
                            have p153 : 0 ≤ (x5_1 : Int) := of_decide_eq_true (by first | (with_reducible assumption) | assumption)
                            have q153 : x5_1 < (l0.length : Int) := of_decide_eq_true (by first | (with_reducible assumption) | assumption)
                            obtain ⟨ad153, A153_2, c153_2, A153_4, c153_4, e153, hx153_0, hx153_1, hx153_2, hx153_3, hx153_4, hx153_5, hx153_6, hl153_2, hi153_2, hl153_4, hi153_4⟩ := at_T72 HR0.out x5_1 p153 q153
                            obtain rfl : ad149 = ad153 := (by injection e153)
                            have HR153_2 := Aside0.mk hi153_2
                            have HC153_2 := Aside0.mk hl153_2
                            clear hi153_2 hl153_2
                            have HR153_4 := Aside0.mk hi153_4
                            have HC153_4 := Aside0.mk hl153_4
                            clear hi153_4 hl153_4
                            replace p153 := eq_true p153
                            replace q153 := eq_true q153
                            have ea_ := Option.some.inj (hx149_2.symm.trans hx153_2)
                            injection ea_ with ea_ en_ ec_
                            subst ea_
                            subst ec_
                            clear en_
                            have ea_ := Option.some.inj (hx149_4.symm.trans hx153_4)
                            injection ea_ with ea_ en_ ec_
                            subst ea_
                            subst ec_
                            clear en_
                            have hcv14 := Kd.C_string (P := Tryd.prog) (A := A149_2) (c := c149_2) Tryd.underlying43 Tryd.underlying5 Tryd.underlying9 HR153_2.out
                            try have hcv14w := fun (m_ n_ : Nat) => Kd.C_string (P := Tryd.prog) (A := A149_2) (c := c149_2) Tryd.underlying43 Tryd.underlying5 Tryd.underlying9 (Kd.C_drewN (Kd.C_drewN HR153_2.out m_) n_)
                            try have hcv14v := fun (m_ : Nat) => Kd.C_string (P := Tryd.prog) (A := A149_2) (c := c149_2) Tryd.underlying43 Tryd.underlying5 Tryd.underlying9 (Kd.C_drewN HR153_2.out m_)
                            have p154 : 0 ≤ (x5_1 : Int) := of_decide_eq_true (by first | (with_reducible assumption) | assumption)
                            have q154 : x5_1 < (l1.length : Int) := of_decide_eq_true (by first | (with_reducible assumption) | assumption)
                            obtain ⟨ad154, A154_2, c154_2, A154_4, c154_4, e154, hx154_0, hx154_1, hx154_2, hx154_3, hx154_4, hx154_5, hx154_6, hl154_2, hi154_2, hl154_4, hi154_4⟩ := at_T72 HR1.out x5_1 p154 q154
                            obtain rfl : ad150 = ad154 := (by injection e154)
                            have HR154_2 := Aside0.mk hi154_2
                            have HC154_2 := Aside0.mk hl154_2
                            clear hi154_2 hl154_2
                            have HR154_4 := Aside0.mk hi154_4
                            have HC154_4 := Aside0.mk hl154_4
                            clear hi154_4 hl154_4
                            replace p154 := eq_true p154
                            replace q154 := eq_true q154
                            have ea_ := Option.some.inj (hx150_2.symm.trans hx154_2)
                            injection ea_ with ea_ en_ ec_
                            subst ea_
                            subst ec_
                            clear en_
                            have ea_ := Option.some.inj (hx150_4.symm.trans hx154_4)
                            injection ea_ with ea_ en_ ec_
                            subst ea_
                            subst ec_
                            clear en_
                            have hcv15 := Kd.C_string (P := Tryd.prog) (A := A150_2) (c := c150_2) Tryd.underlying43 Tryd.underlying5 Tryd.underlying9 HR154_2.out
                            try have hcv15w := fun (m_ n_ : Nat) => Kd.C_string (P := Tryd.prog) (A := A150_2) (c := c150_2) Tryd.underlying43 Tryd.underlying5 Tryd.underlying9 (Kd.C_drewN (Kd.C_drewN HR154_2.out m_) n_)
                            try have hcv15v := fun (m_ : Nat) => Kd.C_string (P := Tryd.prog) (A := A150_2) (c := c150_2) Tryd.underlying43 Tryd.underlying5 Tryd.underlying9 (Kd.C_drewN HR154_2.out m_)
                            have p155 : 0 ≤ (x5_1 : Int) := of_decide_eq_true (by first | (with_reducible assumption) | assumption)
                            have q155 : x5_1 < (l0.length : Int) := of_decide_eq_true (by first | (with_reducible assumption) | assumption)
                            obtain ⟨ad155, A155_2, c155_2, A155_4, c155_4, e155, hx155_0, hx155_1, hx155_2, hx155_3, hx155_4, hx155_5, hx155_6, hl155_2, hi155_2, hl155_4, hi155_4⟩ := at_T72 HR0.out x5_1 p155 q155
                            obtain rfl : ad149 = ad155 := (by injection e155)
                            have HR155_2 := Aside0.mk hi155_2
                            have HC155_2 := Aside0.mk hl155_2
                            clear hi155_2 hl155_2
                            have HR155_4 := Aside0.mk hi155_4
                            have HC155_4 := Aside0.mk hl155_4
                            clear hi155_4 hl155_4
                            replace p155 := eq_true p155
                            replace q155 := eq_true q155
                            have ea_ := Option.some.inj (hx149_2.symm.trans hx155_2)
                            injection ea_ with ea_ en_ ec_
                            subst ea_
                            subst ec_
                            clear en_
                            have ea_ := Option.some.inj (hx149_4.symm.trans hx155_4)
                            injection ea_ with ea_ en_ ec_
                            subst ea_
                            subst ec_
                            clear en_
                            have p156 : 0 ≤ (x5_1 : Int) := of_decide_eq_true (by first | (with_reducible assumption) | assumption)
                            have q156 : x5_1 < (l0.length : Int) := of_decide_eq_true (by first | (with_reducible assumption) | assumption)
                            obtain ⟨ad156, A156_2, c156_2, A156_4, c156_4, e156, hx156_0, hx156_1, hx156_2, hx156_3, hx156_4, hx156_5, hx156_6, hl156_2, hi156_2, hl156_4, hi156_4⟩ := at_T72 HR0.out x5_1 p156 q156
                            obtain rfl : ad149 = ad156 := (by injection e156)
                            have HR156_2 := Aside0.mk hi156_2
                            have HC156_2 := Aside0.mk hl156_2
                            clear hi156_2 hl156_2
                            have HR156_4 := Aside0.mk hi156_4
                            have HC156_4 := Aside0.mk hl156_4
                            clear hi156_4 hl156_4
                            replace p156 := eq_true p156
                            replace q156 := eq_true q156
                            have ea_ := Option.some.inj (hx149_2.symm.trans hx156_2)
                            injection ea_ with ea_ en_ ec_
                            subst ea_
                            subst ec_
                            clear en_
                            have ea_ := Option.some.inj (hx149_4.symm.trans hx156_4)
                            injection ea_ with ea_ en_ ec_
                            subst ea_
                            subst ec_
                            clear en_
                            have p157 : 0 ≤ (x5_1 : Int) := of_decide_eq_true (by first | (with_reducible assumption) | assumption)
                            have q157 : x5_1 < (l0.length : Int) := of_decide_eq_true (by first | (with_reducible assumption) | assumption)
                            obtain ⟨ad157, A157_2, c157_2, A157_4, c157_4, e157, hx157_0, hx157_1, hx157_2, hx157_3, hx157_4, hx157_5, hx157_6, hl157_2, hi157_2, hl157_4, hi157_4⟩ := at_T72 HR0.out x5_1 p157 q157
                            obtain rfl : ad149 = ad157 := (by injection e157)
                            have HR157_2 := Aside0.mk hi157_2
                            have HC157_2 := Aside0.mk hl157_2
                            clear hi157_2 hl157_2
                            have HR157_4 := Aside0.mk hi157_4
                            have HC157_4 := Aside0.mk hl157_4
                            clear hi157_4 hl157_4
                            replace p157 := eq_true p157
                            replace q157 := eq_true q157
                            have ea_ := Option.some.inj (hx149_2.symm.trans hx157_2)
                            injection ea_ with ea_ en_ ec_
                            subst ea_
                            subst ec_
                            clear en_
                            have ea_ := Option.some.inj (hx149_4.symm.trans hx157_4)
                            injection ea_ with ea_ en_ ec_
                            subst ea_
                            subst ec_
                            clear en_
                            have p158 : 0 ≤ (x5_1 : Int) := of_decide_eq_true (by first | (with_reducible assumption) | assumption)
                            have q158 : x5_1 < (l0.length : Int) := of_decide_eq_true (by first | (with_reducible assumption) | assumption)
                            obtain ⟨ad158, A158_2, c158_2, A158_4, c158_4, e158, hx158_0, hx158_1, hx158_2, hx158_3, hx158_4, hx158_5, hx158_6, hl158_2, hi158_2, hl158_4, hi158_4⟩ := at_T72 HR0.out x5_1 p158 q158
                            obtain rfl : ad149 = ad158 := (by injection e158)
                            have HR158_2 := Aside0.mk hi158_2
                            have HC158_2 := Aside0.mk hl158_2
                            clear hi158_2 hl158_2
                            have HR158_4 := Aside0.mk hi158_4
                            have HC158_4 := Aside0.mk hl158_4
                            clear hi158_4 hl158_4
                            replace p158 := eq_true p158
                            replace q158 := eq_true q158
                            have ea_ := Option.some.inj (hx149_2.symm.trans hx158_2)
                            injection ea_ with ea_ en_ ec_
                            subst ea_
                            subst ec_
                            clear en_
                            have ea_ := Option.some.inj (hx149_4.symm.trans hx158_4)
                            injection ea_ with ea_ en_ ec_
                            subst ea_
                            subst ec_
                            clear en_
                            go_wp2
                            repeat (go_quiet (fail); try go_wp2)
                            go_roundg k1
                            case measure => have := HK1.out; omega
                            case rel => exact ⟨(wrap64 (x5_1 + 1)), (by first | rfl | (simp only [YtcfcbkcaondfcaaDoorMpHelp.leq_not, YtcfcbkcaondfcaaDoorMpHelp.gtr_less]; done) | (simp; done) | (simp [*]; done)), H', ⟨by have := HK1.out; omega⟩, by repeat (first | exact Drawn0.refl _ | apply Drawn0.step)⟩
                          · rw [if_neg c13] at H
                            have c13b0 : (((rd_T72 l0 x5_1).f4.f2) == 0) = false := beq_eq_false_iff_ne.mpr c13
                            have c13b1 : (((rd_T72 l0 x5_1).f4.f2) != 0) = true := bne_iff_ne.mpr c13
                            obtain rfl := Option.some.inj H
                            have p149 : 0 ≤ (x5_1 : Int) := of_decide_eq_true (by first | (with_reducible assumption) | assumption)
                            have q149 : x5_1 < (l0.length : Int) := of_decide_eq_true (by first | (with_reducible assumption) | assumption)
                            obtain ⟨ad149, A149_2, c149_2, A149_4, c149_4, e149, hx149_0, hx149_1, hx149_2, hx149_3, hx149_4, hx149_5, hx149_6, hl149_2, hi149_2, hl149_4, hi149_4⟩ := at_T72 HR0.out x5_1 p149 q149
                            cases e149
                            have HR149_2 := Aside0.mk hi149_2
                            have HC149_2 := Aside0.mk hl149_2
                            clear hi149_2 hl149_2
                            have HR149_4 := Aside0.mk hi149_4
                            have HC149_4 := Aside0.mk hl149_4
                            clear hi149_4 hl149_4
                            replace p149 := eq_true p149
                            replace q149 := eq_true q149
                            have p150 : 0 ≤ (x5_1 : Int) := of_decide_eq_true (by first | (with_reducible assumption) | assumption)
                            have q150 : x5_1 < (l1.length : Int) := of_decide_eq_true (by first | (with_reducible assumption) | assumption)
                            obtain ⟨ad150, A150_2, c150_2, A150_4, c150_4, e150, hx150_0, hx150_1, hx150_2, hx150_3, hx150_4, hx150_5, hx150_6, hl150_2, hi150_2, hl150_4, hi150_4⟩ := at_T72 HR1.out x5_1 p150 q150
                            cases e150
                            have HR150_2 := Aside0.mk hi150_2
                            have HC150_2 := Aside0.mk hl150_2
                            clear hi150_2 hl150_2
                            have HR150_4 := Aside0.mk hi150_4
                            have HC150_4 := Aside0.mk hl150_4
                            clear hi150_4 hl150_4
                            replace p150 := eq_true p150
                            replace q150 := eq_true q150
                            have p151 : 0 ≤ (x5_1 : Int) := of_decide_eq_true (by first | (with_reducible assumption) | assumption)
                            have q151 : x5_1 < (l0.length : Int) := of_decide_eq_true (by first | (with_reducible assumption) | assumption)
                            obtain ⟨ad151, A151_2, c151_2, A151_4, c151_4, e151, hx151_0, hx151_1, hx151_2, hx151_3, hx151_4, hx151_5, hx151_6, hl151_2, hi151_2, hl151_4, hi151_4⟩ := at_T72 HR0.out x5_1 p151 q151
                            obtain rfl : ad149 = ad151 := (by injection e151)
                            have HR151_2 := Aside0.mk hi151_2
                            have HC151_2 := Aside0.mk hl151_2
                            clear hi151_2 hl151_2
                            have HR151_4 := Aside0.mk hi151_4
                            have HC151_4 := Aside0.mk hl151_4
                            clear hi151_4 hl151_4
                            replace p151 := eq_true p151
                            replace q151 := eq_true q151
                            have ea_ := Option.some.inj (hx149_2.symm.trans hx151_2)
                            injection ea_ with ea_ en_ ec_
                            subst ea_
                            subst ec_
                            clear en_
                            have ea_ := Option.some.inj (hx149_4.symm.trans hx151_4)
                            injection ea_ with ea_ en_ ec_
                            subst ea_
                            subst ec_
                            clear en_
                            have p152 : 0 ≤ (x5_1 : Int) := of_decide_eq_true (by first | (with_reducible assumption) | assumption)
                            have q152 : x5_1 < (l1.length : Int) := of_decide_eq_true (by first | (with_reducible assumption) | assumption)
                            obtain ⟨ad152, A152_2, c152_2, A152_4, c152_4, e152, hx152_0, hx152_1, hx152_2, hx152_3, hx152_4, hx152_5, hx152_6, hl152_2, hi152_2, hl152_4, hi152_4⟩ := at_T72 HR1.out x5_1 p152 q152
                            obtain rfl : ad150 = ad152 := (by injection e152)
                            have HR152_2 := Aside0.mk hi152_2
                            have HC152_2 := Aside0.mk hl152_2
                            clear hi152_2 hl152_2
                            have HR152_4 := Aside0.mk hi152_4
                            have HC152_4 := Aside0.mk hl152_4
                            clear hi152_4 hl152_4
                            replace p152 := eq_true p152
                            replace q152 := eq_true q152
                            have ea_ := Option.some.inj (hx150_2.symm.trans hx152_2)
                            injection ea_ with ea_ en_ ec_
                            subst ea_
                            subst ec_
                            clear en_
                            have ea_ := Option.some.inj (hx150_4.symm.trans hx152_4)
                            injection ea_ with ea_ en_ ec_
                            subst ea_
                            subst ec_
                            clear en_
                            have p153 : 0 ≤ (x5_1 : Int) := of_decide_eq_true (by first | (with_reducible assumption) | assumption)
                            have q153 : x5_1 < (l0.length : Int) := of_decide_eq_true (by first | (with_reducible assumption) | assumption)
                            obtain ⟨ad153, A153_2, c153_2, A153_4, c153_4, e153, hx153_0, hx153_1, hx153_2, hx153_3, hx153_4, hx153_5, hx153_6, hl153_2, hi153_2, hl153_4, hi153_4⟩ := at_T72 HR0.out x5_1 p153 q153
                            obtain rfl : ad149 = ad153 := (by injection e153)
                            have HR153_2 := Aside0.mk hi153_2
                            have HC153_2 := Aside0.mk hl153_2
                            clear hi153_2 hl153_2
                            have HR153_4 := Aside0.mk hi153_4
                            have HC153_4 := Aside0.mk hl153_4
                            clear hi153_4 hl153_4
                            replace p153 := eq_true p153
                            replace q153 := eq_true q153
                            have ea_ := Option.some.inj (hx149_2.symm.trans hx153_2)
                            injection ea_ with ea_ en_ ec_
                            subst ea_
                            subst ec_
                            clear en_
                            have ea_ := Option.some.inj (hx149_4.symm.trans hx153_4)
                            injection ea_ with ea_ en_ ec_
                            subst ea_
                            subst ec_
                            clear en_
                            have hcv16 := Kd.C_string (P := Tryd.prog) (A := A149_2) (c := c149_2) Tryd.underlying43 Tryd.underlying5 Tryd.underlying9 HR153_2.out
                            try have hcv16w := fun (m_ n_ : Nat) => Kd.C_string (P := Tryd.prog) (A := A149_2) (c := c149_2) Tryd.underlying43 Tryd.underlying5 Tryd.underlying9 (Kd.C_drewN (Kd.C_drewN HR153_2.out m_) n_)
                            try have hcv16v := fun (m_ : Nat) => Kd.C_string (P := Tryd.prog) (A := A149_2) (c := c149_2) Tryd.underlying43 Tryd.underlying5 Tryd.underlying9 (Kd.C_drewN HR153_2.out m_)
                            have p154 : 0 ≤ (x5_1 : Int) := of_decide_eq_true (by first | (with_reducible assumption) | assumption)
                            have q154 : x5_1 < (l1.length : Int) := of_decide_eq_true (by first | (with_reducible assumption) | assumption)
                            obtain ⟨ad154, A154_2, c154_2, A154_4, c154_4, e154, hx154_0, hx154_1, hx154_2, hx154_3, hx154_4, hx154_5, hx154_6, hl154_2, hi154_2, hl154_4, hi154_4⟩ := at_T72 HR1.out x5_1 p154 q154
                            obtain rfl : ad150 = ad154 := (by injection e154)
                            have HR154_2 := Aside0.mk hi154_2
                            have HC154_2 := Aside0.mk hl154_2
                            clear hi154_2 hl154_2
                            have HR154_4 := Aside0.mk hi154_4
                            have HC154_4 := Aside0.mk hl154_4
                            clear hi154_4 hl154_4
                            replace p154 := eq_true p154
                            replace q154 := eq_true q154
                            have ea_ := Option.some.inj (hx150_2.symm.trans hx154_2)
                            injection ea_ with ea_ en_ ec_
                            subst ea_
                            subst ec_
                            clear en_
                            have ea_ := Option.some.inj (hx150_4.symm.trans hx154_4)
                            injection ea_ with ea_ en_ ec_
                            subst ea_
                            subst ec_
                            clear en_
                            have hcv17 := Kd.C_string (P := Tryd.prog) (A := A150_2) (c := c150_2) Tryd.underlying43 Tryd.underlying5 Tryd.underlying9 HR154_2.out
                            try have hcv17w := fun (m_ n_ : Nat) => Kd.C_string (P := Tryd.prog) (A := A150_2) (c := c150_2) Tryd.underlying43 Tryd.underlying5 Tryd.underlying9 (Kd.C_drewN (Kd.C_drewN HR154_2.out m_) n_)
                            try have hcv17v := fun (m_ : Nat) => Kd.C_string (P := Tryd.prog) (A := A150_2) (c := c150_2) Tryd.underlying43 Tryd.underlying5 Tryd.underlying9 (Kd.C_drewN HR154_2.out m_)
                            have p155 : 0 ≤ (x5_1 : Int) := of_decide_eq_true (by first | (with_reducible assumption) | assumption)
                            have q155 : x5_1 < (l0.length : Int) := of_decide_eq_true (by first | (with_reducible assumption) | assumption)
                            obtain ⟨ad155, A155_2, c155_2, A155_4, c155_4, e155, hx155_0, hx155_1, hx155_2, hx155_3, hx155_4, hx155_5, hx155_6, hl155_2, hi155_2, hl155_4, hi155_4⟩ := at_T72 HR0.out x5_1 p155 q155
                            obtain rfl : ad149 = ad155 := (by injection e155)
                            have HR155_2 := Aside0.mk hi155_2
                            have HC155_2 := Aside0.mk hl155_2
                            clear hi155_2 hl155_2
                            have HR155_4 := Aside0.mk hi155_4
                            have HC155_4 := Aside0.mk hl155_4
                            clear hi155_4 hl155_4
                            replace p155 := eq_true p155
                            replace q155 := eq_true q155
                            have ea_ := Option.some.inj (hx149_2.symm.trans hx155_2)
                            injection ea_ with ea_ en_ ec_
                            subst ea_
                            subst ec_
                            clear en_
                            have ea_ := Option.some.inj (hx149_4.symm.trans hx155_4)
                            injection ea_ with ea_ en_ ec_
                            subst ea_
                            subst ec_
                            clear en_
                            have p156 : 0 ≤ (x5_1 : Int) := of_decide_eq_true (by first | (with_reducible assumption) | assumption)
                            have q156 : x5_1 < (l0.length : Int) := of_decide_eq_true (by first | (with_reducible assumption) | assumption)
                            obtain ⟨ad156, A156_2, c156_2, A156_4, c156_4, e156, hx156_0, hx156_1, hx156_2, hx156_3, hx156_4, hx156_5, hx156_6, hl156_2, hi156_2, hl156_4, hi156_4⟩ := at_T72 HR0.out x5_1 p156 q156
                            obtain rfl : ad149 = ad156 := (by injection e156)
                            have HR156_2 := Aside0.mk hi156_2
                            have HC156_2 := Aside0.mk hl156_2
                            clear hi156_2 hl156_2
                            have HR156_4 := Aside0.mk hi156_4
                            have HC156_4 := Aside0.mk hl156_4
                            clear hi156_4 hl156_4
                            replace p156 := eq_true p156
                            replace q156 := eq_true q156
                            have ea_ := Option.some.inj (hx149_2.symm.trans hx156_2)
                            injection ea_ with ea_ en_ ec_
                            subst ea_
                            subst ec_
                            clear en_
                            have ea_ := Option.some.inj (hx149_4.symm.trans hx156_4)
                            injection ea_ with ea_ en_ ec_
                            subst ea_
                            subst ec_
                            clear en_
                            have p157 : 0 ≤ (x5_1 : Int) := of_decide_eq_true (by first | (with_reducible assumption) | assumption)
                            have q157 : x5_1 < (l0.length : Int) := of_decide_eq_true (by first | (with_reducible assumption) | assumption)
                            obtain ⟨ad157, A157_2, c157_2, A157_4, c157_4, e157, hx157_0, hx157_1, hx157_2, hx157_3, hx157_4, hx157_5, hx157_6, hl157_2, hi157_2, hl157_4, hi157_4⟩ := at_T72 HR0.out x5_1 p157 q157
                            obtain rfl : ad149 = ad157 := (by injection e157)
                            have HR157_2 := Aside0.mk hi157_2
                            have HC157_2 := Aside0.mk hl157_2
                            clear hi157_2 hl157_2
                            have HR157_4 := Aside0.mk hi157_4
                            have HC157_4 := Aside0.mk hl157_4
                            clear hi157_4 hl157_4
                            replace p157 := eq_true p157
                            replace q157 := eq_true q157
                            have ea_ := Option.some.inj (hx149_2.symm.trans hx157_2)
                            injection ea_ with ea_ en_ ec_
                            subst ea_
                            subst ec_
                            clear en_
                            have ea_ := Option.some.inj (hx149_4.symm.trans hx157_4)
                            injection ea_ with ea_ en_ ec_
                            subst ea_
                            subst ec_
                            clear en_
                            have p158 : 0 ≤ (x5_1 : Int) := of_decide_eq_true (by first | (with_reducible assumption) | assumption)
                            have q158 : x5_1 < (l0.length : Int) := of_decide_eq_true (by first | (with_reducible assumption) | assumption)
                            obtain ⟨ad158, A158_2, c158_2, A158_4, c158_4, e158, hx158_0, hx158_1, hx158_2, hx158_3, hx158_4, hx158_5, hx158_6, hl158_2, hi158_2, hl158_4, hi158_4⟩ := at_T72 HR0.out x5_1 p158 q158
                            obtain rfl : ad149 = ad158 := (by injection e158)
                            have HR158_2 := Aside0.mk hi158_2
                            have HC158_2 := Aside0.mk hl158_2
                            clear hi158_2 hl158_2
                            have HR158_4 := Aside0.mk hi158_4
                            have HC158_4 := Aside0.mk hl158_4
                            clear hi158_4 hl158_4
                            replace p158 := eq_true p158
                            replace q158 := eq_true q158
                            have ea_ := Option.some.inj (hx149_2.symm.trans hx158_2)
                            injection ea_ with ea_ en_ ec_
                            subst ea_
                            subst ec_
                            clear en_
                            have ea_ := Option.some.inj (hx149_4.symm.trans hx158_4)
                            injection ea_ with ea_ en_ ec_
                            subst ea_
                            subst ec_
                            clear en_
                            go_wp2
                            repeat (go_quiet (fail); try go_wp2)
                            go_ret
                            exact ⟨by first | rfl | (simp only [YtcfcbkcaondfcaaDoorMpHelp.leq_not, YtcfcbkcaondfcaaDoorMpHelp.gtr_less]; done) | (simp; done) | (simp [*]; done), by repeat (first | exact Drawn0.refl _ | apply Drawn0.step)⟩
                        · rw [if_neg c12] at H
                          have c12b0 : (((rd_T72 l0 x5_1).f4.f1) == 0) = false := beq_eq_false_iff_ne.mpr c12
                          have c12b1 : (((rd_T72 l0 x5_1).f4.f1) != 0) = true := bne_iff_ne.mpr c12
                          obtain rfl := Option.some.inj H
                          have p149 : 0 ≤ (x5_1 : Int) := of_decide_eq_true (by first | (with_reducible assumption) | assumption)
                          have q149 : x5_1 < (l0.length : Int) := of_decide_eq_true (by first | (with_reducible assumption) | assumption)
                          obtain ⟨ad149, A149_2, c149_2, A149_4, c149_4, e149, hx149_0, hx149_1, hx149_2, hx149_3, hx149_4, hx149_5, hx149_6, hl149_2, hi149_2, hl149_4, hi149_4⟩ := at_T72 HR0.out x5_1 p149 q149
                          cases e149
                          have HR149_2 := Aside0.mk hi149_2
                          have HC149_2 := Aside0.mk hl149_2
                          clear hi149_2 hl149_2
                          have HR149_4 := Aside0.mk hi149_4
                          have HC149_4 := Aside0.mk hl149_4
                          clear hi149_4 hl149_4
                          replace p149 := eq_true p149
                          replace q149 := eq_true q149
                          have p150 : 0 ≤ (x5_1 : Int) := of_decide_eq_true (by first | (with_reducible assumption) | assumption)
                          have q150 : x5_1 < (l1.length : Int) := of_decide_eq_true (by first | (with_reducible assumption) | assumption)
                          obtain ⟨ad150, A150_2, c150_2, A150_4, c150_4, e150, hx150_0, hx150_1, hx150_2, hx150_3, hx150_4, hx150_5, hx150_6, hl150_2, hi150_2, hl150_4, hi150_4⟩ := at_T72 HR1.out x5_1 p150 q150
                          cases e150
                          have HR150_2 := Aside0.mk hi150_2
                          have HC150_2 := Aside0.mk hl150_2
                          clear hi150_2 hl150_2
                          have HR150_4 := Aside0.mk hi150_4
                          have HC150_4 := Aside0.mk hl150_4
                          clear hi150_4 hl150_4
                          replace p150 := eq_true p150
                          replace q150 := eq_true q150
                          have p151 : 0 ≤ (x5_1 : Int) := of_decide_eq_true (by first | (with_reducible assumption) | assumption)
                          have q151 : x5_1 < (l0.length : Int) := of_decide_eq_true (by first | (with_reducible assumption) | assumption)
                          obtain ⟨ad151, A151_2, c151_2, A151_4, c151_4, e151, hx151_0, hx151_1, hx151_2, hx151_3, hx151_4, hx151_5, hx151_6, hl151_2, hi151_2, hl151_4, hi151_4⟩ := at_T72 HR0.out x5_1 p151 q151
                          obtain rfl : ad149 = ad151 := (by injection e151)
                          have HR151_2 := Aside0.mk hi151_2
                          have HC151_2 := Aside0.mk hl151_2
                          clear hi151_2 hl151_2
                          have HR151_4 := Aside0.mk hi151_4
                          have HC151_4 := Aside0.mk hl151_4
                          clear hi151_4 hl151_4
                          replace p151 := eq_true p151
                          replace q151 := eq_true q151
                          have ea_ := Option.some.inj (hx149_2.symm.trans hx151_2)
                          injection ea_ with ea_ en_ ec_
                          subst ea_
                          subst ec_
                          clear en_
                          have ea_ := Option.some.inj (hx149_4.symm.trans hx151_4)
                          injection ea_ with ea_ en_ ec_
                          subst ea_
                          subst ec_
                          clear en_
                          have p152 : 0 ≤ (x5_1 : Int) := of_decide_eq_true (by first | (with_reducible assumption) | assumption)
                          have q152 : x5_1 < (l1.length : Int) := of_decide_eq_true (by first | (with_reducible assumption) | assumption)
                          obtain ⟨ad152, A152_2, c152_2, A152_4, c152_4, e152, hx152_0, hx152_1, hx152_2, hx152_3, hx152_4, hx152_5, hx152_6, hl152_2, hi152_2, hl152_4, hi152_4⟩ := at_T72 HR1.out x5_1 p152 q152
                          obtain rfl : ad150 = ad152 := (by injection e152)
                          have HR152_2 := Aside0.mk hi152_2
                          have HC152_2 := Aside0.mk hl152_2
                          clear hi152_2 hl152_2
                          have HR152_4 := Aside0.mk hi152_4
                          have HC152_4 := Aside0.mk hl152_4
                          clear hi152_4 hl152_4
                          replace p152 := eq_true p152
                          replace q152 := eq_true q152
                          have ea_ := Option.some.inj (hx150_2.symm.trans hx152_2)
                          injection ea_ with ea_ en_ ec_
                          subst ea_
                          subst ec_
                          clear en_
                          have ea_ := Option.some.inj (hx150_4.symm.trans hx152_4)
                          injection ea_ with ea_ en_ ec_
                          subst ea_
                          subst ec_
                          clear en_
                          have p153 : 0 ≤ (x5_1 : Int) := of_decide_eq_true (by first | (with_reducible assumption) | assumption)
                          have q153 : x5_1 < (l0.length : Int) := of_decide_eq_true (by first | (with_reducible assumption) | assumption)
                          obtain ⟨ad153, A153_2, c153_2, A153_4, c153_4, e153, hx153_0, hx153_1, hx153_2, hx153_3, hx153_4, hx153_5, hx153_6, hl153_2, hi153_2, hl153_4, hi153_4⟩ := at_T72 HR0.out x5_1 p153 q153
                          obtain rfl : ad149 = ad153 := (by injection e153)
                          have HR153_2 := Aside0.mk hi153_2
                          have HC153_2 := Aside0.mk hl153_2
                          clear hi153_2 hl153_2
                          have HR153_4 := Aside0.mk hi153_4
                          have HC153_4 := Aside0.mk hl153_4
                          clear hi153_4 hl153_4
                          replace p153 := eq_true p153
                          replace q153 := eq_true q153
                          have ea_ := Option.some.inj (hx149_2.symm.trans hx153_2)
                          injection ea_ with ea_ en_ ec_
                          subst ea_
                          subst ec_
                          clear en_
                          have ea_ := Option.some.inj (hx149_4.symm.trans hx153_4)
                          injection ea_ with ea_ en_ ec_
                          subst ea_
                          subst ec_
                          clear en_
                          have hcv18 := Kd.C_string (P := Tryd.prog) (A := A149_2) (c := c149_2) Tryd.underlying43 Tryd.underlying5 Tryd.underlying9 HR153_2.out
                          try have hcv18w := fun (m_ n_ : Nat) => Kd.C_string (P := Tryd.prog) (A := A149_2) (c := c149_2) Tryd.underlying43 Tryd.underlying5 Tryd.underlying9 (Kd.C_drewN (Kd.C_drewN HR153_2.out m_) n_)
                          try have hcv18v := fun (m_ : Nat) => Kd.C_string (P := Tryd.prog) (A := A149_2) (c := c149_2) Tryd.underlying43 Tryd.underlying5 Tryd.underlying9 (Kd.C_drewN HR153_2.out m_)
                          have p154 : 0 ≤ (x5_1 : Int) := of_decide_eq_true (by first | (with_reducible assumption) | assumption)
                          have q154 : x5_1 < (l1.length : Int) := of_decide_eq_true (by first | (with_reducible assumption) | assumption)
                          obtain ⟨ad154, A154_2, c154_2, A154_4, c154_4, e154, hx154_0, hx154_1, hx154_2, hx154_3, hx154_4, hx154_5, hx154_6, hl154_2, hi154_2, hl154_4, hi154_4⟩ := at_T72 HR1.out x5_1 p154 q154
                          obtain rfl : ad150 = ad154 := (by injection e154)
                          have HR154_2 := Aside0.mk hi154_2
                          have HC154_2 := Aside0.mk hl154_2
                          clear hi154_2 hl154_2
                          have HR154_4 := Aside0.mk hi154_4
                          have HC154_4 := Aside0.mk hl154_4
                          clear hi154_4 hl154_4
                          replace p154 := eq_true p154
                          replace q154 := eq_true q154
                          have ea_ := Option.some.inj (hx150_2.symm.trans hx154_2)
                          injection ea_ with ea_ en_ ec_
                          subst ea_
                          subst ec_
                          clear en_
                          have ea_ := Option.some.inj (hx150_4.symm.trans hx154_4)
                          injection ea_ with ea_ en_ ec_
                          subst ea_
                          subst ec_
                          clear en_
                          have hcv19 := Kd.C_string (P := Tryd.prog) (A := A150_2) (c := c150_2) Tryd.underlying43 Tryd.underlying5 Tryd.underlying9 HR154_2.out
                          try have hcv19w := fun (m_ n_ : Nat) => Kd.C_string (P := Tryd.prog) (A := A150_2) (c := c150_2) Tryd.underlying43 Tryd.underlying5 Tryd.underlying9 (Kd.C_drewN (Kd.C_drewN HR154_2.out m_) n_)
                          try have hcv19v := fun (m_ : Nat) => Kd.C_string (P := Tryd.prog) (A := A150_2) (c := c150_2) Tryd.underlying43 Tryd.underlying5 Tryd.underlying9 (Kd.C_drewN HR154_2.out m_)
                          have p155 : 0 ≤ (x5_1 : Int) := of_decide_eq_true (by first | (with_reducible assumption) | assumption)
                          have q155 : x5_1 < (l0.length : Int) := of_decide_eq_true (by first | (with_reducible assumption) | assumption)
                          obtain ⟨ad155, A155_2, c155_2, A155_4, c155_4, e155, hx155_0, hx155_1, hx155_2, hx155_3, hx155_4, hx155_5, hx155_6, hl155_2, hi155_2, hl155_4, hi155_4⟩ := at_T72 HR0.out x5_1 p155 q155
                          obtain rfl : ad149 = ad155 := (by injection e155)
                          have HR155_2 := Aside0.mk hi155_2
                          have HC155_2 := Aside0.mk hl155_2
                          clear hi155_2 hl155_2
                          have HR155_4 := Aside0.mk hi155_4
                          have HC155_4 := Aside0.mk hl155_4
                          clear hi155_4 hl155_4
                          replace p155 := eq_true p155
                          replace q155 := eq_true q155
                          have ea_ := Option.some.inj (hx149_2.symm.trans hx155_2)
                          injection ea_ with ea_ en_ ec_
                          subst ea_
                          subst ec_
                          clear en_
                          have ea_ := Option.some.inj (hx149_4.symm.trans hx155_4)
                          injection ea_ with ea_ en_ ec_
                          subst ea_
                          subst ec_
                          clear en_
                          have p156 : 0 ≤ (x5_1 : Int) := of_decide_eq_true (by first | (with_reducible assumption) | assumption)
                          have q156 : x5_1 < (l0.length : Int) := of_decide_eq_true (by first | (with_reducible assumption) | assumption)
                          obtain ⟨ad156, A156_2, c156_2, A156_4, c156_4, e156, hx156_0, hx156_1, hx156_2, hx156_3, hx156_4, hx156_5, hx156_6, hl156_2, hi156_2, hl156_4, hi156_4⟩ := at_T72 HR0.out x5_1 p156 q156
                          obtain rfl : ad149 = ad156 := (by injection e156)
                          have HR156_2 := Aside0.mk hi156_2
                          have HC156_2 := Aside0.mk hl156_2
                          clear hi156_2 hl156_2
                          have HR156_4 := Aside0.mk hi156_4
                          have HC156_4 := Aside0.mk hl156_4
                          clear hi156_4 hl156_4
                          replace p156 := eq_true p156
                          replace q156 := eq_true q156
                          have ea_ := Option.some.inj (hx149_2.symm.trans hx156_2)
                          injection ea_ with ea_ en_ ec_
                          subst ea_
                          subst ec_
                          clear en_
                          have ea_ := Option.some.inj (hx149_4.symm.trans hx156_4)
                          injection ea_ with ea_ en_ ec_
                          subst ea_
                          subst ec_
                          clear en_
                          have p157 : 0 ≤ (x5_1 : Int) := of_decide_eq_true (by first | (with_reducible assumption) | assumption)
                          have q157 : x5_1 < (l0.length : Int) := of_decide_eq_true (by first | (with_reducible assumption) | assumption)
                          obtain ⟨ad157, A157_2, c157_2, A157_4, c157_4, e157, hx157_0, hx157_1, hx157_2, hx157_3, hx157_4, hx157_5, hx157_6, hl157_2, hi157_2, hl157_4, hi157_4⟩ := at_T72 HR0.out x5_1 p157 q157
                          obtain rfl : ad149 = ad157 := (by injection e157)
                          have HR157_2 := Aside0.mk hi157_2
                          have HC157_2 := Aside0.mk hl157_2
                          clear hi157_2 hl157_2
                          have HR157_4 := Aside0.mk hi157_4
                          have HC157_4 := Aside0.mk hl157_4
                          clear hi157_4 hl157_4
                          replace p157 := eq_true p157
                          replace q157 := eq_true q157
                          have ea_ := Option.some.inj (hx149_2.symm.trans hx157_2)
                          injection ea_ with ea_ en_ ec_
                          subst ea_
                          subst ec_
                          clear en_
                          have ea_ := Option.some.inj (hx149_4.symm.trans hx157_4)
                          injection ea_ with ea_ en_ ec_
                          subst ea_
                          subst ec_
                          clear en_
                          go_wp2
                          repeat (go_quiet (fail); try go_wp2)
                          go_ret
                          exact ⟨by first | rfl | (simp only [YtcfcbkcaondfcaaDoorMpHelp.leq_not, YtcfcbkcaondfcaaDoorMpHelp.gtr_less]; done) | (simp; done) | (simp [*]; done), by repeat (first | exact Drawn0.refl _ | apply Drawn0.step)⟩
                      · rw [if_neg c11] at H
                        have c11b0 : ((((rd_T72 l0 x5_1).f4.f0).length : Int) == 0) = false := beq_eq_false_iff_ne.mpr c11
                        have c11b1 : ((((rd_T72 l0 x5_1).f4.f0).length : Int) != 0) = true := bne_iff_ne.mpr c11
                        have c11b2 : ¬ (((rd_T72 l0 x5_1).f4.f0) = []) := fun h_ => c11 (by rw [h_]; rfl)
                        obtain rfl := Option.some.inj H
                        have p149 : 0 ≤ (x5_1 : Int) := of_decide_eq_true (by first | (with_reducible assumption) | assumption)
                        have q149 : x5_1 < (l0.length : Int) := of_decide_eq_true (by first | (with_reducible assumption) | assumption)
                        obtain ⟨ad149, A149_2, c149_2, A149_4, c149_4, e149, hx149_0, hx149_1, hx149_2, hx149_3, hx149_4, hx149_5, hx149_6, hl149_2, hi149_2, hl149_4, hi149_4⟩ := at_T72 HR0.out x5_1 p149 q149
                        cases e149
                        have HR149_2 := Aside0.mk hi149_2
                        have HC149_2 := Aside0.mk hl149_2
                        clear hi149_2 hl149_2
                        have HR149_4 := Aside0.mk hi149_4
                        have HC149_4 := Aside0.mk hl149_4
                        clear hi149_4 hl149_4
                        replace p149 := eq_true p149
                        replace q149 := eq_true q149
                        have p150 : 0 ≤ (x5_1 : Int) := of_decide_eq_true (by first | (with_reducible assumption) | assumption)
                        have q150 : x5_1 < (l1.length : Int) := of_decide_eq_true (by first | (with_reducible assumption) | assumption)
                        obtain ⟨ad150, A150_2, c150_2, A150_4, c150_4, e150, hx150_0, hx150_1, hx150_2, hx150_3, hx150_4, hx150_5, hx150_6, hl150_2, hi150_2, hl150_4, hi150_4⟩ := at_T72 HR1.out x5_1 p150 q150
                        cases e150
                        have HR150_2 := Aside0.mk hi150_2
                        have HC150_2 := Aside0.mk hl150_2
                        clear hi150_2 hl150_2
                        have HR150_4 := Aside0.mk hi150_4
                        have HC150_4 := Aside0.mk hl150_4
                        clear hi150_4 hl150_4
                        replace p150 := eq_true p150
                        replace q150 := eq_true q150
                        have p151 : 0 ≤ (x5_1 : Int) := of_decide_eq_true (by first | (with_reducible assumption) | assumption)
                        have q151 : x5_1 < (l0.length : Int) := of_decide_eq_true (by first | (with_reducible assumption) | assumption)
                        obtain ⟨ad151, A151_2, c151_2, A151_4, c151_4, e151, hx151_0, hx151_1, hx151_2, hx151_3, hx151_4, hx151_5, hx151_6, hl151_2, hi151_2, hl151_4, hi151_4⟩ := at_T72 HR0.out x5_1 p151 q151
                        obtain rfl : ad149 = ad151 := (by injection e151)
                        have HR151_2 := Aside0.mk hi151_2
                        have HC151_2 := Aside0.mk hl151_2
                        clear hi151_2 hl151_2
                        have HR151_4 := Aside0.mk hi151_4
                        have HC151_4 := Aside0.mk hl151_4
                        clear hi151_4 hl151_4
                        replace p151 := eq_true p151
                        replace q151 := eq_true q151
                        have ea_ := Option.some.inj (hx149_2.symm.trans hx151_2)
                        injection ea_ with ea_ en_ ec_
                        subst ea_
                        subst ec_
                        clear en_
                        have ea_ := Option.some.inj (hx149_4.symm.trans hx151_4)
                        injection ea_ with ea_ en_ ec_
                        subst ea_
                        subst ec_
                        clear en_
                        have p152 : 0 ≤ (x5_1 : Int) := of_decide_eq_true (by first | (with_reducible assumption) | assumption)
                        have q152 : x5_1 < (l1.length : Int) := of_decide_eq_true (by first | (with_reducible assumption) | assumption)
                        obtain ⟨ad152, A152_2, c152_2, A152_4, c152_4, e152, hx152_0, hx152_1, hx152_2, hx152_3, hx152_4, hx152_5, hx152_6, hl152_2, hi152_2, hl152_4, hi152_4⟩ := at_T72 HR1.out x5_1 p152 q152
                        obtain rfl : ad150 = ad152 := (by injection e152)
                        have HR152_2 := Aside0.mk hi152_2
                        have HC152_2 := Aside0.mk hl152_2
                        clear hi152_2 hl152_2
                        have HR152_4 := Aside0.mk hi152_4
                        have HC152_4 := Aside0.mk hl152_4
                        clear hi152_4 hl152_4
                        replace p152 := eq_true p152
                        replace q152 := eq_true q152
                        have ea_ := Option.some.inj (hx150_2.symm.trans hx152_2)
                        injection ea_ with ea_ en_ ec_
                        subst ea_
                        subst ec_
                        clear en_
                        have ea_ := Option.some.inj (hx150_4.symm.trans hx152_4)
                        injection ea_ with ea_ en_ ec_
                        subst ea_
                        subst ec_
                        clear en_
                        have p153 : 0 ≤ (x5_1 : Int) := of_decide_eq_true (by first | (with_reducible assumption) | assumption)
                        have q153 : x5_1 < (l0.length : Int) := of_decide_eq_true (by first | (with_reducible assumption) | assumption)
                        obtain ⟨ad153, A153_2, c153_2, A153_4, c153_4, e153, hx153_0, hx153_1, hx153_2, hx153_3, hx153_4, hx153_5, hx153_6, hl153_2, hi153_2, hl153_4, hi153_4⟩ := at_T72 HR0.out x5_1 p153 q153
                        obtain rfl : ad149 = ad153 := (by injection e153)
                        have HR153_2 := Aside0.mk hi153_2
                        have HC153_2 := Aside0.mk hl153_2
                        clear hi153_2 hl153_2
                        have HR153_4 := Aside0.mk hi153_4
                        have HC153_4 := Aside0.mk hl153_4
                        clear hi153_4 hl153_4
                        replace p153 := eq_true p153
                        replace q153 := eq_true q153
                        have ea_ := Option.some.inj (hx149_2.symm.trans hx153_2)
                        injection ea_ with ea_ en_ ec_
                        subst ea_
                        subst ec_
                        clear en_
                        have ea_ := Option.some.inj (hx149_4.symm.trans hx153_4)
                        injection ea_ with ea_ en_ ec_
                        subst ea_
                        subst ec_
                        clear en_
                        have hcv20 := Kd.C_string (P := Tryd.prog) (A := A149_2) (c := c149_2) Tryd.underlying43 Tryd.underlying5 Tryd.underlying9 HR153_2.out
                        try have hcv20w := fun (m_ n_ : Nat) => Kd.C_string (P := Tryd.prog) (A := A149_2) (c := c149_2) Tryd.underlying43 Tryd.underlying5 Tryd.underlying9 (Kd.C_drewN (Kd.C_drewN HR153_2.out m_) n_)
                        try have hcv20v := fun (m_ : Nat) => Kd.C_string (P := Tryd.prog) (A := A149_2) (c := c149_2) Tryd.underlying43 Tryd.underlying5 Tryd.underlying9 (Kd.C_drewN HR153_2.out m_)
                        have p154 : 0 ≤ (x5_1 : Int) := of_decide_eq_true (by first | (with_reducible assumption) | assumption)
                        have q154 : x5_1 < (l1.length : Int) := of_decide_eq_true (by first | (with_reducible assumption) | assumption)
                        obtain ⟨ad154, A154_2, c154_2, A154_4, c154_4, e154, hx154_0, hx154_1, hx154_2, hx154_3, hx154_4, hx154_5, hx154_6, hl154_2, hi154_2, hl154_4, hi154_4⟩ := at_T72 HR1.out x5_1 p154 q154
                        obtain rfl : ad150 = ad154 := (by injection e154)
                        have HR154_2 := Aside0.mk hi154_2
                        have HC154_2 := Aside0.mk hl154_2
                        clear hi154_2 hl154_2
                        have HR154_4 := Aside0.mk hi154_4
                        have HC154_4 := Aside0.mk hl154_4
                        clear hi154_4 hl154_4
                        replace p154 := eq_true p154
                        replace q154 := eq_true q154
                        have ea_ := Option.some.inj (hx150_2.symm.trans hx154_2)
                        injection ea_ with ea_ en_ ec_
                        subst ea_
                        subst ec_
                        clear en_
                        have ea_ := Option.some.inj (hx150_4.symm.trans hx154_4)
                        injection ea_ with ea_ en_ ec_
                        subst ea_
                        subst ec_
                        clear en_
                        have hcv21 := Kd.C_string (P := Tryd.prog) (A := A150_2) (c := c150_2) Tryd.underlying43 Tryd.underlying5 Tryd.underlying9 HR154_2.out
                        try have hcv21w := fun (m_ n_ : Nat) => Kd.C_string (P := Tryd.prog) (A := A150_2) (c := c150_2) Tryd.underlying43 Tryd.underlying5 Tryd.underlying9 (Kd.C_drewN (Kd.C_drewN HR154_2.out m_) n_)
                        try have hcv21v := fun (m_ : Nat) => Kd.C_string (P := Tryd.prog) (A := A150_2) (c := c150_2) Tryd.underlying43 Tryd.underlying5 Tryd.underlying9 (Kd.C_drewN HR154_2.out m_)
                        have p155 : 0 ≤ (x5_1 : Int) := of_decide_eq_true (by first | (with_reducible assumption) | assumption)
                        have q155 : x5_1 < (l0.length : Int) := of_decide_eq_true (by first | (with_reducible assumption) | assumption)
                        obtain ⟨ad155, A155_2, c155_2, A155_4, c155_4, e155, hx155_0, hx155_1, hx155_2, hx155_3, hx155_4, hx155_5, hx155_6, hl155_2, hi155_2, hl155_4, hi155_4⟩ := at_T72 HR0.out x5_1 p155 q155
                        obtain rfl : ad149 = ad155 := (by injection e155)
                        have HR155_2 := Aside0.mk hi155_2
                        have HC155_2 := Aside0.mk hl155_2
                        clear hi155_2 hl155_2
                        have HR155_4 := Aside0.mk hi155_4
                        have HC155_4 := Aside0.mk hl155_4
                        clear hi155_4 hl155_4
                        replace p155 := eq_true p155
                        replace q155 := eq_true q155
                        have ea_ := Option.some.inj (hx149_2.symm.trans hx155_2)
                        injection ea_ with ea_ en_ ec_
                        subst ea_
                        subst ec_
                        clear en_
                        have ea_ := Option.some.inj (hx149_4.symm.trans hx155_4)
                        injection ea_ with ea_ en_ ec_
                        subst ea_
                        subst ec_
                        clear en_
                        have p156 : 0 ≤ (x5_1 : Int) := of_decide_eq_true (by first | (with_reducible assumption) | assumption)
                        have q156 : x5_1 < (l0.length : Int) := of_decide_eq_true (by first | (with_reducible assumption) | assumption)
                        obtain ⟨ad156, A156_2, c156_2, A156_4, c156_4, e156, hx156_0, hx156_1, hx156_2, hx156_3, hx156_4, hx156_5, hx156_6, hl156_2, hi156_2, hl156_4, hi156_4⟩ := at_T72 HR0.out x5_1 p156 q156
                        obtain rfl : ad149 = ad156 := (by injection e156)
                        have HR156_2 := Aside0.mk hi156_2
                        have HC156_2 := Aside0.mk hl156_2
                        clear hi156_2 hl156_2
                        have HR156_4 := Aside0.mk hi156_4
                        have HC156_4 := Aside0.mk hl156_4
                        clear hi156_4 hl156_4
                        replace p156 := eq_true p156
                        replace q156 := eq_true q156
                        have ea_ := Option.some.inj (hx149_2.symm.trans hx156_2)
                        injection ea_ with ea_ en_ ec_
                        subst ea_
                        subst ec_
                        clear en_
                        have ea_ := Option.some.inj (hx149_4.symm.trans hx156_4)
                        injection ea_ with ea_ en_ ec_
                        subst ea_
                        subst ec_
                        clear en_
                        go_wp2
                        repeat (go_quiet (fail); try go_wp2)
                        go_ret
                        exact ⟨by first | rfl | (simp only [YtcfcbkcaondfcaaDoorMpHelp.leq_not, YtcfcbkcaondfcaaDoorMpHelp.gtr_less]; done) | (simp; done) | (simp [*]; done), by repeat (first | exact Drawn0.refl _ | apply Drawn0.step)⟩
                    · rw [if_neg c10] at H
                      have c10b0 : (((rd_T72 l0 x5_1).f3) == 0) = false := beq_eq_false_iff_ne.mpr c10
                      have c10b1 : (((rd_T72 l0 x5_1).f3) != 0) = true := bne_iff_ne.mpr c10
                      obtain rfl := Option.some.inj H
                      have p149 : 0 ≤ (x5_1 : Int) := of_decide_eq_true (by first | (with_reducible assumption) | assumption)
                      have q149 : x5_1 < (l0.length : Int) := of_decide_eq_true (by first | (with_reducible assumption) | assumption)
                      obtain ⟨ad149, A149_2, c149_2, A149_4, c149_4, e149, hx149_0, hx149_1, hx149_2, hx149_3, hx149_4, hx149_5, hx149_6, hl149_2, hi149_2, hl149_4, hi149_4⟩ := at_T72 HR0.out x5_1 p149 q149
                      cases e149
                      have HR149_2 := Aside0.mk hi149_2
                      have HC149_2 := Aside0.mk hl149_2
                      clear hi149_2 hl149_2
                      have HR149_4 := Aside0.mk hi149_4
                      have HC149_4 := Aside0.mk hl149_4
                      clear hi149_4 hl149_4
                      replace p149 := eq_true p149
                      replace q149 := eq_true q149
                      have p150 : 0 ≤ (x5_1 : Int) := of_decide_eq_true (by first | (with_reducible assumption) | assumption)
                      have q150 : x5_1 < (l1.length : Int) := of_decide_eq_true (by first | (with_reducible assumption) | assumption)
                      obtain ⟨ad150, A150_2, c150_2, A150_4, c150_4, e150, hx150_0, hx150_1, hx150_2, hx150_3, hx150_4, hx150_5, hx150_6, hl150_2, hi150_2, hl150_4, hi150_4⟩ := at_T72 HR1.out x5_1 p150 q150
                      cases e150
                      have HR150_2 := Aside0.mk hi150_2
                      have HC150_2 := Aside0.mk hl150_2
                      clear hi150_2 hl150_2
                      have HR150_4 := Aside0.mk hi150_4
                      have HC150_4 := Aside0.mk hl150_4
                      clear hi150_4 hl150_4
                      replace p150 := eq_true p150
                      replace q150 := eq_true q150
                      have p151 : 0 ≤ (x5_1 : Int) := of_decide_eq_true (by first | (with_reducible assumption) | assumption)
                      have q151 : x5_1 < (l0.length : Int) := of_decide_eq_true (by first | (with_reducible assumption) | assumption)
                      obtain ⟨ad151, A151_2, c151_2, A151_4, c151_4, e151, hx151_0, hx151_1, hx151_2, hx151_3, hx151_4, hx151_5, hx151_6, hl151_2, hi151_2, hl151_4, hi151_4⟩ := at_T72 HR0.out x5_1 p151 q151
                      obtain rfl : ad149 = ad151 := (by injection e151)
                      have HR151_2 := Aside0.mk hi151_2
                      have HC151_2 := Aside0.mk hl151_2
                      clear hi151_2 hl151_2
                      have HR151_4 := Aside0.mk hi151_4
                      have HC151_4 := Aside0.mk hl151_4
                      clear hi151_4 hl151_4
                      replace p151 := eq_true p151
                      replace q151 := eq_true q151
                      have ea_ := Option.some.inj (hx149_2.symm.trans hx151_2)
                      injection ea_ with ea_ en_ ec_
                      subst ea_
                      subst ec_
                      clear en_
                      have ea_ := Option.some.inj (hx149_4.symm.trans hx151_4)
                      injection ea_ with ea_ en_ ec_
                      subst ea_
                      subst ec_
                      clear en_
                      have p152 : 0 ≤ (x5_1 : Int) := of_decide_eq_true (by first | (with_reducible assumption) | assumption)
                      have q152 : x5_1 < (l1.length : Int) := of_decide_eq_true (by first | (with_reducible assumption) | assumption)
                      obtain ⟨ad152, A152_2, c152_2, A152_4, c152_4, e152, hx152_0, hx152_1, hx152_2, hx152_3, hx152_4, hx152_5, hx152_6, hl152_2, hi152_2, hl152_4, hi152_4⟩ := at_T72 HR1.out x5_1 p152 q152
                      obtain rfl : ad150 = ad152 := (by injection e152)
                      have HR152_2 := Aside0.mk hi152_2
                      have HC152_2 := Aside0.mk hl152_2
                      clear hi152_2 hl152_2
                      have HR152_4 := Aside0.mk hi152_4
                      have HC152_4 := Aside0.mk hl152_4
                      clear hi152_4 hl152_4
                      replace p152 := eq_true p152
                      replace q152 := eq_true q152
                      have ea_ := Option.some.inj (hx150_2.symm.trans hx152_2)
                      injection ea_ with ea_ en_ ec_
                      subst ea_
                      subst ec_
                      clear en_
                      have ea_ := Option.some.inj (hx150_4.symm.trans hx152_4)
                      injection ea_ with ea_ en_ ec_
                      subst ea_
                      subst ec_
                      clear en_
                      have p153 : 0 ≤ (x5_1 : Int) := of_decide_eq_true (by first | (with_reducible assumption) | assumption)
                      have q153 : x5_1 < (l0.length : Int) := of_decide_eq_true (by first | (with_reducible assumption) | assumption)
                      obtain ⟨ad153, A153_2, c153_2, A153_4, c153_4, e153, hx153_0, hx153_1, hx153_2, hx153_3, hx153_4, hx153_5, hx153_6, hl153_2, hi153_2, hl153_4, hi153_4⟩ := at_T72 HR0.out x5_1 p153 q153
                      obtain rfl : ad149 = ad153 := (by injection e153)
                      have HR153_2 := Aside0.mk hi153_2
                      have HC153_2 := Aside0.mk hl153_2
                      clear hi153_2 hl153_2
                      have HR153_4 := Aside0.mk hi153_4
                      have HC153_4 := Aside0.mk hl153_4
                      clear hi153_4 hl153_4
                      replace p153 := eq_true p153
                      replace q153 := eq_true q153
                      have ea_ := Option.some.inj (hx149_2.symm.trans hx153_2)
                      injection ea_ with ea_ en_ ec_
                      subst ea_
                      subst ec_
                      clear en_
                      have ea_ := Option.some.inj (hx149_4.symm.trans hx153_4)
                      injection ea_ with ea_ en_ ec_
                      subst ea_
                      subst ec_
                      clear en_
                      have hcv22 := Kd.C_string (P := Tryd.prog) (A := A149_2) (c := c149_2) Tryd.underlying43 Tryd.underlying5 Tryd.underlying9 HR153_2.out
                      try have hcv22w := fun (m_ n_ : Nat) => Kd.C_string (P := Tryd.prog) (A := A149_2) (c := c149_2) Tryd.underlying43 Tryd.underlying5 Tryd.underlying9 (Kd.C_drewN (Kd.C_drewN HR153_2.out m_) n_)
                      try have hcv22v := fun (m_ : Nat) => Kd.C_string (P := Tryd.prog) (A := A149_2) (c := c149_2) Tryd.underlying43 Tryd.underlying5 Tryd.underlying9 (Kd.C_drewN HR153_2.out m_)
                      have p154 : 0 ≤ (x5_1 : Int) := of_decide_eq_true (by first | (with_reducible assumption) | assumption)
                      have q154 : x5_1 < (l1.length : Int) := of_decide_eq_true (by first | (with_reducible assumption) | assumption)
                      obtain ⟨ad154, A154_2, c154_2, A154_4, c154_4, e154, hx154_0, hx154_1, hx154_2, hx154_3, hx154_4, hx154_5, hx154_6, hl154_2, hi154_2, hl154_4, hi154_4⟩ := at_T72 HR1.out x5_1 p154 q154
                      obtain rfl : ad150 = ad154 := (by injection e154)
                      have HR154_2 := Aside0.mk hi154_2
                      have HC154_2 := Aside0.mk hl154_2
                      clear hi154_2 hl154_2
                      have HR154_4 := Aside0.mk hi154_4
                      have HC154_4 := Aside0.mk hl154_4
                      clear hi154_4 hl154_4
                      replace p154 := eq_true p154
                      replace q154 := eq_true q154
                      have ea_ := Option.some.inj (hx150_2.symm.trans hx154_2)
                      injection ea_ with ea_ en_ ec_
                      subst ea_
                      subst ec_
                      clear en_
                      have ea_ := Option.some.inj (hx150_4.symm.trans hx154_4)
                      injection ea_ with ea_ en_ ec_
                      subst ea_
                      subst ec_
                      clear en_
                      have hcv23 := Kd.C_string (P := Tryd.prog) (A := A150_2) (c := c150_2) Tryd.underlying43 Tryd.underlying5 Tryd.underlying9 HR154_2.out
                      try have hcv23w := fun (m_ n_ : Nat) => Kd.C_string (P := Tryd.prog) (A := A150_2) (c := c150_2) Tryd.underlying43 Tryd.underlying5 Tryd.underlying9 (Kd.C_drewN (Kd.C_drewN HR154_2.out m_) n_)
                      try have hcv23v := fun (m_ : Nat) => Kd.C_string (P := Tryd.prog) (A := A150_2) (c := c150_2) Tryd.underlying43 Tryd.underlying5 Tryd.underlying9 (Kd.C_drewN HR154_2.out m_)
                      have p155 : 0 ≤ (x5_1 : Int) := of_decide_eq_true (by first | (with_reducible assumption) | assumption)
                      have q155 : x5_1 < (l0.length : Int) := of_decide_eq_true (by first | (with_reducible assumption) | assumption)
                      obtain ⟨ad155, A155_2, c155_2, A155_4, c155_4, e155, hx155_0, hx155_1, hx155_2, hx155_3, hx155_4, hx155_5, hx155_6, hl155_2, hi155_2, hl155_4, hi155_4⟩ := at_T72 HR0.out x5_1 p155 q155
                      obtain rfl : ad149 = ad155 := (by injection e155)
                      have HR155_2 := Aside0.mk hi155_2
                      have HC155_2 := Aside0.mk hl155_2
                      clear hi155_2 hl155_2
                      have HR155_4 := Aside0.mk hi155_4
                      have HC155_4 := Aside0.mk hl155_4
                      clear hi155_4 hl155_4
                      replace p155 := eq_true p155
                      replace q155 := eq_true q155
                      have ea_ := Option.some.inj (hx149_2.symm.trans hx155_2)
                      injection ea_ with ea_ en_ ec_
                      subst ea_
                      subst ec_
                      clear en_
                      have ea_ := Option.some.inj (hx149_4.symm.trans hx155_4)
                      injection ea_ with ea_ en_ ec_
                      subst ea_
                      subst ec_
                      clear en_
                      go_wp2
                      repeat (go_quiet (fail); try go_wp2)
                      go_ret
                      exact ⟨by first | rfl | (simp only [YtcfcbkcaondfcaaDoorMpHelp.leq_not, YtcfcbkcaondfcaaDoorMpHelp.gtr_less]; done) | (simp; done) | (simp [*]; done), by repeat (first | exact Drawn0.refl _ | apply Drawn0.step)⟩
                  · rw [if_neg c9] at H
                    have c9b0 : ((strOfNums ((rd_T72 l0 x5_1).f2)).toList == (strOfNums ((rd_T72 l1 x5_1).f2)).toList) = false := beq_eq_false_iff_ne.mpr c9
                    have c9b1 : ((strOfNums ((rd_T72 l0 x5_1).f2)).toList != (strOfNums ((rd_T72 l1 x5_1).f2)).toList) = true := bne_iff_ne.mpr c9
                    obtain rfl := Option.some.inj H
                    have p149 : 0 ≤ (x5_1 : Int) := of_decide_eq_true (by first | (with_reducible assumption) | assumption)
                    have q149 : x5_1 < (l0.length : Int) := of_decide_eq_true (by first | (with_reducible assumption) | assumption)
                    obtain ⟨ad149, A149_2, c149_2, A149_4, c149_4, e149, hx149_0, hx149_1, hx149_2, hx149_3, hx149_4, hx149_5, hx149_6, hl149_2, hi149_2, hl149_4, hi149_4⟩ := at_T72 HR0.out x5_1 p149 q149
                    cases e149
                    have HR149_2 := Aside0.mk hi149_2
                    have HC149_2 := Aside0.mk hl149_2
                    clear hi149_2 hl149_2
                    have HR149_4 := Aside0.mk hi149_4
                    have HC149_4 := Aside0.mk hl149_4
                    clear hi149_4 hl149_4
                    replace p149 := eq_true p149
                    replace q149 := eq_true q149
                    have p150 : 0 ≤ (x5_1 : Int) := of_decide_eq_true (by first | (with_reducible assumption) | assumption)
                    have q150 : x5_1 < (l1.length : Int) := of_decide_eq_true (by first | (with_reducible assumption) | assumption)
                    obtain ⟨ad150, A150_2, c150_2, A150_4, c150_4, e150, hx150_0, hx150_1, hx150_2, hx150_3, hx150_4, hx150_5, hx150_6, hl150_2, hi150_2, hl150_4, hi150_4⟩ := at_T72 HR1.out x5_1 p150 q150
                    cases e150
                    have HR150_2 := Aside0.mk hi150_2
                    have HC150_2 := Aside0.mk hl150_2
                    clear hi150_2 hl150_2
                    have HR150_4 := Aside0.mk hi150_4
                    have HC150_4 := Aside0.mk hl150_4
                    clear hi150_4 hl150_4
                    replace p150 := eq_true p150
                    replace q150 := eq_true q150
                    have p151 : 0 ≤ (x5_1 : Int) := of_decide_eq_true (by first | (with_reducible assumption) | assumption)
                    have q151 : x5_1 < (l0.length : Int) := of_decide_eq_true (by first | (with_reducible assumption) | assumption)
                    obtain ⟨ad151, A151_2, c151_2, A151_4, c151_4, e151, hx151_0, hx151_1, hx151_2, hx151_3, hx151_4, hx151_5, hx151_6, hl151_2, hi151_2, hl151_4, hi151_4⟩ := at_T72 HR0.out x5_1 p151 q151
                    obtain rfl : ad149 = ad151 := (by injection e151)
                    have HR151_2 := Aside0.mk hi151_2
                    have HC151_2 := Aside0.mk hl151_2
                    clear hi151_2 hl151_2
                    have HR151_4 := Aside0.mk hi151_4
                    have HC151_4 := Aside0.mk hl151_4
                    clear hi151_4 hl151_4
                    replace p151 := eq_true p151
                    replace q151 := eq_true q151
                    have ea_ := Option.some.inj (hx149_2.symm.trans hx151_2)
                    injection ea_ with ea_ en_ ec_
                    subst ea_
                    subst ec_
                    clear en_
                    have ea_ := Option.some.inj (hx149_4.symm.trans hx151_4)
                    injection ea_ with ea_ en_ ec_
                    subst ea_
                    subst ec_
                    clear en_
                    have p152 : 0 ≤ (x5_1 : Int) := of_decide_eq_true (by first | (with_reducible assumption) | assumption)
                    have q152 : x5_1 < (l1.length : Int) := of_decide_eq_true (by first | (with_reducible assumption) | assumption)
                    obtain ⟨ad152, A152_2, c152_2, A152_4, c152_4, e152, hx152_0, hx152_1, hx152_2, hx152_3, hx152_4, hx152_5, hx152_6, hl152_2, hi152_2, hl152_4, hi152_4⟩ := at_T72 HR1.out x5_1 p152 q152
                    obtain rfl : ad150 = ad152 := (by injection e152)
                    have HR152_2 := Aside0.mk hi152_2
                    have HC152_2 := Aside0.mk hl152_2
                    clear hi152_2 hl152_2
                    have HR152_4 := Aside0.mk hi152_4
                    have HC152_4 := Aside0.mk hl152_4
                    clear hi152_4 hl152_4
                    replace p152 := eq_true p152
                    replace q152 := eq_true q152
                    have ea_ := Option.some.inj (hx150_2.symm.trans hx152_2)
                    injection ea_ with ea_ en_ ec_
                    subst ea_
                    subst ec_
                    clear en_
                    have ea_ := Option.some.inj (hx150_4.symm.trans hx152_4)
                    injection ea_ with ea_ en_ ec_
                    subst ea_
                    subst ec_
                    clear en_
                    have p153 : 0 ≤ (x5_1 : Int) := of_decide_eq_true (by first | (with_reducible assumption) | assumption)
                    have q153 : x5_1 < (l0.length : Int) := of_decide_eq_true (by first | (with_reducible assumption) | assumption)
                    obtain ⟨ad153, A153_2, c153_2, A153_4, c153_4, e153, hx153_0, hx153_1, hx153_2, hx153_3, hx153_4, hx153_5, hx153_6, hl153_2, hi153_2, hl153_4, hi153_4⟩ := at_T72 HR0.out x5_1 p153 q153
                    obtain rfl : ad149 = ad153 := (by injection e153)
                    have HR153_2 := Aside0.mk hi153_2
                    have HC153_2 := Aside0.mk hl153_2
                    clear hi153_2 hl153_2
                    have HR153_4 := Aside0.mk hi153_4
                    have HC153_4 := Aside0.mk hl153_4
                    clear hi153_4 hl153_4
                    replace p153 := eq_true p153
                    replace q153 := eq_true q153
                    have ea_ := Option.some.inj (hx149_2.symm.trans hx153_2)
                    injection ea_ with ea_ en_ ec_
                    subst ea_
                    subst ec_
                    clear en_
                    have ea_ := Option.some.inj (hx149_4.symm.trans hx153_4)
                    injection ea_ with ea_ en_ ec_
                    subst ea_
                    subst ec_
                    clear en_
                    have hcv24 := Kd.C_string (P := Tryd.prog) (A := A149_2) (c := c149_2) Tryd.underlying43 Tryd.underlying5 Tryd.underlying9 HR153_2.out
                    try have hcv24w := fun (m_ n_ : Nat) => Kd.C_string (P := Tryd.prog) (A := A149_2) (c := c149_2) Tryd.underlying43 Tryd.underlying5 Tryd.underlying9 (Kd.C_drewN (Kd.C_drewN HR153_2.out m_) n_)
                    try have hcv24v := fun (m_ : Nat) => Kd.C_string (P := Tryd.prog) (A := A149_2) (c := c149_2) Tryd.underlying43 Tryd.underlying5 Tryd.underlying9 (Kd.C_drewN HR153_2.out m_)
                    have p154 : 0 ≤ (x5_1 : Int) := of_decide_eq_true (by first | (with_reducible assumption) | assumption)
                    have q154 : x5_1 < (l1.length : Int) := of_decide_eq_true (by first | (with_reducible assumption) | assumption)
                    obtain ⟨ad154, A154_2, c154_2, A154_4, c154_4, e154, hx154_0, hx154_1, hx154_2, hx154_3, hx154_4, hx154_5, hx154_6, hl154_2, hi154_2, hl154_4, hi154_4⟩ := at_T72 HR1.out x5_1 p154 q154
                    obtain rfl : ad150 = ad154 := (by injection e154)
                    have HR154_2 := Aside0.mk hi154_2
                    have HC154_2 := Aside0.mk hl154_2
                    clear hi154_2 hl154_2
                    have HR154_4 := Aside0.mk hi154_4
                    have HC154_4 := Aside0.mk hl154_4
                    clear hi154_4 hl154_4
                    replace p154 := eq_true p154
                    replace q154 := eq_true q154
                    have ea_ := Option.some.inj (hx150_2.symm.trans hx154_2)
                    injection ea_ with ea_ en_ ec_
                    subst ea_
                    subst ec_
                    clear en_
                    have ea_ := Option.some.inj (hx150_4.symm.trans hx154_4)
                    injection ea_ with ea_ en_ ec_
                    subst ea_
                    subst ec_
                    clear en_
                    have hcv25 := Kd.C_string (P := Tryd.prog) (A := A150_2) (c := c150_2) Tryd.underlying43 Tryd.underlying5 Tryd.underlying9 HR154_2.out
                    try have hcv25w := fun (m_ n_ : Nat) => Kd.C_string (P := Tryd.prog) (A := A150_2) (c := c150_2) Tryd.underlying43 Tryd.underlying5 Tryd.underlying9 (Kd.C_drewN (Kd.C_drewN HR154_2.out m_) n_)
                    try have hcv25v := fun (m_ : Nat) => Kd.C_string (P := Tryd.prog) (A := A150_2) (c := c150_2) Tryd.underlying43 Tryd.underlying5 Tryd.underlying9 (Kd.C_drewN HR154_2.out m_)
                    go_wp2
                    repeat (go_quiet (fail); try go_wp2)
                    go_ret
                    exact ⟨by first | rfl | (simp only [YtcfcbkcaondfcaaDoorMpHelp.leq_not, YtcfcbkcaondfcaaDoorMpHelp.gtr_less]; done) | (simp; done) | (simp [*]; done), by repeat (first | exact Drawn0.refl _ | apply Drawn0.step)⟩
                · rw [if_neg c8] at H
                  have c8b0 : (((rd_T72 l0 x5_1).f1).toList == ((rd_T72 l1 x5_1).f1).toList) = false := beq_eq_false_iff_ne.mpr c8
                  have c8b1 : (((rd_T72 l0 x5_1).f1).toList != ((rd_T72 l1 x5_1).f1).toList) = true := bne_iff_ne.mpr c8
                  obtain rfl := Option.some.inj H
                  have p149 : 0 ≤ (x5_1 : Int) := of_decide_eq_true (by first | (with_reducible assumption) | assumption)
                  have q149 : x5_1 < (l0.length : Int) := of_decide_eq_true (by first | (with_reducible assumption) | assumption)
                  obtain ⟨ad149, A149_2, c149_2, A149_4, c149_4, e149, hx149_0, hx149_1, hx149_2, hx149_3, hx149_4, hx149_5, hx149_6, hl149_2, hi149_2, hl149_4, hi149_4⟩ := at_T72 HR0.out x5_1 p149 q149
                  cases e149
                  have HR149_2 := Aside0.mk hi149_2
                  have HC149_2 := Aside0.mk hl149_2
                  clear hi149_2 hl149_2
                  have HR149_4 := Aside0.mk hi149_4
                  have HC149_4 := Aside0.mk hl149_4
                  clear hi149_4 hl149_4
                  replace p149 := eq_true p149
                  replace q149 := eq_true q149
                  have p150 : 0 ≤ (x5_1 : Int) := of_decide_eq_true (by first | (with_reducible assumption) | assumption)
                  have q150 : x5_1 < (l1.length : Int) := of_decide_eq_true (by first | (with_reducible assumption) | assumption)
                  obtain ⟨ad150, A150_2, c150_2, A150_4, c150_4, e150, hx150_0, hx150_1, hx150_2, hx150_3, hx150_4, hx150_5, hx150_6, hl150_2, hi150_2, hl150_4, hi150_4⟩ := at_T72 HR1.out x5_1 p150 q150
                  cases e150
                  have HR150_2 := Aside0.mk hi150_2
                  have HC150_2 := Aside0.mk hl150_2
                  clear hi150_2 hl150_2
                  have HR150_4 := Aside0.mk hi150_4
                  have HC150_4 := Aside0.mk hl150_4
                  clear hi150_4 hl150_4
                  replace p150 := eq_true p150
                  replace q150 := eq_true q150
                  have p151 : 0 ≤ (x5_1 : Int) := of_decide_eq_true (by first | (with_reducible assumption) | assumption)
                  have q151 : x5_1 < (l0.length : Int) := of_decide_eq_true (by first | (with_reducible assumption) | assumption)
                  obtain ⟨ad151, A151_2, c151_2, A151_4, c151_4, e151, hx151_0, hx151_1, hx151_2, hx151_3, hx151_4, hx151_5, hx151_6, hl151_2, hi151_2, hl151_4, hi151_4⟩ := at_T72 HR0.out x5_1 p151 q151
                  obtain rfl : ad149 = ad151 := (by injection e151)
                  have HR151_2 := Aside0.mk hi151_2
                  have HC151_2 := Aside0.mk hl151_2
                  clear hi151_2 hl151_2
                  have HR151_4 := Aside0.mk hi151_4
                  have HC151_4 := Aside0.mk hl151_4
                  clear hi151_4 hl151_4
                  replace p151 := eq_true p151
                  replace q151 := eq_true q151
                  have ea_ := Option.some.inj (hx149_2.symm.trans hx151_2)
                  injection ea_ with ea_ en_ ec_
                  subst ea_
                  subst ec_
                  clear en_
                  have ea_ := Option.some.inj (hx149_4.symm.trans hx151_4)
                  injection ea_ with ea_ en_ ec_
                  subst ea_
                  subst ec_
                  clear en_
                  have p152 : 0 ≤ (x5_1 : Int) := of_decide_eq_true (by first | (with_reducible assumption) | assumption)
                  have q152 : x5_1 < (l1.length : Int) := of_decide_eq_true (by first | (with_reducible assumption) | assumption)
                  obtain ⟨ad152, A152_2, c152_2, A152_4, c152_4, e152, hx152_0, hx152_1, hx152_2, hx152_3, hx152_4, hx152_5, hx152_6, hl152_2, hi152_2, hl152_4, hi152_4⟩ := at_T72 HR1.out x5_1 p152 q152
                  obtain rfl : ad150 = ad152 := (by injection e152)
                  have HR152_2 := Aside0.mk hi152_2
                  have HC152_2 := Aside0.mk hl152_2
                  clear hi152_2 hl152_2
                  have HR152_4 := Aside0.mk hi152_4
                  have HC152_4 := Aside0.mk hl152_4
                  clear hi152_4 hl152_4
                  replace p152 := eq_true p152
                  replace q152 := eq_true q152
                  have ea_ := Option.some.inj (hx150_2.symm.trans hx152_2)
                  injection ea_ with ea_ en_ ec_
                  subst ea_
                  subst ec_
                  clear en_
                  have ea_ := Option.some.inj (hx150_4.symm.trans hx152_4)
                  injection ea_ with ea_ en_ ec_
                  subst ea_
                  subst ec_
                  clear en_
                  go_wp2
                  repeat (go_quiet (fail); try go_wp2)
                  go_ret
                  exact ⟨by first | rfl | (simp only [YtcfcbkcaondfcaaDoorMpHelp.leq_not, YtcfcbkcaondfcaaDoorMpHelp.gtr_less]; done) | (simp; done) | (simp [*]; done), by repeat (first | exact Drawn0.refl _ | apply Drawn0.step)⟩
              · rw [if_neg c7] at H
                have c7b0 : (((rd_T72 l0 x5_1).f0) == ((rd_T72 l1 x5_1).f0)) = false := beq_eq_false_iff_ne.mpr c7
                have c7b1 : (((rd_T72 l0 x5_1).f0) != ((rd_T72 l1 x5_1).f0)) = true := bne_iff_ne.mpr c7
                obtain rfl := Option.some.inj H
                have p149 : 0 ≤ (x5_1 : Int) := of_decide_eq_true (by first | (with_reducible assumption) | assumption)
                have q149 : x5_1 < (l0.length : Int) := of_decide_eq_true (by first | (with_reducible assumption) | assumption)
                obtain ⟨ad149, A149_2, c149_2, A149_4, c149_4, e149, hx149_0, hx149_1, hx149_2, hx149_3, hx149_4, hx149_5, hx149_6, hl149_2, hi149_2, hl149_4, hi149_4⟩ := at_T72 HR0.out x5_1 p149 q149
                cases e149
                have HR149_2 := Aside0.mk hi149_2
                have HC149_2 := Aside0.mk hl149_2
                clear hi149_2 hl149_2
                have HR149_4 := Aside0.mk hi149_4
                have HC149_4 := Aside0.mk hl149_4
                clear hi149_4 hl149_4
                replace p149 := eq_true p149
                replace q149 := eq_true q149
                have p150 : 0 ≤ (x5_1 : Int) := of_decide_eq_true (by first | (with_reducible assumption) | assumption)
                have q150 : x5_1 < (l1.length : Int) := of_decide_eq_true (by first | (with_reducible assumption) | assumption)
                obtain ⟨ad150, A150_2, c150_2, A150_4, c150_4, e150, hx150_0, hx150_1, hx150_2, hx150_3, hx150_4, hx150_5, hx150_6, hl150_2, hi150_2, hl150_4, hi150_4⟩ := at_T72 HR1.out x5_1 p150 q150
                cases e150
                have HR150_2 := Aside0.mk hi150_2
                have HC150_2 := Aside0.mk hl150_2
                clear hi150_2 hl150_2
                have HR150_4 := Aside0.mk hi150_4
                have HC150_4 := Aside0.mk hl150_4
                clear hi150_4 hl150_4
                replace p150 := eq_true p150
                replace q150 := eq_true q150
                go_wp2
                repeat (go_quiet (fail); try go_wp2)
                go_ret
                exact ⟨by first | rfl | (simp only [YtcfcbkcaondfcaaDoorMpHelp.leq_not, YtcfcbkcaondfcaaDoorMpHelp.gtr_less]; done) | (simp; done) | (simp [*]; done), by repeat (first | exact Drawn0.refl _ | apply Drawn0.step)⟩
            · rw [if_neg c6] at H
              exact absurd H (by simp)
          · rw [if_neg c5] at H
            exact absurd H (by simp)
        · rw [if_neg c4] at H
          have c4b0 : decide (x5_1 < (l0.length : Int)) = false := decide_eq_false c4
          clear c4
          obtain rfl := Option.some.inj H
          go_wp2
          repeat (go_quiet (fail); try go_wp2)
          go_ret
          exact ⟨by first | rfl | (simp only [YtcfcbkcaondfcaaDoorMpHelp.leq_not, YtcfcbkcaondfcaaDoorMpHelp.gtr_less]; done) | (simp; done) | (simp [*]; done), by repeat (first | exact Drawn0.refl _ | apply Drawn0.step)⟩
  · rw [if_neg c3] at H
    have c3b0 : ((l0.length : Int) == (l1.length : Int)) = false := beq_eq_false_iff_ne.mpr c3
    have c3b1 : ((l0.length : Int) != (l1.length : Int)) = true := bne_iff_ne.mpr c3
    have c3b2 : (l0.length == l1.length) = false := by first | simpa using c3 | (simp at c3 ⊢; omega)
    obtain rfl := Option.some.inj H
    go_enter Tryd.func31, Tryd.ntmps31
    go_wp2
    repeat (go_quiet (fail); try go_wp2)
    go_ret
    exact ⟨by first | rfl | (simp only [YtcfcbkcaondfcaaDoorMpHelp.leq_not, YtcfcbkcaondfcaaDoorMpHelp.gtr_less]; done) | (simp; done) | (simp [*]; done), by repeat (first | exact Drawn0.refl _ | apply Drawn0.step)⟩

end Go.Proofs.YtcfcbkcaondfcaaDoor.PPlanDiffs
