/- The machine side of a law: for each Go function that it uses a Lean function with the same answers, and the proof that the Go code comes to them; or the row of the law over these. Written by a program of this session. -/
import Derived.Test.YthkdabpbohiadaaPSpaceGrowsx0
import Derived.Test.YthkdabpbohiadaaPSpaceGrowsx1
import Derived.Test.YthkdabpbohiadaaPSpaceGrowsx2
namespace Go.Proofs.Ythkdabpbohiadaa.PSpaceGrows
open Go.RowKit Go.Proofs.YthkdabpbohiadaaW.PrintWords Go.Proofs.YthkdabpbohiadaaW.PrintLast Go.Proofs.YthkdabpbohiadaaW.PrintMore
attribute [local go_sem] max2_int min2_int max_two min_two max_three min_three max_four min_four   -- for this text's walks alone
set_option linter.unusedVariables false
set_option linter.unusedSimpArgs false

/-! ### bindlelaw26_SpaceGrows: function 5 -/
mutual
def bindlelaw26_SpaceGrows.j0 : Nat → List (S32) → List (S44) → Bool → Option (Bool)
  | 0, _, _, _ => none
  | k + 1, x0, x1, x16 => if x16 = true then ((bindlelaw26_lives.f).bind fun t152 => (some t152)) else ((space_Ledger_Bound.f k 0 ([] : List (S44))).bind fun bt154 => (bindlelaw26_SpaceGrows.l0 k x0 x1 bt154.1 0 bt154.2))
def bindlelaw26_SpaceGrows.l0 : Nat → List (S32) → List (S44) → Int → Int → Int → Option (Bool)
  | 0, _, _, _, _, _ => none
  | k + 1, x0, x1, x6, x7, x154000 => if x7 < (x0.length : Int) then (if 0 ≤ x7 then (if ((rd_T32 x0 x7).f0) < 0 then (bindlelaw26_SpaceGrows.j2 k x0 x1 x6 x7 true x154000) else (bindlelaw26_SpaceGrows.j2 k x0 x1 x6 x7 (decide (((rd_T32 x0 x7).f0) > 3)) x154000)) else (none)) else (bindlelaw26_SpaceGrows.l1 k x1 0 x154000)
def bindlelaw26_SpaceGrows.j2 : Nat → List (S32) → List (S44) → Int → Int → Bool → Int → Option (Bool)
  | 0, _, _, _, _, _, _ => none
  | k + 1, x0, x1, x6, x7, x38, x154000 => if x38 = true then (bindlelaw26_SpaceGrows.l0 k x0 x1 x6 (wrap64 (x7 + 1)) x154000) else (if 0 ≤ x7 then (if x7 < (x0.length : Int) then ((bindlelaw26_does.f k x154000 ((rd_T32 x0 x7).f0) ((rd_T32 x0 x7).f1) ((rd_T32 x0 x7).f2) ((rd_T32 x0 x7).f3) 0).bind fun bt159 => ((space_Ledger_Bound.f k bt159.2 ([] : List (S44))).bind fun bt161 => (if bt161.1 < x6 then (some false) else ((space_Ledger_Bound.f k bt161.2 ([] : List (S44))).bind fun bt163 => (bindlelaw26_SpaceGrows.l0 k x0 x1 bt163.1 (wrap64 (x7 + 1)) bt163.2))))) else (none)) else (none))
def bindlelaw26_SpaceGrows.l1 : Nat → List (S44) → Int → Int → Option (Bool)
  | 0, _, _, _ => none
  | k + 1, x1, x8, x154000 => if x8 < (x1.length : Int) then (if 0 ≤ x8 then ((space_Ledger_Put.f k x154000 ((rd_T44 x1 x8).f0) (((rd_T44 x1 x8).f1).length : Int)).bind fun t167 => (bindlelaw26_SpaceGrows.l1 k x1 (wrap64 (x8 + 1)) t167)) else (none)) else ((space_Ledger_Bound.f k x154000 x1).bind fun bt168 => (if (x1.length : Int) > 0 then (if 0 < (x1.length : Int) then ((space_Ledger_Delete.f k bt168.2 ((rd_T44 x1 0).f0)).bind fun t171 => (if 1 ≤ (x1.length : Int) then ((space_Ledger_Bound.f k t171 (x1.drop 1)).bind fun bt176 => (if bt176.1 < bt168.1 then (some false) else (bindlelaw26_SpaceGrows.j4 k x1 bt176.2))) else (none))) else (none)) else (bindlelaw26_SpaceGrows.j4 k x1 bt168.2)))
def bindlelaw26_SpaceGrows.j4 : Nat → List (S44) → Int → Option (Bool)
  | 0, _, _ => none
  | k + 1, x1, x154000 => (space_Ledger_Bound.f k x154000 x1).bind fun bt178 => ((space_Ledger_Vacuum.f k bt178.2 x1).bind fun t180 => ((space_Ledger_Bound.f k t180 x1).bind fun bt181 => (if bt181.1 ≤ bt178.1 then ((bindlelaw26_lives.f).bind fun t183 => (some t183)) else (some false))))
end
def bindlelaw26_SpaceGrows.f (k : Nat) (l0 : List (S32)) (l1 : List (S44)) : Option (Bool) := (bindlelaw26_great.f k l0).bind fun t150 => (if t150 = true then (bindlelaw26_SpaceGrows.j0 k l0 l1 true) else ((bindlelaw26_wide.f k l1).bind fun t151 => (bindlelaw26_SpaceGrows.j0 k l0 l1 t151)))
theorem bindlelaw26_SpaceGrows.mono_l : ∀ k, (∀ y0 y1 y2, LeO (bindlelaw26_SpaceGrows.j0 k y0 y1 y2) (bindlelaw26_SpaceGrows.j0 (k + 1) y0 y1 y2)) ∧ (∀ y0 y1 y2 y3 y4, LeO (bindlelaw26_SpaceGrows.l0 k y0 y1 y2 y3 y4) (bindlelaw26_SpaceGrows.l0 (k + 1) y0 y1 y2 y3 y4)) ∧ (∀ y0 y1 y2 y3 y4 y5, LeO (bindlelaw26_SpaceGrows.j2 k y0 y1 y2 y3 y4 y5) (bindlelaw26_SpaceGrows.j2 (k + 1) y0 y1 y2 y3 y4 y5)) ∧ (∀ y0 y1 y2, LeO (bindlelaw26_SpaceGrows.l1 k y0 y1 y2) (bindlelaw26_SpaceGrows.l1 (k + 1) y0 y1 y2)) ∧ (∀ y0 y1, LeO (bindlelaw26_SpaceGrows.j4 k y0 y1) (bindlelaw26_SpaceGrows.j4 (k + 1) y0 y1))
  | 0 => ⟨fun _ _ _ r h => by simp [bindlelaw26_SpaceGrows.j0] at h, fun _ _ _ _ _ r h => by simp [bindlelaw26_SpaceGrows.l0] at h, fun _ _ _ _ _ _ r h => by simp [bindlelaw26_SpaceGrows.j2] at h, fun _ _ _ r h => by simp [bindlelaw26_SpaceGrows.l1] at h, fun _ _ r h => by simp [bindlelaw26_SpaceGrows.j4] at h⟩
  | k + 1 => by
    obtain ⟨ih0, ih1, ih2, ih3, ih4⟩ := bindlelaw26_SpaceGrows.mono_l k
    refine ⟨?_, ?_, ?_, ?_, ?_⟩
    · intro y0 y1 y2
      unfold bindlelaw26_SpaceGrows.j0
      repeat' first
      | (with_reducible exact ih0 _ _ _)
      | (with_reducible exact ih1 _ _ _ _ _)
      | (with_reducible exact ih2 _ _ _ _ _ _)
      | (with_reducible exact ih3 _ _ _)
      | (with_reducible exact ih4 _ _)
      | (with_reducible exact bindlelaw26_does.mono _ _ _ _ _ _ _)
      | (with_reducible exact bindlelaw26_great.mono _ _)
      | (with_reducible exact bindlelaw26_wide.mono _ _)
      | (with_reducible exact space_Ledger_Bound.mono _ _ _)
      | (with_reducible exact space_Ledger_Delete.mono _ _ _)
      | (with_reducible exact space_Ledger_Put.mono _ _ _ _)
      | (with_reducible exact space_Ledger_Vacuum.mono _ _ _)
      | (with_reducible exact LeO.refl _)
      | (with_reducible exact LeO.none _)
      | (with_reducible refine LeO.ite ?_ ?_)
      | (with_reducible refine LeO.bind ?_ (fun _ => ?_))
      | exact ih0 _ _ _
      | exact ih1 _ _ _ _ _
      | exact ih2 _ _ _ _ _ _
      | exact ih3 _ _ _
      | exact ih4 _ _
      | exact bindlelaw26_does.mono _ _ _ _ _ _ _
      | exact bindlelaw26_great.mono _ _
      | exact bindlelaw26_wide.mono _ _
      | exact space_Ledger_Bound.mono _ _ _
      | exact space_Ledger_Delete.mono _ _ _
      | exact space_Ledger_Put.mono _ _ _ _
      | exact space_Ledger_Vacuum.mono _ _ _
      | exact LeO.none _
      | refine LeO.ite ?_ ?_
      | refine LeO.bind ?_ (fun _ => ?_)
    · intro y0 y1 y2 y3 y4
      unfold bindlelaw26_SpaceGrows.l0
      repeat' first
      | (with_reducible exact ih0 _ _ _)
      | (with_reducible exact ih1 _ _ _ _ _)
      | (with_reducible exact ih2 _ _ _ _ _ _)
      | (with_reducible exact ih3 _ _ _)
      | (with_reducible exact ih4 _ _)
      | (with_reducible exact bindlelaw26_does.mono _ _ _ _ _ _ _)
      | (with_reducible exact bindlelaw26_great.mono _ _)
      | (with_reducible exact bindlelaw26_wide.mono _ _)
      | (with_reducible exact space_Ledger_Bound.mono _ _ _)
      | (with_reducible exact space_Ledger_Delete.mono _ _ _)
      | (with_reducible exact space_Ledger_Put.mono _ _ _ _)
      | (with_reducible exact space_Ledger_Vacuum.mono _ _ _)
      | (with_reducible exact LeO.refl _)
      | (with_reducible exact LeO.none _)
      | (with_reducible refine LeO.ite ?_ ?_)
      | (with_reducible refine LeO.bind ?_ (fun _ => ?_))
      | exact ih0 _ _ _
      | exact ih1 _ _ _ _ _
      | exact ih2 _ _ _ _ _ _
      | exact ih3 _ _ _
      | exact ih4 _ _
      | exact bindlelaw26_does.mono _ _ _ _ _ _ _
      | exact bindlelaw26_great.mono _ _
      | exact bindlelaw26_wide.mono _ _
      | exact space_Ledger_Bound.mono _ _ _
      | exact space_Ledger_Delete.mono _ _ _
      | exact space_Ledger_Put.mono _ _ _ _
      | exact space_Ledger_Vacuum.mono _ _ _
      | exact LeO.none _
      | refine LeO.ite ?_ ?_
      | refine LeO.bind ?_ (fun _ => ?_)
    · intro y0 y1 y2 y3 y4 y5
      unfold bindlelaw26_SpaceGrows.j2
      repeat' first
      | (with_reducible exact ih0 _ _ _)
      | (with_reducible exact ih1 _ _ _ _ _)
      | (with_reducible exact ih2 _ _ _ _ _ _)
      | (with_reducible exact ih3 _ _ _)
      | (with_reducible exact ih4 _ _)
      | (with_reducible exact bindlelaw26_does.mono _ _ _ _ _ _ _)
      | (with_reducible exact bindlelaw26_great.mono _ _)
      | (with_reducible exact bindlelaw26_wide.mono _ _)
      | (with_reducible exact space_Ledger_Bound.mono _ _ _)
      | (with_reducible exact space_Ledger_Delete.mono _ _ _)
      | (with_reducible exact space_Ledger_Put.mono _ _ _ _)
      | (with_reducible exact space_Ledger_Vacuum.mono _ _ _)
      | (with_reducible exact LeO.refl _)
      | (with_reducible exact LeO.none _)
      | (with_reducible refine LeO.ite ?_ ?_)
      | (with_reducible refine LeO.bind ?_ (fun _ => ?_))
      | exact ih0 _ _ _
      | exact ih1 _ _ _ _ _
      | exact ih2 _ _ _ _ _ _
      | exact ih3 _ _ _
      | exact ih4 _ _
      | exact bindlelaw26_does.mono _ _ _ _ _ _ _
      | exact bindlelaw26_great.mono _ _
      | exact bindlelaw26_wide.mono _ _
      | exact space_Ledger_Bound.mono _ _ _
      | exact space_Ledger_Delete.mono _ _ _
      | exact space_Ledger_Put.mono _ _ _ _
      | exact space_Ledger_Vacuum.mono _ _ _
      | exact LeO.none _
      | refine LeO.ite ?_ ?_
      | refine LeO.bind ?_ (fun _ => ?_)
    · intro y0 y1 y2
      unfold bindlelaw26_SpaceGrows.l1
      repeat' first
      | (with_reducible exact ih0 _ _ _)
      | (with_reducible exact ih1 _ _ _ _ _)
      | (with_reducible exact ih2 _ _ _ _ _ _)
      | (with_reducible exact ih3 _ _ _)
      | (with_reducible exact ih4 _ _)
      | (with_reducible exact bindlelaw26_does.mono _ _ _ _ _ _ _)
      | (with_reducible exact bindlelaw26_great.mono _ _)
      | (with_reducible exact bindlelaw26_wide.mono _ _)
      | (with_reducible exact space_Ledger_Bound.mono _ _ _)
      | (with_reducible exact space_Ledger_Delete.mono _ _ _)
      | (with_reducible exact space_Ledger_Put.mono _ _ _ _)
      | (with_reducible exact space_Ledger_Vacuum.mono _ _ _)
      | (with_reducible exact LeO.refl _)
      | (with_reducible exact LeO.none _)
      | (with_reducible refine LeO.ite ?_ ?_)
      | (with_reducible refine LeO.bind ?_ (fun _ => ?_))
      | exact ih0 _ _ _
      | exact ih1 _ _ _ _ _
      | exact ih2 _ _ _ _ _ _
      | exact ih3 _ _ _
      | exact ih4 _ _
      | exact bindlelaw26_does.mono _ _ _ _ _ _ _
      | exact bindlelaw26_great.mono _ _
      | exact bindlelaw26_wide.mono _ _
      | exact space_Ledger_Bound.mono _ _ _
      | exact space_Ledger_Delete.mono _ _ _
      | exact space_Ledger_Put.mono _ _ _ _
      | exact space_Ledger_Vacuum.mono _ _ _
      | exact LeO.none _
      | refine LeO.ite ?_ ?_
      | refine LeO.bind ?_ (fun _ => ?_)
    · intro y0 y1
      unfold bindlelaw26_SpaceGrows.j4
      repeat' first
      | (with_reducible exact ih0 _ _ _)
      | (with_reducible exact ih1 _ _ _ _ _)
      | (with_reducible exact ih2 _ _ _ _ _ _)
      | (with_reducible exact ih3 _ _ _)
      | (with_reducible exact ih4 _ _)
      | (with_reducible exact bindlelaw26_does.mono _ _ _ _ _ _ _)
      | (with_reducible exact bindlelaw26_great.mono _ _)
      | (with_reducible exact bindlelaw26_wide.mono _ _)
      | (with_reducible exact space_Ledger_Bound.mono _ _ _)
      | (with_reducible exact space_Ledger_Delete.mono _ _ _)
      | (with_reducible exact space_Ledger_Put.mono _ _ _ _)
      | (with_reducible exact space_Ledger_Vacuum.mono _ _ _)
      | (with_reducible exact LeO.refl _)
      | (with_reducible exact LeO.none _)
      | (with_reducible refine LeO.ite ?_ ?_)
      | (with_reducible refine LeO.bind ?_ (fun _ => ?_))
      | exact ih0 _ _ _
      | exact ih1 _ _ _ _ _
      | exact ih2 _ _ _ _ _ _
      | exact ih3 _ _ _
      | exact ih4 _ _
      | exact bindlelaw26_does.mono _ _ _ _ _ _ _
      | exact bindlelaw26_great.mono _ _
      | exact bindlelaw26_wide.mono _ _
      | exact space_Ledger_Bound.mono _ _ _
      | exact space_Ledger_Delete.mono _ _ _
      | exact space_Ledger_Put.mono _ _ _ _
      | exact space_Ledger_Vacuum.mono _ _ _
      | exact LeO.none _
      | refine LeO.ite ?_ ?_
      | refine LeO.bind ?_ (fun _ => ?_)
theorem bindlelaw26_SpaceGrows.mono : ∀ a0 a1 k, LeO (bindlelaw26_SpaceGrows.f k a0 a1) (bindlelaw26_SpaceGrows.f (k + 1) a0 a1) := by
  intro a0 a1 k
  obtain ⟨ih0, ih1, ih2, ih3, ih4⟩ := bindlelaw26_SpaceGrows.mono_l k
  unfold bindlelaw26_SpaceGrows.f
  repeat' first
      | (with_reducible exact ih0 _ _ _)
      | (with_reducible exact ih1 _ _ _ _ _)
      | (with_reducible exact ih2 _ _ _ _ _ _)
      | (with_reducible exact ih3 _ _ _)
      | (with_reducible exact ih4 _ _)
      | (with_reducible exact bindlelaw26_does.mono _ _ _ _ _ _ _)
      | (with_reducible exact bindlelaw26_great.mono _ _)
      | (with_reducible exact bindlelaw26_wide.mono _ _)
      | (with_reducible exact space_Ledger_Bound.mono _ _ _)
      | (with_reducible exact space_Ledger_Delete.mono _ _ _)
      | (with_reducible exact space_Ledger_Put.mono _ _ _ _)
      | (with_reducible exact space_Ledger_Vacuum.mono _ _ _)
      | (with_reducible exact LeO.refl _)
      | (with_reducible exact LeO.none _)
      | (with_reducible refine LeO.ite ?_ ?_)
      | (with_reducible refine LeO.bind ?_ (fun _ => ?_))
      | exact ih0 _ _ _
      | exact ih1 _ _ _ _ _
      | exact ih2 _ _ _ _ _ _
      | exact ih3 _ _ _
      | exact ih4 _ _
      | exact bindlelaw26_does.mono _ _ _ _ _ _ _
      | exact bindlelaw26_great.mono _ _
      | exact bindlelaw26_wide.mono _ _
      | exact space_Ledger_Bound.mono _ _ _
      | exact space_Ledger_Delete.mono _ _ _
      | exact space_Ledger_Put.mono _ _ _ _
      | exact space_Ledger_Vacuum.mono _ _ _
      | exact LeO.none _
      | refine LeO.ite ?_ ?_
      | refine LeO.bind ?_ (fun _ => ?_)
def bindlelaw26_SpaceGrows.T16 : Bool × List (List Nat × List Nat) := (true, [([], []), ([], []), ([0, 1], [0, 1]), ([2], [2]), ([3], [3]), ([], []), ([], []), ([5, 6], [5, 6]), ([7], [7]), ([8], [8]), ([9], [9]), ([4, 10], [4, 10])])
def bindlelaw26_SpaceGrows.B16 : List Nat := [0, 0, 3, 7, 15, 0, 0, 96, 224, 480, 992, 2047]
theorem bindlelaw26_SpaceGrows.tab16 : rtab .any (opsOf Try.f5 16) = bindlelaw26_SpaceGrows.T16 := by kernel_rfl
theorem bindlelaw26_SpaceGrows.bits16 : waitsOk bindlelaw26_SpaceGrows.T16.2 bindlelaw26_SpaceGrows.B16 = true := by kernel_rfl
set_option maxHeartbeats 8000000 in
set_option maxRecDepth 100000 in
theorem bindlelaw26_SpaceGrows.calls (k : Nat) (A0 : Option Addr) (c0 : Nat) (l0 : List (S32)) (A1 : Option Addr) (c1 : Nat) (l1 : List (S44)) (r : Bool) (w : World) (hr0 : Kd.C k32 w A0 l0.length l0) (hc0 : l0.length ≤ c0) (hr1 : Kd.C k44 w A1 l1.length l1) (hc1 : l1.length ≤ c1) (h : bindlelaw26_SpaceGrows.f k l0 l1 = some r) :
    Calls Try.prog 5 #[.slice A0 l0.length c0, .slice A1 l1.length c1] w fun e w' => e = .returned (.bool r) ∧ Below w.heap.size w w' := by
  have hu28 := Try.underlying28
  have hu32 := Try.underlying32
  have HR0 := Aside0.mk hr0
  have HC0 := Aside0.mk hc0
  clear hr0 hc0
  have HR1 := Aside0.mk hr1
  have HC1 := Aside0.mk hc1
  clear hr1 hc1
  have HB := Aside0.mk (Below.refl w.heap.size w)
  have H : ((bindlelaw26_great.f k l0).bind fun t150 => (if t150 = true then (bindlelaw26_SpaceGrows.j0 k l0 l1 true) else ((bindlelaw26_wide.f k l1).bind fun t151 => (bindlelaw26_SpaceGrows.j0 k l0 l1 t151)))) = some r := h
  clear h
  have HC3 := Aside0.mk H
  clear H
  go_enter Try.func5, Try.ntmps5
  go_upto_region 1 with (fail)
  go_cut [16] (fun v16 wc => ∃ (kq : Nat) (x16_2 : Bool), v16 = .bool x16_2 ∧ Aside0 (bindlelaw26_SpaceGrows.j0 kq l0 l1 x16_2 = some r) ∧ Aside0 (kq ≤ k) ∧ Aside0 (Below w.heap.size w wc))
  case first =>
    have H := HC3.out
    clear HC3
    replace H := Option.bind_eq_some_iff.mp H
    obtain ⟨t150, A40, H⟩ := H
    replace H : (if t150 = true then (bindlelaw26_SpaceGrows.j0 k l0 l1 true) else ((bindlelaw26_wide.f k l1).bind fun t151 => (bindlelaw26_SpaceGrows.j0 k l0 l1 t151))) = some r := H
    have A4 := Aside0.mk A40
    clear A40
    by_cases c5 : t150 = true
    · subst c5
      have H1 : (bindlelaw26_SpaceGrows.j0 k l0 l1 true) = some r := by rw [if_pos rfl] at H; exact H
      clear H
      have H := H1
      clear H1
      have H' := Aside0.mk H
      clear H
      go_wp2_with (first | ((with_reducible refine gate_callee (f := 7) rfl ?_); refine goesL_ (some 12) rfl rfl Try.func7 (by kernel_rfl) rfl #[.slice A0 l0.length c0] rfl (by (try simp only [List.map_toArray, List.map_cons, List.map_nil]); first | done | rfl | (simp only [List.length_drop, List.length_take]; rfl)) ?_; (with_reducible refine (bindlelaw26_great.calls k _ _ l0 true _ ?side1 ?side2 A4.out).mono ?_); (case side1 => repeat (first | exact (Kd.C_below HR0.out HB.out) | (with_reducible refine Kd.C_alloc ?_ _) | (with_reducible refine Kd.C_drewN ?_ _) | (with_reducible refine Kd.C_drew ?_))); (case side2 => exact HC0.out); rintro e w' ⟨rfl, ⟨nd, rfl⟩⟩; refine ⟨_, rfl, ?_⟩))
      go_meet
      case rel => exact ⟨_, (true), (by first | rfl | (simp; done) | (simp [*]; done)), H', ⟨by first | omega | exact Nat.le_refl _⟩, ⟨by repeat (first | (with_reducible first | exact HB.out | apply below_alloc | apply pw_below_drewN | apply below_drew1) | exact HB.out)⟩⟩
    · replace c5 := Bool.eq_false_iff.mpr c5
      subst c5
      have H1 : ((bindlelaw26_wide.f k l1).bind fun t151 => (bindlelaw26_SpaceGrows.j0 k l0 l1 t151)) = some r := by rw [if_neg (show ¬ (false = true) by decide)] at H; exact H
      clear H
      have H := H1
      clear H1
      replace H := Option.bind_eq_some_iff.mp H
      obtain ⟨t151, A60, H⟩ := H
      replace H : (bindlelaw26_SpaceGrows.j0 k l0 l1 t151) = some r := H
      have A6 := Aside0.mk A60
      clear A60
      have H' := Aside0.mk H
      clear H
      go_wp2_with (first | ((with_reducible refine gate_callee (f := 7) rfl ?_); refine goesL_ (some 12) rfl rfl Try.func7 (by kernel_rfl) rfl #[.slice A0 l0.length c0] rfl (by (try simp only [List.map_toArray, List.map_cons, List.map_nil]); first | done | rfl | (simp only [List.length_drop, List.length_take]; rfl)) ?_; (with_reducible refine (bindlelaw26_great.calls k _ _ l0 false _ ?side1 ?side2 A4.out).mono ?_); (case side1 => repeat (first | exact (Kd.C_below HR0.out HB.out) | (with_reducible refine Kd.C_alloc ?_ _) | (with_reducible refine Kd.C_drewN ?_ _) | (with_reducible refine Kd.C_drew ?_))); (case side2 => exact HC0.out); rintro e w' ⟨rfl, ⟨nd, rfl⟩⟩; refine ⟨_, rfl, ?_⟩) | (go_at_call 8; (with_reducible refine (bindlelaw26_wide.calls k _ _ l1 t151 _ ?side1 ?side2 A6.out).mono ?_); (case side1 => repeat (first | exact (Kd.C_below HR1.out (by repeat (first | (with_reducible first | exact HB.out | apply below_alloc | apply pw_below_drewN | apply below_drew1) | exact HB.out))) | (with_reducible refine Kd.C_alloc ?_ _) | (with_reducible refine Kd.C_drewN ?_ _) | (with_reducible refine Kd.C_drew ?_))); (case side2 => exact HC1.out); rintro e w' ⟨rfl, ⟨nd, rfl⟩⟩))
      go_meet
      case rel => exact ⟨_, (t151), (by first | rfl | (simp; done) | (simp [*]; done)), H', ⟨by first | omega | exact Nat.le_refl _⟩, ⟨by repeat (first | (with_reducible first | exact HB.out | apply below_alloc | apply pw_below_drewN | apply below_drew1) | exact HB.out)⟩⟩
  case rest =>
    clear HC3
    try clear c1
    try clear p2
    try clear c5
    obtain ⟨kq, x16_2, rfl, HA, HJ2, HB⟩ := hcut
    cases kq with
    | zero => exact absurd HA.out (by simp [bindlelaw26_SpaceGrows.j0])
    | succ kj2 =>
      have H := HA.out
      clear HA
      simp only [bindlelaw26_SpaceGrows.j0] at H
      by_cases c7 : x16_2 = true
      · subst c7
        have H1 : ((bindlelaw26_lives.f).bind fun t152 => (some t152)) = some r := by rw [if_pos rfl] at H; exact H
        clear H
        have H := H1
        clear H1
        replace H := Option.bind_eq_some_iff.mp H
        obtain ⟨t152, A80, H⟩ := H
        replace H : (some t152) = some r := H
        have A8 := Aside0.mk A80
        clear A80
        obtain rfl := Option.some.inj H
        go_wp2_with (first | ((with_reducible refine gate_callee (f := 9) rfl ?_); refine goesL_ (some 17) rfl rfl Try.func9 (by kernel_rfl) rfl #[] rfl (by (try simp only [List.map_toArray, List.map_cons, List.map_nil]); first | done | rfl | (simp only [List.length_drop, List.length_take]; rfl)) ?_; (with_reducible refine (bindlelaw26_lives.calls  t152 _ A8.out).mono ?_); rintro e w9 ⟨rfl, hb⟩; refine ⟨_, rfl, ?_⟩; have n0_ := Aside0.mk (below_step (by repeat (first | (with_reducible first | exact HB.out | apply below_alloc | apply pw_below_drewN | apply below_drew1) | exact HB.out)) hb); clear HB; have HB := n0_; clear n0_; (try clear hb); (try clear hb2); (try clear hk); (try clear hi)))
        go_ret
        exact ⟨by first | rfl | (simp [errW_none, errW_some] <;> rfl) | (simp [*, errW_none, errW_some] <;> rfl), by repeat (first | (with_reducible first | exact HB.out | apply below_alloc | apply pw_below_drewN | apply below_drew1) | exact HB.out)⟩
      · replace c7 := Bool.eq_false_iff.mpr c7
        subst c7
        have H1 : ((space_Ledger_Bound.f kj2 0 ([] : List (S44))).bind fun bt154 => (bindlelaw26_SpaceGrows.l0 kj2 l0 l1 bt154.1 0 bt154.2)) = some r := by rw [if_neg (show ¬ (false = true) by decide)] at H; exact H
        clear H
        have H := H1
        clear H1
        replace H := Option.bind_eq_some_iff.mp H
        obtain ⟨⟨t154, t155⟩, A100, H⟩ := H
        replace H : (bindlelaw26_SpaceGrows.l0 kj2 l0 l1 t154 0 t155) = some r := H
        have A10 := Aside0.mk A100
        clear A100
        have H' := Aside0.mk H
        clear H
        go_wp2_with (first | ((with_reducible refine gate_dst (N := 5) rfl ?_); refine box_event ?hg (N := 5) ?hd (cs := #[.int .i64 0]) (t := 28) ?hr ?_; (case hd => rfl); (case hg => rfl); (case hr => first | (go_simp; done) | (go_simp; rfl)); intro gb153 hg w11 hbox hb; have n0_ := Aside0.mk (below_step (by repeat (first | (with_reducible first | exact HB.out | apply below_alloc | apply pw_below_drewN | apply below_drew1) | exact HB.out)) hb); have n1_ := Aside0.mk ((show IsS28 w w11 gb153 0 from ⟨hbox, (by rw [hg]; exact (below_size (by repeat (first | (with_reducible first | exact HB.out | apply below_alloc | apply pw_below_drewN | apply below_drew1) | exact HB.out))))⟩)); have n2_ := Aside0.mk ((by rw [hg]; exact (below_size (by repeat (first | (with_reducible first | exact HB.out | apply below_alloc | apply pw_below_drewN | apply below_drew1) | exact HB.out))) : w.heap.size ≤ gb153)); have n3_ := Aside0.mk ((by rw [hg]; exact (below_size (by repeat (first | (with_reducible first | exact HB.out | apply below_alloc | apply pw_below_drewN | apply below_drew1) | exact HB.out))) : w.heap.size ≤ gb153)); clear HB; have HB := n0_; have HI153 := n1_; have GW153 := n2_; have GE153 := n3_; clear n0_ n1_ n2_ n3_; clear hb hbox hg) | ((with_reducible refine gate_callee (f := 12) rfl ?_); refine goesL_ (some 18) rfl rfl Try.func12 (by kernel_rfl) rfl #[.pointer (some ⟨gb153, 0, none⟩), .slice none 0 0] rfl (by (try simp only [List.map_toArray, List.map_cons, List.map_nil]); first | done | rfl | (simp only [List.length_drop, List.length_take]; rfl)) ?_; (refine (space_Ledger_Bound.calls kj2 gb153 0 _ _ ([] : List (S44)) t154 t155 w _ ?side1 ?side2 ?side3 ?side4 A10.out).mono ?_); (case side1 => repeat (first | (with_reducible first | exact HI153.out | apply IsS28.alloc | apply IsS28.drewN | apply IsS28.drew | apply IsS28.set_0) | exact HI153.out)); (case side2 => repeat (first | (with_reducible first | exact HB.out | apply below_alloc | apply pw_below_drewN | apply below_drew1 | refine below_set ?_ (IsS28.ge HI153.out)) | exact HB.out)); (case side3 => exact Kd.C_foot_nil); (case side4 => exact Nat.le_refl _); rintro e w12 ⟨rfl, hi, hb, hk⟩; refine ⟨_, rfl, ?_⟩; have n0_ := Aside0.mk (hb); have n1_ := Aside0.mk (hi); clear HB; clear HI153; have HB := n0_; have HI153 := n1_; clear n0_ n1_; (try clear hb); (try clear hb2); (try clear hk); (try clear hi)))
        go_loopg [6, 7] kj2 (fun kq v6 v7 w' => ∃ (x6_2 : Int) (x7_2 : Int) (x154000_2 : Int), v6 = .int .i64 x6_2 ∧ v7 = .int .i64 x7_2 ∧ Aside0 (bindlelaw26_SpaceGrows.l0 kq l0 l1 x6_2 x7_2 x154000_2 = some r) ∧ Aside0 (kq ≤ kj2) ∧ Aside0 (IsS28 w w' gb153 x154000_2) ∧ Aside0 (Below w.heap.size w w'))
        case atStart => exact ⟨(t154), (0), (t155), (by first | rfl | (simp; done) | (simp [*]; done)), (by first | rfl | (simp; done) | (simp [*]; done)), H', ⟨Nat.le_refl _⟩, ⟨by repeat (first | (with_reducible first | exact HI153.out | apply IsS28.alloc | apply IsS28.drewN | apply IsS28.drew | apply IsS28.set_0) | exact HI153.out)⟩, ⟨by repeat (first | (with_reducible first | exact HB.out | apply below_alloc | apply pw_below_drewN | apply below_drew1 | refine below_set ?_ (IsS28.ge HI153.out)) | exact HB.out)⟩⟩
        case round =>
          clear H'
          try clear c1
          try clear p2
          try clear c5
          try clear c7
          try clear c9
          try clear c12
          try clear p2
          obtain ⟨x6_2, x7_2, x154000_2, rfl, rfl, HA, HK2, HI153, HB⟩ := hrel
          cases gk with
          | zero => exact absurd HA.out (by simp [bindlelaw26_SpaceGrows.l0])
          | succ k2 =>
            have H := HA.out
            clear HA
            simp only [bindlelaw26_SpaceGrows.l0] at H
            by_cases c13 : x7_2 < (l0.length : Int)
            · rw [if_pos c13] at H
              have c13b0 : decide (x7_2 < (l0.length : Int)) = true := decide_eq_true c13
              clear c13
              have HC14 := Aside0.mk H
              clear H
              go_upto_region 8 with (fail)
              go_cut [38] (fun v38 wc => ∃ (kq : Nat) (x38_13 : Bool), v38 = .bool x38_13 ∧ Aside0 (bindlelaw26_SpaceGrows.j2 kq l0 l1 x6_2 x7_2 x38_13 x154000_2 = some r) ∧ Aside0 (kq ≤ k2) ∧ Aside0 (IsS28 w wc gb153 x154000_2) ∧ Aside0 (Below w.heap.size w wc))
              case first =>
                have H := HC14.out
                clear HC14
                by_cases c15 : 0 ≤ x7_2
                · rw [if_pos c15] at H
                  have c15b0 : decide (0 ≤ x7_2) = true := decide_eq_true c15
                  clear c15
                  (first | rw [c15b0] | (simp only [i64_w, i32_w]; rw [c15b0]) | rw [c15b1] | skip)
                  by_cases c16 : ((rd_T32 l0 x7_2).f0) < 0
                  · rw [if_pos c16] at H
                    have c16b0 : decide (((rd_T32 l0 x7_2).f0) < 0) = true := decide_eq_true c16
                    clear c16
                    have H' := Aside0.mk H
                    clear H
                    have p156 : 0 ≤ (x7_2 : Int) := of_decide_eq_true (by first | (with_reducible assumption) | assumption)
                    have q156 : x7_2 < (l0.length : Int) := of_decide_eq_true (by first | (with_reducible assumption) | assumption)
                    obtain ⟨ad156, A156_3, c156_3, e156, hx156_0, hx156_1, hx156_2, hx156_3, hl156_3, hi156_3⟩ := at_T32 HR0.out x7_2 p156 q156
                    cases e156
                    replace hx156_0 := (HB.out.cell (World.block_lt_of_cell? w _ hx156_0)).trans hx156_0
                    replace hx156_1 := (HB.out.cell (World.block_lt_of_cell? w _ hx156_1)).trans hx156_1
                    replace hx156_2 := (HB.out.cell (World.block_lt_of_cell? w _ hx156_2)).trans hx156_2
                    replace hx156_3 := (HB.out.cell (World.block_lt_of_cell? w _ hx156_3)).trans hx156_3
                    have HR156_3 := Aside0.mk hi156_3
                    have HC156_3 := Aside0.mk hl156_3
                    clear hi156_3 hl156_3
                    replace p156 := eq_true p156
                    replace q156 := eq_true q156
                    go_wp2
                    go_meet
                    case rel => exact ⟨_, (true), (by first | rfl | (simp; done) | (simp [*]; done)), H', ⟨by have := HJ2.out; have := HK2.out; first | omega | exact Nat.le_refl _⟩, ⟨by repeat (first | (with_reducible first | exact HI153.out | apply IsS28.alloc | apply IsS28.drewN | apply IsS28.drew | apply IsS28.set_0) | exact HI153.out)⟩, ⟨by repeat (first | (with_reducible first | exact HB.out | apply below_alloc | apply pw_below_drewN | apply below_drew1 | refine below_set ?_ (IsS28.ge HI153.out)) | exact HB.out)⟩⟩
                  · rw [if_neg c16] at H
                    have c16b0 : decide (((rd_T32 l0 x7_2).f0) < 0) = false := decide_eq_false c16
                    clear c16
                    have H' := Aside0.mk H
                    clear H
                    have p156 : 0 ≤ (x7_2 : Int) := of_decide_eq_true (by first | (with_reducible assumption) | assumption)
                    have q156 : x7_2 < (l0.length : Int) := of_decide_eq_true (by first | (with_reducible assumption) | assumption)
                    obtain ⟨ad156, A156_3, c156_3, e156, hx156_0, hx156_1, hx156_2, hx156_3, hl156_3, hi156_3⟩ := at_T32 HR0.out x7_2 p156 q156
                    cases e156
                    replace hx156_0 := (HB.out.cell (World.block_lt_of_cell? w _ hx156_0)).trans hx156_0
                    replace hx156_1 := (HB.out.cell (World.block_lt_of_cell? w _ hx156_1)).trans hx156_1
                    replace hx156_2 := (HB.out.cell (World.block_lt_of_cell? w _ hx156_2)).trans hx156_2
                    replace hx156_3 := (HB.out.cell (World.block_lt_of_cell? w _ hx156_3)).trans hx156_3
                    have HR156_3 := Aside0.mk hi156_3
                    have HC156_3 := Aside0.mk hl156_3
                    clear hi156_3 hl156_3
                    replace p156 := eq_true p156
                    replace q156 := eq_true q156
                    have p157 : 0 ≤ (x7_2 : Int) := of_decide_eq_true (by first | (with_reducible assumption) | assumption)
                    have q157 : x7_2 < (l0.length : Int) := of_decide_eq_true (by first | (with_reducible assumption) | assumption)
                    obtain ⟨ad157, A157_3, c157_3, e157, hx157_0, hx157_1, hx157_2, hx157_3, hl157_3, hi157_3⟩ := at_T32 HR0.out x7_2 p157 q157
                    obtain rfl : ad156 = ad157 := (by injection e157)
                    replace hx157_0 := (HB.out.cell (World.block_lt_of_cell? w _ hx157_0)).trans hx157_0
                    replace hx157_1 := (HB.out.cell (World.block_lt_of_cell? w _ hx157_1)).trans hx157_1
                    replace hx157_2 := (HB.out.cell (World.block_lt_of_cell? w _ hx157_2)).trans hx157_2
                    replace hx157_3 := (HB.out.cell (World.block_lt_of_cell? w _ hx157_3)).trans hx157_3
                    have HR157_3 := Aside0.mk hi157_3
                    have HC157_3 := Aside0.mk hl157_3
                    clear hi157_3 hl157_3
                    replace p157 := eq_true p157
                    replace q157 := eq_true q157
                    have ea_ := Option.some.inj (hx156_3.symm.trans hx157_3)
                    injection ea_ with ea_ en_ ec_
                    subst ea_
                    subst ec_
                    clear en_
                    go_wp2
                    go_meet
                    case rel => exact ⟨_, (decide (((rd_T32 l0 x7_2).f0) > 3)), (by first | rfl | (simp; done) | (simp [*]; done)), H', ⟨by have := HJ2.out; have := HK2.out; first | omega | exact Nat.le_refl _⟩, ⟨by repeat (first | (with_reducible first | exact HI153.out | apply IsS28.alloc | apply IsS28.drewN | apply IsS28.drew | apply IsS28.set_0) | exact HI153.out)⟩, ⟨by repeat (first | (with_reducible first | exact HB.out | apply below_alloc | apply pw_below_drewN | apply below_drew1 | refine below_set ?_ (IsS28.ge HI153.out)) | exact HB.out)⟩⟩
                · rw [if_neg c15] at H
                  exact absurd H (by simp)
              case rest =>
                clear HC14
                try clear c1
                try clear p1
                try clear q1
                try clear hx1
                try clear p2
                try clear c5
                try clear c7
                try clear c9
                try clear c12
                try clear c13
                try clear c13b0
                try clear c15
                try clear c15b0
                try clear c15b1
                try clear p15
                try clear q15
                try clear hx15
                try clear c16
                try clear c16b0
                try clear hx156_0
                try clear hx156_1
                try clear hx156_2
                try clear hx156_3
                try clear hx157_0
                try clear hx157_1
                try clear hx157_2
                try clear hx157_3
                try clear p156
                try clear p157
                try clear p2
                try clear q156
                try clear q157
                obtain ⟨kq, x38_13, rfl, HA, HJ13, HI153, HB⟩ := hcut
                cases kq with
                | zero => exact absurd HA.out (by simp [bindlelaw26_SpaceGrows.j2])
                | succ kj13 =>
                  have H := HA.out
                  clear HA
                  simp only [bindlelaw26_SpaceGrows.j2] at H
                  by_cases c17 : x38_13 = true
                  · subst c17
                    have H1 : (bindlelaw26_SpaceGrows.l0 kj13 l0 l1 x6_2 (wrap64 (x7_2 + 1)) x154000_2) = some r := by rw [if_pos rfl] at H; exact H
                    clear H
                    have H := H1
                    clear H1
                    have H' := Aside0.mk H
                    clear H
                    go_wp2
                    go_roundg kj13
                    case measure => have := HJ2.out; have := HK2.out; have := HJ13.out; omega
                    case rel => exact ⟨(x6_2), (wrap64 (x7_2 + 1)), (x154000_2), (by first | rfl | (simp; done) | (simp [*]; done)), (by first | rfl | (simp; done) | (simp [*]; done)), H', ⟨by have := HJ2.out; have := HK2.out; have := HJ13.out; omega⟩, ⟨by repeat (first | (with_reducible first | exact HI153.out | apply IsS28.alloc | apply IsS28.drewN | apply IsS28.drew | apply IsS28.set_0) | exact HI153.out)⟩, ⟨by repeat (first | (with_reducible first | exact HB.out | apply below_alloc | apply pw_below_drewN | apply below_drew1 | refine below_set ?_ (IsS28.ge HI153.out)) | exact HB.out)⟩⟩
                  · replace c17 := Bool.eq_false_iff.mpr c17
                    subst c17
                    have H1 : (if 0 ≤ x7_2 then (if x7_2 < (l0.length : Int) then ((bindlelaw26_does.f kj13 x154000_2 ((rd_T32 l0 x7_2).f0) ((rd_T32 l0 x7_2).f1) ((rd_T32 l0 x7_2).f2) ((rd_T32 l0 x7_2).f3) 0).bind fun bt159 => ((space_Ledger_Bound.f kj13 bt159.2 ([] : List (S44))).bind fun bt161 => (if bt161.1 < x6_2 then (some false) else ((space_Ledger_Bound.f kj13 bt161.2 ([] : List (S44))).bind fun bt163 => (bindlelaw26_SpaceGrows.l0 kj13 l0 l1 bt163.1 (wrap64 (x7_2 + 1)) bt163.2))))) else (none)) else (none)) = some r := by rw [if_neg (show ¬ (false = true) by decide)] at H; exact H
                    clear H
                    have H := H1
                    clear H1
                    by_cases c18 : 0 ≤ x7_2
                    · rw [if_pos c18] at H
                      have c18b0 : decide (0 ≤ x7_2) = true := decide_eq_true c18
                      clear c18
                      by_cases c19 : x7_2 < (l0.length : Int)
                      · rw [if_pos c19] at H
                        have c19b0 : decide (x7_2 < (l0.length : Int)) = true := decide_eq_true c19
                        clear c19
                        replace H := Option.bind_eq_some_iff.mp H
                        obtain ⟨⟨t159, t160⟩, A200, H⟩ := H
                        replace H : ((space_Ledger_Bound.f kj13 t160 ([] : List (S44))).bind fun bt161 => (if bt161.1 < x6_2 then (some false) else ((space_Ledger_Bound.f kj13 bt161.2 ([] : List (S44))).bind fun bt163 => (bindlelaw26_SpaceGrows.l0 kj13 l0 l1 bt163.1 (wrap64 (x7_2 + 1)) bt163.2)))) = some r := H
                        have A20 := Aside0.mk A200
                        clear A200
                        replace H := Option.bind_eq_some_iff.mp H
                        obtain ⟨⟨t161, t162⟩, A210, H⟩ := H
                        replace H : (if t161 < x6_2 then (some false) else ((space_Ledger_Bound.f kj13 t162 ([] : List (S44))).bind fun bt163 => (bindlelaw26_SpaceGrows.l0 kj13 l0 l1 bt163.1 (wrap64 (x7_2 + 1)) bt163.2))) = some r := H
                        have A21 := Aside0.mk A210
                        clear A210
                        by_cases c22 : t161 < x6_2
                        · rw [if_pos c22] at H
                          have c22b0 : decide (t161 < x6_2) = true := decide_eq_true c22
                          clear c22
                          obtain rfl := Option.some.inj H
                          have p158 : 0 ≤ (x7_2 : Int) := of_decide_eq_true (by first | (with_reducible assumption) | assumption)
                          have q158 : x7_2 < (l0.length : Int) := of_decide_eq_true (by first | (with_reducible assumption) | assumption)
                          obtain ⟨ad158, A158_3, c158_3, e158, hx158_0, hx158_1, hx158_2, hx158_3, hl158_3, hi158_3⟩ := at_T32 HR0.out x7_2 p158 q158
                          cases e158
                          replace hx158_0 := (HB.out.cell (World.block_lt_of_cell? w _ hx158_0)).trans hx158_0
                          replace hx158_1 := (HB.out.cell (World.block_lt_of_cell? w _ hx158_1)).trans hx158_1
                          replace hx158_2 := (HB.out.cell (World.block_lt_of_cell? w _ hx158_2)).trans hx158_2
                          replace hx158_3 := (HB.out.cell (World.block_lt_of_cell? w _ hx158_3)).trans hx158_3
                          have HR158_3 := Aside0.mk hi158_3
                          have HC158_3 := Aside0.mk hl158_3
                          clear hi158_3 hl158_3
                          replace p158 := eq_true p158
                          replace q158 := eq_true q158
                          go_wp2_with (first | ((with_reducible refine gate_callee (f := 10) rfl ?_); refine goesL_ (some 43) rfl rfl Try.func10 (by kernel_rfl) rfl #[.pointer (some ⟨gb153, 0, none⟩), .agg #[.int .i64 ((rd_T32 l0 x7_2).f0), .string ((rd_T32 l0 x7_2).f1), .int .i64 ((rd_T32 l0 x7_2).f2), .slice A158_3 ((rd_T32 l0 x7_2).f3).length c158_3], .int .i64 0] rfl (by (try simp only [List.map_toArray, List.map_cons, List.map_nil]); first | done | rfl | (simp only [List.length_drop, List.length_take]; rfl)) ?_; (with_reducible refine (bindlelaw26_does.calls kj13 gb153 x154000_2 ((rd_T32 l0 x7_2).f0) ((rd_T32 l0 x7_2).f1) ((rd_T32 l0 x7_2).f2) _ _ ((rd_T32 l0 x7_2).f3) 0 t159 t160 w _ ?side1 ?side2 ?side3 ?side4 A20.out).mono ?_); (case side1 => repeat (first | (with_reducible first | exact HI153.out | apply IsS28.alloc | apply IsS28.drewN | apply IsS28.drew | apply IsS28.set_0) | exact HI153.out)); (case side2 => repeat (first | (with_reducible first | exact HB.out | apply below_alloc | apply pw_below_drewN | apply below_drew1 | refine below_set ?_ (IsS28.ge HI153.out)) | exact HB.out)); (case side3 => exact Kd.C_foot_came k44_heap HR158_3.out (by repeat (first | (with_reducible first | exact HB.out | apply below_alloc | apply pw_below_drewN | apply below_drew1 | refine below_set ?_ (IsS28.ge HI153.out)) | exact HB.out)) (IsS28.ge HI153.out)); (case side4 => exact HC158_3.out); rintro e w23 ⟨rfl, hi, hb, hk⟩; refine ⟨_, rfl, ?_⟩; have n0_ := Aside0.mk (hb); have n1_ := Aside0.mk (hi); clear HB; clear HI153; have HB := n0_; have HI153 := n1_; clear n0_ n1_; (try clear hb); (try clear hb2); (try clear hk); (try clear hi)) | ((with_reducible refine gate_callee (f := 12) rfl ?_); refine goesL_ (some 44) rfl rfl Try.func12 (by kernel_rfl) rfl #[.pointer (some ⟨gb153, 0, none⟩), .slice none 0 0] rfl (by (try simp only [List.map_toArray, List.map_cons, List.map_nil]); first | done | rfl | (simp only [List.length_drop, List.length_take]; rfl)) ?_; (refine (space_Ledger_Bound.calls kj13 gb153 t160 _ _ ([] : List (S44)) t161 t162 w _ ?side1 ?side2 ?side3 ?side4 A21.out).mono ?_); (case side1 => repeat (first | (with_reducible first | exact HI153.out | apply IsS28.alloc | apply IsS28.drewN | apply IsS28.drew | apply IsS28.set_0) | exact HI153.out)); (case side2 => repeat (first | (with_reducible first | exact HB.out | apply below_alloc | apply pw_below_drewN | apply below_drew1 | refine below_set ?_ (IsS28.ge HI153.out)) | exact HB.out)); (case side3 => exact Kd.C_foot_nil); (case side4 => exact Nat.le_refl _); rintro e w24 ⟨rfl, hi, hb, hk⟩; refine ⟨_, rfl, ?_⟩; have n0_ := Aside0.mk (hb); have n1_ := Aside0.mk (hi); clear HB; clear HI153; have HB := n0_; have HI153 := n1_; clear n0_ n1_; (try clear hb); (try clear hb2); (try clear hk); (try clear hi)))
                          go_ret
                          exact ⟨by first | rfl | (simp [errW_none, errW_some] <;> rfl) | (simp [*, errW_none, errW_some] <;> rfl), by repeat (first | (with_reducible first | exact HB.out | apply below_alloc | apply pw_below_drewN | apply below_drew1 | refine below_set ?_ (IsS28.ge HI153.out)) | exact HB.out)⟩
                        · rw [if_neg c22] at H
                          have c22b0 : decide (t161 < x6_2) = false := decide_eq_false c22
                          clear c22
                          replace H := Option.bind_eq_some_iff.mp H
                          obtain ⟨⟨t163, t164⟩, A250, H⟩ := H
                          replace H : (bindlelaw26_SpaceGrows.l0 kj13 l0 l1 t163 (wrap64 (x7_2 + 1)) t164) = some r := H
                          have A25 := Aside0.mk A250
                          clear A250
                          have H' := Aside0.mk H
                          clear H
                          have p158 : 0 ≤ (x7_2 : Int) := of_decide_eq_true (by first | (with_reducible assumption) | assumption)
                          have q158 : x7_2 < (l0.length : Int) := of_decide_eq_true (by first | (with_reducible assumption) | assumption)
                          obtain ⟨ad158, A158_3, c158_3, e158, hx158_0, hx158_1, hx158_2, hx158_3, hl158_3, hi158_3⟩ := at_T32 HR0.out x7_2 p158 q158
                          cases e158
                          replace hx158_0 := (HB.out.cell (World.block_lt_of_cell? w _ hx158_0)).trans hx158_0
                          replace hx158_1 := (HB.out.cell (World.block_lt_of_cell? w _ hx158_1)).trans hx158_1
                          replace hx158_2 := (HB.out.cell (World.block_lt_of_cell? w _ hx158_2)).trans hx158_2
                          replace hx158_3 := (HB.out.cell (World.block_lt_of_cell? w _ hx158_3)).trans hx158_3
                          have HR158_3 := Aside0.mk hi158_3
                          have HC158_3 := Aside0.mk hl158_3
                          clear hi158_3 hl158_3
                          replace p158 := eq_true p158
                          replace q158 := eq_true q158
                          go_wp2_with (first | ((with_reducible refine gate_callee (f := 10) rfl ?_); refine goesL_ (some 43) rfl rfl Try.func10 (by kernel_rfl) rfl #[.pointer (some ⟨gb153, 0, none⟩), .agg #[.int .i64 ((rd_T32 l0 x7_2).f0), .string ((rd_T32 l0 x7_2).f1), .int .i64 ((rd_T32 l0 x7_2).f2), .slice A158_3 ((rd_T32 l0 x7_2).f3).length c158_3], .int .i64 0] rfl (by (try simp only [List.map_toArray, List.map_cons, List.map_nil]); first | done | rfl | (simp only [List.length_drop, List.length_take]; rfl)) ?_; (with_reducible refine (bindlelaw26_does.calls kj13 gb153 x154000_2 ((rd_T32 l0 x7_2).f0) ((rd_T32 l0 x7_2).f1) ((rd_T32 l0 x7_2).f2) _ _ ((rd_T32 l0 x7_2).f3) 0 t159 t160 w _ ?side1 ?side2 ?side3 ?side4 A20.out).mono ?_); (case side1 => repeat (first | (with_reducible first | exact HI153.out | apply IsS28.alloc | apply IsS28.drewN | apply IsS28.drew | apply IsS28.set_0) | exact HI153.out)); (case side2 => repeat (first | (with_reducible first | exact HB.out | apply below_alloc | apply pw_below_drewN | apply below_drew1 | refine below_set ?_ (IsS28.ge HI153.out)) | exact HB.out)); (case side3 => exact Kd.C_foot_came k44_heap HR158_3.out (by repeat (first | (with_reducible first | exact HB.out | apply below_alloc | apply pw_below_drewN | apply below_drew1 | refine below_set ?_ (IsS28.ge HI153.out)) | exact HB.out)) (IsS28.ge HI153.out)); (case side4 => exact HC158_3.out); rintro e w26 ⟨rfl, hi, hb, hk⟩; refine ⟨_, rfl, ?_⟩; have n0_ := Aside0.mk (hb); have n1_ := Aside0.mk (hi); clear HB; clear HI153; have HB := n0_; have HI153 := n1_; clear n0_ n1_; (try clear hb); (try clear hb2); (try clear hk); (try clear hi)) | ((with_reducible refine gate_callee (f := 12) rfl ?_); refine goesL_ (some 44) rfl rfl Try.func12 (by kernel_rfl) rfl #[.pointer (some ⟨gb153, 0, none⟩), .slice none 0 0] rfl (by (try simp only [List.map_toArray, List.map_cons, List.map_nil]); first | done | rfl | (simp only [List.length_drop, List.length_take]; rfl)) ?_; (refine (space_Ledger_Bound.calls kj13 gb153 t160 _ _ ([] : List (S44)) t161 t162 w _ ?side1 ?side2 ?side3 ?side4 A21.out).mono ?_); (case side1 => repeat (first | (with_reducible first | exact HI153.out | apply IsS28.alloc | apply IsS28.drewN | apply IsS28.drew | apply IsS28.set_0) | exact HI153.out)); (case side2 => repeat (first | (with_reducible first | exact HB.out | apply below_alloc | apply pw_below_drewN | apply below_drew1 | refine below_set ?_ (IsS28.ge HI153.out)) | exact HB.out)); (case side3 => exact Kd.C_foot_nil); (case side4 => exact Nat.le_refl _); rintro e w27 ⟨rfl, hi, hb, hk⟩; refine ⟨_, rfl, ?_⟩; have n0_ := Aside0.mk (hb); have n1_ := Aside0.mk (hi); clear HB; clear HI153; have HB := n0_; have HI153 := n1_; clear n0_ n1_; (try clear hb); (try clear hb2); (try clear hk); (try clear hi)) | ((with_reducible refine gate_callee (f := 12) rfl ?_); refine goesL_ (some 47) rfl rfl Try.func12 (by kernel_rfl) rfl #[.pointer (some ⟨gb153, 0, none⟩), .slice none 0 0] rfl (by (try simp only [List.map_toArray, List.map_cons, List.map_nil]); first | done | rfl | (simp only [List.length_drop, List.length_take]; rfl)) ?_; (refine (space_Ledger_Bound.calls kj13 gb153 t162 _ _ ([] : List (S44)) t163 t164 w _ ?side1 ?side2 ?side3 ?side4 A25.out).mono ?_); (case side1 => repeat (first | (with_reducible first | exact HI153.out | apply IsS28.alloc | apply IsS28.drewN | apply IsS28.drew | apply IsS28.set_0) | exact HI153.out)); (case side2 => repeat (first | (with_reducible first | exact HB.out | apply below_alloc | apply pw_below_drewN | apply below_drew1 | refine below_set ?_ (IsS28.ge HI153.out)) | exact HB.out)); (case side3 => exact Kd.C_foot_nil); (case side4 => exact Nat.le_refl _); rintro e w28 ⟨rfl, hi, hb, hk⟩; refine ⟨_, rfl, ?_⟩; have n0_ := Aside0.mk (hb); have n1_ := Aside0.mk (hi); clear HB; clear HI153; have HB := n0_; have HI153 := n1_; clear n0_ n1_; (try clear hb); (try clear hb2); (try clear hk); (try clear hi)))
                          go_roundg kj13
                          case measure => have := HJ2.out; have := HK2.out; have := HJ13.out; omega
                          case rel => exact ⟨(t163), (wrap64 (x7_2 + 1)), (t164), (by first | rfl | (simp; done) | (simp [*]; done)), (by first | rfl | (simp; done) | (simp [*]; done)), H', ⟨by have := HJ2.out; have := HK2.out; have := HJ13.out; omega⟩, ⟨by repeat (first | (with_reducible first | exact HI153.out | apply IsS28.alloc | apply IsS28.drewN | apply IsS28.drew | apply IsS28.set_0) | exact HI153.out)⟩, ⟨by repeat (first | (with_reducible first | exact HB.out | apply below_alloc | apply pw_below_drewN | apply below_drew1 | refine below_set ?_ (IsS28.ge HI153.out)) | exact HB.out)⟩⟩
                      · rw [if_neg c19] at H
                        exact absurd H (by simp)
                    · rw [if_neg c18] at H
                      exact absurd H (by simp)
            · rw [if_neg c13] at H
              have c13b0 : decide (x7_2 < (l0.length : Int)) = false := decide_eq_false c13
              clear c13
              have H' := Aside0.mk H
              clear H
              go_wp2
              go_loopg [8] k2 (fun kq v8 w' => ∃ (x8_3 : Int) (x154000_3 : Int), v8 = .int .i64 x8_3 ∧ Aside0 (bindlelaw26_SpaceGrows.l1 kq l1 x8_3 x154000_3 = some r) ∧ Aside0 (kq ≤ k2) ∧ Aside0 (IsS28 w w' gb153 x154000_3) ∧ Aside0 (Below w.heap.size w w'))
              case atStart => exact ⟨(0), (x154000_2), (by first | rfl | (simp; done) | (simp [*]; done)), H', ⟨Nat.le_refl _⟩, ⟨by repeat (first | (with_reducible first | exact HI153.out | apply IsS28.alloc | apply IsS28.drewN | apply IsS28.drew | apply IsS28.set_0) | exact HI153.out)⟩, ⟨by repeat (first | (with_reducible first | exact HB.out | apply below_alloc | apply pw_below_drewN | apply below_drew1 | refine below_set ?_ (IsS28.ge HI153.out)) | exact HB.out)⟩⟩
              case round =>
                clear H'
                try clear c1
                try clear p1
                try clear q1
                try clear hx1
                try clear c2
                try clear p2
                try clear c5
                try clear p6
                try clear c7
                try clear c9
                try clear c10
                try clear c12
                try clear c13
                try clear c13b0
                try clear c15
                try clear c15b0
                try clear c15b1
                try clear p15
                try clear q15
                try clear hx15
                try clear c16
                try clear c16b0
                try clear c17
                try clear c18
                try clear c18b0
                try clear c19
                try clear c19b0
                try clear c22
                try clear c22b0
                try clear hx156_0
                try clear hx156_1
                try clear hx156_2
                try clear hx156_3
                try clear hx157_0
                try clear hx157_1
                try clear hx157_2
                try clear hx157_3
                try clear hx158_0
                try clear hx158_1
                try clear hx158_2
                try clear hx158_3
                try clear p1
                try clear p15
                try clear p156
                try clear p157
                try clear p158
                try clear p2
                try clear q1
                try clear q15
                try clear q156
                try clear q157
                try clear q158
                obtain ⟨x8_3, x154000_3, rfl, HA, HK3, HI153, HB⟩ := hrel
                cases gk with
                | zero => exact absurd HA.out (by simp [bindlelaw26_SpaceGrows.l1])
                | succ k3 =>
                  have H := HA.out
                  clear HA
                  simp only [bindlelaw26_SpaceGrows.l1] at H
                  by_cases c29 : x8_3 < (l1.length : Int)
                  · rw [if_pos c29] at H
                    have c29b0 : decide (x8_3 < (l1.length : Int)) = true := decide_eq_true c29
                    clear c29
                    by_cases c30 : 0 ≤ x8_3
                    · rw [if_pos c30] at H
                      have c30b0 : decide (0 ≤ x8_3) = true := decide_eq_true c30
                      clear c30
                      replace H := Option.bind_eq_some_iff.mp H
                      obtain ⟨t167, A310, H⟩ := H
                      replace H : (bindlelaw26_SpaceGrows.l1 k3 l1 (wrap64 (x8_3 + 1)) t167) = some r := H
                      have A31 := Aside0.mk A310
                      clear A310
                      have H' := Aside0.mk H
                      clear H
                      try go_wp2
                      have n0_ := Aside0.mk (IsS28.drew HI153.out)
                      have n1_ := Aside0.mk (below_drew1 HB.out)
                      clear HI153
                      clear HB
                      have HI153 := n0_
                      have HB := n1_
                      clear n0_ n1_
                      have p165 : 0 ≤ (x8_3 : Int) := of_decide_eq_true (by first | (with_reducible assumption) | assumption)
                      have q165 : x8_3 < (l1.length : Int) := of_decide_eq_true (by first | (with_reducible assumption) | assumption)
                      obtain ⟨ad165, A165_1, c165_1, e165, hx165_0, hx165_1, hl165_1, hi165_1⟩ := at_T44 HR1.out x8_3 p165 q165
                      have hw165_1 := hx165_1
                      have hw165_0 := hx165_0
                      cases e165
                      replace hx165_0 := (HB.out.cell (World.block_lt_of_cell? w _ hx165_0)).trans hx165_0
                      replace hx165_1 := (HB.out.cell (World.block_lt_of_cell? w _ hx165_1)).trans hx165_1
                      have HR165_1 := Aside0.mk hi165_1
                      have HC165_1 := Aside0.mk hl165_1
                      clear hi165_1 hl165_1
                      replace p165 := eq_true p165
                      replace q165 := eq_true q165
                      have p166 : 0 ≤ (x8_3 : Int) := of_decide_eq_true (by first | (with_reducible assumption) | assumption)
                      have q166 : x8_3 < (l1.length : Int) := of_decide_eq_true (by first | (with_reducible assumption) | assumption)
                      obtain ⟨ad166, A166_1, c166_1, e166, hx166_0, hx166_1, hl166_1, hi166_1⟩ := at_T44 HR1.out x8_3 p166 q166
                      have hw166_1 := hx166_1
                      have hw166_0 := hx166_0
                      obtain rfl : ad165 = ad166 := (by injection e166)
                      replace hx166_0 := (HB.out.cell (World.block_lt_of_cell? w _ hx166_0)).trans hx166_0
                      replace hx166_1 := (HB.out.cell (World.block_lt_of_cell? w _ hx166_1)).trans hx166_1
                      have HR166_1 := Aside0.mk hi166_1
                      have HC166_1 := Aside0.mk hl166_1
                      clear hi166_1 hl166_1
                      replace p166 := eq_true p166
                      replace q166 := eq_true q166
                      have ea_ := Option.some.inj (hx165_1.symm.trans hx166_1)
                      injection ea_ with ea_ en_ ec_
                      subst ea_
                      subst ec_
                      clear en_
                      refine start_ (n := 12) (S := fun w' => w'.cell? (ad165.add ((x8_3).toNat * 2)) = some (.string ((rd_T44 l1 x8_3).f0)) ∧ w'.cell? ⟨(ad165.add ((x8_3).toNat * 2)).block, (ad165.add ((x8_3).toNat * 2)).off + 1, none⟩ = some (.slice A165_1 ((rd_T44 l1 x8_3).f1).length c165_1) ∧ w'.cell? (ad165.add ((x8_3).toNat * 2)) = some (.string ((rd_T44 l1 x8_3).f0)) ∧ w'.cell? ⟨(ad165.add ((x8_3).toNat * 2)).block, (ad165.add ((x8_3).toNat * 2)).off + 1, none⟩ = some (.slice A165_1 ((rd_T44 l1 x8_3).f1).length c165_1)) (ds := []) #[false, false, false, false, false, false, false, false, false, false, false, false] (by kernel_rfl) rfl rfl ⟨((HB.out.cell (World.block_lt_of_cell? w _ hw165_0)).trans hw165_0), ((HB.out.cell (World.block_lt_of_cell? w _ hw165_1)).trans hw165_1), ((HB.out.cell (World.block_lt_of_cell? w _ hw166_0)).trans hw166_0), ((HB.out.cell (World.block_lt_of_cell? w _ hw166_1)).trans hw166_1)⟩ (fun hHeld => ?_); refine with_tabW bindlelaw26_SpaceGrows.tab16 bindlelaw26_SpaceGrows.bits16 (fun HT_ HW_ => ?_)
                      generalize wr.drew = w32 at HI153 HB HR165_1 HR166_1 hx165_0 hx165_1 hx166_0 hx166_1 hHeld ⊢
                      refine pure_ (i := 0) (N := some 54) (v := ?_) (a' := ?_) #[true, false, false, false, false, false, false, false, false, false, false, false] rfl rfl (any_of HT_.out (by kernel_rfl)) (fun _ _ _ h => h) (Or.inl ⟨by rfl, ?_⟩) ?_ ?_
                      rotate_left
                      · intro w'
                        go_simp
                        with_reducible rfl
                      rotate_left
                      · simp only [Act.put, List.setIfInBounds_toArray, List.set_cons_zero, List.set_cons_succ, i64_w, i32_w]
                        rfl
                      refine pure_ (i := 1) (N := some 55) (v := ?_) (a' := ?_) #[true, true, false, false, false, false, false, false, false, false, false, false] rfl rfl (any_of HT_.out (by kernel_rfl)) (fun _ _ _ h => h) (Or.inl ⟨by rfl, ?_⟩) ?_ ?_
                      rotate_left
                      · intro w'
                        go_simp
                        with_reducible rfl
                      rotate_left
                      · simp only [Act.put, List.setIfInBounds_toArray, List.set_cons_zero, List.set_cons_succ, i64_w, i32_w]
                        rfl
                      refine pure_ (i := 2) (N := some 56) (v := ?_) (a' := ?_) #[true, true, true, false, false, false, false, false, false, false, false, false] rfl rfl (any_of HT_.out (by kernel_rfl)) (fun _ _ _ h => h) (Or.inl ⟨by rfl, ?_⟩) ?_ ?_
                      rotate_left
                      · intro w'
                        go_simp
                        with_reducible rfl
                      rotate_left
                      · simp only [Act.put, List.setIfInBounds_toArray, List.set_cons_zero, List.set_cons_succ, i64_w, i32_w]
                        rfl
                      refine pure_ (i := 3) (N := some 57) (v := ?_) (a' := ?_) #[true, true, true, true, false, false, false, false, false, false, false, false] rfl rfl (any_of HT_.out (by kernel_rfl)) (fun _ _ _ h => h) (Or.inl ⟨by rfl, ?_⟩) ?_ ?_
                      rotate_left
                      · intro w'
                        go_simp
                        with_reducible rfl
                      rotate_left
                      · simp only [Act.put, List.setIfInBounds_toArray, List.set_cons_zero, List.set_cons_succ, i64_w, i32_w]
                        rfl
                      refine pure_ (i := 5) (N := some 59) (v := ?_) (a' := ?_) #[true, true, true, true, false, true, false, false, false, false, false, false] rfl rfl (any_of HT_.out (by kernel_rfl)) (fun _ _ _ h => h) (Or.inl ⟨by rfl, ?_⟩) ?_ ?_
                      rotate_left
                      · intro w'
                        go_simp
                        with_reducible rfl
                      rotate_left
                      · simp only [Act.put, List.setIfInBounds_toArray, List.set_cons_zero, List.set_cons_succ, i64_w, i32_w]
                        rfl
                      refine pure_ (i := 6) (N := some 60) (v := ?_) (a' := ?_) #[true, true, true, true, false, true, true, false, false, false, false, false] rfl rfl (any_of HT_.out (by kernel_rfl)) (fun _ _ _ h => h) (Or.inl ⟨by rfl, ?_⟩) ?_ ?_
                      rotate_left
                      · intro w'
                        go_simp
                        with_reducible rfl
                      rotate_left
                      · simp only [Act.put, List.setIfInBounds_toArray, List.set_cons_zero, List.set_cons_succ, i64_w, i32_w]
                        rfl
                      refine pure_ (i := 7) (N := some 61) (v := ?_) (a' := ?_) #[true, true, true, true, false, true, true, true, false, false, false, false] rfl rfl (any_of HT_.out (by kernel_rfl)) (fun _ _ _ h => h) (Or.inl ⟨by rfl, ?_⟩) ?_ ?_
                      rotate_left
                      · intro w'
                        go_simp
                        with_reducible rfl
                      rotate_left
                      · simp only [Act.put, List.setIfInBounds_toArray, List.set_cons_zero, List.set_cons_succ, i64_w, i32_w]
                        rfl
                      refine pure_ (i := 8) (N := some 62) (v := ?_) (a' := ?_) #[true, true, true, true, false, true, true, true, true, false, false, false] rfl rfl (any_of HT_.out (by kernel_rfl)) (fun _ _ _ h => h) (Or.inl ⟨by rfl, ?_⟩) ?_ ?_
                      rotate_left
                      · intro w'
                        go_simp
                        with_reducible rfl
                      rotate_left
                      · simp only [Act.put, List.setIfInBounds_toArray, List.set_cons_zero, List.set_cons_succ, i64_w, i32_w]
                        rfl
                      refine take_ (i := 4) (N := some 58) (v := ?_) (a' := ?_) #[true, true, true, true, true, true, true, true, true, false, false, false] rfl rfl (take_ofW HT_.out HW_.out (by kernel_rfl)) (fun _ _ _ h => h) (Or.inl ⟨by rfl, ?_⟩) hHeld ?_ ?_
                      rotate_left
                      · rintro w' ⟨s0, s1, s2, s3⟩
                        go_simp
                        with_reducible rfl
                      rotate_left
                      · simp only [Act.put, List.setIfInBounds_toArray, List.set_cons_zero, List.set_cons_succ, i64_w, i32_w]
                        rfl
                      refine take_ (i := 9) (N := some 63) (v := ?_) (a' := ?_) #[true, true, true, true, true, true, true, true, true, true, false, false] rfl rfl (take_ofW HT_.out HW_.out (by kernel_rfl)) (fun _ _ _ h => h) (Or.inl ⟨by rfl, ?_⟩) hHeld ?_ ?_
                      rotate_left
                      · rintro w' ⟨s0, s1, s2, s3⟩
                        go_simp
                        with_reducible rfl
                      rotate_left
                      · simp only [Act.put, List.setIfInBounds_toArray, List.set_cons_zero, List.set_cons_succ, i64_w, i32_w]
                        rfl
                      refine pure_ (i := 10) (N := some 64) (v := ?_) (a' := ?_) #[true, true, true, true, true, true, true, true, true, true, true, false] rfl rfl (any_of HT_.out (by kernel_rfl)) (fun _ _ _ h => h) (Or.inl ⟨by rfl, ?_⟩) ?_ ?_
                      rotate_left
                      · intro w'
                        go_simp
                        with_reducible rfl
                      rotate_left
                      · simp only [Act.put, List.setIfInBounds_toArray, List.set_cons_zero, List.set_cons_succ, i64_w, i32_w]
                        rfl
                      refine one_ (i := 11) (N := some 65) #[true, true, true, true, true, true, true, true, true, true, true, true] rfl rfl (one_of HT_.out (by kernel_rfl)) (by decide) (fun K hK => ?_)
                      refine goes_ Try.func14 (by kernel_rfl) rfl #[.pointer (some ⟨gb153, 0, none⟩), .string ((rd_T44 l1 x8_3).f0), .int .i64 (((rd_T44 l1 x8_3).f1).length : Int)] (by rfl) rfl rfl (by (try simp only [List.map_toArray, List.map_cons, List.map_nil]); first | done | rfl | (simp only [List.length_drop, List.length_take]; rfl)) ?_
                      with_reducible refine (space_Ledger_Put.calls k3 gb153 x154000_3 ((rd_T44 l1 x8_3).f0) (((rd_T44 l1 x8_3).f1).length : Int) t167 w _ ?side1 ?side2 A31.out).mono ?_
                      (case side1 => repeat (first | (with_reducible first | exact HI153.out | apply IsS28.alloc | apply IsS28.drewN | apply IsS28.drew | apply IsS28.set_0) | exact HI153.out))
                      (case side2 => repeat (first | (with_reducible first | exact HB.out | apply below_alloc | apply pw_below_drewN | apply below_drew1 | refine below_set ?_ (IsS28.ge HI153.out)) | exact HB.out))
                      rintro e w33 ⟨rfl, hi, hb, hk⟩
                      refine ⟨_, rfl, ?_⟩
                      have n0_ := Aside0.mk (hb)
                      have n1_ := Aside0.mk (hi)
                      clear HB
                      clear HI153
                      have HB := n0_
                      have HI153 := n1_
                      clear n0_ n1_
                      (try clear hb)
                      (try clear hb2)
                      (try clear hk)
                      (try clear hi)
                      refine hK.out _ _ ⟨((HB.out.cell (World.block_lt_of_cell? w _ hw165_0)).trans hw165_0), ((HB.out.cell (World.block_lt_of_cell? w _ hw165_1)).trans hw165_1), ((HB.out.cell (World.block_lt_of_cell? w _ hw166_0)).trans hw166_0), ((HB.out.cell (World.block_lt_of_cell? w _ hw166_1)).trans hw166_1)⟩ (fun hHeld => ?_)
                      clear hK K
                      refine norm_ (a' := ?_) ?_ ?_
                      rotate_left
                      · show Act.put _ (some 65) _ = _
                        simp only [Act.put, List.setIfInBounds_toArray, List.set_cons_zero, List.set_cons_succ, i64_w, i32_w]
                        rfl
                      refine done_ (done_of HT_.out (by kernel_rfl)) ?_
                      try go_wp2
                      go_roundg k3
                      case measure => have := HJ2.out; have := HK2.out; have := HK3.out; omega
                      case rel => exact ⟨(wrap64 (x8_3 + 1)), (t167), (by first | rfl | (simp; done) | (simp [*]; done)), H', ⟨by have := HJ2.out; have := HK2.out; have := HK3.out; omega⟩, ⟨by repeat (first | (with_reducible first | exact HI153.out | apply IsS28.alloc | apply IsS28.drewN | apply IsS28.drew | apply IsS28.set_0) | exact HI153.out)⟩, ⟨by repeat (first | (with_reducible first | exact HB.out | apply below_alloc | apply pw_below_drewN | apply below_drew1 | refine below_set ?_ (IsS28.ge HI153.out)) | exact HB.out)⟩⟩
                    · rw [if_neg c30] at H
                      exact absurd H (by simp)
                  · rw [if_neg c29] at H
                    have c29b0 : decide (x8_3 < (l1.length : Int)) = false := decide_eq_false c29
                    clear c29
                    replace H := Option.bind_eq_some_iff.mp H
                    obtain ⟨⟨t168, t169⟩, A340, H⟩ := H
                    replace H : (if (l1.length : Int) > 0 then (if 0 < (l1.length : Int) then ((space_Ledger_Delete.f k3 t169 ((rd_T44 l1 0).f0)).bind fun t171 => (if 1 ≤ (l1.length : Int) then ((space_Ledger_Bound.f k3 t171 (l1.drop 1)).bind fun bt176 => (if bt176.1 < t168 then (some false) else (bindlelaw26_SpaceGrows.j4 k3 l1 bt176.2))) else (none))) else (none)) else (bindlelaw26_SpaceGrows.j4 k3 l1 t169)) = some r := H
                    have A34 := Aside0.mk A340
                    clear A340
                    have HC35 := Aside0.mk H
                    clear H
                    go_upto_if 70 with (first | ((with_reducible refine gate_callee (f := 12) rfl ?_); refine goesL_ (some 67) rfl rfl Try.func12 (by kernel_rfl) rfl #[.pointer (some ⟨gb153, 0, none⟩), .slice A1 l1.length c1] rfl (by (try simp only [List.map_toArray, List.map_cons, List.map_nil]); first | done | rfl | (simp only [List.length_drop, List.length_take]; rfl)) ?_; (with_reducible refine (space_Ledger_Bound.calls k3 gb153 x154000_3 _ _ l1 t168 t169 w _ ?side1 ?side2 ?side3 ?side4 A34.out).mono ?_); (case side1 => repeat (first | (with_reducible first | exact HI153.out | apply IsS28.alloc | apply IsS28.drewN | apply IsS28.drew | apply IsS28.set_0) | exact HI153.out)); (case side2 => repeat (first | (with_reducible first | exact HB.out | apply below_alloc | apply pw_below_drewN | apply below_drew1 | refine below_set ?_ (IsS28.ge HI153.out)) | exact HB.out)); (case side3 => exact Kd.C_foot_came k44_heap HR1.out (by repeat (first | (with_reducible first | exact HB.out | apply below_alloc | apply pw_below_drewN | apply below_drew1 | refine below_set ?_ (IsS28.ge HI153.out)) | exact HB.out)) (IsS28.ge HI153.out)); (case side4 => exact HC1.out); rintro e w36 ⟨rfl, hi, hb, hk⟩; refine ⟨_, rfl, ?_⟩; have n0_ := Aside0.mk (hb); have n1_ := Aside0.mk (hi); clear HB; clear HI153; have HB := n0_; have HI153 := n1_; clear n0_ n1_; (try clear hb); (try clear hb2); (try clear hk); (try clear hi)))
                    (try simp only [Act.put, List.setIfInBounds_toArray, List.set_cons_zero, List.set_cons_succ])
                    go_cut [] (fun wc => ∃ (kq : Nat) (x154000_34 : Int), Aside0 (bindlelaw26_SpaceGrows.j4 kq l1 x154000_34 = some r) ∧ Aside0 (kq ≤ k3) ∧ Aside0 (IsS28 w wc gb153 x154000_34) ∧ Aside0 (Below w.heap.size w wc))
                    case first =>
                      have H := HC35.out
                      clear HC35
                      by_cases c37 : (l1.length : Int) > 0
                      · rw [if_pos c37] at H
                        have c37b0 : decide (0 < (l1.length : Int)) = true := decide_eq_true c37
                        have c37b1 : decide (0 < l1.length) = true := decide_eq_true (by omega)
                        clear c37
                        (first | rw [c37b0] | (simp only [i64_w, i32_w]; rw [c37b0]) | rw [c37b1] | skip)
                        by_cases c38 : 0 < (l1.length : Int)
                        · rw [if_pos c38] at H
                          have c38b0 : decide (0 < (l1.length : Int)) = true := decide_eq_true c38
                          have c38b1 : decide (0 < l1.length) = true := decide_eq_true (by omega)
                          clear c38
                          replace H := Option.bind_eq_some_iff.mp H
                          obtain ⟨t171, A390, H⟩ := H
                          replace H : (if 1 ≤ (l1.length : Int) then ((space_Ledger_Bound.f k3 t171 (l1.drop 1)).bind fun bt176 => (if bt176.1 < t168 then (some false) else (bindlelaw26_SpaceGrows.j4 k3 l1 bt176.2))) else (none)) = some r := H
                          have A39 := Aside0.mk A390
                          clear A390
                          by_cases c40 : 1 ≤ (l1.length : Int)
                          · rw [if_pos c40] at H
                            have c40b0 := eq_true c40
                            have c40b1 : decide (1 ≤ (l1.length : Int)) = true := decide_eq_true c40
                            clear c40
                            obtain ⟨y172, hy172⟩ : ∃ y_ : List (S44), y_ = (l1.drop 1) := ⟨_, rfl⟩
                            replace H : ((space_Ledger_Bound.f k3 t171 y172).bind fun bt176 => (if bt176.1 < t168 then (some false) else (bindlelaw26_SpaceGrows.j4 k3 l1 bt176.2))) = some r := by first | (rw [hy172]; with_reducible exact H) | (have H2_ := (Option.bind_some _ _).symm.trans H; rw [hy172]; with_reducible exact H2_) | (have H2_ := (Option.bind_some _ _).symm.trans H; with_reducible exact H2_) | with_reducible exact H | (rw [hy172]; exact H) | exact H
                            have Ny172 := Aside0.mk hy172
                            clear hy172
                            replace H := Option.bind_eq_some_iff.mp H
                            obtain ⟨⟨t176, t177⟩, A410, H⟩ := H
                            replace H : (if t176 < t168 then (some false) else (bindlelaw26_SpaceGrows.j4 k3 l1 t177)) = some r := H
                            have A41 := Aside0.mk A410
                            clear A410
                            by_cases c42 : t176 < t168
                            · rw [if_pos c42] at H
                              have c42b0 : decide (t176 < t168) = true := decide_eq_true c42
                              clear c42
                              obtain rfl := Option.some.inj H
                              have p170 : 0 ≤ (0 : Int) := (by omega)
                              have q170 : 0 < (l1.length : Int) := of_decide_eq_true (by first | (with_reducible assumption) | assumption)
                              obtain ⟨ad170, A170_1, c170_1, e170, hx170_0, hx170_1, hl170_1, hi170_1⟩ := at_T44 HR1.out 0 p170 q170
                              cases e170
                              have qi170 : (0 < l1.length) = True := eq_true (by omega)
                              (try rw [show ((0 : Int)).toNat = 0 from rfl] at hx170_0)
                              (try rw [show 0 * 2 = 0 from rfl] at hx170_0)
                              (try rw [Addr.add_zero'] at hx170_0)
                              (try rw [show ((0 : Int)).toNat = 0 from rfl] at hx170_1)
                              (try rw [show 0 * 2 = 0 from rfl] at hx170_1)
                              (try rw [Addr.add_zero'] at hx170_1)
                              replace hx170_0 := (HB.out.cell (World.block_lt_of_cell? w _ hx170_0)).trans hx170_0
                              replace hx170_1 := (HB.out.cell (World.block_lt_of_cell? w _ hx170_1)).trans hx170_1
                              have HR170_1 := Aside0.mk hi170_1
                              have HC170_1 := Aside0.mk hl170_1
                              clear hi170_1 hl170_1
                              replace p170 := eq_true p170
                              replace q170 := eq_true q170
                              go_wp2_with (first | ((with_reducible refine gate_callee (f := 15) rfl ?_); refine goesL_ (some 75) rfl rfl Try.func15 (by kernel_rfl) rfl #[.pointer (some ⟨gb153, 0, none⟩), .string ((rd_T44 l1 0).f0)] rfl (by (try simp only [List.map_toArray, List.map_cons, List.map_nil]); first | done | rfl | (simp only [List.length_drop, List.length_take]; rfl)) ?_; (with_reducible refine (space_Ledger_Delete.calls k3 gb153 t169 ((rd_T44 l1 0).f0) t171 w _ ?side1 ?side2 A39.out).mono ?_); (case side1 => repeat (first | (with_reducible first | exact HI153.out | apply IsS28.alloc | apply IsS28.drewN | apply IsS28.drew | apply IsS28.set_0) | exact HI153.out)); (case side2 => repeat (first | (with_reducible first | exact HB.out | apply below_alloc | apply pw_below_drewN | apply below_drew1 | refine below_set ?_ (IsS28.ge HI153.out)) | exact HB.out)); rintro e w43 ⟨rfl, hi, hb, hk⟩; refine ⟨_, rfl, ?_⟩; have n0_ := Aside0.mk (hb); have n1_ := Aside0.mk (hi); clear HB; clear HI153; have HB := n0_; have HI153 := n1_; clear n0_ n1_; (try clear hb); (try clear hb2); (try clear hk); (try clear hi); have q44 : (1 : Int) ≤ ((l1.length : Int) : Int) := of_decide_eq_true (by first | (with_reducible assumption) | assumption); obtain ⟨i044, hi044, _, hsz44, _⟩ := info_parts info44; have hroom44 : l1.length ≤ c1 := HC1.out; have hC44 : Kd.C k44 _ (some ad170) l1.length l1 := HR1.out; have hcut44 := cut_from (P := Try.prog) 23 44 .i64 Try.underlying23 hi044 2 hsz44 (some ad170) l1.length c1 1 (by omega) q44; have hr44 := Kd.C_drop (m := (1 : Int).toNat) (c := c1) hC44 (by omega) hroom44; obtain ⟨A44, hA44⟩ : ∃ Az_, Az_ = (if c1 = (1 : Int).toNat then (some ad170) else ((some ad170) : Option Addr).map (·.add ((1 : Int).toNat * 2))) := ⟨_, rfl⟩; obtain ⟨c44, hc44⟩ : ∃ cz_, cz_ = c1 - (1 : Int).toNat := ⟨_, rfl⟩; have hy44 : y172.length = l1.length - (1 : Int).toNat := (by rw [Ny172.out, List.length_drop] <;> omega); rw [show (l1).drop (1 : Int).toNat = y172 from Ny172.out.symm] at hr44; replace hr44 : Kd.C k44 _ A44 y172.length y172 := (by rw [hA44]; exact hr44); rw [← hy44, ← hA44, ← hc44] at hcut44; have HR175 := Aside0.mk hr44; have HC175 := Aside0.mk (show y172.length ≤ c44 from by rw [hy44, hc44]; exact Nat.sub_le_sub_right hroom44 _); clear hr44 hC44 hroom44 hi044 hsz44 hc44; have KY44 := Aside0.mk hy44; have KA44 := Aside0.mk hA44; clear hy44 hA44; replace q44 := eq_true q44) | ((with_reducible refine gate_callee (f := 12) rfl ?_); refine goesL_ (some 78) rfl rfl Try.func12 (by kernel_rfl) rfl #[.pointer (some ⟨gb153, 0, none⟩), .slice A44 y172.length c44] rfl (by (try simp only [List.map_toArray, List.map_cons, List.map_nil]); first | done | rfl | (simp only [List.length_drop, List.length_take]; rfl)) ?_; (with_reducible refine (space_Ledger_Bound.calls k3 gb153 t171 _ _ y172 t176 t177 w _ ?side1 ?side2 ?side3 ?side4 A41.out).mono ?_); (case side1 => repeat (first | (with_reducible first | exact HI153.out | apply IsS28.alloc | apply IsS28.drewN | apply IsS28.drew | apply IsS28.set_0) | exact HI153.out)); (case side2 => repeat (first | (with_reducible first | exact HB.out | apply below_alloc | apply pw_below_drewN | apply below_drew1 | refine below_set ?_ (IsS28.ge HI153.out)) | exact HB.out)); (case side3 => exact Kd.C_foot_came k44_heap HR175.out (by repeat (first | (with_reducible first | exact HB.out | apply below_alloc | apply pw_below_drewN | apply below_drew1 | refine below_set ?_ (IsS28.ge HI153.out)) | exact HB.out)) (IsS28.ge HI153.out)); (case side4 => exact HC175.out); rintro e w45 ⟨rfl, hi, hb, hk⟩; refine ⟨_, rfl, ?_⟩; have n0_ := Aside0.mk (hb); have n1_ := Aside0.mk (hi); clear HB; clear HI153; have HB := n0_; have HI153 := n1_; clear n0_ n1_; (try clear hb); (try clear hb2); (try clear hk); (try clear hi)))
                              go_ret
                              exact ⟨by first | rfl | (simp [errW_none, errW_some] <;> rfl) | (simp [*, errW_none, errW_some] <;> rfl), by repeat (first | (with_reducible first | exact HB.out | apply below_alloc | apply pw_below_drewN | apply below_drew1 | refine below_set ?_ (IsS28.ge HI153.out)) | exact HB.out)⟩
                            · rw [if_neg c42] at H
                              have c42b0 : decide (t176 < t168) = false := decide_eq_false c42
                              clear c42
                              have H' := Aside0.mk H
                              clear H
                              have p170 : 0 ≤ (0 : Int) := (by omega)
                              have q170 : 0 < (l1.length : Int) := of_decide_eq_true (by first | (with_reducible assumption) | assumption)
                              obtain ⟨ad170, A170_1, c170_1, e170, hx170_0, hx170_1, hl170_1, hi170_1⟩ := at_T44 HR1.out 0 p170 q170
                              cases e170
                              have qi170 : (0 < l1.length) = True := eq_true (by omega)
                              (try rw [show ((0 : Int)).toNat = 0 from rfl] at hx170_0)
                              (try rw [show 0 * 2 = 0 from rfl] at hx170_0)
                              (try rw [Addr.add_zero'] at hx170_0)
                              (try rw [show ((0 : Int)).toNat = 0 from rfl] at hx170_1)
                              (try rw [show 0 * 2 = 0 from rfl] at hx170_1)
                              (try rw [Addr.add_zero'] at hx170_1)
                              replace hx170_0 := (HB.out.cell (World.block_lt_of_cell? w _ hx170_0)).trans hx170_0
                              replace hx170_1 := (HB.out.cell (World.block_lt_of_cell? w _ hx170_1)).trans hx170_1
                              have HR170_1 := Aside0.mk hi170_1
                              have HC170_1 := Aside0.mk hl170_1
                              clear hi170_1 hl170_1
                              replace p170 := eq_true p170
                              replace q170 := eq_true q170
                              go_wp2_with (first | ((with_reducible refine gate_callee (f := 15) rfl ?_); refine goesL_ (some 75) rfl rfl Try.func15 (by kernel_rfl) rfl #[.pointer (some ⟨gb153, 0, none⟩), .string ((rd_T44 l1 0).f0)] rfl (by (try simp only [List.map_toArray, List.map_cons, List.map_nil]); first | done | rfl | (simp only [List.length_drop, List.length_take]; rfl)) ?_; (with_reducible refine (space_Ledger_Delete.calls k3 gb153 t169 ((rd_T44 l1 0).f0) t171 w _ ?side1 ?side2 A39.out).mono ?_); (case side1 => repeat (first | (with_reducible first | exact HI153.out | apply IsS28.alloc | apply IsS28.drewN | apply IsS28.drew | apply IsS28.set_0) | exact HI153.out)); (case side2 => repeat (first | (with_reducible first | exact HB.out | apply below_alloc | apply pw_below_drewN | apply below_drew1 | refine below_set ?_ (IsS28.ge HI153.out)) | exact HB.out)); rintro e w46 ⟨rfl, hi, hb, hk⟩; refine ⟨_, rfl, ?_⟩; have n0_ := Aside0.mk (hb); have n1_ := Aside0.mk (hi); clear HB; clear HI153; have HB := n0_; have HI153 := n1_; clear n0_ n1_; (try clear hb); (try clear hb2); (try clear hk); (try clear hi); have q47 : (1 : Int) ≤ ((l1.length : Int) : Int) := of_decide_eq_true (by first | (with_reducible assumption) | assumption); obtain ⟨i047, hi047, _, hsz47, _⟩ := info_parts info44; have hroom47 : l1.length ≤ c1 := HC1.out; have hC47 : Kd.C k44 _ (some ad170) l1.length l1 := HR1.out; have hcut47 := cut_from (P := Try.prog) 23 44 .i64 Try.underlying23 hi047 2 hsz47 (some ad170) l1.length c1 1 (by omega) q47; have hr47 := Kd.C_drop (m := (1 : Int).toNat) (c := c1) hC47 (by omega) hroom47; obtain ⟨A47, hA47⟩ : ∃ Az_, Az_ = (if c1 = (1 : Int).toNat then (some ad170) else ((some ad170) : Option Addr).map (·.add ((1 : Int).toNat * 2))) := ⟨_, rfl⟩; obtain ⟨c47, hc47⟩ : ∃ cz_, cz_ = c1 - (1 : Int).toNat := ⟨_, rfl⟩; have hy47 : y172.length = l1.length - (1 : Int).toNat := (by rw [Ny172.out, List.length_drop] <;> omega); rw [show (l1).drop (1 : Int).toNat = y172 from Ny172.out.symm] at hr47; replace hr47 : Kd.C k44 _ A47 y172.length y172 := (by rw [hA47]; exact hr47); rw [← hy47, ← hA47, ← hc47] at hcut47; have HR175 := Aside0.mk hr47; have HC175 := Aside0.mk (show y172.length ≤ c47 from by rw [hy47, hc47]; exact Nat.sub_le_sub_right hroom47 _); clear hr47 hC47 hroom47 hi047 hsz47 hc47; have KY47 := Aside0.mk hy47; have KA47 := Aside0.mk hA47; clear hy47 hA47; replace q47 := eq_true q47) | ((with_reducible refine gate_callee (f := 12) rfl ?_); refine goesL_ (some 78) rfl rfl Try.func12 (by kernel_rfl) rfl #[.pointer (some ⟨gb153, 0, none⟩), .slice A47 y172.length c47] rfl (by (try simp only [List.map_toArray, List.map_cons, List.map_nil]); first | done | rfl | (simp only [List.length_drop, List.length_take]; rfl)) ?_; (with_reducible refine (space_Ledger_Bound.calls k3 gb153 t171 _ _ y172 t176 t177 w _ ?side1 ?side2 ?side3 ?side4 A41.out).mono ?_); (case side1 => repeat (first | (with_reducible first | exact HI153.out | apply IsS28.alloc | apply IsS28.drewN | apply IsS28.drew | apply IsS28.set_0) | exact HI153.out)); (case side2 => repeat (first | (with_reducible first | exact HB.out | apply below_alloc | apply pw_below_drewN | apply below_drew1 | refine below_set ?_ (IsS28.ge HI153.out)) | exact HB.out)); (case side3 => exact Kd.C_foot_came k44_heap HR175.out (by repeat (first | (with_reducible first | exact HB.out | apply below_alloc | apply pw_below_drewN | apply below_drew1 | refine below_set ?_ (IsS28.ge HI153.out)) | exact HB.out)) (IsS28.ge HI153.out)); (case side4 => exact HC175.out); rintro e w48 ⟨rfl, hi, hb, hk⟩; refine ⟨_, rfl, ?_⟩; have n0_ := Aside0.mk (hb); have n1_ := Aside0.mk (hi); clear HB; clear HI153; have HB := n0_; have HI153 := n1_; clear n0_ n1_; (try clear hb); (try clear hb2); (try clear hk); (try clear hi)))
                              go_meet
                              case rel => exact ⟨_, (t177), H', ⟨by have := HJ2.out; have := HK2.out; have := HK3.out; first | omega | exact Nat.le_refl _⟩, ⟨by repeat (first | (with_reducible first | exact HI153.out | apply IsS28.alloc | apply IsS28.drewN | apply IsS28.drew | apply IsS28.set_0) | exact HI153.out)⟩, ⟨by repeat (first | (with_reducible first | exact HB.out | apply below_alloc | apply pw_below_drewN | apply below_drew1 | refine below_set ?_ (IsS28.ge HI153.out)) | exact HB.out)⟩⟩
                          · rw [if_neg c40] at H
                            exact absurd H (by simp)
                        · rw [if_neg c38] at H
                          exact absurd H (by simp)
                      · rw [if_neg c37] at H
                        have c37b0 : decide (0 < (l1.length : Int)) = false := decide_eq_false c37
                        have c37b1 : decide (0 < l1.length) = false := decide_eq_false (by omega)
                        clear c37
                        (first | rw [c37b0] | (simp only [i64_w, i32_w]; rw [c37b0]) | rw [c37b1] | skip)
                        have H' := Aside0.mk H
                        clear H
                        go_wp2
                        go_meet
                        case rel => exact ⟨_, (t169), H', ⟨by have := HJ2.out; have := HK2.out; have := HK3.out; first | omega | exact Nat.le_refl _⟩, ⟨by repeat (first | (with_reducible first | exact HI153.out | apply IsS28.alloc | apply IsS28.drewN | apply IsS28.drew | apply IsS28.set_0) | exact HI153.out)⟩, ⟨by repeat (first | (with_reducible first | exact HB.out | apply below_alloc | apply pw_below_drewN | apply below_drew1 | refine below_set ?_ (IsS28.ge HI153.out)) | exact HB.out)⟩⟩
                    case rest =>
                      clear HC35
                      try clear c1
                      try clear p1
                      try clear q1
                      try clear hx1
                      try clear qi1
                      try clear c2
                      try clear p2
                      try clear c3
                      try clear c4
                      try clear q4
                      try clear c5
                      try clear p6
                      try clear c7
                      try clear c9
                      try clear c10
                      try clear c12
                      try clear c13
                      try clear c13b0
                      try clear c14
                      try clear c15
                      try clear c15b0
                      try clear c15b1
                      try clear p15
                      try clear q15
                      try clear hx15
                      try clear c16
                      try clear c16b0
                      try clear p16
                      try clear q16
                      try clear hx16
                      try clear c17
                      try clear p17
                      try clear q17
                      try clear hx17
                      try clear qi17
                      try clear c18
                      try clear c18b0
                      try clear c19
                      try clear c19b0
                      try clear c22
                      try clear c22b0
                      try clear c29
                      try clear c29b0
                      try clear c30
                      try clear c30b0
                      try clear c37
                      try clear c37b0
                      try clear c37b1
                      try clear c38
                      try clear c38b0
                      try clear c38b1
                      try clear c40
                      try clear c40b0
                      try clear c40b1
                      try clear c42
                      try clear c42b0
                      try clear c44
                      try clear q44
                      try clear c47
                      try clear q47
                      try clear hx156_0
                      try clear hx156_1
                      try clear hx156_2
                      try clear hx156_3
                      try clear hx157_0
                      try clear hx157_1
                      try clear hx157_2
                      try clear hx157_3
                      try clear hx158_0
                      try clear hx158_1
                      try clear hx158_2
                      try clear hx158_3
                      try clear hx165_0
                      try clear hx165_1
                      try clear hx166_0
                      try clear hx166_1
                      try clear hx170_0
                      try clear hx170_1
                      try clear p1
                      try clear p15
                      try clear p156
                      try clear p157
                      try clear p158
                      try clear p165
                      try clear p166
                      try clear p170
                      try clear p2
                      try clear p6
                      try clear q1
                      try clear q15
                      try clear q156
                      try clear q157
                      try clear q158
                      try clear q165
                      try clear q166
                      try clear q170
                      try clear q44
                      try clear q47
                      obtain ⟨kq, x154000_34, HA, HJ34, HI153, HB⟩ := hcut
                      cases kq with
                      | zero => exact absurd HA.out (by simp [bindlelaw26_SpaceGrows.j4])
                      | succ kj34 =>
                        have H := HA.out
                        clear HA
                        simp only [bindlelaw26_SpaceGrows.j4] at H
                        replace H := Option.bind_eq_some_iff.mp H
                        obtain ⟨⟨t178, t179⟩, A490, H⟩ := H
                        replace H : ((space_Ledger_Vacuum.f kj34 t179 l1).bind fun t180 => ((space_Ledger_Bound.f kj34 t180 l1).bind fun bt181 => (if bt181.1 ≤ t178 then ((bindlelaw26_lives.f).bind fun t183 => (some t183)) else (some false)))) = some r := H
                        have A49 := Aside0.mk A490
                        clear A490
                        replace H := Option.bind_eq_some_iff.mp H
                        obtain ⟨t180, A500, H⟩ := H
                        replace H : ((space_Ledger_Bound.f kj34 t180 l1).bind fun bt181 => (if bt181.1 ≤ t178 then ((bindlelaw26_lives.f).bind fun t183 => (some t183)) else (some false))) = some r := H
                        have A50 := Aside0.mk A500
                        clear A500
                        replace H := Option.bind_eq_some_iff.mp H
                        obtain ⟨⟨t181, t182⟩, A510, H⟩ := H
                        replace H : (if t181 ≤ t178 then ((bindlelaw26_lives.f).bind fun t183 => (some t183)) else (some false)) = some r := H
                        have A51 := Aside0.mk A510
                        clear A510
                        by_cases c52 : t181 ≤ t178
                        · rw [if_pos c52] at H
                          have c52b0 : decide (t181 ≤ t178) = true := decide_eq_true c52
                          clear c52
                          replace H := Option.bind_eq_some_iff.mp H
                          obtain ⟨t183, A530, H⟩ := H
                          replace H : (some t183) = some r := H
                          have A53 := Aside0.mk A530
                          clear A530
                          obtain rfl := Option.some.inj H
                          go_wp2_with (first | ((with_reducible refine gate_callee (f := 12) rfl ?_); refine goesL_ (some 82) rfl rfl Try.func12 (by kernel_rfl) rfl #[.pointer (some ⟨gb153, 0, none⟩), .slice A1 l1.length c1] rfl (by (try simp only [List.map_toArray, List.map_cons, List.map_nil]); first | done | rfl | (simp only [List.length_drop, List.length_take]; rfl)) ?_; (with_reducible refine (space_Ledger_Bound.calls kj34 gb153 x154000_34 _ _ l1 t178 t179 w _ ?side1 ?side2 ?side3 ?side4 A49.out).mono ?_); (case side1 => repeat (first | (with_reducible first | exact HI153.out | apply IsS28.alloc | apply IsS28.drewN | apply IsS28.drew | apply IsS28.set_0) | exact HI153.out)); (case side2 => repeat (first | (with_reducible first | exact HB.out | apply below_alloc | apply pw_below_drewN | apply below_drew1 | refine below_set ?_ (IsS28.ge HI153.out)) | exact HB.out)); (case side3 => exact Kd.C_foot_came k44_heap HR1.out (by repeat (first | (with_reducible first | exact HB.out | apply below_alloc | apply pw_below_drewN | apply below_drew1 | refine below_set ?_ (IsS28.ge HI153.out)) | exact HB.out)) (IsS28.ge HI153.out)); (case side4 => exact HC1.out); rintro e w54 ⟨rfl, hi, hb, hk⟩; refine ⟨_, rfl, ?_⟩; have n0_ := Aside0.mk (hb); have n1_ := Aside0.mk (hi); clear HB; clear HI153; have HB := n0_; have HI153 := n1_; clear n0_ n1_; (try clear hb); (try clear hb2); (try clear hk); (try clear hi)) | ((with_reducible refine gate_callee (f := 18) rfl ?_); refine goesL_ (some 84) rfl rfl Try.func18 (by kernel_rfl) rfl #[.pointer (some ⟨gb153, 0, none⟩), .slice A1 l1.length c1] rfl (by (try simp only [List.map_toArray, List.map_cons, List.map_nil]); first | done | rfl | (simp only [List.length_drop, List.length_take]; rfl)) ?_; (with_reducible refine (space_Ledger_Vacuum.calls kj34 gb153 t179 _ _ l1 t180 w _ ?side1 ?side2 ?side3 ?side4 A50.out).mono ?_); (case side1 => repeat (first | (with_reducible first | exact HI153.out | apply IsS28.alloc | apply IsS28.drewN | apply IsS28.drew | apply IsS28.set_0) | exact HI153.out)); (case side2 => repeat (first | (with_reducible first | exact HB.out | apply below_alloc | apply pw_below_drewN | apply below_drew1 | refine below_set ?_ (IsS28.ge HI153.out)) | exact HB.out)); (case side3 => exact Kd.C_foot_came k44_heap HR1.out (by repeat (first | (with_reducible first | exact HB.out | apply below_alloc | apply pw_below_drewN | apply below_drew1 | refine below_set ?_ (IsS28.ge HI153.out)) | exact HB.out)) (IsS28.ge HI153.out)); (case side4 => exact HC1.out); rintro e w55 ⟨rfl, hi, hb, hk⟩; refine ⟨_, rfl, ?_⟩; have n0_ := Aside0.mk (hb); have n1_ := Aside0.mk (hi); clear HB; clear HI153; have HB := n0_; have HI153 := n1_; clear n0_ n1_; (try clear hb); (try clear hb2); (try clear hk); (try clear hi)) | ((with_reducible refine gate_callee (f := 12) rfl ?_); refine goesL_ (some 86) rfl rfl Try.func12 (by kernel_rfl) rfl #[.pointer (some ⟨gb153, 0, none⟩), .slice A1 l1.length c1] rfl (by (try simp only [List.map_toArray, List.map_cons, List.map_nil]); first | done | rfl | (simp only [List.length_drop, List.length_take]; rfl)) ?_; (with_reducible refine (space_Ledger_Bound.calls kj34 gb153 t180 _ _ l1 t181 t182 w _ ?side1 ?side2 ?side3 ?side4 A51.out).mono ?_); (case side1 => repeat (first | (with_reducible first | exact HI153.out | apply IsS28.alloc | apply IsS28.drewN | apply IsS28.drew | apply IsS28.set_0) | exact HI153.out)); (case side2 => repeat (first | (with_reducible first | exact HB.out | apply below_alloc | apply pw_below_drewN | apply below_drew1 | refine below_set ?_ (IsS28.ge HI153.out)) | exact HB.out)); (case side3 => exact Kd.C_foot_came k44_heap HR1.out (by repeat (first | (with_reducible first | exact HB.out | apply below_alloc | apply pw_below_drewN | apply below_drew1 | refine below_set ?_ (IsS28.ge HI153.out)) | exact HB.out)) (IsS28.ge HI153.out)); (case side4 => exact HC1.out); rintro e w56 ⟨rfl, hi, hb, hk⟩; refine ⟨_, rfl, ?_⟩; have n0_ := Aside0.mk (hb); have n1_ := Aside0.mk (hi); clear HB; clear HI153; have HB := n0_; have HI153 := n1_; clear n0_ n1_; (try clear hb); (try clear hb2); (try clear hk); (try clear hi)) | (go_at_call 9; (with_reducible refine (bindlelaw26_lives.calls  t183 _ A53.out).mono ?_); rintro e w57 ⟨rfl, hb⟩; have n0_ := Aside0.mk (IsS28.below (by repeat (first | (with_reducible first | exact HI153.out | apply IsS28.alloc | apply IsS28.drewN | apply IsS28.drew | apply IsS28.set_0) | exact HI153.out)) hb); have n1_ := Aside0.mk (below_step (by repeat (first | (with_reducible first | exact HB.out | apply below_alloc | apply pw_below_drewN | apply below_drew1 | refine below_set ?_ (IsS28.ge HI153.out)) | exact HB.out)) hb); clear HI153; clear HB; have HI153 := n0_; have HB := n1_; clear n0_ n1_; (try clear hb); (try clear hb2); (try clear hk); (try clear hi)))
                          go_ret
                          exact ⟨by first | rfl | (simp [errW_none, errW_some] <;> rfl) | (simp [*, errW_none, errW_some] <;> rfl), by repeat (first | (with_reducible first | exact HB.out | apply below_alloc | apply pw_below_drewN | apply below_drew1 | refine below_set ?_ (IsS28.ge HI153.out)) | exact HB.out)⟩
                        · rw [if_neg c52] at H
                          have c52b0 : decide (t181 ≤ t178) = false := decide_eq_false c52
                          clear c52
                          obtain rfl := Option.some.inj H
                          go_wp2_with (first | ((with_reducible refine gate_callee (f := 12) rfl ?_); refine goesL_ (some 82) rfl rfl Try.func12 (by kernel_rfl) rfl #[.pointer (some ⟨gb153, 0, none⟩), .slice A1 l1.length c1] rfl (by (try simp only [List.map_toArray, List.map_cons, List.map_nil]); first | done | rfl | (simp only [List.length_drop, List.length_take]; rfl)) ?_; (with_reducible refine (space_Ledger_Bound.calls kj34 gb153 x154000_34 _ _ l1 t178 t179 w _ ?side1 ?side2 ?side3 ?side4 A49.out).mono ?_); (case side1 => repeat (first | (with_reducible first | exact HI153.out | apply IsS28.alloc | apply IsS28.drewN | apply IsS28.drew | apply IsS28.set_0) | exact HI153.out)); (case side2 => repeat (first | (with_reducible first | exact HB.out | apply below_alloc | apply pw_below_drewN | apply below_drew1 | refine below_set ?_ (IsS28.ge HI153.out)) | exact HB.out)); (case side3 => exact Kd.C_foot_came k44_heap HR1.out (by repeat (first | (with_reducible first | exact HB.out | apply below_alloc | apply pw_below_drewN | apply below_drew1 | refine below_set ?_ (IsS28.ge HI153.out)) | exact HB.out)) (IsS28.ge HI153.out)); (case side4 => exact HC1.out); rintro e w58 ⟨rfl, hi, hb, hk⟩; refine ⟨_, rfl, ?_⟩; have n0_ := Aside0.mk (hb); have n1_ := Aside0.mk (hi); clear HB; clear HI153; have HB := n0_; have HI153 := n1_; clear n0_ n1_; (try clear hb); (try clear hb2); (try clear hk); (try clear hi)) | ((with_reducible refine gate_callee (f := 18) rfl ?_); refine goesL_ (some 84) rfl rfl Try.func18 (by kernel_rfl) rfl #[.pointer (some ⟨gb153, 0, none⟩), .slice A1 l1.length c1] rfl (by (try simp only [List.map_toArray, List.map_cons, List.map_nil]); first | done | rfl | (simp only [List.length_drop, List.length_take]; rfl)) ?_; (with_reducible refine (space_Ledger_Vacuum.calls kj34 gb153 t179 _ _ l1 t180 w _ ?side1 ?side2 ?side3 ?side4 A50.out).mono ?_); (case side1 => repeat (first | (with_reducible first | exact HI153.out | apply IsS28.alloc | apply IsS28.drewN | apply IsS28.drew | apply IsS28.set_0) | exact HI153.out)); (case side2 => repeat (first | (with_reducible first | exact HB.out | apply below_alloc | apply pw_below_drewN | apply below_drew1 | refine below_set ?_ (IsS28.ge HI153.out)) | exact HB.out)); (case side3 => exact Kd.C_foot_came k44_heap HR1.out (by repeat (first | (with_reducible first | exact HB.out | apply below_alloc | apply pw_below_drewN | apply below_drew1 | refine below_set ?_ (IsS28.ge HI153.out)) | exact HB.out)) (IsS28.ge HI153.out)); (case side4 => exact HC1.out); rintro e w59 ⟨rfl, hi, hb, hk⟩; refine ⟨_, rfl, ?_⟩; have n0_ := Aside0.mk (hb); have n1_ := Aside0.mk (hi); clear HB; clear HI153; have HB := n0_; have HI153 := n1_; clear n0_ n1_; (try clear hb); (try clear hb2); (try clear hk); (try clear hi)) | ((with_reducible refine gate_callee (f := 12) rfl ?_); refine goesL_ (some 86) rfl rfl Try.func12 (by kernel_rfl) rfl #[.pointer (some ⟨gb153, 0, none⟩), .slice A1 l1.length c1] rfl (by (try simp only [List.map_toArray, List.map_cons, List.map_nil]); first | done | rfl | (simp only [List.length_drop, List.length_take]; rfl)) ?_; (with_reducible refine (space_Ledger_Bound.calls kj34 gb153 t180 _ _ l1 t181 t182 w _ ?side1 ?side2 ?side3 ?side4 A51.out).mono ?_); (case side1 => repeat (first | (with_reducible first | exact HI153.out | apply IsS28.alloc | apply IsS28.drewN | apply IsS28.drew | apply IsS28.set_0) | exact HI153.out)); (case side2 => repeat (first | (with_reducible first | exact HB.out | apply below_alloc | apply pw_below_drewN | apply below_drew1 | refine below_set ?_ (IsS28.ge HI153.out)) | exact HB.out)); (case side3 => exact Kd.C_foot_came k44_heap HR1.out (by repeat (first | (with_reducible first | exact HB.out | apply below_alloc | apply pw_below_drewN | apply below_drew1 | refine below_set ?_ (IsS28.ge HI153.out)) | exact HB.out)) (IsS28.ge HI153.out)); (case side4 => exact HC1.out); rintro e w60 ⟨rfl, hi, hb, hk⟩; refine ⟨_, rfl, ?_⟩; have n0_ := Aside0.mk (hb); have n1_ := Aside0.mk (hi); clear HB; clear HI153; have HB := n0_; have HI153 := n1_; clear n0_ n1_; (try clear hb); (try clear hb2); (try clear hk); (try clear hi)))
                          go_ret
                          exact ⟨by first | rfl | (simp [errW_none, errW_some] <;> rfl) | (simp [*, errW_none, errW_some] <;> rfl), by repeat (first | (with_reducible first | exact HB.out | apply below_alloc | apply pw_below_drewN | apply below_drew1 | refine below_set ?_ (IsS28.ge HI153.out)) | exact HB.out)⟩
/-- What is known of a value of this type that came in. -/
def good44 (x : S44) : Prop := (x.f0.size ≤ 140737488351232) ∧ (x.f1.length ≤ maxLen ∧ x.f1.length * 1 ≤ 140737488351232 ∧ ∀ e1 ∈ x.f1, (Lit.int .u8 e1).wf = true)
/-- What is known of a value of this type that came in. -/
def good32 (x : S32) : Prop := ((Lit.int .i64 x.f0).wf = true) ∧ (x.f1.size ≤ 140737488351232) ∧ ((Lit.int .i64 x.f2).wf = true) ∧ (x.f3.length ≤ maxLen ∧ x.f3.length * 40 ≤ 140737488351232 ∧ ∀ e2 ∈ x.f3, good44 e2)

/-- THE ONE PURE STATEMENT of bindlelaw26_SpaceGrows: ours to prove. -/
def bindlelaw26_SpaceGrows.Pure : Prop := ∀ (x0 : List (S32)) (x1 : List (S44)), (x0.length ≤ maxLen ∧ x0.length * 56 ≤ 140737488351232 ∧ ∀ e3 ∈ x0, good32 e3) → (x1.length ≤ maxLen ∧ x1.length * 40 ≤ 140737488351232 ∧ ∀ e4 ∈ x1, good44 e4) → ∃ k, bindlelaw26_SpaceGrows.f k x0 x1 = some true

end Go.Proofs.Ythkdabpbohiadaa.PSpaceGrows
