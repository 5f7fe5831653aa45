/- The machine side of a law: for each Go function that it uses a Lean function with the same answers, and the proof that the Go code comes to them; or the row of the law over these. Written by a program of this session. -/
import Derived.Test.YtcfcbkcaondfcaaDoorPPlanAppliesx0
import Derived.Test.YtcfcbkcaondfcaaDoorPPlanAppliesx1
import Derived.Test.YtcfcbkcaondfcaaDoorPPlanAppliesx5
namespace Go.Proofs.YtcfcbkcaondfcaaDoor.PPlanApplies
open Go.RowKit Go.Proofs.YtcfcbkcaondfcaaDoorW.PrintWords Go.Proofs.YtcfcbkcaondfcaaDoorW.PrintLast Go.Proofs.YtcfcbkcaondfcaaDoorW.PrintMore
attribute [local go_sem] max2_int min2_int max_two min_two max_three min_three max_four min_four   -- for this text's walks alone
set_option linter.unusedVariables false
set_option linter.unusedSimpArgs false

/-! ### plan_refused: function 60 -/
def plan_refused.j0 : Nat → List (S45) → Bool → Bool → Int → ByteArray → List Int → Int → List Bool → Int → Int → Option (Int)
 | 0, _, _, _, _, _, _, _, _, _, _ => none
 | k + 1, x0, x5, x11, x160000, x160001, x160002, x160003, x160004, x160005, x160006 => if x11 = true then (some 7) else (if x160000 = 11 then (some 0) else (if x160000 = 3 then ((member_Right.f x160001).bind fun t162 => (if t162 = true then (if (x160002.length : Int) > 65536 then (some 5) else (if x5 = true then (some 0) else (if (x0.length : Int) ≥ 200 then (some 14) else (some 0)))) else (some 6))) else (some 1)))
def plan_refused.f (k : Nat) (l0 : List (S45)) (a1_0 : Int) (a1_1 : ByteArray) (l1_2 : List Int) (a1_3 : Int) (l1_4 : List Bool) (a1_5 : Int) (a1_6 : Int) : Option (Int) := (plan_of.f l0 a1_1).bind fun bt160 => (if a1_0 = 11 then (plan_refused.j0 k l0 bt160.1 (!bt160.1) a1_0 a1_1 l1_2 a1_3 l1_4 a1_5 a1_6) else (plan_refused.j0 k l0 bt160.1 false a1_0 a1_1 l1_2 a1_3 l1_4 a1_5 a1_6))
theorem plan_refused.mono_l : ∀ k, (∀ y0 y1 y2 y3 y4 y5 y6 y7 y8 y9, LeO (plan_refused.j0 k y0 y1 y2 y3 y4 y5 y6 y7 y8 y9) (plan_refused.j0 (k + 1) y0 y1 y2 y3 y4 y5 y6 y7 y8 y9))
 | 0 => fun _ _ _ _ _ _ _ _ _ _ r h => by simp [plan_refused.j0] at h
 | k + 1 => by
  have ih0 := plan_refused.mono_l k
  ·intro y0 y1 y2 y3 y4 y5 y6 y7 y8 y9
   unfold plan_refused.j0
   repeat' first
   | (with_reducible exact ih0 _ _ _ _ _ _ _ _ _ _)
   | (with_reducible exact LeO.refl _)
   | (with_reducible exact LeO.none _)
   | (with_reducible refine LeO.ite ?_ ?_)
   | (with_reducible refine LeO.bind ?_ (fun _ => ?_))
   | exact ih0 _ _ _ _ _ _ _ _ _ _
   | exact LeO.none _
   | refine LeO.ite ?_ ?_
   | refine LeO.bind ?_ (fun _ => ?_)
theorem plan_refused.mono : ∀ a0 a1 a2 a3 a4 a5 a6 a7 k, LeO (plan_refused.f k a0 a1 a2 a3 a4 a5 a6 a7) (plan_refused.f (k + 1) a0 a1 a2 a3 a4 a5 a6 a7) := by
 intro a0 a1 a2 a3 a4 a5 a6 a7 k
 have ih0 := plan_refused.mono_l k
 unfold plan_refused.f
 repeat' first
   | (with_reducible exact ih0 _ _ _ _ _ _ _ _ _ _)
   | (with_reducible exact LeO.refl _)
   | (with_reducible exact LeO.none _)
   | (with_reducible refine LeO.ite ?_ ?_)
   | (with_reducible refine LeO.bind ?_ (fun _ => ?_))
   | exact ih0 _ _ _ _ _ _ _ _ _ _
   | exact LeO.none _
   | refine LeO.ite ?_ ?_
   | refine LeO.bind ?_ (fun _ => ?_)
set_option maxHeartbeats 8000000 in
set_option maxRecDepth 100000 in
theorem plan_refused.calls (k : Nat) (A0 : Option Addr) (c0 : Nat) (l0 : List (S45)) (a1_0 : Int) (a1_1 : ByteArray) (A1_2 : Option Addr) (c1_2 : Nat) (l1_2 : List Int) (a1_3 : Int) (A1_4 : Option Addr) (c1_4 : Nat) (l1_4 : List Bool) (a1_5 : Int) (a1_6 : Int) (r : Int) (w : World) (hr0 : Kd.C k45 w A0 l0.length l0) (hc0 : l0.length ≤ c0) (hr1_2 : Kd.C (Kd.int .u8) w A1_2 l1_2.length l1_2) (hc1_2 : l1_2.length ≤ c1_2) (hr1_4 : Kd.C Kd.bool w A1_4 l1_4.length l1_4) (hc1_4 : l1_4.length ≤ c1_4) (h : plan_refused.f k l0 a1_0 a1_1 l1_2 a1_3 l1_4 a1_5 a1_6 = some r) :
  Calls Tryd.prog 60 #[.slice A0 l0.length c0, .agg #[.int .i64 a1_0, .string a1_1, .slice A1_2 l1_2.length c1_2, .int .i64 a1_3, .slice A1_4 l1_4.length c1_4, .int .i64 a1_5, .int .u8 a1_6]] w fun e w' => e = .returned (.int .i64 r) ∧ Below w.heap.size w w' := by
 have hu72 := Tryd.underlying72
 have hfd76_0 : ∀ (w : World) (c0_ c1_ : Value), (Instr.field 76 (.agg #[c0_, c1_]) 0).run Tryd.prog w = .ok c0_ w := fun w c0_ c1_ => YtcfcbkcaondfcaaDoorMpHelp.run_field Tryd.underlying76 rfl (by first | exact fun w => Tryd.isAgg4 w | (intro w; rfl) | (intro w; kernel_rfl)) rfl
 have HR0 := Aside0.mk hr0
 have HC0 := Aside0.mk hc0
 clear hr0 hc0
 have HR1_2 := Aside0.mk hr1_2
 have HC1_2 := Aside0.mk hc1_2
 clear hr1_2 hc1_2
 have HR1_4 := Aside0.mk hr1_4
 have HC1_4 := Aside0.mk hc1_4
 clear hr1_4 hc1_4
 have HB := Aside0.mk (Below.refl w.heap.size w)
 have H : ((plan_of.f l0 a1_1).bind fun bt160 => (if a1_0 = 11 then (plan_refused.j0 k l0 bt160.1 (!bt160.1) a1_0 a1_1 l1_2 a1_3 l1_4 a1_5 a1_6) else (plan_refused.j0 k l0 bt160.1 false a1_0 a1_1 l1_2 a1_3 l1_4 a1_5 a1_6))) = some r := h
 clear h
 replace H := Option.bind_eq_some_iff.mp H
 obtain ⟨⟨t160, t161⟩, A30, H⟩ := H
 replace H : (if a1_0 = 11 then (plan_refused.j0 k l0 t160 (!t160) a1_0 a1_1 l1_2 a1_3 l1_4 a1_5 a1_6) else (plan_refused.j0 k l0 t160 false a1_0 a1_1 l1_2 a1_3 l1_4 a1_5 a1_6)) = some r := H
 have A3 := Aside0.mk A30
 clear A30
 have HC4 := Aside0.mk H
 clear H
 go_enter Tryd.func60, Tryd.ntmps60
 go_upto_region 2 with (first | ((with_reducible refine gate_dst (N := 3) rfl ?_); (try (refine gate_guard (by rfl) ?_; dsimp only)); refine box_event ?hg (N := 3) ?hd (cs := #[.int .i64 a1_0, .string a1_1, .slice A1_2 l1_2.length c1_2, .int .i64 a1_3, .slice A1_4 l1_4.length c1_4, .int .i64 a1_5, .int .u8 a1_6]) (t := 72) ?hr ?_; (case hd => rfl); (case hg => rfl); (case hr => first | (go_simp; done) | (go_simp; rfl)); intro gb159 hg w5 hbox hb; have n0_ := Aside0.mk (below_step (by repeat (first | (with_reducible first | exact HB.out | apply below_alloc | apply pw_below_drewN | apply below_drew1) | exact HB.out)) hb); have n1_ := Aside0.mk (hbox); have n2_ := Aside0.mk ((by rw [hg]; exact (below_size (by repeat (first | (with_reducible first | exact HB.out | apply below_alloc | apply pw_below_drewN | apply below_drew1) | exact HB.out))) : w.heap.size ≤ gb159)); have n3_ := Aside0.mk ((by rw [hg]; exact (below_size (by repeat (first | (with_reducible first | exact HB.out | apply below_alloc | apply pw_below_drewN | apply below_drew1) | exact HB.out))) : w.heap.size ≤ gb159)); clear HB; have HB := n0_; have BK159 := n1_; have GW159 := n2_; have GE159 := n3_; clear n0_ n1_ n2_ n3_; clear hb hbox hg; have hcz6_0 : w5.cell? ⟨gb159, 0, none⟩ = some (.int .i64 a1_0) := (blk_cell BK159.out 0).trans rfl; have hcz6_1 : w5.cell? ⟨gb159, 1, none⟩ = some (.string a1_1) := (blk_cell BK159.out 1).trans rfl; have hcz6_2 : w5.cell? ⟨gb159, 2, none⟩ = some (.slice A1_2 l1_2.length c1_2) := (blk_cell BK159.out 2).trans rfl; have hcz6_3 : w5.cell? ⟨gb159, 3, none⟩ = some (.int .i64 a1_3) := (blk_cell BK159.out 3).trans rfl; have hcz6_4 : w5.cell? ⟨gb159, 4, none⟩ = some (.slice A1_4 l1_4.length c1_4) := (blk_cell BK159.out 4).trans rfl; have hcz6_5 : w5.cell? ⟨gb159, 5, none⟩ = some (.int .i64 a1_5) := (blk_cell BK159.out 5).trans rfl; have hcz6_6 : w5.cell? ⟨gb159, 6, none⟩ = some (.int .u8 a1_6) := (blk_cell BK159.out 6).trans rfl; have hfz6_0 := blk_frozen BK159.out 0; have hfz6_1 := blk_frozen BK159.out 1; have hfz6_2 := blk_frozen BK159.out 2; have hfz6_3 := blk_frozen BK159.out 3; have hfz6_4 := blk_frozen BK159.out 4; have hfz6_5 := blk_frozen BK159.out 5; have hfz6_6 := blk_frozen BK159.out 6) | ((with_reducible refine gate_callee (f := 55) rfl ?_); refine goesL_ (some 9) rfl rfl Tryd.func55 (by kernel_rfl) rfl #[.slice A0 l0.length c0, .string a1_1] rfl (by (try simp only [List.map_toArray, List.map_cons, List.map_nil]); first | done | rfl | (simp only [List.length_drop, List.length_take]; rfl)) ?_; (with_reducible refine (plan_of.calls _ _ l0 a1_1 t160 t161 _ ?side1 ?side2 A3.out).mono ?_); (case side1 => repeat (first | exact (Kd.C_below HR0.out HB.out) | (with_reducible refine Kd.C_alloc ?_ _) | (with_reducible refine Kd.C_drewN ?_ _) | (with_reducible refine Kd.C_drew ?_))); (case side2 => exact HC0.out); rintro e w7 ⟨rfl, hb⟩; refine ⟨_, rfl, ?_⟩; have n0_ := Aside0.mk (blk_below (g := gb159) (o := .cells #[.int .i64 a1_0, .string a1_1, .slice A1_2 l1_2.length c1_2, .int .i64 a1_3, .slice A1_4 l1_4.length c1_4, .int .i64 a1_5, .int .u8 a1_6] 72 (0, 0)) (by (with_reducible repeat (first | refine blk_drewN ?_ _ | refine blk_drew ?_ | refine blk_alloc ?_ _)); exact BK159.out) hb); have n1_ := Aside0.mk (below_step (by repeat (first | (with_reducible first | exact HB.out | apply below_alloc | apply pw_below_drewN | apply below_drew1 | refine below_set ?_ GE159.out) | exact HB.out)) hb); clear BK159; clear HB; have BK159 := n0_; have HB := n1_; clear n0_ n1_; (try clear hb); (try clear hb2); (try clear hk); (try clear hi)))
 (try simp only [Act.put, List.setIfInBounds_toArray, List.set_cons_zero, List.set_cons_succ])
 go_cut [11] (fun v11 wc => ∃ (kq : Nat) (x11_3 : Bool), v11 = .bool x11_3 ∧ Aside0 (plan_refused.j0 kq l0 t160 x11_3 a1_0 a1_1 l1_2 a1_3 l1_4 a1_5 a1_6 = some r) ∧ Aside0 (kq ≤ k) ∧ Aside0 (wc.heap[gb159]? = some (.cells #[.int .i64 a1_0, .string a1_1, (.slice A1_2 l1_2.length c1_2), .int .i64 a1_3, (.slice A1_4 l1_4.length c1_4), .int .i64 a1_5, .int .u8 a1_6] 72 (0, 0))) ∧ Aside0 (Below w.heap.size w wc))
 case first =>
  have H := HC4.out
  clear HC4
  by_cases c8 : a1_0 = 11
  ·rw [if_pos c8] at H
   have c8b0 : (a1_0 == 11) = true := beq_iff_eq.mpr c8
   have c8b1 : (a1_0 != 11) = false := bne_eq_false_iff_eq.mpr c8
   clear c8
   (first | rw [c8b0] | (simp only [i64_w, i32_w]; rw [c8b0]) | rw [c8b1] | skip)
   have H' := Aside0.mk H
   clear H
   have hcz9_0 : w7.cell? ⟨gb159, 0, none⟩ = some (.int .i64 a1_0) := (blk_cell BK159.out 0).trans rfl
   have hcz9_1 : w7.cell? ⟨gb159, 1, none⟩ = some (.string a1_1) := (blk_cell BK159.out 1).trans rfl
   have hcz9_2 : w7.cell? ⟨gb159, 2, none⟩ = some (.slice A1_2 l1_2.length c1_2) := (blk_cell BK159.out 2).trans rfl
   have hcz9_3 : w7.cell? ⟨gb159, 3, none⟩ = some (.int .i64 a1_3) := (blk_cell BK159.out 3).trans rfl
   have hcz9_4 : w7.cell? ⟨gb159, 4, none⟩ = some (.slice A1_4 l1_4.length c1_4) := (blk_cell BK159.out 4).trans rfl
   have hcz9_5 : w7.cell? ⟨gb159, 5, none⟩ = some (.int .i64 a1_5) := (blk_cell BK159.out 5).trans rfl
   have hcz9_6 : w7.cell? ⟨gb159, 6, none⟩ = some (.int .u8 a1_6) := (blk_cell BK159.out 6).trans rfl
   have hfz9_0 := blk_frozen BK159.out 0
   have hfz9_1 := blk_frozen BK159.out 1
   have hfz9_2 := blk_frozen BK159.out 2
   have hfz9_3 := blk_frozen BK159.out 3
   have hfz9_4 := blk_frozen BK159.out 4
   have hfz9_5 := blk_frozen BK159.out 5
   have hfz9_6 := blk_frozen BK159.out 6
   go_wp2
   go_meet
   case rel => exact ⟨_, (!t160), (by first | rfl | (simp only [YtcfcbkcaondfcaaDoorMpHelp.leq_not, YtcfcbkcaondfcaaDoorMpHelp.gtr_less]; done) | (simp; done) | (simp [*]; done)), H', ⟨by first | omega | exact Nat.le_refl _⟩, ⟨by (with_reducible repeat (first | refine blk_drewN ?_ _ | refine blk_drew ?_ | refine blk_alloc ?_ _)); exact BK159.out⟩, ⟨by repeat (first | (with_reducible first | exact HB.out | apply below_alloc | apply pw_below_drewN | apply below_drew1 | refine below_set ?_ GE159.out) | exact HB.out)⟩⟩
  ·rw [if_neg c8] at H
   have c8b0 : (a1_0 == 11) = false := beq_eq_false_iff_ne.mpr c8
   have c8b1 : (a1_0 != 11) = true := bne_iff_ne.mpr c8
   (first | rw [c8b0] | (simp only [i64_w, i32_w]; rw [c8b0]) | rw [c8b1] | skip)
   have H' := Aside0.mk H
   clear H
   have hcz10_0 : w7.cell? ⟨gb159, 0, none⟩ = some (.int .i64 a1_0) := (blk_cell BK159.out 0).trans rfl
   have hcz10_1 : w7.cell? ⟨gb159, 1, none⟩ = some (.string a1_1) := (blk_cell BK159.out 1).trans rfl
   have hcz10_2 : w7.cell? ⟨gb159, 2, none⟩ = some (.slice A1_2 l1_2.length c1_2) := (blk_cell BK159.out 2).trans rfl
   have hcz10_3 : w7.cell? ⟨gb159, 3, none⟩ = some (.int .i64 a1_3) := (blk_cell BK159.out 3).trans rfl
   have hcz10_4 : w7.cell? ⟨gb159, 4, none⟩ = some (.slice A1_4 l1_4.length c1_4) := (blk_cell BK159.out 4).trans rfl
   have hcz10_5 : w7.cell? ⟨gb159, 5, none⟩ = some (.int .i64 a1_5) := (blk_cell BK159.out 5).trans rfl
   have hcz10_6 : w7.cell? ⟨gb159, 6, none⟩ = some (.int .u8 a1_6) := (blk_cell BK159.out 6).trans rfl
   have hfz10_0 := blk_frozen BK159.out 0
   have hfz10_1 := blk_frozen BK159.out 1
   have hfz10_2 := blk_frozen BK159.out 2
   have hfz10_3 := blk_frozen BK159.out 3
   have hfz10_4 := blk_frozen BK159.out 4
   have hfz10_5 := blk_frozen BK159.out 5
   have hfz10_6 := blk_frozen BK159.out 6
   go_wp2
   go_meet
   case rel => exact ⟨_, (false), (by first | rfl | (simp only [YtcfcbkcaondfcaaDoorMpHelp.leq_not, YtcfcbkcaondfcaaDoorMpHelp.gtr_less]; done) | (simp; done) | (simp [*]; done)), H', ⟨by first | omega | exact Nat.le_refl _⟩, ⟨by (with_reducible repeat (first | refine blk_drewN ?_ _ | refine blk_drew ?_ | refine blk_alloc ?_ _)); exact BK159.out⟩, ⟨by repeat (first | (with_reducible first | exact HB.out | apply below_alloc | apply pw_below_drewN | apply below_drew1 | refine below_set ?_ GE159.out) | exact HB.out)⟩⟩
 case rest =>
  clear HC4
  try clear c1
  try clear p2
  try clear c5
  try clear c6
  try clear c8
  try clear c8b0
  try clear c8b1
  try clear hcz10_0
  try clear hcz10_1
  try clear hcz10_2
  try clear hcz10_3
  try clear hcz10_4
  try clear hcz10_5
  try clear hcz10_6
  try clear hcz6_0
  try clear hcz6_1
  try clear hcz6_2
  try clear hcz6_3
  try clear hcz6_4
  try clear hcz6_5
  try clear hcz6_6
  try clear hcz9_0
  try clear hcz9_1
  try clear hcz9_2
  try clear hcz9_3
  try clear hcz9_4
  try clear hcz9_5
  try clear hcz9_6
  try clear hfz10_0
  try clear hfz10_1
  try clear hfz10_2
  try clear hfz10_3
  try clear hfz10_4
  try clear hfz10_5
  try clear hfz10_6
  try clear hfz6_0
  try clear hfz6_1
  try clear hfz6_2
  try clear hfz6_3
  try clear hfz6_4
  try clear hfz6_5
  try clear hfz6_6
  try clear hfz9_0
  try clear hfz9_1
  try clear hfz9_2
  try clear hfz9_3
  try clear hfz9_4
  try clear hfz9_5
  try clear hfz9_6
  obtain ⟨kq, x11_3, rfl, HA, HJ3, BK159, HB⟩ := hcut
  cases kq with
  | zero => exact absurd HA.out (by simp [plan_refused.j0])
  | succ kj3 =>
   have H := HA.out
   clear HA
   simp only [plan_refused.j0] at H
   by_cases c11 : x11_3 = true
   ·subst c11
    have H1 : (some 7) = some r := by rw [if_pos rfl] at H; exact H
    clear H
    have H := H1
    clear H1
    obtain rfl := Option.some.inj H
    go_wp2
    go_ret
    exact ⟨by first | rfl | (simp [errW_none, errW_some] <;> rfl) | (simp [*, errW_none, errW_some] <;> rfl), by repeat (first | (with_reducible first | exact HB.out | apply below_alloc | apply pw_below_drewN | apply below_drew1 | refine below_set ?_ GE159.out) | exact HB.out)⟩
   ·replace c11 := Bool.eq_false_iff.mpr c11
    subst c11
    have H1 : (if a1_0 = 11 then (some 0) else (if a1_0 = 3 then ((member_Right.f a1_1).bind fun t162 => (if t162 = true then (if (l1_2.length : Int) > 65536 then (some 5) else (if t160 = true then (some 0) else (if (l0.length : Int) ≥ 200 then (some 14) else (some 0)))) else (some 6))) else (some 1))) = some r := by rw [if_neg (show ¬ (false = true) by decide)] at H; exact H
    clear H
    have H := H1
    clear H1
    by_cases c12 : a1_0 = 11
    ·rw [if_pos c12] at H
     have c12b0 : (a1_0 == 11) = true := beq_iff_eq.mpr c12
     have c12b1 : (a1_0 != 11) = false := bne_eq_false_iff_eq.mpr c12
     clear c12
     obtain rfl := Option.some.inj H
     have hcz13_0 : wc.cell? ⟨gb159, 0, none⟩ = some (.int .i64 a1_0) := (blk_cell BK159.out 0).trans rfl
     have hcz13_1 : wc.cell? ⟨gb159, 1, none⟩ = some (.string a1_1) := (blk_cell BK159.out 1).trans rfl
     have hcz13_2 : wc.cell? ⟨gb159, 2, none⟩ = some (.slice A1_2 l1_2.length c1_2) := (blk_cell BK159.out 2).trans rfl
     have hcz13_3 : wc.cell? ⟨gb159, 3, none⟩ = some (.int .i64 a1_3) := (blk_cell BK159.out 3).trans rfl
     have hcz13_4 : wc.cell? ⟨gb159, 4, none⟩ = some (.slice A1_4 l1_4.length c1_4) := (blk_cell BK159.out 4).trans rfl
     have hcz13_5 : wc.cell? ⟨gb159, 5, none⟩ = some (.int .i64 a1_5) := (blk_cell BK159.out 5).trans rfl
     have hcz13_6 : wc.cell? ⟨gb159, 6, none⟩ = some (.int .u8 a1_6) := (blk_cell BK159.out 6).trans rfl
     have hfz13_0 := blk_frozen BK159.out 0
     have hfz13_1 := blk_frozen BK159.out 1
     have hfz13_2 := blk_frozen BK159.out 2
     have hfz13_3 := blk_frozen BK159.out 3
     have hfz13_4 := blk_frozen BK159.out 4
     have hfz13_5 := blk_frozen BK159.out 5
     have hfz13_6 := blk_frozen BK159.out 6
     go_wp2
     go_ret
     exact ⟨by first | rfl | (simp [errW_none, errW_some] <;> rfl) | (simp [*, errW_none, errW_some] <;> rfl), by repeat (first | (with_reducible first | exact HB.out | apply below_alloc | apply pw_below_drewN | apply below_drew1 | refine below_set ?_ GE159.out) | exact HB.out)⟩
    ·rw [if_neg c12] at H
     have c12b0 : (a1_0 == 11) = false := beq_eq_false_iff_ne.mpr c12
     have c12b1 : (a1_0 != 11) = true := bne_iff_ne.mpr c12
     by_cases c14 : a1_0 = 3
     ·rw [if_pos c14] at H
      have c14b0 : (a1_0 == 3) = true := beq_iff_eq.mpr c14
      have c14b1 : (a1_0 != 3) = false := bne_eq_false_iff_eq.mpr c14
      clear c14
      replace H := Option.bind_eq_some_iff.mp H
      obtain ⟨t162, A150, H⟩ := H
      replace H : (if t162 = true then (if (l1_2.length : Int) > 65536 then (some 5) else (if t160 = true then (some 0) else (if (l0.length : Int) ≥ 200 then (some 14) else (some 0)))) else (some 6)) = some r := H
      have A15 := Aside0.mk A150
      clear A150
      by_cases c16 : t162 = true
      ·subst c16
       have H1 : (if (l1_2.length : Int) > 65536 then (some 5) else (if t160 = true then (some 0) else (if (l0.length : Int) ≥ 200 then (some 14) else (some 0)))) = some r := by rw [if_pos rfl] at H; exact H
       clear H
       have H := H1
       clear H1
       by_cases c17 : (l1_2.length : Int) > 65536
       ·rw [if_pos c17] at H
        have c17b0 : decide (65536 < (l1_2.length : Int)) = true := decide_eq_true c17
        have c17b1 : decide (65536 < l1_2.length) = true := decide_eq_true (by omega)
        clear c17
        obtain rfl := Option.some.inj H
        have hcz18_0 : wc.cell? ⟨gb159, 0, none⟩ = some (.int .i64 a1_0) := (blk_cell BK159.out 0).trans rfl
        have hcz18_1 : wc.cell? ⟨gb159, 1, none⟩ = some (.string a1_1) := (blk_cell BK159.out 1).trans rfl
        have hcz18_2 : wc.cell? ⟨gb159, 2, none⟩ = some (.slice A1_2 l1_2.length c1_2) := (blk_cell BK159.out 2).trans rfl
        have hcz18_3 : wc.cell? ⟨gb159, 3, none⟩ = some (.int .i64 a1_3) := (blk_cell BK159.out 3).trans rfl
        have hcz18_4 : wc.cell? ⟨gb159, 4, none⟩ = some (.slice A1_4 l1_4.length c1_4) := (blk_cell BK159.out 4).trans rfl
        have hcz18_5 : wc.cell? ⟨gb159, 5, none⟩ = some (.int .i64 a1_5) := (blk_cell BK159.out 5).trans rfl
        have hcz18_6 : wc.cell? ⟨gb159, 6, none⟩ = some (.int .u8 a1_6) := (blk_cell BK159.out 6).trans rfl
        have hfz18_0 := blk_frozen BK159.out 0
        have hfz18_1 := blk_frozen BK159.out 1
        have hfz18_2 := blk_frozen BK159.out 2
        have hfz18_3 := blk_frozen BK159.out 3
        have hfz18_4 := blk_frozen BK159.out 4
        have hfz18_5 := blk_frozen BK159.out 5
        have hfz18_6 := blk_frozen BK159.out 6
        go_wp2_with (first | ((with_reducible refine gate_callee (f := 25) rfl ?_); refine goesL_ (some 30) rfl rfl Tryd.func25 (by kernel_rfl) rfl #[.string a1_1] rfl (by (try simp only [List.map_toArray, List.map_cons, List.map_nil]); first | done | rfl | (simp only [List.length_drop, List.length_take]; rfl)) ?_; (with_reducible refine (member_Right.calls a1_1 true _ A15.out).mono ?_); rintro e w19 ⟨rfl, hb⟩; refine ⟨_, rfl, ?_⟩; have n0_ := Aside0.mk (blk_below (g := gb159) (o := .cells #[.int .i64 a1_0, .string a1_1, .slice A1_2 l1_2.length c1_2, .int .i64 a1_3, .slice A1_4 l1_4.length c1_4, .int .i64 a1_5, .int .u8 a1_6] 72 (0, 0)) (by (with_reducible repeat (first | refine blk_drewN ?_ _ | refine blk_drew ?_ | refine blk_alloc ?_ _)); exact BK159.out) hb); have n1_ := Aside0.mk (below_step (by repeat (first | (with_reducible first | exact HB.out | apply below_alloc | apply pw_below_drewN | apply below_drew1 | refine below_set ?_ GE159.out) | exact HB.out)) hb); clear BK159; clear HB; have BK159 := n0_; have HB := n1_; clear n0_ n1_; (try clear hb); (try clear hb2); (try clear hk); (try clear hi); have hcz20_0 : w19.cell? ⟨gb159, 0, none⟩ = some (.int .i64 a1_0) := (blk_cell BK159.out 0).trans rfl; have hcz20_1 : w19.cell? ⟨gb159, 1, none⟩ = some (.string a1_1) := (blk_cell BK159.out 1).trans rfl; have hcz20_2 : w19.cell? ⟨gb159, 2, none⟩ = some (.slice A1_2 l1_2.length c1_2) := (blk_cell BK159.out 2).trans rfl; have hcz20_3 : w19.cell? ⟨gb159, 3, none⟩ = some (.int .i64 a1_3) := (blk_cell BK159.out 3).trans rfl; have hcz20_4 : w19.cell? ⟨gb159, 4, none⟩ = some (.slice A1_4 l1_4.length c1_4) := (blk_cell BK159.out 4).trans rfl; have hcz20_5 : w19.cell? ⟨gb159, 5, none⟩ = some (.int .i64 a1_5) := (blk_cell BK159.out 5).trans rfl; have hcz20_6 : w19.cell? ⟨gb159, 6, none⟩ = some (.int .u8 a1_6) := (blk_cell BK159.out 6).trans rfl; have hfz20_0 := blk_frozen BK159.out 0; have hfz20_1 := blk_frozen BK159.out 1; have hfz20_2 := blk_frozen BK159.out 2; have hfz20_3 := blk_frozen BK159.out 3; have hfz20_4 := blk_frozen BK159.out 4; have hfz20_5 := blk_frozen BK159.out 5; have hfz20_6 := blk_frozen BK159.out 6))
        go_ret
        exact ⟨by first | rfl | (simp [errW_none, errW_some] <;> rfl) | (simp [*, errW_none, errW_some] <;> rfl), by repeat (first | (with_reducible first | exact HB.out | apply below_alloc | apply pw_below_drewN | apply below_drew1 | refine below_set ?_ GE159.out) | exact HB.out)⟩
       ·rw [if_neg c17] at H
        have c17b0 : decide (65536 < (l1_2.length : Int)) = false := decide_eq_false c17
        have c17b1 : decide (65536 < l1_2.length) = false := decide_eq_false (by omega)
        clear c17
        by_cases c21 : t160 = true
        ·subst c21
         have H1 : (some 0) = some r := by rw [if_pos rfl] at H; exact H
         clear H
         have H := H1
         clear H1
         obtain rfl := Option.some.inj H
         have hcz22_0 : wc.cell? ⟨gb159, 0, none⟩ = some (.int .i64 a1_0) := (blk_cell BK159.out 0).trans rfl
         have hcz22_1 : wc.cell? ⟨gb159, 1, none⟩ = some (.string a1_1) := (blk_cell BK159.out 1).trans rfl
         have hcz22_2 : wc.cell? ⟨gb159, 2, none⟩ = some (.slice A1_2 l1_2.length c1_2) := (blk_cell BK159.out 2).trans rfl
         have hcz22_3 : wc.cell? ⟨gb159, 3, none⟩ = some (.int .i64 a1_3) := (blk_cell BK159.out 3).trans rfl
         have hcz22_4 : wc.cell? ⟨gb159, 4, none⟩ = some (.slice A1_4 l1_4.length c1_4) := (blk_cell BK159.out 4).trans rfl
         have hcz22_5 : wc.cell? ⟨gb159, 5, none⟩ = some (.int .i64 a1_5) := (blk_cell BK159.out 5).trans rfl
         have hcz22_6 : wc.cell? ⟨gb159, 6, none⟩ = some (.int .u8 a1_6) := (blk_cell BK159.out 6).trans rfl
         have hfz22_0 := blk_frozen BK159.out 0
         have hfz22_1 := blk_frozen BK159.out 1
         have hfz22_2 := blk_frozen BK159.out 2
         have hfz22_3 := blk_frozen BK159.out 3
         have hfz22_4 := blk_frozen BK159.out 4
         have hfz22_5 := blk_frozen BK159.out 5
         have hfz22_6 := blk_frozen BK159.out 6
         go_wp2_with (first | ((with_reducible refine gate_callee (f := 25) rfl ?_); refine goesL_ (some 30) rfl rfl Tryd.func25 (by kernel_rfl) rfl #[.string a1_1] rfl (by (try simp only [List.map_toArray, List.map_cons, List.map_nil]); first | done | rfl | (simp only [List.length_drop, List.length_take]; rfl)) ?_; (with_reducible refine (member_Right.calls a1_1 true _ A15.out).mono ?_); rintro e w23 ⟨rfl, hb⟩; refine ⟨_, rfl, ?_⟩; have n0_ := Aside0.mk (blk_below (g := gb159) (o := .cells #[.int .i64 a1_0, .string a1_1, .slice A1_2 l1_2.length c1_2, .int .i64 a1_3, .slice A1_4 l1_4.length c1_4, .int .i64 a1_5, .int .u8 a1_6] 72 (0, 0)) (by (with_reducible repeat (first | refine blk_drewN ?_ _ | refine blk_drew ?_ | refine blk_alloc ?_ _)); exact BK159.out) hb); have n1_ := Aside0.mk (below_step (by repeat (first | (with_reducible first | exact HB.out | apply below_alloc | apply pw_below_drewN | apply below_drew1 | refine below_set ?_ GE159.out) | exact HB.out)) hb); clear BK159; clear HB; have BK159 := n0_; have HB := n1_; clear n0_ n1_; (try clear hb); (try clear hb2); (try clear hk); (try clear hi); have hcz24_0 : w23.cell? ⟨gb159, 0, none⟩ = some (.int .i64 a1_0) := (blk_cell BK159.out 0).trans rfl; have hcz24_1 : w23.cell? ⟨gb159, 1, none⟩ = some (.string a1_1) := (blk_cell BK159.out 1).trans rfl; have hcz24_2 : w23.cell? ⟨gb159, 2, none⟩ = some (.slice A1_2 l1_2.length c1_2) := (blk_cell BK159.out 2).trans rfl; have hcz24_3 : w23.cell? ⟨gb159, 3, none⟩ = some (.int .i64 a1_3) := (blk_cell BK159.out 3).trans rfl; have hcz24_4 : w23.cell? ⟨gb159, 4, none⟩ = some (.slice A1_4 l1_4.length c1_4) := (blk_cell BK159.out 4).trans rfl; have hcz24_5 : w23.cell? ⟨gb159, 5, none⟩ = some (.int .i64 a1_5) := (blk_cell BK159.out 5).trans rfl; have hcz24_6 : w23.cell? ⟨gb159, 6, none⟩ = some (.int .u8 a1_6) := (blk_cell BK159.out 6).trans rfl; have hfz24_0 := blk_frozen BK159.out 0; have hfz24_1 := blk_frozen BK159.out 1; have hfz24_2 := blk_frozen BK159.out 2; have hfz24_3 := blk_frozen BK159.out 3; have hfz24_4 := blk_frozen BK159.out 4; have hfz24_5 := blk_frozen BK159.out 5; have hfz24_6 := blk_frozen BK159.out 6))
         go_ret
         exact ⟨by first | rfl | (simp [errW_none, errW_some] <;> rfl) | (simp [*, errW_none, errW_some] <;> rfl), by repeat (first | (with_reducible first | exact HB.out | apply below_alloc | apply pw_below_drewN | apply below_drew1 | refine below_set ?_ GE159.out) | exact HB.out)⟩
        ·replace c21 := Bool.eq_false_iff.mpr c21
         subst c21
         have H1 : (if (l0.length : Int) ≥ 200 then (some 14) else (some 0)) = some r := by rw [if_neg (show ¬ (false = true) by decide)] at H; exact H
         clear H
         have H := H1
         clear H1
         by_cases c25 : (l0.length : Int) ≥ 200
         ·rw [if_pos c25] at H
          have c25b0 : decide (200 ≤ (l0.length : Int)) = true := decide_eq_true c25
          have c25b1 : decide (200 ≤ l0.length) = true := decide_eq_true (by omega)
          clear c25
          obtain rfl := Option.some.inj H
          have hcz26_0 : wc.cell? ⟨gb159, 0, none⟩ = some (.int .i64 a1_0) := (blk_cell BK159.out 0).trans rfl
          have hcz26_1 : wc.cell? ⟨gb159, 1, none⟩ = some (.string a1_1) := (blk_cell BK159.out 1).trans rfl
          have hcz26_2 : wc.cell? ⟨gb159, 2, none⟩ = some (.slice A1_2 l1_2.length c1_2) := (blk_cell BK159.out 2).trans rfl
          have hcz26_3 : wc.cell? ⟨gb159, 3, none⟩ = some (.int .i64 a1_3) := (blk_cell BK159.out 3).trans rfl
          have hcz26_4 : wc.cell? ⟨gb159, 4, none⟩ = some (.slice A1_4 l1_4.length c1_4) := (blk_cell BK159.out 4).trans rfl
          have hcz26_5 : wc.cell? ⟨gb159, 5, none⟩ = some (.int .i64 a1_5) := (blk_cell BK159.out 5).trans rfl
          have hcz26_6 : wc.cell? ⟨gb159, 6, none⟩ = some (.int .u8 a1_6) := (blk_cell BK159.out 6).trans rfl
          have hfz26_0 := blk_frozen BK159.out 0
          have hfz26_1 := blk_frozen BK159.out 1
          have hfz26_2 := blk_frozen BK159.out 2
          have hfz26_3 := blk_frozen BK159.out 3
          have hfz26_4 := blk_frozen BK159.out 4
          have hfz26_5 := blk_frozen BK159.out 5
          have hfz26_6 := blk_frozen BK159.out 6
          go_wp2_with (first | ((with_reducible refine gate_callee (f := 25) rfl ?_); refine goesL_ (some 30) rfl rfl Tryd.func25 (by kernel_rfl) rfl #[.string a1_1] rfl (by (try simp only [List.map_toArray, List.map_cons, List.map_nil]); first | done | rfl | (simp only [List.length_drop, List.length_take]; rfl)) ?_; (with_reducible refine (member_Right.calls a1_1 true _ A15.out).mono ?_); rintro e w27 ⟨rfl, hb⟩; refine ⟨_, rfl, ?_⟩; have n0_ := Aside0.mk (blk_below (g := gb159) (o := .cells #[.int .i64 a1_0, .string a1_1, .slice A1_2 l1_2.length c1_2, .int .i64 a1_3, .slice A1_4 l1_4.length c1_4, .int .i64 a1_5, .int .u8 a1_6] 72 (0, 0)) (by (with_reducible repeat (first | refine blk_drewN ?_ _ | refine blk_drew ?_ | refine blk_alloc ?_ _)); exact BK159.out) hb); have n1_ := Aside0.mk (below_step (by repeat (first | (with_reducible first | exact HB.out | apply below_alloc | apply pw_below_drewN | apply below_drew1 | refine below_set ?_ GE159.out) | exact HB.out)) hb); clear BK159; clear HB; have BK159 := n0_; have HB := n1_; clear n0_ n1_; (try clear hb); (try clear hb2); (try clear hk); (try clear hi); have hcz28_0 : w27.cell? ⟨gb159, 0, none⟩ = some (.int .i64 a1_0) := (blk_cell BK159.out 0).trans rfl; have hcz28_1 : w27.cell? ⟨gb159, 1, none⟩ = some (.string a1_1) := (blk_cell BK159.out 1).trans rfl; have hcz28_2 : w27.cell? ⟨gb159, 2, none⟩ = some (.slice A1_2 l1_2.length c1_2) := (blk_cell BK159.out 2).trans rfl; have hcz28_3 : w27.cell? ⟨gb159, 3, none⟩ = some (.int .i64 a1_3) := (blk_cell BK159.out 3).trans rfl; have hcz28_4 : w27.cell? ⟨gb159, 4, none⟩ = some (.slice A1_4 l1_4.length c1_4) := (blk_cell BK159.out 4).trans rfl; have hcz28_5 : w27.cell? ⟨gb159, 5, none⟩ = some (.int .i64 a1_5) := (blk_cell BK159.out 5).trans rfl; have hcz28_6 : w27.cell? ⟨gb159, 6, none⟩ = some (.int .u8 a1_6) := (blk_cell BK159.out 6).trans rfl; have hfz28_0 := blk_frozen BK159.out 0; have hfz28_1 := blk_frozen BK159.out 1; have hfz28_2 := blk_frozen BK159.out 2; have hfz28_3 := blk_frozen BK159.out 3; have hfz28_4 := blk_frozen BK159.out 4; have hfz28_5 := blk_frozen BK159.out 5; have hfz28_6 := blk_frozen BK159.out 6))
          go_ret
          exact ⟨by first | rfl | (simp [errW_none, errW_some] <;> rfl) | (simp [*, errW_none, errW_some] <;> rfl), by repeat (first | (with_reducible first | exact HB.out | apply below_alloc | apply pw_below_drewN | apply below_drew1 | refine below_set ?_ GE159.out) | exact HB.out)⟩
         ·rw [if_neg c25] at H
          have c25b0 : decide (200 ≤ (l0.length : Int)) = false := decide_eq_false c25
          have c25b1 : decide (200 ≤ l0.length) = false := decide_eq_false (by omega)
          clear c25
          obtain rfl := Option.some.inj H
          have hcz29_0 : wc.cell? ⟨gb159, 0, none⟩ = some (.int .i64 a1_0) := (blk_cell BK159.out 0).trans rfl
          have hcz29_1 : wc.cell? ⟨gb159, 1, none⟩ = some (.string a1_1) := (blk_cell BK159.out 1).trans rfl
          have hcz29_2 : wc.cell? ⟨gb159, 2, none⟩ = some (.slice A1_2 l1_2.length c1_2) := (blk_cell BK159.out 2).trans rfl
          have hcz29_3 : wc.cell? ⟨gb159, 3, none⟩ = some (.int .i64 a1_3) := (blk_cell BK159.out 3).trans rfl
          have hcz29_4 : wc.cell? ⟨gb159, 4, none⟩ = some (.slice A1_4 l1_4.length c1_4) := (blk_cell BK159.out 4).trans rfl
          have hcz29_5 : wc.cell? ⟨gb159, 5, none⟩ = some (.int .i64 a1_5) := (blk_cell BK159.out 5).trans rfl
          have hcz29_6 : wc.cell? ⟨gb159, 6, none⟩ = some (.int .u8 a1_6) := (blk_cell BK159.out 6).trans rfl
          have hfz29_0 := blk_frozen BK159.out 0
          have hfz29_1 := blk_frozen BK159.out 1
          have hfz29_2 := blk_frozen BK159.out 2
          have hfz29_3 := blk_frozen BK159.out 3
          have hfz29_4 := blk_frozen BK159.out 4
          have hfz29_5 := blk_frozen BK159.out 5
          have hfz29_6 := blk_frozen BK159.out 6
          go_wp2_with (first | ((with_reducible refine gate_callee (f := 25) rfl ?_); refine goesL_ (some 30) rfl rfl Tryd.func25 (by kernel_rfl) rfl #[.string a1_1] rfl (by (try simp only [List.map_toArray, List.map_cons, List.map_nil]); first | done | rfl | (simp only [List.length_drop, List.length_take]; rfl)) ?_; (with_reducible refine (member_Right.calls a1_1 true _ A15.out).mono ?_); rintro e w30 ⟨rfl, hb⟩; refine ⟨_, rfl, ?_⟩; have n0_ := Aside0.mk (blk_below (g := gb159) (o := .cells #[.int .i64 a1_0, .string a1_1, .slice A1_2 l1_2.length c1_2, .int .i64 a1_3, .slice A1_4 l1_4.length c1_4, .int .i64 a1_5, .int .u8 a1_6] 72 (0, 0)) (by (with_reducible repeat (first | refine blk_drewN ?_ _ | refine blk_drew ?_ | refine blk_alloc ?_ _)); exact BK159.out) hb); have n1_ := Aside0.mk (below_step (by repeat (first | (with_reducible first | exact HB.out | apply below_alloc | apply pw_below_drewN | apply below_drew1 | refine below_set ?_ GE159.out) | exact HB.out)) hb); clear BK159; clear HB; have BK159 := n0_; have HB := n1_; clear n0_ n1_; (try clear hb); (try clear hb2); (try clear hk); (try clear hi); have hcz31_0 : w30.cell? ⟨gb159, 0, none⟩ = some (.int .i64 a1_0) := (blk_cell BK159.out 0).trans rfl; have hcz31_1 : w30.cell? ⟨gb159, 1, none⟩ = some (.string a1_1) := (blk_cell BK159.out 1).trans rfl; have hcz31_2 : w30.cell? ⟨gb159, 2, none⟩ = some (.slice A1_2 l1_2.length c1_2) := (blk_cell BK159.out 2).trans rfl; have hcz31_3 : w30.cell? ⟨gb159, 3, none⟩ = some (.int .i64 a1_3) := (blk_cell BK159.out 3).trans rfl; have hcz31_4 : w30.cell? ⟨gb159, 4, none⟩ = some (.slice A1_4 l1_4.length c1_4) := (blk_cell BK159.out 4).trans rfl; have hcz31_5 : w30.cell? ⟨gb159, 5, none⟩ = some (.int .i64 a1_5) := (blk_cell BK159.out 5).trans rfl; have hcz31_6 : w30.cell? ⟨gb159, 6, none⟩ = some (.int .u8 a1_6) := (blk_cell BK159.out 6).trans rfl; have hfz31_0 := blk_frozen BK159.out 0; have hfz31_1 := blk_frozen BK159.out 1; have hfz31_2 := blk_frozen BK159.out 2; have hfz31_3 := blk_frozen BK159.out 3; have hfz31_4 := blk_frozen BK159.out 4; have hfz31_5 := blk_frozen BK159.out 5; have hfz31_6 := blk_frozen BK159.out 6))
          go_ret
          exact ⟨by first | rfl | (simp [errW_none, errW_some] <;> rfl) | (simp [*, errW_none, errW_some] <;> rfl), by repeat (first | (with_reducible first | exact HB.out | apply below_alloc | apply pw_below_drewN | apply below_drew1 | refine below_set ?_ GE159.out) | exact HB.out)⟩
      ·replace c16 := Bool.eq_false_iff.mpr c16
       subst c16
       have H1 : (some 6) = some r := by rw [if_neg (show ¬ (false = true) by decide)] at H; exact H
       clear H
       have H := H1
       clear H1
       obtain rfl := Option.some.inj H
       have hcz32_0 : wc.cell? ⟨gb159, 0, none⟩ = some (.int .i64 a1_0) := (blk_cell BK159.out 0).trans rfl
       have hcz32_1 : wc.cell? ⟨gb159, 1, none⟩ = some (.string a1_1) := (blk_cell BK159.out 1).trans rfl
       have hcz32_2 : wc.cell? ⟨gb159, 2, none⟩ = some (.slice A1_2 l1_2.length c1_2) := (blk_cell BK159.out 2).trans rfl
       have hcz32_3 : wc.cell? ⟨gb159, 3, none⟩ = some (.int .i64 a1_3) := (blk_cell BK159.out 3).trans rfl
       have hcz32_4 : wc.cell? ⟨gb159, 4, none⟩ = some (.slice A1_4 l1_4.length c1_4) := (blk_cell BK159.out 4).trans rfl
       have hcz32_5 : wc.cell? ⟨gb159, 5, none⟩ = some (.int .i64 a1_5) := (blk_cell BK159.out 5).trans rfl
       have hcz32_6 : wc.cell? ⟨gb159, 6, none⟩ = some (.int .u8 a1_6) := (blk_cell BK159.out 6).trans rfl
       have hfz32_0 := blk_frozen BK159.out 0
       have hfz32_1 := blk_frozen BK159.out 1
       have hfz32_2 := blk_frozen BK159.out 2
       have hfz32_3 := blk_frozen BK159.out 3
       have hfz32_4 := blk_frozen BK159.out 4
       have hfz32_5 := blk_frozen BK159.out 5
       have hfz32_6 := blk_frozen BK159.out 6
       go_wp2_with (first | ((with_reducible refine gate_callee (f := 25) rfl ?_); refine goesL_ (some 30) rfl rfl Tryd.func25 (by kernel_rfl) rfl #[.string a1_1] rfl (by (try simp only [List.map_toArray, List.map_cons, List.map_nil]); first | done | rfl | (simp only [List.length_drop, List.length_take]; rfl)) ?_; (with_reducible refine (member_Right.calls a1_1 false _ A15.out).mono ?_); rintro e w33 ⟨rfl, hb⟩; refine ⟨_, rfl, ?_⟩; have n0_ := Aside0.mk (blk_below (g := gb159) (o := .cells #[.int .i64 a1_0, .string a1_1, .slice A1_2 l1_2.length c1_2, .int .i64 a1_3, .slice A1_4 l1_4.length c1_4, .int .i64 a1_5, .int .u8 a1_6] 72 (0, 0)) (by (with_reducible repeat (first | refine blk_drewN ?_ _ | refine blk_drew ?_ | refine blk_alloc ?_ _)); exact BK159.out) hb); have n1_ := Aside0.mk (below_step (by repeat (first | (with_reducible first | exact HB.out | apply below_alloc | apply pw_below_drewN | apply below_drew1 | refine below_set ?_ GE159.out) | exact HB.out)) hb); clear BK159; clear HB; have BK159 := n0_; have HB := n1_; clear n0_ n1_; (try clear hb); (try clear hb2); (try clear hk); (try clear hi)))
       go_ret
       exact ⟨by first | rfl | (simp [errW_none, errW_some] <;> rfl) | (simp [*, errW_none, errW_some] <;> rfl), by repeat (first | (with_reducible first | exact HB.out | apply below_alloc | apply pw_below_drewN | apply below_drew1 | refine below_set ?_ GE159.out) | exact HB.out)⟩
     ·rw [if_neg c14] at H
      have c14b0 : (a1_0 == 3) = false := beq_eq_false_iff_ne.mpr c14
      have c14b1 : (a1_0 != 3) = true := bne_iff_ne.mpr c14
      obtain rfl := Option.some.inj H
      have hcz34_0 : wc.cell? ⟨gb159, 0, none⟩ = some (.int .i64 a1_0) := (blk_cell BK159.out 0).trans rfl
      have hcz34_1 : wc.cell? ⟨gb159, 1, none⟩ = some (.string a1_1) := (blk_cell BK159.out 1).trans rfl
      have hcz34_2 : wc.cell? ⟨gb159, 2, none⟩ = some (.slice A1_2 l1_2.length c1_2) := (blk_cell BK159.out 2).trans rfl
      have hcz34_3 : wc.cell? ⟨gb159, 3, none⟩ = some (.int .i64 a1_3) := (blk_cell BK159.out 3).trans rfl
      have hcz34_4 : wc.cell? ⟨gb159, 4, none⟩ = some (.slice A1_4 l1_4.length c1_4) := (blk_cell BK159.out 4).trans rfl
      have hcz34_5 : wc.cell? ⟨gb159, 5, none⟩ = some (.int .i64 a1_5) := (blk_cell BK159.out 5).trans rfl
      have hcz34_6 : wc.cell? ⟨gb159, 6, none⟩ = some (.int .u8 a1_6) := (blk_cell BK159.out 6).trans rfl
      have hfz34_0 := blk_frozen BK159.out 0
      have hfz34_1 := blk_frozen BK159.out 1
      have hfz34_2 := blk_frozen BK159.out 2
      have hfz34_3 := blk_frozen BK159.out 3
      have hfz34_4 := blk_frozen BK159.out 4
      have hfz34_5 := blk_frozen BK159.out 5
      have hfz34_6 := blk_frozen BK159.out 6
      go_wp2
      go_ret
      exact ⟨by first | rfl | (simp [errW_none, errW_some] <;> rfl) | (simp [*, errW_none, errW_some] <;> rfl), by repeat (first | (with_reducible first | exact HB.out | apply below_alloc | apply pw_below_drewN | apply below_drew1 | refine below_set ?_ GE159.out) | exact HB.out)⟩

/-! ### model_copied: function 79 (told by hand) -/
def model_copied.f (l0 : List S45) : Option (List S45) := if l0.length ≤ 1000000 ∧ (l0.all fun y => decide (y.f1.length ≤ 140737488355328)) = true then some l0 else none
theorem model_copied.info : (Tryd.prog.info? 45).map (fun i => (i.zero, i.size, i.bytes)) = some (some (.agg #[.string ByteArray.empty, .slice none 0 0]), 2, 40) := by kernel_rfl
/-- What a region holds: a file's own copy. -/
abbrev model_copied.Bx (gb : Nat) (n : ByteArray) (v : Value) (W : World) : Prop := W.heap[gb]? = some (.cells #[.string n, v] 45 (0, 0)) ∧ W.cell? ⟨gb, 0, none⟩ = some (.string n) ∧ W.cell? ⟨gb, 1, none⟩ = some v
theorem model_copied.bx {gb : Nat} {n : ByteArray} {v : Value} {W : World} (h : W.heap[gb]? = some (.cells #[.string n, v] 45 (0, 0))) : model_copied.Bx gb n v W := ⟨h, by rw [cell_of_row W gb 0 _ _ (0, 0) h]; rfl, by rw [cell_of_row W gb 1 _ _ (0, 0) h]; rfl⟩
theorem model_copied.elem (y : S45) {W W' : World} {A2 : Option Addr} {c2 : Nat} (h : Kd.R (Kd.int .u8) 5 W' W.heap.size (fun _ => True) (.slice A2 y.f1.length c2) y.f1) : Kd.FK k45 W' (fun q => W.heap.size ≤ q) y [.string y.f0, .slice A2 y.f1.length c2] :=
  k45_mkF _ _ y (Kd.R_reads' h).2.1 (Kd.R_F (Kd.R_mono (Kd.R_bound h) (fun q hq => hq.2.1)))
set_option maxRecDepth 100000 in
set_option maxHeartbeats 4000000 in
theorem model_copied.go (A0 : Option Addr) (c0 : Nat) (l0 : List (S45)) (w : World) (hr0 : Kd.C k45 w A0 l0.length l0) (hlen : l0.length ≤ 1000000) (hd : ∀ y ∈ l0, y.f1.length ≤ 140737488355328) :
    Calls Tryd.prog 79 #[.slice A0 l0.length c0] w fun e w' => ∃ g : Nat, e = .returned (.slice (some ⟨g, 0, none⟩) l0.length l0.length) ∧ w.heap.size ≤ g ∧ Kd.N k45 45 w' w.heap.size (fun k_ => (w.heap.size ≤ k_)) (.slice (some ⟨g, 0, none⟩) l0.length l0.length) l0 ∧ Below w.heap.size w w' := by
  have HL := Aside0.mk hlen
  have hel : ∀ i, (hi : i < l0.length) → ∃ ad A1 c1, A0 = some ad ∧ l0[i].f1.length ≤ c1 ∧ ∀ W, Below w.heap.size w W → W.cell? (ad.add (i * 2)) = some (.string l0[i].f0) ∧ W.cell? ⟨(ad.add (i * 2)).block, (ad.add (i * 2)).off + 1, none⟩ = some (.slice A1 l0[i].f1.length c1) ∧ (Kd.int .u8).C W A1 l0[i].f1.length l0[i].f1 := fun i hi => by
    obtain ⟨ad, A1, c1, e, h1, h2, h3, h4⟩ := at_T45 hr0 (i : Int) (by omega) (by omega)
    have er : rd_T45 l0 (i : Int) = l0[i] := by
      simp [rd_T45, hi]
    rw [er, Int.toNat_natCast] at h1
    rw [er, Int.toNat_natCast] at h2
    rw [er] at h3 h4
    have hlt : (ad.add (i * 2)).block < w.heap.size := World.block_lt_of_cell? w _ h1
    exact ⟨ad, A1, c1, e, h3, fun W hW => ⟨(hW.cell (p := ad.add (i * 2)) hlt).trans h1, (hW.cell (p := ⟨(ad.add (i * 2)).block, (ad.add (i * 2)).off + 1, none⟩) hlt).trans h2, Kd.C_below h4 hW⟩⟩
  have HE := Aside0.mk hel
  have HD := Aside0.mk hd
  have hlz : (l0.length : Int) ≤ 1000000 := by omega
  obtain ⟨i0, hi, hzz⟩ := Option.map_eq_some_iff.1 model_copied.info
  simp only [Prod.mk.injEq] at hzz
  obtain ⟨hz0, hz1, hz2⟩ := hzz
  have hmk : ∀ W, (Instr.makeSlice 36 (.int .i64 0) (.int .i64 (l0.length : Int))).run Tryd.prog W = .ok (.slice (some ⟨W.heap.size, 0, none⟩) 0 l0.length) (W.alloc (.cells (madeCells (Value.agg #[.string ByteArray.empty, .slice none 0 0]).cells (l0.length * 2)) 45)) := fun W => by
    have := run_make (P := Tryd.prog) (w := W) 36 45 i0 _ Tryd.underlying36 hi hz0 .i64 .i64 0 (l0.length : Int) (by omega) (by omega) (by rw [hz2]; omega) (by omega)
    rw [hz1] at this
    simpa using this
  have HI := Aside0.mk hi
  have HZ1 := Aside0.mk hz1
  have hN0 : Kd.N k45 45 (w.alloc (.cells (madeCells (Value.agg #[.string ByteArray.empty, .slice none 0 0]).cells (l0.length * 2)) 45)) w.heap.size (fun k_ => w.heap.size ≤ k_) (.slice (some ⟨w.heap.size, 0, none⟩) 0 l0.length) [] :=
    ⟨fun k hk => by have : w.heap.size = k := by simpa [Value.ownBlock] using hk
                    omega, [], rfl, ⟨fun k hk => hk.symm, [], World.ownsRow_made w _ l0.length (Nat.le_refl _) (by simp only [maxLen]; omega) (by rw [size_madeCells]; rfl), Reps.none _ _⟩, fun j x c hx => by simp at hx⟩
  have HN0 := Aside0.mk hN0
  have HB0 := Aside0.mk (below_alloc (Below.refl w.heap.size w) (.cells (madeCells (Value.agg #[.string ByteArray.empty, .slice none 0 0]).cells (l0.length * 2)) 45))
  clear hel hd hr0 hi hz0 hz1 hz2 hN0
  go_enter Tryd.func79, Tryd.ntmps79
  generalize hmc : Obj.cells (madeCells (Value.agg #[.string ByteArray.empty, .slice none 0 0]).cells (l0.length * 2)) 45 = mc at *
  go_wp2_with fail
  generalize hgg : w.heap.size = g at *
  have HGG := Aside0.mk hgg
  clear hgg hmc
  go_loopw [3, 11] (fun s3 s11 w' => ∃ k : Nat, k ≤ l0.length ∧ s3 = .slice (some ⟨g, 0, none⟩) k l0.length ∧ s11 = .int .i64 k ∧ Aside0 (Below g w w') ∧ Aside0 (Kd.N k45 45 w' g (fun k_ => g ≤ k_) (.slice (some ⟨g, 0, none⟩) k l0.length) (l0.take k))) (fun _ i _ => l0.length - (intOf i).toNat)
  case atStart => exact ⟨0, Nat.zero_le _, rfl, rfl, HB0, HN0⟩
  case round =>
    obtain ⟨k, hk, rfl, rfl, HB, HO⟩ := hrel
    by_cases hlt : k < l0.length
    · obtain ⟨ad, A1, c1, rfl, hle, hcs⟩ := HE.out k hlt
      obtain ⟨hx0, hx1, hC⟩ := hcs _ HB.out
      have HCS := Aside0.mk hcs
      have htk : l0.take (k + 1) = l0.take k ++ [l0[k]] := List.take_succ_eq_append_getElem hlt
      have HTK := Aside0.mk htk
      have hdk := HD.out l0[k] (List.getElem_mem hlt)
      have HDK := Aside0.mk hdk
      have hltz : (k : Int) < (l0.length : Int) := by omega
      clear hcs htk hdk hC
      generalize l0[k] = y at *
      go_wp2_with fail
      have hG0 : (wr.alloc (.cells #[.string y.f0, .slice A1 y.f1.length c1] 45)).heap[wr.heap.size]? = some (.cells #[.string y.f0, .slice A1 y.f1.length c1] 45 (0, 0)) := YtcfcbkcaondfcaaDoorMpHelp.heap_new wr _
      have hB0 : Below g w (wr.alloc (.cells #[.string y.f0, .slice A1 y.f1.length c1] 45)) := HGG.out ▸ below_alloc (HGG.out.symm ▸ HB.out) _
      have hN0 := Kd.N_alloc HO.out (.cells #[.string y.f0, .slice A1 y.f1.length c1] 45)
      have hC0 := (HCS.out _ hB0).2.2
      have hgl : g < wr.heap.size := Kd.N_lt HO.out g rfl
      have hbl : wr.heap.size < (wr.alloc (.cells #[.string y.f0, .slice A1 y.f1.length c1] 45)).heap.size := by rw [YtcfcbkcaondfcaaDoorMpHelp.size_new]; omega
      generalize wr.alloc (.cells #[.string y.f0, .slice A1 y.f1.length c1] 45) = W0 at hG0 hB0 hN0 hC0 hbl ⊢
      generalize wr.heap.size = gb at *
      have HG0 := Aside0.mk hG0
      have HB1 := Aside0.mk hB0
      have HN1 := Aside0.mk hN0
      have HC1 := Aside0.mk hC0
      have HBL := Aside0.mk hbl
      have HGL := Aside0.mk hgl
      have hcl := fun W (hb : Below W0.heap.size W0 W) => slices_Clone_byte_byte.calls A1 c1 y.f1 y.f1 W (Kd.C_below HC1.out hb) hle (by unfold slices_Clone_byte_byte.f; rw [if_pos HDK.out])
      have HCL := Aside0.mk hcl
      clear hG0 hB0 hN0 hC0 hbl hgl hcl hx0 hx1
      have hgW : g ≤ W0.heap.size := by have := HBL.out; have := HGL.out; omega
      go_region_held3 (fun W => W.heap[gb]? = some (.cells #[.string y.f0, .slice A1 y.f1.length c1] 45 (0, 0)) ∧ W.cell? ⟨gb, 0, none⟩ = some (.string y.f0) ∧ W.cell? ⟨gb, 1, none⟩ = some (.slice A1 y.f1.length c1)) ((first | (with_reducible exact model_copied.bx (blk_drew HG0.out)) | (with_reducible exact model_copied.bx (blk_below (blk_drew HG0.out) hb3)) | (with_reducible exact model_copied.bx (blk_alloc (blk_below (blk_drew HG0.out) hb3) _)) | (with_reducible exact model_copied.bx (blk_grown (blk_below (blk_drew HG0.out) hb3) hg9 (by have := HGL.out; simp; omega))))) (first | (go_at_call 80; refine (HCL.out _ (below_drew1 (Below.refl _ _))).mono ?_; rintro e w3 ⟨v, rfl, hRv, hb3⟩; obtain ⟨A2, c2, rfl⟩ := Kd.R_slice hRv) | (refine YtcfcbkcaondfcaaDoorMpRows.N_append_spare_step k45 (w0 := w) g (by rfl) _ _ 36 45 i0 (by rfl) Tryd.underlying36 HI.out HZ1.out (by decide) g k l0.length (l0.take k) y [.string y.f0, .slice A2 y.f1.length c2] (fun k_ => g ≤ k_) (fun k_ => W0.heap.size ≤ k_) (by rfl) (by rfl) (model_copied.elem y hRv) (fun q (hq : W0.heap.size ≤ q) => ⟨Nat.le_trans hgW hq, Nat.ne_of_gt (Nat.lt_of_lt_of_le (Nat.lt_trans HGL.out HBL.out) hq)⟩) (Kd.N_below (Kd.N_drew HN1.out) hb3) ((below_drew1 HB1.out).trans (hb3.mono hgW)) (Nat.le_refl _) (fun q hq => Nat.le_trans hgW (Nat.le_trans hb3.size hq)) (by omega) ?_; intro w9 hN9 hB9 hg9))
      have HN9 := Aside0.mk hN9
      have HB9 := Aside0.mk hB9
      clear hN9 hB9 hg9 hRv hb3
      go_wp2
      go_roundw
      case rel => exact ⟨k + 1, by omega, rfl, by go_num, HB9, ⟨by rw [HTK.out]; exact HN9.out⟩⟩
      case measure => simp [intOf]; omega
    · obtain rfl : k = l0.length := by omega
      have hO := HO.out
      rw [List.take_length] at hO
      have HO2 := Aside0.mk hO
      clear hO
      go_wp2
      go_ret
      exact ⟨g, rfl, Nat.le_of_eq HGG.out, by rw [HGG.out]; exact HO2.out, by rw [HGG.out]; exact HB.out⟩


/-! ### model_With: function 61 (told by hand) -/
def model_With.Stop (p : Prop) : Prop := p
theorem model_With.stop {p : Prop} (h : model_With.Stop p) : p := h
theorem model_With.info2 : ∃ i0 : TypeInfo, Tryd.prog.info? 45 = some i0 ∧ i0.zero = some (.agg #[.string ByteArray.empty, .slice none 0 0]) ∧ i0.size = 2 ∧ i0.bytes = 40 := by
  obtain ⟨i0, hi, hzz⟩ := Option.map_eq_some_iff.1 (show (Tryd.prog.info? 45).map (fun i => (i.zero, i.size, i.bytes)) = some (some (.agg #[.string ByteArray.empty, .slice none 0 0]), 2, 40) from by kernel_rfl)
  simp only [Prod.mk.injEq] at hzz
  exact ⟨i0, hi, hzz.1, hzz.2.1, hzz.2.2⟩
/-- What slices.Insert leaves. -/
def model_With.Ins (n i : Nat) (w : World) (cl : List Value) (c0 c1 : Value) (e : Ending) (w' : World) : Prop :=
  ∃ cap2 cur2, e = .returned (.slice (some ⟨w.heap.size, 0, none⟩) (n + 1) cap2) ∧ w'.heap[w.heap.size]? = some (.cells cur2 45 (0, 0)) ∧ n + 1 ≤ cap2 ∧ cap2 ≤ maxLen ∧ cur2.size = cap2 * 2 ∧
      cur2.toList.take ((n + 1) * 2) = cl.take (i * 2) ++ [c0, c1] ++ cl.drop (i * 2) ∧ (∀ u ∈ cur2.toList, u.oneCell' = true) ∧ Below w.heap.size w w'
set_option maxRecDepth 100000 in
set_option maxHeartbeats 4000000 in
/-- slices.Insert where there is no room, not at the end: a new block. -/
theorem model_With.ins_mid (g n i av : Nat) (cur : Array Value) (c0 c1 : Value) (w : World) (hi : i < n) (hn : n ≤ 1000000) (hg : w.heap[g]? = some (.cells cur 45 (0, 0))) (hcs : cur.size = n * 2) (h1 : ∀ u ∈ cur.toList, u.oneCell' = true) (hv : w.heap[av]? = some (.cells #[c0, c1] 45 (0, 0))) (h2 : ∀ u ∈ [c0, c1], u.oneCell' = true) :
    Calls Tryd.prog 82 #[.slice (some ⟨g, 0, none⟩) n n, .int .i64 i, .slice (some ⟨av, 0, none⟩) 1 1] w fun e w' => model_With.Ins n i w cur.toList c0 c1 e w' := by
  obtain ⟨i0, hi0, hz0, hz1, hz2⟩ := model_With.info2
  have haz := fun ty => YtcfcbkcaondfcaaDoorMpRows.run_append_zeros_grow (P := Tryd.prog) w 36 3 ty 45 i0 (.agg #[.string ByteArray.empty, .slice none 0 0]) 2 40 Tryd.underlying36 Tryd.underlying3 hi0 hz0 hz1 hz2 rfl (by decide) (by decide) (some ⟨g, 0, none⟩) i n (cur.toList.take (i * 2)) (by rw [List.length_take, Array.length_toList]; omega) (fun ad had j u hj => by
    injection had with had
    subst had
    rw [add_plain, cell_of_row w g j _ _ (0, 0) hg]
    have hj2 : j < i * 2 := by
      have := (List.getElem?_eq_some_iff.1 hj).1
      rw [List.length_take] at this
      omega
    rw [List.getElem?_take_of_lt hj2] at hj
    simpa using hj) (by intro h; cases h) .i64 (n + 1 - i) (by omega) (by omega) (by omega)
  have hcap2 := grownCap_ge w (i + (n + 1 - i)) n 45
  have hcap3 := grownCap_le_maxLen w (i + (n + 1 - i)) n 45 (by simp only [maxLen]; omega)
  rw [show i + (n + 1 - i) = n + 1 from by omega] at haz hcap2 hcap3
  generalize grownCap w (n + 1) n 45 = cap2 at haz hcap2 hcap3
  have HAZ := Aside0.mk haz
  clear haz
  have hw1 : IntKind.i64.wrap ((n : Int) + 1) = (n : Int) + 1 := by rw [IntKind.wrap_i64]; omega
  have hne : ¬ ((i : Int) = (n : Int)) := by omega
  have hni : ¬ n = i := by omega
  go_enter Tryd.func82, Tryd.ntmps82
  go_wp2_with (at_builtin; refine model_With.stop ?_)
  unfold model_With.Stop
  have hcast : ((n + 1 - i : Nat) : Int) = (n : Int) + 1 - (i : Int) := by omega
  refine YtcfcbkcaondfcaaDoorMpRows.wpList_append_run rfl _ _ _ _ rfl _ _ rfl rfl (by have := HAZ.out 36; rw [hcast] at this; exact this) ?_
  clear HAZ hcast
  generalize hA : ((cur.toList.take (i * 2)).toArray ++ Builtin.zeroCells (Value.agg #[.string ByteArray.empty, .slice none 0 0]).cells (n + 1 - i) ++ Builtin.zeroCells (Value.agg #[.string ByteArray.empty, .slice none 0 0]).cells (cap2 - (n + 1))) = curA
  have hzc : ∀ m, (Builtin.zeroCells (Value.agg #[.string ByteArray.empty, .slice none 0 0]).cells m).size = m * 2 := fun m => by rw [size_zeroCells]; rfl
  have hAl : curA.size = cap2 * 2 := by
    rw [← hA, Array.size_append, Array.size_append, hzc, hzc, List.size_toArray, List.length_take, Array.length_toList]
    omega
  have hAt : curA.toList.take (i * 2) = cur.toList.take (i * 2) := by
    rw [← hA, Array.toList_append, Array.toList_append, List.append_assoc]
    exact List.take_left' (by rw [List.length_take, Array.length_toList]; omega)
  have hzo : ∀ m, ∀ u ∈ (Builtin.zeroCells (Value.agg #[.string ByteArray.empty, .slice none 0 0]).cells m).toList, u.oneCell' = true := YtcfcbkcaondfcaaDoorMpRows.zeroCells_one _ 2 rfl (by decide) (by intro u hu; rcases hu with _ | ⟨_, hu⟩; rfl; rcases hu with _ | ⟨_, hu⟩; rfl; cases hu)
  have hA1' : ∀ u ∈ curA.toList, u.oneCell' = true := by
    rw [← hA, Array.toList_append, Array.toList_append]
    intro u hu
    rcases List.mem_append.1 hu with hu | hu
    · rcases List.mem_append.1 hu with hu | hu
      · exact h1 u (List.mem_of_mem_take hu)
      · exact hzo _ u hu
    · exact hzo _ u hu
  clear hzo
  have h1g : (w.drew.alloc (.cells curA 45)).heap[w.heap.size]? = some (.cells curA 45 (0, 0)) := YtcfcbkcaondfcaaDoorMpHelp.heap_new w.drew _
  have h1b : Below w.heap.size w (w.drew.alloc (.cells curA 45)) := below_alloc (below_drew1 (Below.refl _ _)) _
  generalize w.drew.alloc (.cells curA 45) = w1 at h1g h1b ⊢
  have hgv := blk_below hv h1b
  have hgg := blk_below hg h1b
  have hcp1 := fun ty dc => YtcfcbkcaondfcaaDoorMpRows.run_copy_cells (P := Tryd.prog) w1 36 36 ty 45 w.heap.size (i * 2) (n + 1 - i) dc ⟨av, 0, none⟩ 1 1 curA 45 [c0, c1] 2 Tryd.underlying36 (by rw [hi0]; simp [hz1]) h1g (by rw [show Nat.min 1 (n + 1 - i) = 1 from Nat.min_eq_left (by omega)]; rfl)
    (fun j v hj => by rw [add_plain, cell_of_row w1 av j _ _ (0, 0) hgv]; simpa using hj) (by rw [hAl]; simp; omega) h2
  have hc2 : ¬ cap2 = i := by omega
  have hc3 : ¬ cap2 = i + 1 := by omega
  have HCP1 := Aside0.mk hcp1
  have HGG := Aside0.mk hgg
  have HB1 := Aside0.mk h1b
  have H1G := Aside0.mk h1g
  have HG := Aside0.mk hg
  have HV := Aside0.mk hv
  clear hcp1 hgg h1b h1g hg hv hgv hA
  go_wp2_with ((with_reducible refine gate_builtin (b := .copy) (xs := #[.tmp 43, .tmp 44]) rfl ?_); refine model_With.stop ?_)
  unfold model_With.Stop
  refine YtcfcbkcaondfcaaDoorMpRows.wpList_copy_run rfl _ _ _ _ rfl _ _ rfl rfl (HCP1.out _ _) ?_
  have hlt : w.heap.size < w1.heap.size := (Array.getElem?_eq_some_iff.1 H1G.out).1
  have h2g := setRow_heap w1 w.heap.size curA (curA.toList.take (i * 2) ++ [c0, c1] ++ curA.toList.drop (i * 2 + [c0, c1].length)).toArray 45 (0, 0) H1G.out
  have h2b : Below w.heap.size w (w1.setRow w.heap.size (curA.toList.take (i * 2) ++ [c0, c1] ++ curA.toList.drop (i * 2 + [c0, c1].length)).toArray) := below_setRow HB1.out (Nat.le_refl _) _
  generalize hB : (curA.toList.take (i * 2) ++ [c0, c1] ++ curA.toList.drop (i * 2 + [c0, c1].length)).toArray = curB at h2g h2b ⊢
  generalize w1.setRow w.heap.size curB = w2 at h2g h2b ⊢
  have hBl : curB.size = cap2 * 2 := by
    rw [← hB, List.size_toArray]
    simp only [List.length_append, List.length_take, List.length_drop, Array.length_toList, List.length_cons, List.length_nil]
    omega
  have hBt : curB.toList.take ((i + 1) * 2) = cur.toList.take (i * 2) ++ [c0, c1] := by
    rw [← hB, hAt]
    exact List.take_left' (by simp only [List.length_append, List.length_take, Array.length_toList, List.length_cons, List.length_nil]; omega)
  have hB1' : ∀ u ∈ curB.toList, u.oneCell' = true := by
    rw [← hB]
    intro u hu
    rcases List.mem_append.1 hu with hu | hu
    · rcases List.mem_append.1 hu with hu | hu
      · exact hA1' u (List.mem_of_mem_take hu)
      · exact h2 u hu
    · exact hA1' u (List.mem_of_mem_drop hu)
  have hgg2 := blk_below HG.out h2b
  have hcp2 := fun ty dc sc => YtcfcbkcaondfcaaDoorMpRows.run_copy_cells (P := Tryd.prog) w2.drew 36 36 ty 45 w.heap.size ((i + 1) * 2) (n - i) dc ⟨g, i * 2, none⟩ (n - i) sc curB 45 (cur.toList.drop (i * 2)) 2 Tryd.underlying36 (by rw [hi0]; simp [hz1]) h2g (by rw [List.length_drop, Array.length_toList, show Nat.min (n - i) (n - i) = n - i from Nat.min_self _]; omega)
    (fun j v hj => by
      rw [add_at]
      rw [show w2.drew.cell? ⟨g, i * 2 + j, none⟩ = w2.cell? ⟨g, i * 2 + j, none⟩ from rfl, cell_of_row w2 g _ _ _ (0, 0) hgg2]
      rw [List.getElem?_drop] at hj
      simpa using hj) (by rw [hBl, List.length_drop, Array.length_toList]; omega) (fun u hu => h1 u (List.mem_of_mem_drop hu))
  generalize hC : (curB.toList.take ((i + 1) * 2) ++ cur.toList.drop (i * 2) ++ curB.toList.drop ((i + 1) * 2 + (cur.toList.drop (i * 2)).length)).toArray = curC at hcp2
  have hCl : curC.size = cap2 * 2 := by
    have hBl' : curB.toList.length = cap2 * 2 := by rw [Array.length_toList]; exact hBl
    have hl : cur.toList.length = n * 2 := by rw [Array.length_toList]; exact hcs
    rw [← hC, List.size_toArray]
    simp only [List.length_append, List.length_take, List.length_drop]
    omega
  have hCt : curC.toList.take ((n + 1) * 2) = cur.toList.take (i * 2) ++ [c0, c1] ++ cur.toList.drop (i * 2) := by
    have hl : cur.toList.length = n * 2 := by rw [Array.length_toList]; exact hcs
    rw [← hC, hBt]
    refine (List.take_left' ?_)
    simp only [List.length_append, List.length_take, List.length_drop, List.length_cons, List.length_nil]
    omega
  have hC1 : ∀ u ∈ curC.toList, u.oneCell' = true := by
    rw [← hC]
    intro u hu
    rcases List.mem_append.1 hu with hu | hu
    · rcases List.mem_append.1 hu with hu | hu
      · rw [hBt] at hu
        rcases List.mem_append.1 hu with hu | hu
        · exact h1 u (List.mem_of_mem_take hu)
        · exact h2 u hu
      · exact h1 u (List.mem_of_mem_drop hu)
    · exact hB1' u (List.mem_of_mem_drop hu)
  have HCX := Aside0.mk (And.intro hCl (And.intro hCt hC1))
  clear hC hCl hCt hC1 hB1'
  have HCP2 := Aside0.mk hcp2
  have HB2 := Aside0.mk h2b
  have H2G := Aside0.mk h2g
  clear hcp2 h2b h2g hgg2 hB HCP1 hBt hAt hA1' hBl hAl h1 h2
  go_wp2_with fail
  have hwi : IntKind.i64.wrap ((i : Int) + 1) = (i : Int) + 1 := by rw [IntKind.wrap_i64]; omega
  have hi0' : ¬ ((i : Int) < 0) := by omega
  have hi1' : ¬ ((i : Int) + 1 < 0) := by omega
  have hi2' : ¬ ((n : Int) < (i : Int)) := by omega
  have hi3' : ¬ ((n : Int) + 1 < (i : Int) + 1) := by omega
  have hi4' : i ≤ n := by omega
  have hi5' : i + 1 ≤ n + 1 := by omega
  have hi6' : n + 1 ≤ cap2 := hcap2
  have hz1' : (0 : Int) ≤ (i : Int) + 1 := by omega
  have hz2' : (i : Int) + 1 ≤ ((n + 1 : Nat) : Int) := by omega
  have hz3' : ((i : Int) + 1).toNat = i + 1 := by omega
  have hz4' : (0 : Int) ≤ (i : Int) := by omega
  have hz5' : (i : Int) ≤ (n : Int) := by omega
  go_region_held3 (fun W => True) (trivial) (first | (rw [if_pos (by rfl)]; refine YtcfcbkcaondfcaaDoorMpRows.wp_copy_run (v := .slice (some ⟨w.heap.size, (i + 1) * 2, none⟩) (n - i) (cap2 - (i + 1))) (u := .slice (some ⟨g, i * 2, none⟩) (n - i) (n - i)) (.tmp 50) (.tmp 53) _ _ rfl (by kernel_rfl) (by kernel_rfl) (HCP2.out _ _ _) ?_))
  go_wp2
  go_ret
  exact ⟨cap2, curC, rfl, setRow_heap w2.drew w.heap.size curB _ 45 (0, 0) H2G.out, hcap2, hcap3, HCX.out.1, HCX.out.2.1, HCX.out.2.2, below_setRow (below_drew1 HB2.out) (Nat.le_refl _) _⟩
set_option maxRecDepth 100000 in
set_option maxHeartbeats 4000000 in
/-- slices.Insert at the end where there is no room: a new block. -/
theorem model_With.ins_end (g n av : Nat) (cur : Array Value) (c0 c1 : Value) (w : World) (hn : n ≤ 1000000) (hg : w.heap[g]? = some (.cells cur 45 (0, 0))) (hcs : cur.size = n * 2) (h1 : ∀ u ∈ cur.toList, u.oneCell' = true) (hv : w.heap[av]? = some (.cells #[c0, c1] 45 (0, 0))) (h2 : ∀ u ∈ [c0, c1], u.oneCell' = true) :
    Calls Tryd.prog 82 #[.slice (some ⟨g, 0, none⟩) n n, .int .i64 n, .slice (some ⟨av, 0, none⟩) 1 1] w fun e w' => model_With.Ins n n w cur.toList c0 c1 e w' := by
  obtain ⟨i0, hi0, hz0, hz1, hz2⟩ := model_With.info2
  have hl : cur.toList.length = n * 2 := by rw [Array.length_toList]; exact hcs
  have haz := fun ty => run_append_grow (P := Tryd.prog) (w := w) 36 ty 45 i0 (.agg #[.string ByteArray.empty, .slice none 0 0]) Tryd.underlying36 hi0 hz0 ⟨g, 0, none⟩ n n cur.toList (by rw [hz1]; exact hl) (fun j v hj => by rw [add_plain, cell_of_row w g j _ _ (0, 0) hg]; simpa using hj)
    ⟨av, 0, none⟩ 1 1 [c0, c1] (by rw [hz1]; rfl) (fun j v hj => by rw [add_plain, cell_of_row w av j _ _ (0, 0) hv]; simpa using hj) (by omega) (by omega) (growslice_fits (by omega) (by rw [hz2]; omega))
  have hcap2 := grownCap_ge w (n + 1) n 45
  have hcap3 := grownCap_le_maxLen w (n + 1) n 45 (by simp only [maxLen]; omega)
  generalize grownCap w (n + 1) n 45 = cap2 at haz hcap2 hcap3
  have hzc : ∀ m, (Builtin.zeroCells (Value.agg #[.string ByteArray.empty, .slice none 0 0]).cells m).size = m * 2 := fun m => by rw [size_zeroCells]; rfl
  have hzo : ∀ m, ∀ u ∈ (Builtin.zeroCells (Value.agg #[.string ByteArray.empty, .slice none 0 0]).cells m).toList, u.oneCell' = true := YtcfcbkcaondfcaaDoorMpRows.zeroCells_one _ 2 rfl (by decide) (by intro u hu; rcases hu with _ | ⟨_, hu⟩; rfl; rcases hu with _ | ⟨_, hu⟩; rfl; cases hu)
  generalize hA : (cur.toList.toArray ++ [c0, c1].toArray ++ Builtin.zeroCells (Value.agg #[.string ByteArray.empty, .slice none 0 0]).cells (cap2 - (n + 1))) = curA at haz
  have hAl : curA.size = cap2 * 2 := by
    rw [← hA, Array.size_append, Array.size_append, hzc, List.size_toArray, hl, List.size_toArray]
    simp only [List.length_cons, List.length_nil]
    omega
  have hAt : curA.toList.take ((n + 1) * 2) = cur.toList.take (n * 2) ++ [c0, c1] ++ cur.toList.drop (n * 2) := by
    rw [← hA, Array.toList_append, Array.toList_append, List.take_of_length_le (by omega : cur.toList.length ≤ n * 2), List.drop_of_length_le (by omega : cur.toList.length ≤ n * 2), List.append_nil]
    refine List.take_left' ?_
    simp only [List.length_append, hl, List.length_cons, List.length_nil]
    omega
  have hA1 : ∀ u ∈ curA.toList, u.oneCell' = true := by
    rw [← hA, Array.toList_append, Array.toList_append]
    intro u hu
    rcases List.mem_append.1 hu with hu | hu
    · rcases List.mem_append.1 hu with hu | hu
      · exact h1 u hu
      · exact h2 u hu
    · exact hzo _ u hu
  have HAZ := Aside0.mk haz
  have HAX := Aside0.mk (And.intro hAl (And.intro hAt hA1))
  have HG := Aside0.mk hg
  clear haz hA hzc hzo hAl hAt hA1 hl h1 h2 hg hv hcs
  go_enter Tryd.func82, Tryd.ntmps82
  go_wp2_with (at_builtin; refine model_With.stop ?_)
  unfold model_With.Stop
  refine YtcfcbkcaondfcaaDoorMpRows.wpList_append_run rfl _ _ _ _ rfl _ _ rfl rfl (HAZ.out _) ?_
  go_wp2
  go_ret
  exact ⟨cap2, curA, rfl, YtcfcbkcaondfcaaDoorMpHelp.heap_new w.drew _, hcap2, hcap3, HAX.out.1, HAX.out.2.1, HAX.out.2.2, below_alloc (below_drew1 (Below.refl _ _)) _⟩
/-- What model.With does. -/
def model_With.f (l0 : List S45) (a1 : ByteArray) (l2 : List Int) : Option (List S45) :=
  if l0.length ≤ 1000000 ∧ (∀ y ∈ l0, y.f1.length ≤ 140737488355328) ∧ l2.length ≤ 140737488355328 then
    (model_place.f l0 a1).bind fun r => if 0 ≤ r.1 ∧ r.1 ≤ l0.length then (if r.2 = true then (if r.1 < l0.length then some (l0.set r.1.toNat ⟨a1, l2⟩) else none) else some (l0.take r.1.toNat ++ (⟨a1, l2⟩ : S45) :: l0.drop r.1.toNat)) else none
  else none
theorem model_With.sz : (Tryd.prog.info? 45).map (·.size) = some 2 := by kernel_rfl
set_option maxRecDepth 100000 in
set_option maxHeartbeats 4000000 in
theorem model_With.calls (A0 : Option Addr) (c0 : Nat) (l0 : List S45) (a1 : ByteArray) (A2 : Option Addr) (c2 : Nat) (l2 : List Int) (r : List S45) (w : World) (hr0 : Kd.C k45 w A0 l0.length l0) (hc0 : l0.length ≤ c0) (hr2 : (Kd.int .u8).C w A2 l2.length l2) (hc2 : l2.length ≤ c2) (h : model_With.f l0 a1 l2 = some r) :
    Calls Tryd.prog 61 #[.slice A0 l0.length c0, .string a1, .slice A2 l2.length c2] w fun e w' => ∃ v0_ : Value, e = .returned (v0_) ∧ Kd.N k45 45 w' w.heap.size (fun k_ => (w.heap.size ≤ k_)) v0_ r ∧ Below w.heap.size w w' := by
  unfold model_With.f at h
  by_cases hg : l0.length ≤ 1000000 ∧ (∀ y ∈ l0, y.f1.length ≤ 140737488355328) ∧ l2.length ≤ 140737488355328
  case neg => rw [if_neg hg] at h; cases h
  rw [if_pos hg] at h
  obtain ⟨hg1, hg2, hg3⟩ := hg
  cases hpl : model_place.f l0 a1 with
  | none => rw [hpl] at h; cases h
  | some pr =>
    obtain ⟨i, there⟩ := pr
    rw [hpl] at h
    simp only [Option.bind_some] at h
    by_cases hib : 0 ≤ i ∧ i ≤ l0.length
    case neg => rw [if_neg hib] at h; cases h
    rw [if_pos hib] at h
    obtain ⟨hi0, hi1⟩ := hib
    obtain ⟨m, rfl⟩ := Int.eq_ofNat_of_zero_le hi0
    simp only [Int.toNat_natCast] at h
    have hc1 := model_copied.go A0 c0 l0 w hr0 hg1 hg2
    have HC1 := Aside0.mk hc1
    have HR2 := Aside0.mk hr2
    have HPL := Aside0.mk hpl
    have hcl := fun W (hW : Below w.heap.size w W) => slices_Clone_byte_byte.calls A2 c2 l2 l2 W (Kd.C_below hr2 hW) hc2 (by unfold slices_Clone_byte_byte.f; rw [if_pos hg3])
    have HCL := Aside0.mk hcl
    have H := Aside0.mk h
    have HLM := Aside0.mk hg1
    clear hc1 hr2 hpl hcl hr0 hc0 h hg1 hg2 hg3
    go_enter Tryd.func61, Tryd.ntmps61
    go_wp2_with (first | (go_at_call 79; refine HC1.out.mono ?_; rintro e w1 ⟨g, rfl, hg, hN1, hB1⟩) | (go_at_call 80; refine model_With.stop ?_))
    unfold model_With.Stop
    have HN1 := Aside0.mk hN1
    have HB1 := Aside0.mk hB1
    have hge := hg
    clear hN1 hB1 hg HC1
    refine (HCL.out _ HB1.out).mono ?_
    rintro e w2 ⟨v2, rfl, hR2, hB2⟩
    obtain ⟨A3, c3, rfl⟩ := Kd.R_slice hR2
    have hNa := Kd.N_below HN1.out hB2
    have hBa := HB1.out.trans (hB2.mono HB1.out.size)
    have HNA := Aside0.mk hNa
    have HBA := Aside0.mk hBa
    have hel := Kd.FK_bound (model_copied.elem (⟨a1, l2⟩ : S45) hR2)
    have HEL := Aside0.mk (Kd.FK_mono hel (fun k hk => (⟨Nat.le_trans HB1.out.size hk.1, hk.2, hk.1⟩ : w.heap.size ≤ k ∧ k < w2.heap.size ∧ w1.heap.size ≤ k)))
    have hlt1 : g < w1.heap.size := Kd.N_lt HN1.out g rfl
    have hlt2 : g < w2.heap.size := Nat.lt_of_lt_of_le hlt1 hB2.size
    clear hNa hBa hel hR2 hB2 HN1 HB1
    go_wp2_with ((with_reducible refine gate_ (.store 45 (.tmp 8) (.tmp 16)) rfl ?_); refine model_With.stop ?_)
    unfold model_With.Stop
    have hBg : Below w.heap.size w (w2.alloc (Obj.cells #[Value.string { data := #[] }, Value.slice none 0 0] 45)) := below_alloc HBA.out _
    have hW2 : w.heap.size ≤ w2.heap.size := HBA.out.size
    refine YtcfcbkcaondfcaaDoorMpHelp.wpList_store_blk rfl rfl 45 _ _ rfl 45 w2.heap.size #[Value.string { data := #[] }, Value.slice none 0 0] #[.string a1, .slice A3 l2.length c3] (YtcfcbkcaondfcaaDoorMpHelp.heap_new w2 _) rfl rfl model_With.sz rfl (by intro q hq; rcases hq with _ | ⟨_, hq⟩; rfl; rcases hq with _ | ⟨_, hq⟩; rfl; cases hq) hBg hW2 ?_
    intro w3 h3 hb3 hk3
    have h23 : ∀ k, k < w2.heap.size → w3.heap[k]? = w2.heap[k]? := fun k hk => by
      rw [hk3 k (by omega)]
      exact (below_alloc (Below.refl w2.heap.size w2) _).block k hk
    have hN3 := Kd.N_step HNA.out (fun k _ hk => h23 k hk)
    have hE3 := Kd.FK_step HEL.out (fun k _ hk => h23 k hk)
    have HN3 := Aside0.mk hN3
    have HE3 := Aside0.mk hE3
    have H3 := Aside0.mk h3
    have HB3 := Aside0.mk hb3
    have hlt3 : w2.heap.size < w3.heap.size := (Array.getElem?_eq_some_iff.1 h3).1
    have hp := model_place.calls (some ⟨g, 0, none⟩) l0.length l0 a1 m there w3 (Kd.N_reads' hN3).2.2 (Nat.le_refl _) HPL.out
    have HP := Aside0.mk hp
    clear hN3 hE3 h3 hb3 hk3 h23 hp hBg HNA HBA HEL HPL
    generalize w2.heap.size = gb at *
    have hwi : (m : Int).toNat = m := rfl
    cases there with
    | true =>
      have h := H.out
      rw [if_pos rfl] at h
      by_cases hml : (m : Int) < (l0.length : Int)
      case neg => rw [if_neg hml] at h; cases h
      rw [if_pos hml] at h
      obtain rfl := Option.some.inj h
      clear h
      go_wp2_with (first | (go_at_call 81; refine HP.out.mono ?_; rintro e w4 ⟨rfl, hb4⟩; have HB4 := Aside0.mk (HB3.out.trans (hb4.mono HB3.out.size)); have HN4 := Aside0.mk (Kd.N_below HN3.out hb4); have HE4 := Aside0.mk (Kd.FK_below HE3.out hb4); have H4 := Aside0.mk (blk_below H3.out hb4); have hx0 : w4.cell? ⟨gb, 0, none⟩ = some (.string a1) := (by rw [cell_of_row w4 gb 0 _ _ (0, 0) H4.out]; rfl); have hx1 : w4.cell? ⟨gb, 1, none⟩ = some (.slice A3 l2.length c3) := (by rw [cell_of_row w4 gb 1 _ _ (0, 0) H4.out]; rfl); have hlt4 : gb < w4.heap.size := Nat.lt_of_lt_of_le hlt3 hb4.size; clear hb4 HN3 HE3 H3 HB3 HP) | ((with_reducible refine gate_ (.store 45 (.tmp 27) (.tmp 26)) rfl ?_); refine model_With.stop ?_))
      unfold model_With.Stop
      obtain ⟨cur, hg4, hcs, _, _, _⟩ := YtcfcbkcaondfcaaDoorMpRows.N_cells k45 HN4.out (by decide)
      have hcs' : cur.toList.length = l0.length * 2 := by rw [Array.length_toList]; exact hcs
      have hcl : ((cur.toList.drop (m * 2)).take 2).length = 2 := by rw [List.length_take, List.length_drop]; omega
      have hcc : ∀ j u, ((cur.toList.drop (m * 2)).take 2)[j]? = some u → w4.cell? ⟨g, m * 2 + j, none⟩ = some u := fun j u hj => by
        rw [cell_of_row w4 g _ _ _ (0, 0) hg4]
        have hj2 : j < 2 := by have := (List.getElem?_eq_some_iff.1 hj).1; omega
        rw [List.getElem?_take_of_lt hj2, List.getElem?_drop] at hj
        simpa using hj
      generalize (cur.toList.drop (m * 2)).take 2 = c at hcl hcc
      have hM : Kd.FK k45 w4 (fun k => w.heap.size ≤ k ∧ k < gb ∧ w1.heap.size ≤ k) (⟨a1, l2⟩ : S45) (c.take 0 ++ [.string a1, .slice A3 l2.length c3] ++ c.drop (0 + [Value.string a1, .slice A3 l2.length c3].length)) := by
        rw [List.take_zero, List.nil_append, List.drop_of_length_le (by rw [hcl]; exact Nat.le_refl _), List.append_nil]
        exact HE4.out
      refine Kd.N_store k45 (w0 := w) w.heap.size rfl rfl 45 _ _ rfl 45 (m : Int) 0 l0 (⟨a1, l2⟩ : S45) (.agg #[.string a1, .slice A3 l2.length c3]) [.string a1, .slice A3 l2.length c3] c (fun k_ => (w.heap.size ≤ k_)) (fun k => w.heap.size ≤ k ∧ k < gb ∧ w1.heap.size ≤ k) rfl rfl rfl rfl model_With.sz (by intro q hq; rcases hq with _ | ⟨_, hq⟩; rfl; rcases hq with _ | ⟨_, hq⟩; rfl; cases hq) HN4.out hi0 hml hcl hcc (Nat.le_refl 2) hM (fun k hk => ⟨hk.1, by have := hk.2.2; omega⟩) HB4.out ?_
      intro w5 hN5 hB5 hg5
      have HN5 := Aside0.mk hN5
      have HB5 := Aside0.mk hB5
      clear hN5 hB5 hg5 hM hcc hcl hg4 hcs hcs'
      go_wp2
      go_ret
      exact ⟨_, rfl, HN5.out, HB5.out⟩
    | false =>
      have h := H.out
      rw [if_neg (by decide)] at h
      obtain rfl := Option.some.inj h
      clear h
      go_wp2_with (first | (go_at_call 81; refine HP.out.mono ?_; rintro e w4 ⟨rfl, hb4⟩; have HB4 := Aside0.mk (HB3.out.trans (hb4.mono HB3.out.size)); have HN4 := Aside0.mk (Kd.N_below HN3.out hb4); have HE4 := Aside0.mk (Kd.FK_below HE3.out hb4); have H4 := Aside0.mk (blk_below H3.out hb4); have hx0 : w4.cell? ⟨gb, 0, none⟩ = some (.string a1) := (by rw [cell_of_row w4 gb 0 _ _ (0, 0) H4.out]; rfl); have hx1 : w4.cell? ⟨gb, 1, none⟩ = some (.slice A3 l2.length c3) := (by rw [cell_of_row w4 gb 1 _ _ (0, 0) H4.out]; rfl); have hlt4 : gb < w4.heap.size := Nat.lt_of_lt_of_le hlt3 hb4.size; clear hb4 HN3 HE3 H3 HB3 HP) | (go_at_call 82; refine model_With.stop ?_))
      unfold model_With.Stop
      have hbx : (w4.alloc (.cells #[.string a1, .slice A3 l2.length c3] 45)).heap[w4.heap.size]? = some (.cells #[.string a1, .slice A3 l2.length c3] 45 (0, 0)) := YtcfcbkcaondfcaaDoorMpHelp.heap_new w4 _
      have hN5 := Kd.N_alloc HN4.out (.cells #[.string a1, .slice A3 l2.length c3] 45)
      have hE5 := Kd.FK_below HE4.out (below_alloc (Below.refl w4.heap.size w4) (.cells #[.string a1, .slice A3 l2.length c3] 45))
      have hB5 := below_alloc HB4.out (.cells #[.string a1, .slice A3 l2.length c3] 45)
      generalize w4.alloc (.cells #[.string a1, .slice A3 l2.length c3] 45) = w5 at hbx hN5 hE5 hB5 ⊢
      generalize w4.heap.size = av at hbx ⊢
      obtain ⟨cur, hg5, hcs, _, h15, hbg⟩ := YtcfcbkcaondfcaaDoorMpRows.N_cells k45 hN5 (by decide)
      have hml' : m ≤ l0.length := by omega
      have hins : Calls Tryd.prog 82 #[.slice (some ⟨g, 0, none⟩) l0.length l0.length, .int .i64 m, .slice (some ⟨av, 0, none⟩) 1 1] w5 fun e w' => model_With.Ins l0.length m w5 cur.toList (.string a1) (.slice A3 l2.length c3) e w' := by
        have h2 : ∀ u ∈ [Value.string a1, .slice A3 l2.length c3], u.oneCell' = true := by intro q hq; rcases hq with _ | ⟨_, hq⟩; rfl; rcases hq with _ | ⟨_, hq⟩; rfl; cases hq
        rcases Nat.lt_or_ge m l0.length with hlt | hge'
        · exact model_With.ins_mid g l0.length m av cur _ _ w5 hlt HLM.out hg5 hcs h15 hbx h2
        · obtain rfl : m = l0.length := by omega
          exact model_With.ins_end g l0.length av cur _ _ w5 HLM.out hg5 hcs h15 hbx h2
      have HINS := Aside0.mk hins
      have HN5 := Aside0.mk hN5
      have HE5 := Aside0.mk hE5
      have HB5 := Aside0.mk hB5
      have HG5 := Aside0.mk hg5
      clear hins hN5 hE5 hB5 hg5 hbx h15
      refine HINS.out.mono ?_
      rintro e w6 ⟨cap2, cur2, rfl, hq1, hq2, hq3, hq4, hq5, hq6, hq7⟩
      have HN6 := Aside0.mk (YtcfcbkcaondfcaaDoorMpRows.N_inserted k45 HN5.out HG5.out hcs hml' HE5.out (fun k hk => hk.1) hq7 hq1 hq2 hq3 hq4 hq5 HB5.out.size HB5.out.size)
      have HB6 := Aside0.mk (HB5.out.trans (hq7.mono HB5.out.size))
      clear hq1 hq4 hq5 hq6 hq7 HINS HN5 HE5 HB5 HG5
      go_wp2
      go_ret
      exact ⟨_, rfl, HN6.out, HB6.out⟩


end Go.Proofs.YtcfcbkcaondfcaaDoor.PPlanApplies
