/- The machine side of a law: for each Go function that it uses a Lean function with the same answers, and the proof that the Go code comes to them; or the row of the law over these. Written by a program of this session. -/
import Derived.Test.YtodifojhegbjaaaDoorPReportSumsx0
import Derived.Test.YtodifojhegbjaaaDoorPReportSumsx1
namespace Go.Proofs.YtodifojhegbjaaaDoor.PReportSums
open Go.RowKit Go.Proofs.YtodifojhegbjaaaDoorW.PrintWords Go.Proofs.YtodifojhegbjaaaDoorW.PrintLast Go.Proofs.YtodifojhegbjaaaDoorW.PrintMore
attribute [local go_sem] max2_int min2_int max_two min_two max_three min_three max_four min_four   -- for this text's walks alone
set_option linter.unusedVariables false
set_option linter.unusedSimpArgs false

/-! ### bindlelaw33_parts: function 15 -/
def bindlelaw33_parts.l0 : Nat → List (S66) → List (S47) → List (S51) → Int → Option ((List (S47)) × (List (S51)))
 | 0, _, _, _, _ => none
 | k + 1, x0, x4, x5, x6 => if x6 < (x0.length : Int) then (if 0 ≤ x6 then (if x4.length < 1466015503701 then (if x5.length < 1466015503701 then (bindlelaw33_parts.l0 k x0 (x4 ++ [(⟨(rd_T66 x0 x6).f0.f0, (rd_T66 x0 x6).f0.f1, (rd_T66 x0 x6).f0.f2, (rd_T66 x0 x6).f0.f3, (⟨(rd_T66 x0 x6).f0.f4.f0, (rd_T66 x0 x6).f0.f4.f1, (rd_T66 x0 x6).f0.f4.f2⟩ : S45)⟩ : S47)]) (x5 ++ [(⟨(rd_T66 x0 x6).f1.f0, (rd_T66 x0 x6).f1.f1, (rd_T66 x0 x6).f1.f2, (rd_T66 x0 x6).f1.f3, (rd_T66 x0 x6).f1.f4, (rd_T66 x0 x6).f1.f5, (rd_T66 x0 x6).f1.f6⟩ : S51)]) (wrap64 (x6 + 1))) else (none)) else (none)) else (none)) else (some (x4, x5))
def bindlelaw33_parts.f (k : Nat) (l0 : List (S66)) : Option ((List (S47)) × (List (S51))) := bindlelaw33_parts.l0 k l0 ([] : List (S47)) ([] : List (S51)) 0
theorem bindlelaw33_parts.mono_l : ∀ k, (∀ y0 y1 y2 y3, LeO (bindlelaw33_parts.l0 k y0 y1 y2 y3) (bindlelaw33_parts.l0 (k + 1) y0 y1 y2 y3))
 | 0 => fun _ _ _ _ r h => by simp [bindlelaw33_parts.l0] at h
 | k + 1 => by
  have ih0 := bindlelaw33_parts.mono_l k
  ·intro y0 y1 y2 y3
   unfold bindlelaw33_parts.l0
   repeat' first
   | (with_reducible exact ih0 _ _ _ _)
   | (with_reducible exact LeO.refl _)
   | (with_reducible exact LeO.none _)
   | (with_reducible refine LeO.ite ?_ ?_)
   | (with_reducible refine LeO.bind ?_ (fun _ => ?_))
   | exact ih0 _ _ _ _
   | exact LeO.none _
   | refine LeO.ite ?_ ?_
   | refine LeO.bind ?_ (fun _ => ?_)
theorem bindlelaw33_parts.mono : ∀ a0 k, LeO (bindlelaw33_parts.f k a0) (bindlelaw33_parts.f (k + 1) a0) := by
 intro a0 k
 have ih0 := bindlelaw33_parts.mono_l k
 unfold bindlelaw33_parts.f
 repeat' first
   | (with_reducible exact ih0 _ _ _ _)
   | (with_reducible exact LeO.refl _)
   | (with_reducible exact LeO.none _)
   | (with_reducible refine LeO.ite ?_ ?_)
   | (with_reducible refine LeO.bind ?_ (fun _ => ?_))
   | exact ih0 _ _ _ _
   | exact LeO.none _
   | refine LeO.ite ?_ ?_
   | refine LeO.bind ?_ (fun _ => ?_)
set_option maxHeartbeats 8000000 in
set_option maxRecDepth 100000 in
theorem bindlelaw33_parts.calls (k : Nat) (P0_ : Nat → Prop) (A0 : Option Addr) (c0 : Nat) (l0 : List (S66)) (r1 : List (S47)) (r2 : List (S51)) (w : World) (hs0 : Kd.V k66 66 w w.heap.size (fun k_ => P0_ k_) (.slice A0 l0.length c0) l0) (h : bindlelaw33_parts.f k l0 = some (r1, r2)) :
  Calls Tryd.prog 15 #[.slice A0 l0.length c0] w fun e w' => ∃ v0_ v1_ : Value, e = .returned (.tuple #[v0_, v1_]) ∧ Kd.N k47 47 w' w.heap.size (fun k_ => (P0_ k_ ∨ w.heap.size ≤ k_) ∧ some k_ ≠ (v1_ : Value).ownBlock) v0_ r1 ∧ Kd.N k51 51 w' w.heap.size (fun k_ => (P0_ k_ ∨ w.heap.size ≤ k_) ∧ some k_ ≠ (v0_ : Value).ownBlock) v1_ r2 ∧ Below w.heap.size w w' := by
 have hu47 := Tryd.underlying47
 have hu51 := Tryd.underlying51
 have HO0 := Aside0.mk (show Kd.V k66 66 w w.heap.size (fun k_ => (P0_ k_ ∨ w.heap.size ≤ k_)) (.slice A0 l0.length c0) l0 from Kd.V_mono hs0 (fun k_ hk => .inl hk))
 have HB := Aside0.mk (Below.refl w.heap.size w)
 have H : (bindlelaw33_parts.l0 k l0 ([] : List (S47)) ([] : List (S51)) 0) = some (r1, r2) := h
 clear h
 have H' := Aside0.mk H
 clear H
 go_enter Tryd.func15, Tryd.ntmps15
 go_wp2
 go_loopg [4, 5, 6] k (fun kq v4 v5 v6 w' => ∃ (x4_1 : List (S47)) (x5_1 : List (S51)) (x6_1 : Int), v6 = .int .i64 x6_1 ∧ Aside0 (bindlelaw33_parts.l0 kq l0 x4_1 x5_1 x6_1 = some (r1, r2)) ∧ Aside0 (kq ≤ k) ∧ Aside0 (Kd.V k66 66 w' w.heap.size (fun k_ => (P0_ k_ ∨ w.heap.size ≤ k_) ∧ some k_ ≠ (v4 : Value).ownBlock ∧ some k_ ≠ (v5 : Value).ownBlock) (.slice A0 l0.length c0) l0) ∧ Aside0 (Kd.N k47 47 w' w.heap.size (fun k_ => (P0_ k_ ∨ w.heap.size ≤ k_) ∧ some k_ ≠ (v5 : Value).ownBlock) v4 x4_1) ∧ Aside0 (Kd.N k51 51 w' w.heap.size (fun k_ => (P0_ k_ ∨ w.heap.size ≤ k_) ∧ some k_ ≠ (v4 : Value).ownBlock) v5 x5_1) ∧ Aside0 (Below w.heap.size w w'))
 case atStart => exact ⟨(([] : List (S47))), (([] : List (S51))), (0), (by first | rfl | (simp only [YtodifojhegbjaaaDoorMpHelp.leq_not, YtodifojhegbjaaaDoorMpHelp.gtr_less]; done) | (simp; done) | (simp [*]; done)), H', ⟨Nat.le_refl _⟩, ⟨by (with_reducible repeat (first | apply Kd.V_alloc | apply Kd.V_drewN | apply Kd.V_drew)); exact Kd.V_mono HO0.out (fun _ hk => ⟨hk, ⟨(by simp [Value.ownBlock]), (by simp [Value.ownBlock])⟩⟩)⟩, ⟨by first | exact Kd.S_nil _ _ _ _ _ | exact Kd.N_nil _ _ _ _ _ | exact Kd.V_nil _ _ _ _ _ | exact Kd.Q_nil _ _ _ _ _ | exact Kd.R_nil _ _ _ _ _⟩, ⟨by first | exact Kd.R_nil _ _ _ _ _ | exact Kd.N_nil _ _ _ _ _ | exact Kd.V_nil _ _ _ _ _ | exact Kd.Q_nil _ _ _ _ _ | exact Kd.S_nil _ _ _ _ _⟩, ⟨by repeat (first | (with_reducible first | exact HB.out | apply below_alloc | apply pw_below_drewN | apply below_drew1) | exact HB.out)⟩⟩
 case round =>
  clear H'
  try clear c1
  obtain ⟨x4_1, x5_1, x6_1, rfl, HA, HK1, HO_0, HO_4, HO_5, HB⟩ := hrel
  cases gk with
  | zero => exact absurd HA.out (by simp [bindlelaw33_parts.l0])
  | succ k1 =>
   have H := HA.out
   clear HA
   simp only [bindlelaw33_parts.l0] at H
   by_cases c2 : x6_1 < (l0.length : Int)
   ·rw [if_pos c2] at H
    have c2b0 : decide (x6_1 < (l0.length : Int)) = true := decide_eq_true c2
    clear c2
    by_cases c3 : 0 ≤ x6_1
    ·rw [if_pos c3] at H
     have c3b0 : decide (0 ≤ x6_1) = true := decide_eq_true c3
     clear c3
     by_cases c4 : x4_1.length < 1466015503701
     ·rw [if_pos c4] at H
      have LMc4 := Aside0.mk c4
      clear c4
      obtain ⟨y116, hy116⟩ : ∃ y_ : List (S47), y_ = (x4_1 ++ [(⟨(rd_T66 l0 x6_1).f0.f0, (rd_T66 l0 x6_1).f0.f1, (rd_T66 l0 x6_1).f0.f2, (rd_T66 l0 x6_1).f0.f3, (⟨(rd_T66 l0 x6_1).f0.f4.f0, (rd_T66 l0 x6_1).f0.f4.f1, (rd_T66 l0 x6_1).f0.f4.f2⟩ : S45)⟩ : S47)]) := ⟨_, rfl⟩
      replace H : (if x5_1.length < 1466015503701 then (bindlelaw33_parts.l0 k1 l0 y116 (x5_1 ++ [(⟨(rd_T66 l0 x6_1).f1.f0, (rd_T66 l0 x6_1).f1.f1, (rd_T66 l0 x6_1).f1.f2, (rd_T66 l0 x6_1).f1.f3, (rd_T66 l0 x6_1).f1.f4, (rd_T66 l0 x6_1).f1.f5, (rd_T66 l0 x6_1).f1.f6⟩ : S51)]) (wrap64 (x6_1 + 1))) else (none)) = some (r1, r2) := by first | (rw [hy116]; with_reducible exact H) | (have H2_ := (Option.bind_some _ _).symm.trans H; rw [hy116]; with_reducible exact H2_) | (have H2_ := (Option.bind_some _ _).symm.trans H; with_reducible exact H2_) | with_reducible exact H | (rw [hy116]; exact H) | exact H
      have Ny116 := Aside0.mk hy116
      clear hy116
      by_cases c5 : x5_1.length < 1466015503701
      ·rw [if_pos c5] at H
       have LMc5 := Aside0.mk c5
       clear c5
       obtain ⟨y120, hy120⟩ : ∃ y_ : List (S51), y_ = (x5_1 ++ [(⟨(rd_T66 l0 x6_1).f1.f0, (rd_T66 l0 x6_1).f1.f1, (rd_T66 l0 x6_1).f1.f2, (rd_T66 l0 x6_1).f1.f3, (rd_T66 l0 x6_1).f1.f4, (rd_T66 l0 x6_1).f1.f5, (rd_T66 l0 x6_1).f1.f6⟩ : S51)]) := ⟨_, rfl⟩
       replace H : (bindlelaw33_parts.l0 k1 l0 y116 y120 (wrap64 (x6_1 + 1))) = some (r1, r2) := by first | (rw [hy120]; with_reducible exact H) | (have H2_ := (Option.bind_some _ _).symm.trans H; rw [hy120]; with_reducible exact H2_) | (have H2_ := (Option.bind_some _ _).symm.trans H; with_reducible exact H2_) | with_reducible exact H | (rw [hy120]; exact H) | exact H
       have Ny120 := Aside0.mk hy120
       clear hy120
       have H' := Aside0.mk H
       clear H
       have p115 : 0 ≤ (x6_1 : Int) := of_decide_eq_true (by first | (with_reducible assumption) | assumption)
       have q115 : x6_1 < (l0.length : Int) := of_decide_eq_true (by first | (with_reducible assumption) | assumption)
       obtain ⟨ad115, A115_2, c115_2, A115_4, c115_4, A115_8, c115_8, A115_10, c115_10, A115_11, c115_11, e115, hx115_0, hx115_1, hx115_2, hx115_3, hx115_4, hx115_5, hx115_6, hx115_7, hx115_8, hx115_9, hx115_10, hx115_11, hx115_12, hx115_13, hl115_2, hi115_2, hl115_4, hi115_4, hl115_8, hi115_8, hl115_10, hi115_10, hl115_11, hi115_11⟩ := at_T66 (Kd.V_reads' HO_0.out).2.2 x6_1 p115 q115
       cases e115
       obtain ⟨ce115, hce115, hMe115, hcc115⟩ := Kd.V_get HO_0.out z66 x6_1 p115 (by first | exact q115 | exact of_decide_eq_true (by first | (with_reducible assumption) | assumption) | (have e_ := (Kd.V_reads' HO_0.out).1; omega))
       obtain ⟨ua115_2, uc115_2, ua115_4, uc115_4, ua115_8, uc115_8, ua115_10, uc115_10, ua115_11, uc115_11, rfl, ul115_2, ge115_2, ul115_4, ge115_4, ul115_8, ge115_8, ul115_10, ge115_10, ul115_11, ge115_11⟩ := k66_openF hMe115
       have hv115_2 := hcc115 2 _ rfl
       rw [add_field _ _ 2 (by omega)] at hv115_2
       replace hv115_2 := Option.some.inj (hv115_2.symm.trans hx115_2)
       injection hv115_2 with hva_ hvn_ hvc_
       rw [hva_] at ge115_2
       rw [hvc_] at ul115_2
       have HL115_2 := Aside0.mk (show Kd.V (Kd.int .u8) 5 _ w.heap.size _ _ ((rd_T66 l0 x6_1).f0.f2) from Kd.V_mk ul115_2 ge115_2)
       clear hva_ hvn_ hvc_ ge115_2 ul115_2
       have hv115_4 := hcc115 4 _ rfl
       rw [add_field _ _ 4 (by omega)] at hv115_4
       replace hv115_4 := Option.some.inj (hv115_4.symm.trans hx115_4)
       injection hv115_4 with hva_ hvn_ hvc_
       rw [hva_] at ge115_4
       rw [hvc_] at ul115_4
       have HL115_4 := Aside0.mk (show Kd.V Kd.bool 4 _ w.heap.size _ _ ((rd_T66 l0 x6_1).f0.f4.f0) from Kd.V_mk ul115_4 ge115_4)
       clear hva_ hvn_ hvc_ ge115_4 ul115_4
       have hv115_8 := hcc115 8 _ rfl
       rw [add_field _ _ 8 (by omega)] at hv115_8
       replace hv115_8 := Option.some.inj (hv115_8.symm.trans hx115_8)
       injection hv115_8 with hva_ hvn_ hvc_
       rw [hva_] at ge115_8
       rw [hvc_] at ul115_8
       have HL115_8 := Aside0.mk (show Kd.V (Kd.int .u8) 5 _ w.heap.size _ _ ((rd_T66 l0 x6_1).f1.f1) from Kd.V_mk ul115_8 ge115_8)
       clear hva_ hvn_ hvc_ ge115_8 ul115_8
       have hv115_10 := hcc115 10 _ rfl
       rw [add_field _ _ 10 (by omega)] at hv115_10
       replace hv115_10 := Option.some.inj (hv115_10.symm.trans hx115_10)
       injection hv115_10 with hva_ hvn_ hvc_
       rw [hva_] at ge115_10
       rw [hvc_] at ul115_10
       have HL115_10 := Aside0.mk (show Kd.V Kd.string 9 _ w.heap.size _ _ ((rd_T66 l0 x6_1).f1.f3) from Kd.V_mk ul115_10 ge115_10)
       clear hva_ hvn_ hvc_ ge115_10 ul115_10
       have hv115_11 := hcc115 11 _ rfl
       rw [add_field _ _ 11 (by omega)] at hv115_11
       replace hv115_11 := Option.some.inj (hv115_11.symm.trans hx115_11)
       injection hv115_11 with hva_ hvn_ hvc_
       rw [hva_] at ge115_11
       rw [hvc_] at ul115_11
       have HL115_11 := Aside0.mk (show Kd.V k122 122 _ w.heap.size _ _ ((rd_T66 l0 x6_1).f1.f4) from Kd.V_mk ul115_11 ge115_11)
       clear hva_ hvn_ hvc_ ge115_11 ul115_11
       clear hcc115 hce115
       have HR115_2 := Aside0.mk hi115_2
       have HC115_2 := Aside0.mk hl115_2
       clear hi115_2 hl115_2
       have HR115_4 := Aside0.mk hi115_4
       have HC115_4 := Aside0.mk hl115_4
       clear hi115_4 hl115_4
       have HR115_8 := Aside0.mk hi115_8
       have HC115_8 := Aside0.mk hl115_8
       clear hi115_8 hl115_8
       have HR115_10 := Aside0.mk hi115_10
       have HC115_10 := Aside0.mk hl115_10
       clear hi115_10 hl115_10
       have HR115_11 := Aside0.mk hi115_11
       have HC115_11 := Aside0.mk hl115_11
       clear hi115_11 hl115_11
       replace p115 := eq_true p115
       replace q115 := eq_true q115
       go_wp2_with (first | ((with_reducible refine gate_builtin (b := .append) (xs := #[.tmp 13, .tmp 19]) rfl ?_); at_builtin; refine Kd.N_append k47 (w0 := w) w.heap.size rfl (.tmp 13) (.tmp 19) 32 47 (.agg #[(.int .i64 0), (.string ⟨#[]⟩), (.slice none 0 0), (.int .i64 0), (.slice none 0 0), (.int .i64 0), (.int .u8 0)]) 96 rfl Tryd.underlying32 info47 rfl (by decide) (by omega) u4 x4_1 (⟨(rd_T66 l0 x6_1).f0.f0, (rd_T66 l0 x6_1).f0.f1, (rd_T66 l0 x6_1).f0.f2, (rd_T66 l0 x6_1).f0.f3, (⟨(rd_T66 l0 x6_1).f0.f4.f0, (rd_T66 l0 x6_1).f0.f4.f1, (rd_T66 l0 x6_1).f0.f4.f2⟩ : S45)⟩ : S47) [.int .i64 ((rd_T66 l0 x6_1).f0.f0), .string ((rd_T66 l0 x6_1).f0.f1), .slice A115_2 ((rd_T66 l0 x6_1).f0.f2).length c115_2, .int .i64 ((rd_T66 l0 x6_1).f0.f3), .slice A115_4 ((rd_T66 l0 x6_1).f0.f4.f0).length c115_4, .int .i64 ((rd_T66 l0 x6_1).f0.f4.f1), .int .u8 ((rd_T66 l0 x6_1).f0.f4.f2)] (fun k_ => (P0_ k_ ∨ w.heap.size ≤ k_) ∧ some k_ ≠ (u5 : Value).ownBlock) (fun k_ => ((fun k_ => (P0_ k_ ∨ w.heap.size ≤ k_) ∧ some k_ ≠ (u5 : Value).ownBlock)) k_ ∧ some k_ ≠ (u4 : Value).ownBlock) rfl rfl ?aP (fun _ hk => hk) ?aF ?aO ?aB ?aS ?aL ?_; (case aP => first | exact (k47_mkF _ _ (⟨(rd_T66 l0 x6_1).f0.f0, (rd_T66 l0 x6_1).f0.f1, (rd_T66 l0 x6_1).f0.f2, (rd_T66 l0 x6_1).f0.f3, (⟨(rd_T66 l0 x6_1).f0.f4.f0, (rd_T66 l0 x6_1).f0.f4.f1, (rd_T66 l0 x6_1).f0.f4.f2⟩ : S45)⟩ : S47) (Kd.V_reads' (Kd.V_mono (ok' := (fun k_ => ((fun k_ => (P0_ k_ ∨ w.heap.size ≤ k_) ∧ some k_ ≠ (u5 : Value).ownBlock)) k_ ∧ some k_ ≠ (u4 : Value).ownBlock)) (HL115_2.out) (fun k_ hk => ⟨⟨hk.1, hk.2.2⟩, hk.2.1⟩))).2.1 (Kd.V_F (Kd.V_mono (ok' := (fun k_ => ((fun k_ => (P0_ k_ ∨ w.heap.size ≤ k_) ∧ some k_ ≠ (u5 : Value).ownBlock)) k_ ∧ some k_ ≠ (u4 : Value).ownBlock)) (HL115_2.out) (fun k_ hk => ⟨⟨hk.1, hk.2.2⟩, hk.2.1⟩))) (Kd.V_reads' (Kd.V_mono (ok' := (fun k_ => ((fun k_ => (P0_ k_ ∨ w.heap.size ≤ k_) ∧ some k_ ≠ (u5 : Value).ownBlock)) k_ ∧ some k_ ≠ (u4 : Value).ownBlock)) (HL115_4.out) (fun k_ hk => ⟨⟨hk.1, hk.2.2⟩, hk.2.1⟩))).2.1 (Kd.V_F (Kd.V_mono (ok' := (fun k_ => ((fun k_ => (P0_ k_ ∨ w.heap.size ≤ k_) ∧ some k_ ≠ (u5 : Value).ownBlock)) k_ ∧ some k_ ≠ (u4 : Value).ownBlock)) (HL115_4.out) (fun k_ hk => ⟨⟨hk.1, hk.2.2⟩, hk.2.1⟩)))) | exact (k47_mkF _ _ (⟨(rd_T66 l0 x6_1).f0.f0, (rd_T66 l0 x6_1).f0.f1, (rd_T66 l0 x6_1).f0.f2, (rd_T66 l0 x6_1).f0.f3, (⟨(rd_T66 l0 x6_1).f0.f4.f0, (rd_T66 l0 x6_1).f0.f4.f1, (rd_T66 l0 x6_1).f0.f4.f2⟩ : S45)⟩ : S47) (Kd.V_reads' (Kd.V_mono (ok' := (fun k_ => ((fun k_ => (P0_ k_ ∨ w.heap.size ≤ k_) ∧ some k_ ≠ (u5 : Value).ownBlock)) k_ ∧ some k_ ≠ (u4 : Value).ownBlock)) (HL115_2.out) (fun k_ hk => ⟨⟨hk.1, hk.2.2⟩, hk.2.1⟩))).2.1 (Kd.V_F (Kd.V_mono (ok' := (fun k_ => ((fun k_ => (P0_ k_ ∨ w.heap.size ≤ k_) ∧ some k_ ≠ (u5 : Value).ownBlock)) k_ ∧ some k_ ≠ (u4 : Value).ownBlock)) ((Kd.V_drewN (HL115_2.out) _)) (fun k_ hk => ⟨⟨hk.1, hk.2.2⟩, hk.2.1⟩))) (Kd.V_reads' (Kd.V_mono (ok' := (fun k_ => ((fun k_ => (P0_ k_ ∨ w.heap.size ≤ k_) ∧ some k_ ≠ (u5 : Value).ownBlock)) k_ ∧ some k_ ≠ (u4 : Value).ownBlock)) (HL115_4.out) (fun k_ hk => ⟨⟨hk.1, hk.2.2⟩, hk.2.1⟩))).2.1 (Kd.V_F (Kd.V_mono (ok' := (fun k_ => ((fun k_ => (P0_ k_ ∨ w.heap.size ≤ k_) ∧ some k_ ≠ (u5 : Value).ownBlock)) k_ ∧ some k_ ≠ (u4 : Value).ownBlock)) ((Kd.V_drewN (HL115_4.out) _)) (fun k_ hk => ⟨⟨hk.1, hk.2.2⟩, hk.2.1⟩)))) | exact (k47_mkF _ _ (⟨(rd_T66 l0 x6_1).f0.f0, (rd_T66 l0 x6_1).f0.f1, (rd_T66 l0 x6_1).f0.f2, (rd_T66 l0 x6_1).f0.f3, (⟨(rd_T66 l0 x6_1).f0.f4.f0, (rd_T66 l0 x6_1).f0.f4.f1, (rd_T66 l0 x6_1).f0.f4.f2⟩ : S45)⟩ : S47) (Kd.V_reads' (Kd.V_mono (ok' := (fun k_ => ((fun k_ => (P0_ k_ ∨ w.heap.size ≤ k_) ∧ some k_ ≠ (u5 : Value).ownBlock)) k_ ∧ some k_ ≠ (u4 : Value).ownBlock)) (HL115_2.out) (fun k_ hk => ⟨⟨hk.1, hk.2.2⟩, hk.2.1⟩))).2.1 (Kd.V_F (Kd.V_mono (ok' := (fun k_ => ((fun k_ => (P0_ k_ ∨ w.heap.size ≤ k_) ∧ some k_ ≠ (u5 : Value).ownBlock)) k_ ∧ some k_ ≠ (u4 : Value).ownBlock)) ((Kd.V_drewN (Kd.V_drewN (HL115_2.out) _) _)) (fun k_ hk => ⟨⟨hk.1, hk.2.2⟩, hk.2.1⟩))) (Kd.V_reads' (Kd.V_mono (ok' := (fun k_ => ((fun k_ => (P0_ k_ ∨ w.heap.size ≤ k_) ∧ some k_ ≠ (u5 : Value).ownBlock)) k_ ∧ some k_ ≠ (u4 : Value).ownBlock)) (HL115_4.out) (fun k_ hk => ⟨⟨hk.1, hk.2.2⟩, hk.2.1⟩))).2.1 (Kd.V_F (Kd.V_mono (ok' := (fun k_ => ((fun k_ => (P0_ k_ ∨ w.heap.size ≤ k_) ∧ some k_ ≠ (u5 : Value).ownBlock)) k_ ∧ some k_ ≠ (u4 : Value).ownBlock)) ((Kd.V_drewN (Kd.V_drewN (HL115_4.out) _) _)) (fun k_ hk => ⟨⟨hk.1, hk.2.2⟩, hk.2.1⟩)))) | exact (k47_mkF _ _ (⟨(rd_T66 l0 x6_1).f0.f0, (rd_T66 l0 x6_1).f0.f1, (rd_T66 l0 x6_1).f0.f2, (rd_T66 l0 x6_1).f0.f3, (⟨(rd_T66 l0 x6_1).f0.f4.f0, (rd_T66 l0 x6_1).f0.f4.f1, (rd_T66 l0 x6_1).f0.f4.f2⟩ : S45)⟩ : S47) (Kd.V_reads' (Kd.V_mono (ok' := (fun k_ => ((fun k_ => (P0_ k_ ∨ w.heap.size ≤ k_) ∧ some k_ ≠ (u5 : Value).ownBlock)) k_ ∧ some k_ ≠ (u4 : Value).ownBlock)) (HL115_2.out) (fun k_ hk => ⟨⟨hk.1, hk.2.2⟩, hk.2.1⟩))).2.1 (Kd.V_F (Kd.V_mono (ok' := (fun k_ => ((fun k_ => (P0_ k_ ∨ w.heap.size ≤ k_) ∧ some k_ ≠ (u5 : Value).ownBlock)) k_ ∧ some k_ ≠ (u4 : Value).ownBlock)) ((Kd.V_drewN (Kd.V_drewN (Kd.V_drewN (HL115_2.out) _) _) _)) (fun k_ hk => ⟨⟨hk.1, hk.2.2⟩, hk.2.1⟩))) (Kd.V_reads' (Kd.V_mono (ok' := (fun k_ => ((fun k_ => (P0_ k_ ∨ w.heap.size ≤ k_) ∧ some k_ ≠ (u5 : Value).ownBlock)) k_ ∧ some k_ ≠ (u4 : Value).ownBlock)) (HL115_4.out) (fun k_ hk => ⟨⟨hk.1, hk.2.2⟩, hk.2.1⟩))).2.1 (Kd.V_F (Kd.V_mono (ok' := (fun k_ => ((fun k_ => (P0_ k_ ∨ w.heap.size ≤ k_) ∧ some k_ ≠ (u5 : Value).ownBlock)) k_ ∧ some k_ ≠ (u4 : Value).ownBlock)) ((Kd.V_drewN (Kd.V_drewN (Kd.V_drewN (HL115_4.out) _) _) _)) (fun k_ hk => ⟨⟨hk.1, hk.2.2⟩, hk.2.1⟩))))); (case aB => exact (by repeat (first | (with_reducible first | exact HB.out | apply below_alloc | apply pw_below_drewN | apply below_drew1) | exact HB.out))); (case aF => exact (fun k_ hk => ⟨(.inr (Nat.le_trans (below_size (by repeat (first | (with_reducible first | exact HB.out | apply below_alloc | apply pw_below_drewN | apply below_drew1) | exact HB.out))) hk)), Kd.fresh' (Kd.N_lt (by (with_reducible repeat (first | apply Kd.N_alloc | apply Kd.N_drewN | apply Kd.N_drew)); exact HO_5.out)) k_ hk⟩)); (case aO => exact (by (with_reducible repeat (first | apply Kd.N_alloc | apply Kd.N_drewN | apply Kd.N_drew)); exact HO_4.out)); (case aS => exact (below_size (by repeat (first | (with_reducible first | exact HB.out | apply below_alloc | apply pw_below_drewN | apply below_drew1) | exact HB.out)))); (case aL => have := LMc4.out; omega); intro v117 w6 ho hb hg hat; rw [← Ny116.out] at ho; have n0_ := Aside0.mk (Kd.V_afterv (ok := (fun k_ => (P0_ k_ ∨ w.heap.size ≤ k_) ∧ some k_ ≠ (u5 : Value).ownBlock)) (by (with_reducible repeat (first | apply Kd.V_alloc | apply Kd.V_drewN | apply Kd.V_drew)); exact Kd.V_mono HO_0.out (fun _ hk => ⟨⟨hk.1, hk.2.2⟩, hk.2.1⟩)) hg hat); have n1_ := Aside0.mk (Kd.N_afterv (ok := (fun k_ => (P0_ k_ ∨ w.heap.size ≤ k_))) (by (with_reducible repeat (first | apply Kd.N_alloc | apply Kd.N_drewN | apply Kd.N_drew)); exact HO_5.out) hg hat); have n2_ := Aside0.mk (Kd.V_afterv (ok := (fun k_ => (P0_ k_ ∨ w.heap.size ≤ k_) ∧ some k_ ≠ (u5 : Value).ownBlock)) (by (with_reducible repeat (first | apply Kd.V_alloc | apply Kd.V_drewN | apply Kd.V_drew)); exact Kd.V_mono HL115_2.out (fun _ hk => ⟨⟨hk.1, hk.2.2⟩, hk.2.1⟩)) hg hat); have n3_ := Aside0.mk (Kd.V_afterv (ok := (fun k_ => (P0_ k_ ∨ w.heap.size ≤ k_) ∧ some k_ ≠ (u5 : Value).ownBlock)) (by (with_reducible repeat (first | apply Kd.V_alloc | apply Kd.V_drewN | apply Kd.V_drew)); exact Kd.V_mono HL115_4.out (fun _ hk => ⟨⟨hk.1, hk.2.2⟩, hk.2.1⟩)) hg hat); have n4_ := Aside0.mk (Kd.V_afterv (ok := (fun k_ => (P0_ k_ ∨ w.heap.size ≤ k_) ∧ some k_ ≠ (u5 : Value).ownBlock)) (by (with_reducible repeat (first | apply Kd.V_alloc | apply Kd.V_drewN | apply Kd.V_drew)); exact Kd.V_mono HL115_8.out (fun _ hk => ⟨⟨hk.1, hk.2.2⟩, hk.2.1⟩)) hg hat); have n5_ := Aside0.mk (Kd.V_afterv (ok := (fun k_ => (P0_ k_ ∨ w.heap.size ≤ k_) ∧ some k_ ≠ (u5 : Value).ownBlock)) (by (with_reducible repeat (first | apply Kd.V_alloc | apply Kd.V_drewN | apply Kd.V_drew)); exact Kd.V_mono HL115_10.out (fun _ hk => ⟨⟨hk.1, hk.2.2⟩, hk.2.1⟩)) hg hat); have n6_ := Aside0.mk (Kd.V_afterv (ok := (fun k_ => (P0_ k_ ∨ w.heap.size ≤ k_) ∧ some k_ ≠ (u5 : Value).ownBlock)) (by (with_reducible repeat (first | apply Kd.V_alloc | apply Kd.V_drewN | apply Kd.V_drew)); exact Kd.V_mono HL115_11.out (fun _ hk => ⟨⟨hk.1, hk.2.2⟩, hk.2.1⟩)) hg hat); have n7_ := Aside0.mk (hb); have n8_ := Aside0.mk (ho); clear HO_0; clear HO_5; clear HL115_2; clear HL115_4; clear HL115_8; clear HL115_10; clear HL115_11; clear HB; clear HO_4; have HO_0 := n0_; have HO_5 := n1_; have HL115_2 := n2_; have HL115_4 := n3_; have HL115_8 := n4_; have HL115_10 := n5_; have HL115_11 := n6_; have HB := n7_; have HO118 := n8_; clear n0_ n1_ n2_ n3_ n4_ n5_ n6_ n7_ n8_; clear ho hb hg hat; have p119 : 0 ≤ (x6_1 : Int) := of_decide_eq_true (by first | (with_reducible assumption) | assumption); have q119 : x6_1 < (l0.length : Int) := of_decide_eq_true (by first | (with_reducible assumption) | assumption); obtain ⟨ad119, A119_2, c119_2, A119_4, c119_4, A119_8, c119_8, A119_10, c119_10, A119_11, c119_11, e119, hx119_0, hx119_1, hx119_2, hx119_3, hx119_4, hx119_5, hx119_6, hx119_7, hx119_8, hx119_9, hx119_10, hx119_11, hx119_12, hx119_13, hl119_2, hi119_2, hl119_4, hi119_4, hl119_8, hi119_8, hl119_10, hi119_10, hl119_11, hi119_11⟩ := at_T66 (Kd.V_reads' HO_0.out).2.2 x6_1 p119 q119; obtain rfl : ad115 = ad119 := (by injection e119); obtain ⟨ce119, hce119, hMe119, hcc119⟩ := Kd.V_get HO_0.out z66 x6_1 p119 (by first | exact q119 | exact of_decide_eq_true (by first | (with_reducible assumption) | assumption) | (have e_ := (Kd.V_reads' HO_0.out).1; omega)); obtain ⟨ua119_2, uc119_2, ua119_4, uc119_4, ua119_8, uc119_8, ua119_10, uc119_10, ua119_11, uc119_11, rfl, ul119_2, ge119_2, ul119_4, ge119_4, ul119_8, ge119_8, ul119_10, ge119_10, ul119_11, ge119_11⟩ := k66_openF hMe119; have hv119_2 := hcc119 2 _ rfl; rw [add_field _ _ 2 (by omega)] at hv119_2; replace hv119_2 := Option.some.inj (hv119_2.symm.trans hx119_2); injection hv119_2 with hva_ hvn_ hvc_; rw [hva_] at ge119_2; rw [hvc_] at ul119_2; have HL119_2 := Aside0.mk (show Kd.V (Kd.int .u8) 5 _ w.heap.size _ _ ((rd_T66 l0 x6_1).f0.f2) from Kd.V_mk ul119_2 ge119_2); clear hva_ hvn_ hvc_ ge119_2 ul119_2; have hv119_4 := hcc119 4 _ rfl; rw [add_field _ _ 4 (by omega)] at hv119_4; replace hv119_4 := Option.some.inj (hv119_4.symm.trans hx119_4); injection hv119_4 with hva_ hvn_ hvc_; rw [hva_] at ge119_4; rw [hvc_] at ul119_4; have HL119_4 := Aside0.mk (show Kd.V Kd.bool 4 _ w.heap.size _ _ ((rd_T66 l0 x6_1).f0.f4.f0) from Kd.V_mk ul119_4 ge119_4); clear hva_ hvn_ hvc_ ge119_4 ul119_4; have hv119_8 := hcc119 8 _ rfl; rw [add_field _ _ 8 (by omega)] at hv119_8; replace hv119_8 := Option.some.inj (hv119_8.symm.trans hx119_8); injection hv119_8 with hva_ hvn_ hvc_; rw [hva_] at ge119_8; rw [hvc_] at ul119_8; have HL119_8 := Aside0.mk (show Kd.V (Kd.int .u8) 5 _ w.heap.size _ _ ((rd_T66 l0 x6_1).f1.f1) from Kd.V_mk ul119_8 ge119_8); clear hva_ hvn_ hvc_ ge119_8 ul119_8; have hv119_10 := hcc119 10 _ rfl; rw [add_field _ _ 10 (by omega)] at hv119_10; replace hv119_10 := Option.some.inj (hv119_10.symm.trans hx119_10); injection hv119_10 with hva_ hvn_ hvc_; rw [hva_] at ge119_10; rw [hvc_] at ul119_10; have HL119_10 := Aside0.mk (show Kd.V Kd.string 9 _ w.heap.size _ _ ((rd_T66 l0 x6_1).f1.f3) from Kd.V_mk ul119_10 ge119_10); clear hva_ hvn_ hvc_ ge119_10 ul119_10; have hv119_11 := hcc119 11 _ rfl; rw [add_field _ _ 11 (by omega)] at hv119_11; replace hv119_11 := Option.some.inj (hv119_11.symm.trans hx119_11); injection hv119_11 with hva_ hvn_ hvc_; rw [hva_] at ge119_11; rw [hvc_] at ul119_11; have HL119_11 := Aside0.mk (show Kd.V k122 122 _ w.heap.size _ _ ((rd_T66 l0 x6_1).f1.f4) from Kd.V_mk ul119_11 ge119_11); clear hva_ hvn_ hvc_ ge119_11 ul119_11; clear hcc119 hce119; have HR119_2 := Aside0.mk hi119_2; have HC119_2 := Aside0.mk hl119_2; clear hi119_2 hl119_2; have HR119_4 := Aside0.mk hi119_4; have HC119_4 := Aside0.mk hl119_4; clear hi119_4 hl119_4; have HR119_8 := Aside0.mk hi119_8; have HC119_8 := Aside0.mk hl119_8; clear hi119_8 hl119_8; have HR119_10 := Aside0.mk hi119_10; have HC119_10 := Aside0.mk hl119_10; clear hi119_10 hl119_10; have HR119_11 := Aside0.mk hi119_11; have HC119_11 := Aside0.mk hl119_11; clear hi119_11 hl119_11; replace p119 := eq_true p119; replace q119 := eq_true q119) | ((with_reducible refine gate_builtin (b := .append) (xs := #[.tmp 21, .tmp 27]) rfl ?_); at_builtin; refine Kd.N_append k51 (w0 := w) w.heap.size rfl (.tmp 21) (.tmp 27) 33 51 (.agg #[(.int .i64 0), (.slice none 0 0), (.int .i64 0), (.slice none 0 0), (.slice none 0 0), (.bool false), (.bool false)]) 96 rfl Tryd.underlying33 info51 rfl (by decide) (by omega) u5 x5_1 (⟨(rd_T66 l0 x6_1).f1.f0, (rd_T66 l0 x6_1).f1.f1, (rd_T66 l0 x6_1).f1.f2, (rd_T66 l0 x6_1).f1.f3, (rd_T66 l0 x6_1).f1.f4, (rd_T66 l0 x6_1).f1.f5, (rd_T66 l0 x6_1).f1.f6⟩ : S51) [.int .i64 ((rd_T66 l0 x6_1).f1.f0), .slice A119_8 ((rd_T66 l0 x6_1).f1.f1).length c119_8, .int .i64 ((rd_T66 l0 x6_1).f1.f2), .slice A119_10 ((rd_T66 l0 x6_1).f1.f3).length c119_10, .slice A119_11 ((rd_T66 l0 x6_1).f1.f4).length c119_11, .bool ((rd_T66 l0 x6_1).f1.f5), .bool ((rd_T66 l0 x6_1).f1.f6)] (fun k_ => (P0_ k_ ∨ w.heap.size ≤ k_) ∧ some k_ ≠ (v117 : Value).ownBlock) (fun k_ => ((fun k_ => (P0_ k_ ∨ w.heap.size ≤ k_) ∧ some k_ ≠ (v117 : Value).ownBlock)) k_ ∧ some k_ ≠ (u5 : Value).ownBlock) rfl rfl ?aP (fun _ hk => hk) ?aF ?aO ?aB ?aS ?aL ?_; (case aP => first | exact (k51_mkF _ _ (⟨(rd_T66 l0 x6_1).f1.f0, (rd_T66 l0 x6_1).f1.f1, (rd_T66 l0 x6_1).f1.f2, (rd_T66 l0 x6_1).f1.f3, (rd_T66 l0 x6_1).f1.f4, (rd_T66 l0 x6_1).f1.f5, (rd_T66 l0 x6_1).f1.f6⟩ : S51) (Kd.V_reads' (Kd.V_mono (ok' := (fun k_ => ((fun k_ => (P0_ k_ ∨ w.heap.size ≤ k_) ∧ some k_ ≠ (v117 : Value).ownBlock)) k_ ∧ some k_ ≠ (u5 : Value).ownBlock)) (HL119_8.out) (fun k_ hk => ⟨⟨hk.1.1, hk.2⟩, hk.1.2⟩))).2.1 (Kd.V_F (Kd.V_mono (ok' := (fun k_ => ((fun k_ => (P0_ k_ ∨ w.heap.size ≤ k_) ∧ some k_ ≠ (v117 : Value).ownBlock)) k_ ∧ some k_ ≠ (u5 : Value).ownBlock)) (HL119_8.out) (fun k_ hk => ⟨⟨hk.1.1, hk.2⟩, hk.1.2⟩))) (Kd.V_reads' (Kd.V_mono (ok' := (fun k_ => ((fun k_ => (P0_ k_ ∨ w.heap.size ≤ k_) ∧ some k_ ≠ (v117 : Value).ownBlock)) k_ ∧ some k_ ≠ (u5 : Value).ownBlock)) (HL119_10.out) (fun k_ hk => ⟨⟨hk.1.1, hk.2⟩, hk.1.2⟩))).2.1 (Kd.V_F (Kd.V_mono (ok' := (fun k_ => ((fun k_ => (P0_ k_ ∨ w.heap.size ≤ k_) ∧ some k_ ≠ (v117 : Value).ownBlock)) k_ ∧ some k_ ≠ (u5 : Value).ownBlock)) (HL119_10.out) (fun k_ hk => ⟨⟨hk.1.1, hk.2⟩, hk.1.2⟩))) (Kd.V_reads' (Kd.V_mono (ok' := (fun k_ => ((fun k_ => (P0_ k_ ∨ w.heap.size ≤ k_) ∧ some k_ ≠ (v117 : Value).ownBlock)) k_ ∧ some k_ ≠ (u5 : Value).ownBlock)) (HL119_11.out) (fun k_ hk => ⟨⟨hk.1.1, hk.2⟩, hk.1.2⟩))).2.1 (Kd.V_F (Kd.V_mono (ok' := (fun k_ => ((fun k_ => (P0_ k_ ∨ w.heap.size ≤ k_) ∧ some k_ ≠ (v117 : Value).ownBlock)) k_ ∧ some k_ ≠ (u5 : Value).ownBlock)) (HL119_11.out) (fun k_ hk => ⟨⟨hk.1.1, hk.2⟩, hk.1.2⟩)))) | exact (k51_mkF _ _ (⟨(rd_T66 l0 x6_1).f1.f0, (rd_T66 l0 x6_1).f1.f1, (rd_T66 l0 x6_1).f1.f2, (rd_T66 l0 x6_1).f1.f3, (rd_T66 l0 x6_1).f1.f4, (rd_T66 l0 x6_1).f1.f5, (rd_T66 l0 x6_1).f1.f6⟩ : S51) (Kd.V_reads' (Kd.V_mono (ok' := (fun k_ => ((fun k_ => (P0_ k_ ∨ w.heap.size ≤ k_) ∧ some k_ ≠ (v117 : Value).ownBlock)) k_ ∧ some k_ ≠ (u5 : Value).ownBlock)) (HL119_8.out) (fun k_ hk => ⟨⟨hk.1.1, hk.2⟩, hk.1.2⟩))).2.1 (Kd.V_F (Kd.V_mono (ok' := (fun k_ => ((fun k_ => (P0_ k_ ∨ w.heap.size ≤ k_) ∧ some k_ ≠ (v117 : Value).ownBlock)) k_ ∧ some k_ ≠ (u5 : Value).ownBlock)) ((Kd.V_drewN (HL119_8.out) _)) (fun k_ hk => ⟨⟨hk.1.1, hk.2⟩, hk.1.2⟩))) (Kd.V_reads' (Kd.V_mono (ok' := (fun k_ => ((fun k_ => (P0_ k_ ∨ w.heap.size ≤ k_) ∧ some k_ ≠ (v117 : Value).ownBlock)) k_ ∧ some k_ ≠ (u5 : Value).ownBlock)) (HL119_10.out) (fun k_ hk => ⟨⟨hk.1.1, hk.2⟩, hk.1.2⟩))).2.1 (Kd.V_F (Kd.V_mono (ok' := (fun k_ => ((fun k_ => (P0_ k_ ∨ w.heap.size ≤ k_) ∧ some k_ ≠ (v117 : Value).ownBlock)) k_ ∧ some k_ ≠ (u5 : Value).ownBlock)) ((Kd.V_drewN (HL119_10.out) _)) (fun k_ hk => ⟨⟨hk.1.1, hk.2⟩, hk.1.2⟩))) (Kd.V_reads' (Kd.V_mono (ok' := (fun k_ => ((fun k_ => (P0_ k_ ∨ w.heap.size ≤ k_) ∧ some k_ ≠ (v117 : Value).ownBlock)) k_ ∧ some k_ ≠ (u5 : Value).ownBlock)) (HL119_11.out) (fun k_ hk => ⟨⟨hk.1.1, hk.2⟩, hk.1.2⟩))).2.1 (Kd.V_F (Kd.V_mono (ok' := (fun k_ => ((fun k_ => (P0_ k_ ∨ w.heap.size ≤ k_) ∧ some k_ ≠ (v117 : Value).ownBlock)) k_ ∧ some k_ ≠ (u5 : Value).ownBlock)) ((Kd.V_drewN (HL119_11.out) _)) (fun k_ hk => ⟨⟨hk.1.1, hk.2⟩, hk.1.2⟩)))) | exact (k51_mkF _ _ (⟨(rd_T66 l0 x6_1).f1.f0, (rd_T66 l0 x6_1).f1.f1, (rd_T66 l0 x6_1).f1.f2, (rd_T66 l0 x6_1).f1.f3, (rd_T66 l0 x6_1).f1.f4, (rd_T66 l0 x6_1).f1.f5, (rd_T66 l0 x6_1).f1.f6⟩ : S51) (Kd.V_reads' (Kd.V_mono (ok' := (fun k_ => ((fun k_ => (P0_ k_ ∨ w.heap.size ≤ k_) ∧ some k_ ≠ (v117 : Value).ownBlock)) k_ ∧ some k_ ≠ (u5 : Value).ownBlock)) (HL119_8.out) (fun k_ hk => ⟨⟨hk.1.1, hk.2⟩, hk.1.2⟩))).2.1 (Kd.V_F (Kd.V_mono (ok' := (fun k_ => ((fun k_ => (P0_ k_ ∨ w.heap.size ≤ k_) ∧ some k_ ≠ (v117 : Value).ownBlock)) k_ ∧ some k_ ≠ (u5 : Value).ownBlock)) ((Kd.V_drewN (Kd.V_drewN (HL119_8.out) _) _)) (fun k_ hk => ⟨⟨hk.1.1, hk.2⟩, hk.1.2⟩))) (Kd.V_reads' (Kd.V_mono (ok' := (fun k_ => ((fun k_ => (P0_ k_ ∨ w.heap.size ≤ k_) ∧ some k_ ≠ (v117 : Value).ownBlock)) k_ ∧ some k_ ≠ (u5 : Value).ownBlock)) (HL119_10.out) (fun k_ hk => ⟨⟨hk.1.1, hk.2⟩, hk.1.2⟩))).2.1 (Kd.V_F (Kd.V_mono (ok' := (fun k_ => ((fun k_ => (P0_ k_ ∨ w.heap.size ≤ k_) ∧ some k_ ≠ (v117 : Value).ownBlock)) k_ ∧ some k_ ≠ (u5 : Value).ownBlock)) ((Kd.V_drewN (Kd.V_drewN (HL119_10.out) _) _)) (fun k_ hk => ⟨⟨hk.1.1, hk.2⟩, hk.1.2⟩))) (Kd.V_reads' (Kd.V_mono (ok' := (fun k_ => ((fun k_ => (P0_ k_ ∨ w.heap.size ≤ k_) ∧ some k_ ≠ (v117 : Value).ownBlock)) k_ ∧ some k_ ≠ (u5 : Value).ownBlock)) (HL119_11.out) (fun k_ hk => ⟨⟨hk.1.1, hk.2⟩, hk.1.2⟩))).2.1 (Kd.V_F (Kd.V_mono (ok' := (fun k_ => ((fun k_ => (P0_ k_ ∨ w.heap.size ≤ k_) ∧ some k_ ≠ (v117 : Value).ownBlock)) k_ ∧ some k_ ≠ (u5 : Value).ownBlock)) ((Kd.V_drewN (Kd.V_drewN (HL119_11.out) _) _)) (fun k_ hk => ⟨⟨hk.1.1, hk.2⟩, hk.1.2⟩)))) | exact (k51_mkF _ _ (⟨(rd_T66 l0 x6_1).f1.f0, (rd_T66 l0 x6_1).f1.f1, (rd_T66 l0 x6_1).f1.f2, (rd_T66 l0 x6_1).f1.f3, (rd_T66 l0 x6_1).f1.f4, (rd_T66 l0 x6_1).f1.f5, (rd_T66 l0 x6_1).f1.f6⟩ : S51) (Kd.V_reads' (Kd.V_mono (ok' := (fun k_ => ((fun k_ => (P0_ k_ ∨ w.heap.size ≤ k_) ∧ some k_ ≠ (v117 : Value).ownBlock)) k_ ∧ some k_ ≠ (u5 : Value).ownBlock)) (HL119_8.out) (fun k_ hk => ⟨⟨hk.1.1, hk.2⟩, hk.1.2⟩))).2.1 (Kd.V_F (Kd.V_mono (ok' := (fun k_ => ((fun k_ => (P0_ k_ ∨ w.heap.size ≤ k_) ∧ some k_ ≠ (v117 : Value).ownBlock)) k_ ∧ some k_ ≠ (u5 : Value).ownBlock)) ((Kd.V_drewN (Kd.V_drewN (Kd.V_drewN (HL119_8.out) _) _) _)) (fun k_ hk => ⟨⟨hk.1.1, hk.2⟩, hk.1.2⟩))) (Kd.V_reads' (Kd.V_mono (ok' := (fun k_ => ((fun k_ => (P0_ k_ ∨ w.heap.size ≤ k_) ∧ some k_ ≠ (v117 : Value).ownBlock)) k_ ∧ some k_ ≠ (u5 : Value).ownBlock)) (HL119_10.out) (fun k_ hk => ⟨⟨hk.1.1, hk.2⟩, hk.1.2⟩))).2.1 (Kd.V_F (Kd.V_mono (ok' := (fun k_ => ((fun k_ => (P0_ k_ ∨ w.heap.size ≤ k_) ∧ some k_ ≠ (v117 : Value).ownBlock)) k_ ∧ some k_ ≠ (u5 : Value).ownBlock)) ((Kd.V_drewN (Kd.V_drewN (Kd.V_drewN (HL119_10.out) _) _) _)) (fun k_ hk => ⟨⟨hk.1.1, hk.2⟩, hk.1.2⟩))) (Kd.V_reads' (Kd.V_mono (ok' := (fun k_ => ((fun k_ => (P0_ k_ ∨ w.heap.size ≤ k_) ∧ some k_ ≠ (v117 : Value).ownBlock)) k_ ∧ some k_ ≠ (u5 : Value).ownBlock)) (HL119_11.out) (fun k_ hk => ⟨⟨hk.1.1, hk.2⟩, hk.1.2⟩))).2.1 (Kd.V_F (Kd.V_mono (ok' := (fun k_ => ((fun k_ => (P0_ k_ ∨ w.heap.size ≤ k_) ∧ some k_ ≠ (v117 : Value).ownBlock)) k_ ∧ some k_ ≠ (u5 : Value).ownBlock)) ((Kd.V_drewN (Kd.V_drewN (Kd.V_drewN (HL119_11.out) _) _) _)) (fun k_ hk => ⟨⟨hk.1.1, hk.2⟩, hk.1.2⟩))))); (case aB => exact (by repeat (first | (with_reducible first | exact HB.out | apply below_alloc | apply pw_below_drewN | apply below_drew1) | exact HB.out))); (case aF => exact (fun k_ hk => ⟨(.inr (Nat.le_trans (below_size (by repeat (first | (with_reducible first | exact HB.out | apply below_alloc | apply pw_below_drewN | apply below_drew1) | exact HB.out))) hk)), Kd.fresh' (Kd.N_lt (by (with_reducible repeat (first | apply Kd.N_alloc | apply Kd.N_drewN | apply Kd.N_drew)); exact HO118.out)) k_ hk⟩)); (case aO => exact (by (with_reducible repeat (first | apply Kd.N_alloc | apply Kd.N_drewN | apply Kd.N_drew)); exact HO_5.out)); (case aS => exact (below_size (by repeat (first | (with_reducible first | exact HB.out | apply below_alloc | apply pw_below_drewN | apply below_drew1) | exact HB.out)))); (case aL => have := LMc5.out; omega); intro v121 w7 ho hb hg hat; rw [← Ny120.out] at ho; have n0_ := Aside0.mk (Kd.V_afterv (ok := (fun k_ => (P0_ k_ ∨ w.heap.size ≤ k_) ∧ some k_ ≠ (v117 : Value).ownBlock)) (by (with_reducible repeat (first | apply Kd.V_alloc | apply Kd.V_drewN | apply Kd.V_drew)); exact Kd.V_mono HO_0.out (fun _ hk => ⟨⟨hk.1.1, hk.2⟩, hk.1.2⟩)) hg hat); have n1_ := Aside0.mk (Kd.V_afterv (ok := (fun k_ => (P0_ k_ ∨ w.heap.size ≤ k_) ∧ some k_ ≠ (v117 : Value).ownBlock)) (by (with_reducible repeat (first | apply Kd.V_alloc | apply Kd.V_drewN | apply Kd.V_drew)); exact Kd.V_mono HL115_2.out (fun _ hk => ⟨⟨hk.1.1, hk.2⟩, hk.1.2⟩)) hg hat); have n2_ := Aside0.mk (Kd.V_afterv (ok := (fun k_ => (P0_ k_ ∨ w.heap.size ≤ k_) ∧ some k_ ≠ (v117 : Value).ownBlock)) (by (with_reducible repeat (first | apply Kd.V_alloc | apply Kd.V_drewN | apply Kd.V_drew)); exact Kd.V_mono HL115_4.out (fun _ hk => ⟨⟨hk.1.1, hk.2⟩, hk.1.2⟩)) hg hat); have n3_ := Aside0.mk (Kd.V_afterv (ok := (fun k_ => (P0_ k_ ∨ w.heap.size ≤ k_) ∧ some k_ ≠ (v117 : Value).ownBlock)) (by (with_reducible repeat (first | apply Kd.V_alloc | apply Kd.V_drewN | apply Kd.V_drew)); exact Kd.V_mono HL115_8.out (fun _ hk => ⟨⟨hk.1.1, hk.2⟩, hk.1.2⟩)) hg hat); have n4_ := Aside0.mk (Kd.V_afterv (ok := (fun k_ => (P0_ k_ ∨ w.heap.size ≤ k_) ∧ some k_ ≠ (v117 : Value).ownBlock)) (by (with_reducible repeat (first | apply Kd.V_alloc | apply Kd.V_drewN | apply Kd.V_drew)); exact Kd.V_mono HL115_10.out (fun _ hk => ⟨⟨hk.1.1, hk.2⟩, hk.1.2⟩)) hg hat); have n5_ := Aside0.mk (Kd.V_afterv (ok := (fun k_ => (P0_ k_ ∨ w.heap.size ≤ k_) ∧ some k_ ≠ (v117 : Value).ownBlock)) (by (with_reducible repeat (first | apply Kd.V_alloc | apply Kd.V_drewN | apply Kd.V_drew)); exact Kd.V_mono HL115_11.out (fun _ hk => ⟨⟨hk.1.1, hk.2⟩, hk.1.2⟩)) hg hat); have n6_ := Aside0.mk (Kd.N_afterv (ok := (fun k_ => (P0_ k_ ∨ w.heap.size ≤ k_))) (by (with_reducible repeat (first | apply Kd.N_alloc | apply Kd.N_drewN | apply Kd.N_drew)); exact HO118.out) hg hat); have n7_ := Aside0.mk (Kd.V_afterv (ok := (fun k_ => (P0_ k_ ∨ w.heap.size ≤ k_) ∧ some k_ ≠ (v117 : Value).ownBlock)) (by (with_reducible repeat (first | apply Kd.V_alloc | apply Kd.V_drewN | apply Kd.V_drew)); exact Kd.V_mono HL119_2.out (fun _ hk => ⟨⟨hk.1.1, hk.2⟩, hk.1.2⟩)) hg hat); have n8_ := Aside0.mk (Kd.V_afterv (ok := (fun k_ => (P0_ k_ ∨ w.heap.size ≤ k_) ∧ some k_ ≠ (v117 : Value).ownBlock)) (by (with_reducible repeat (first | apply Kd.V_alloc | apply Kd.V_drewN | apply Kd.V_drew)); exact Kd.V_mono HL119_4.out (fun _ hk => ⟨⟨hk.1.1, hk.2⟩, hk.1.2⟩)) hg hat); have n9_ := Aside0.mk (Kd.V_afterv (ok := (fun k_ => (P0_ k_ ∨ w.heap.size ≤ k_) ∧ some k_ ≠ (v117 : Value).ownBlock)) (by (with_reducible repeat (first | apply Kd.V_alloc | apply Kd.V_drewN | apply Kd.V_drew)); exact Kd.V_mono HL119_8.out (fun _ hk => ⟨⟨hk.1.1, hk.2⟩, hk.1.2⟩)) hg hat); have n10_ := Aside0.mk (Kd.V_afterv (ok := (fun k_ => (P0_ k_ ∨ w.heap.size ≤ k_) ∧ some k_ ≠ (v117 : Value).ownBlock)) (by (with_reducible repeat (first | apply Kd.V_alloc | apply Kd.V_drewN | apply Kd.V_drew)); exact Kd.V_mono HL119_10.out (fun _ hk => ⟨⟨hk.1.1, hk.2⟩, hk.1.2⟩)) hg hat); have n11_ := Aside0.mk (Kd.V_afterv (ok := (fun k_ => (P0_ k_ ∨ w.heap.size ≤ k_) ∧ some k_ ≠ (v117 : Value).ownBlock)) (by (with_reducible repeat (first | apply Kd.V_alloc | apply Kd.V_drewN | apply Kd.V_drew)); exact Kd.V_mono HL119_11.out (fun _ hk => ⟨⟨hk.1.1, hk.2⟩, hk.1.2⟩)) hg hat); have n12_ := Aside0.mk (hb); have n13_ := Aside0.mk (ho); clear HO_0; clear HL115_2; clear HL115_4; clear HL115_8; clear HL115_10; clear HL115_11; clear HO118; clear HL119_2; clear HL119_4; clear HL119_8; clear HL119_10; clear HL119_11; clear HB; clear HO_5; have HO_0 := n0_; have HL115_2 := n1_; have HL115_4 := n2_; have HL115_8 := n3_; have HL115_10 := n4_; have HL115_11 := n5_; have HO118 := n6_; have HL119_2 := n7_; have HL119_4 := n8_; have HL119_8 := n9_; have HL119_10 := n10_; have HL119_11 := n11_; have HB := n12_; have HO122 := n13_; clear n0_ n1_ n2_ n3_ n4_ n5_ n6_ n7_ n8_ n9_ n10_ n11_ n12_ n13_; clear ho hb hg hat))
       go_roundg k1
       case measure => have := HK1.out; omega
       case rel => exact ⟨(y116), (y120), (wrap64 (x6_1 + 1)), (by first | rfl | (simp only [YtodifojhegbjaaaDoorMpHelp.leq_not, YtodifojhegbjaaaDoorMpHelp.gtr_less]; done) | (simp; done) | (simp [*]; done)), H', ⟨by have := HK1.out; omega⟩, ⟨by (with_reducible repeat (first | apply Kd.V_alloc | apply Kd.V_drewN | apply Kd.V_drew)); exact Kd.V_mono HO_0.out (fun _ hk => ⟨hk.1.1, ⟨hk.1.2, hk.2⟩⟩)⟩, ⟨by (with_reducible repeat (first | apply Kd.N_alloc | apply Kd.N_drewN | apply Kd.N_drew)); exact HO118.out⟩, ⟨by (with_reducible repeat (first | apply Kd.N_alloc | apply Kd.N_drewN | apply Kd.N_drew)); exact HO122.out⟩, ⟨by repeat (first | (with_reducible first | exact HB.out | apply below_alloc | apply pw_below_drewN | apply below_drew1) | exact HB.out)⟩⟩
      ·rw [if_neg c5] at H
       exact absurd H (by simp)
     ·rw [if_neg c4] at H
      exact absurd H (by simp)
    ·rw [if_neg c3] at H
     exact absurd H (by simp)
   ·rw [if_neg c2] at H
    have c2b0 : decide (x6_1 < (l0.length : Int)) = false := decide_eq_false c2
    clear c2
    simp only [Option.some.injEq, Prod.mk.injEq] at H
    obtain ⟨rfl, rfl⟩ := H
    go_wp2
    go_ret2
    exact ⟨_, _, by first | rfl | (simp [errW_none, errW_some] <;> rfl) | (simp [*, errW_none, errW_some] <;> rfl), by (with_reducible repeat (first | apply Kd.N_alloc | apply Kd.N_drewN | apply Kd.N_drew)); exact HO_4.out, by (with_reducible repeat (first | apply Kd.N_alloc | apply Kd.N_drewN | apply Kd.N_drew)); exact HO_5.out, by repeat (first | (with_reducible first | exact HB.out | apply below_alloc | apply pw_below_drewN | apply below_drew1) | exact HB.out)⟩

/-! ### report_Error: function 11 (told by hand) -/
def report_Error.at_ : List ByteArray → Nat → List UInt8 → Int × Bool
  | [], _, _ => (0, false)
  | x :: r, k, s => if (x.toList == s) = true then ((k : Int), true) else report_Error.at_ r (k + 1) s
def report_Error.f (a0 : ByteArray) : Option (Int × Bool) := some (report_Error.at_ report_codes.words 0 a0.toList)
theorem report_Error.step (k : Nat) (hk : k < 17) (s : List UInt8) : report_Error.at_ (report_codes.words.drop k) k s = if ((report_codes.words.getD k ByteArray.empty).toList == s) = true then ((k : Int), true) else report_Error.at_ (report_codes.words.drop (k + 1)) (k + 1) s := by
  have hl : report_codes.words.length = 17 := rfl
  rw [List.drop_eq_getElem_cons (by omega), List.getD_eq_getElem?_getD, List.getElem?_eq_getElem (by omega)]
  rfl
set_option maxRecDepth 100000 in
set_option maxHeartbeats 4000000 in
theorem report_Error.calls (a0 : ByteArray) (r1 : Int) (r2 : Bool) (w : World) (h : report_Error.f a0 = some (r1, r2)) : Calls Tryd.prog 11 #[.string a0] w fun e w' => e = .returned (.tuple #[.int .i64 r1, .bool r2]) ∧ Below w.heap.size w w' := by
  have HR := Aside0.mk (Option.some.inj h)
  clear h
  go_enter Tryd.func11, Tryd.ntmps11
  go_wp2_with fail
  go_step3
  go_wp2_with fail
  go_step3
  go_wp2_with fail
  refine (report_codes.calls _).mono ?_
  have HIX := Aside0.mk report_codes.run
  generalize report_codes.val = V at HIX ⊢
  rintro e w1 ⟨rfl, hb⟩
  have HB := Aside0.mk hb
  clear hb
  go_wp2_with fail
  go_loopw [4, 5, 9] (fun out found i w' => ∃ k : Nat, k ≤ 17 ∧ out = .int .i64 0 ∧ found = .bool false ∧ i = .int .i64 k ∧ Aside0 (report_Error.at_ (report_codes.words.drop k) k a0.toList = (r1, r2)) ∧ w' = w1) (fun _ _ i _ => 17 - (intOf i).toNat)
  case atStart => exact ⟨0, by omega, rfl, rfl, rfl, ⟨by rw [List.drop_zero]; exact HR.out⟩, rfl⟩
  case round =>
    obtain ⟨k, hk, rfl, rfl, rfl, HA, rfl⟩ := hrel
    by_cases hlt : k < 17
    · have hix := HIX.out k hlt
      have hst := HA.out
      rw [report_Error.step k hlt] at hst
      generalize report_codes.words.getD k ByteArray.empty = x at hix hst
      have b0 : decide ((k : Int) < 17) = true := decide_eq_true (by omega)
      clear HA HR
      by_cases hx : x.toList = a0.toList
      · have b1 : (x.toList == a0.toList) = true := by simpa using hx
        rw [b1, if_pos rfl] at hst
        have HS := Aside0.mk hst
        clear hst hx hk
        go_wp2
        simp only [Exit.noGoto]
        go_ret2
        exact ⟨by have := HS.out; injection this with e1 e2; rw [← e1, ← e2]; rfl, HB.out⟩
      · have b1 : (x.toList == a0.toList) = false := by simpa using hx
        rw [b1, if_neg (by decide)] at hst
        have HS := Aside0.mk hst
        clear hst hx
        go_wp2
        go_roundw
        case rel => exact ⟨k + 1, by omega, rfl, rfl, by go_num, HS, trivial⟩
        case measure => simp [intOf]; omega
    · have hk17 : k = 17 := by omega
      subst hk17
      have HS : Aside0 (((0 : Int), false) = (r1, r2)) := ⟨HA.out⟩
      clear HA hk hlt
      go_wp2
      simp only [Exit.noGoto]
      go_ret2
      exact ⟨by have := HS.out; injection this with e1 e2; rw [← e1, ← e2]; rfl, HB.out⟩


/-! ### report_Kind: function 12 (told by hand) -/
def report_Kind.at_ : List ByteArray → Nat → List UInt8 → Int
  | [], _, _ => 0
  | x :: r, k, s => if (x.toList == s && decide (0 < k)) = true then (k : Int) else report_Kind.at_ r (k + 1) s
def report_Kind.f (a0 : ByteArray) : Option Int := some (report_Kind.at_ report_kinds.words 0 a0.toList)
theorem report_Kind.step (k : Nat) (hk : k < 19) (s : List UInt8) : report_Kind.at_ (report_kinds.words.drop k) k s = if ((report_kinds.words.getD k ByteArray.empty).toList == s && decide (0 < k)) = true then (k : Int) else report_Kind.at_ (report_kinds.words.drop (k + 1)) (k + 1) s := by
  have hl : report_kinds.words.length = 19 := rfl
  rw [List.drop_eq_getElem_cons (by omega), List.getD_eq_getElem?_getD, List.getElem?_eq_getElem (by omega)]
  rfl
set_option maxRecDepth 100000 in
set_option maxHeartbeats 4000000 in
theorem report_Kind.calls (a0 : ByteArray) (r : Int) (w : World) (h : report_Kind.f a0 = some r) : Calls Tryd.prog 12 #[.string a0] w fun e w' => e = .returned (.int .i64 r) ∧ Below w.heap.size w w' := by
  have HR := Aside0.mk (Option.some.inj h)
  clear h
  go_enter Tryd.func12, Tryd.ntmps12
  go_wp2_with fail
  go_step3
  go_wp2_with fail
  go_step3
  go_wp2_with fail
  refine (report_kinds.calls _).mono ?_
  have HIX := Aside0.mk report_kinds.run
  generalize report_kinds.val = V at HIX ⊢
  rintro e w1 ⟨rfl, hb⟩
  have HB := Aside0.mk hb
  clear hb
  go_wp2_with fail
  go_loopw [3, 7] (fun out i w' => ∃ k : Nat, k ≤ 19 ∧ out = .int .i64 0 ∧ i = .int .i64 k ∧ Aside0 (report_Kind.at_ (report_kinds.words.drop k) k a0.toList = r) ∧ w' = w1) (fun _ i _ => 19 - (intOf i).toNat)
  case atStart => exact ⟨0, by omega, rfl, rfl, ⟨by rw [List.drop_zero]; exact HR.out⟩, rfl⟩
  case round =>
    obtain ⟨k, hk, rfl, rfl, HA, rfl⟩ := hrel
    by_cases hlt : k < 19
    · have hix := HIX.out k hlt
      have hst := HA.out
      rw [report_Kind.step k hlt] at hst
      generalize report_kinds.words.getD k ByteArray.empty = x at hix hst
      have b0 : decide ((k : Int) < 19) = true := decide_eq_true (by omega)
      clear HA HR
      by_cases hx : x.toList = a0.toList
      · have b1 : (x.toList == a0.toList) = true := by simpa using hx
        by_cases h0 : 0 < k
        · have b2 : decide (0 < (k : Int)) = true := decide_eq_true (by omega)
          have b3 : decide (0 < k) = true := decide_eq_true h0
          rw [b1, b3, Bool.true_and, if_pos rfl] at hst
          have HS := Aside0.mk hst
          clear hst h0 hx hk
          go_wp2
          simp only [Exit.noGoto]
          go_ret
          exact ⟨by rw [← HS.out]; rfl, HB.out⟩
        · have b2 : decide (0 < (k : Int)) = false := decide_eq_false (by omega)
          have b3 : decide (0 < k) = false := decide_eq_false h0
          rw [b1, b3, Bool.and_false, if_neg (by decide)] at hst
          have HS := Aside0.mk hst
          clear hst h0 hx
          go_wp2
          go_roundw
          case rel => exact ⟨k + 1, by omega, rfl, by go_num, HS, trivial⟩
          case measure => simp [intOf]; omega
      · have b1 : (x.toList == a0.toList) = false := by simpa using hx
        rw [b1, Bool.false_and, if_neg (by decide)] at hst
        have HS := Aside0.mk hst
        clear hst hx
        go_wp2
        go_roundw
        case rel => exact ⟨k + 1, by omega, rfl, by go_num, HS, trivial⟩
        case measure => simp [intOf]; omega
    · have hk19 : k = 19 := by omega
      subst hk19
      have HS : Aside0 ((0 : Int) = r) := ⟨HA.out⟩
      clear HA hk hlt
      go_wp2
      simp only [Exit.noGoto]
      go_ret
      exact ⟨by rw [← HS.out]; rfl, HB.out⟩


end Go.Proofs.YtodifojhegbjaaaDoor.PReportSums
