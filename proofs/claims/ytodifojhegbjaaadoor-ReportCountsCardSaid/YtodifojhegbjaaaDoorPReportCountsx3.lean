/- The machine side of a law: for each Go function that it uses a Lean function with the same answers, and the proof that the Go code comes to them; or the row of the law over these. Written by a program of this session. -/
import Derived.Test.YtodifojhegbjaaaDoorPReportCountsx0
import Derived.Test.YtodifojhegbjaaaDoorPReportCountsx1
namespace Go.Proofs.YtodifojhegbjaaaDoor.PReportCounts
open Go.RowKit Go.Proofs.YtodifojhegbjaaaDoorW.PrintWords Go.Proofs.YtodifojhegbjaaaDoorW.PrintLast Go.Proofs.YtodifojhegbjaaaDoorW.PrintMore
attribute [local go_sem] max2_int min2_int max_two min_two max_three min_three max_four min_four   -- for this text's walks alone
set_option linter.unusedVariables false
set_option linter.unusedSimpArgs false

/-! ### bindlelaw33_parts: function 15 -/
def bindlelaw33_parts.l0 : Nat → List (S66) → List (S47) → List (S51) → Int → Option ((List (S47)) × (List (S51)))
 | 0, _, _, _, _ => none
 | k + 1, x0, x4, x5, x6 => if x6 < (x0.length : Int) then (if 0 ≤ x6 then (if x4.length < 1466015503701 then (if x5.length < 1466015503701 then (bindlelaw33_parts.l0 k x0 (x4 ++ [(⟨(rd_T66 x0 x6).f0.f0, (rd_T66 x0 x6).f0.f1, (rd_T66 x0 x6).f0.f2, (rd_T66 x0 x6).f0.f3, (⟨(rd_T66 x0 x6).f0.f4.f0, (rd_T66 x0 x6).f0.f4.f1, (rd_T66 x0 x6).f0.f4.f2⟩ : S45)⟩ : S47)]) (x5 ++ [(⟨(rd_T66 x0 x6).f1.f0, (rd_T66 x0 x6).f1.f1, (rd_T66 x0 x6).f1.f2, (rd_T66 x0 x6).f1.f3, (rd_T66 x0 x6).f1.f4, (rd_T66 x0 x6).f1.f5, (rd_T66 x0 x6).f1.f6⟩ : S51)]) (wrap64 (x6 + 1))) else (none)) else (none)) else (none)) else (some (x4, x5))
def bindlelaw33_parts.f (k : Nat) (l0 : List (S66)) : Option ((List (S47)) × (List (S51))) := bindlelaw33_parts.l0 k l0 ([] : List (S47)) ([] : List (S51)) 0
theorem bindlelaw33_parts.mono_l : ∀ k, (∀ y0 y1 y2 y3, LeO (bindlelaw33_parts.l0 k y0 y1 y2 y3) (bindlelaw33_parts.l0 (k + 1) y0 y1 y2 y3))
 | 0 => fun _ _ _ _ r h => by simp [bindlelaw33_parts.l0] at h
 | k + 1 => by
  have ih0 := bindlelaw33_parts.mono_l k
  ·intro y0 y1 y2 y3
   unfold bindlelaw33_parts.l0
   repeat' first
   | (with_reducible exact ih0 _ _ _ _)
   | (with_reducible exact LeO.refl _)
   | (with_reducible exact LeO.none _)
   | (with_reducible refine LeO.ite ?_ ?_)
   | (with_reducible refine LeO.bind ?_ (fun _ => ?_))
   | exact ih0 _ _ _ _
   | exact LeO.none _
   | refine LeO.ite ?_ ?_
   | refine LeO.bind ?_ (fun _ => ?_)
theorem bindlelaw33_parts.mono : ∀ a0 k, LeO (bindlelaw33_parts.f k a0) (bindlelaw33_parts.f (k + 1) a0) := by
 intro a0 k
 have ih0 := bindlelaw33_parts.mono_l k
 unfold bindlelaw33_parts.f
 repeat' first
   | (with_reducible exact ih0 _ _ _ _)
   | (with_reducible exact LeO.refl _)
   | (with_reducible exact LeO.none _)
   | (with_reducible refine LeO.ite ?_ ?_)
   | (with_reducible refine LeO.bind ?_ (fun _ => ?_))
   | exact ih0 _ _ _ _
   | exact LeO.none _
   | refine LeO.ite ?_ ?_
   | refine LeO.bind ?_ (fun _ => ?_)
set_option maxHeartbeats 8000000 in
set_option maxRecDepth 100000 in
theorem bindlelaw33_parts.calls (k : Nat) (P0_ : Nat → Prop) (A0 : Option Addr) (c0 : Nat) (l0 : List (S66)) (r1 : List (S47)) (r2 : List (S51)) (w : World) (hs0 : Kd.V k66 66 w w.heap.size (fun k_ => P0_ k_) (.slice A0 l0.length c0) l0) (h : bindlelaw33_parts.f k l0 = some (r1, r2)) :
  Calls Tryd.prog 15 #[.slice A0 l0.length c0] w fun e w' => ∃ v0_ v1_ : Value, e = .returned (.tuple #[v0_, v1_]) ∧ Kd.N k47 47 w' w.heap.size (fun k_ => (P0_ k_ ∨ w.heap.size ≤ k_) ∧ some k_ ≠ (v1_ : Value).ownBlock) v0_ r1 ∧ Kd.N k51 51 w' w.heap.size (fun k_ => (P0_ k_ ∨ w.heap.size ≤ k_) ∧ some k_ ≠ (v0_ : Value).ownBlock) v1_ r2 ∧ Below w.heap.size w w' := by
 have hu47 := Tryd.underlying47
 have hu51 := Tryd.underlying51
 have HO0 := Aside0.mk (show Kd.V k66 66 w w.heap.size (fun k_ => (P0_ k_ ∨ w.heap.size ≤ k_)) (.slice A0 l0.length c0) l0 from Kd.V_mono hs0 (fun k_ hk => .inl hk))
 have HB := Aside0.mk (Below.refl w.heap.size w)
 have H : (bindlelaw33_parts.l0 k l0 ([] : List (S47)) ([] : List (S51)) 0) = some (r1, r2) := h
 clear h
 have H' := Aside0.mk H
 clear H
 go_enter Tryd.func15, Tryd.ntmps15
 go_wp2
 go_loopg [4, 5, 6] k (fun kq v4 v5 v6 w' => ∃ (x4_1 : List (S47)) (x5_1 : List (S51)) (x6_1 : Int), v6 = .int .i64 x6_1 ∧ Aside0 (bindlelaw33_parts.l0 kq l0 x4_1 x5_1 x6_1 = some (r1, r2)) ∧ Aside0 (kq ≤ k) ∧ Aside0 (Kd.V k66 66 w' w.heap.size (fun k_ => (P0_ k_ ∨ w.heap.size ≤ k_) ∧ some k_ ≠ (v4 : Value).ownBlock ∧ some k_ ≠ (v5 : Value).ownBlock) (.slice A0 l0.length c0) l0) ∧ Aside0 (Kd.N k47 47 w' w.heap.size (fun k_ => (P0_ k_ ∨ w.heap.size ≤ k_) ∧ some k_ ≠ (v5 : Value).ownBlock) v4 x4_1) ∧ Aside0 (Kd.N k51 51 w' w.heap.size (fun k_ => (P0_ k_ ∨ w.heap.size ≤ k_) ∧ some k_ ≠ (v4 : Value).ownBlock) v5 x5_1) ∧ Aside0 (Below w.heap.size w w'))
 case atStart => exact ⟨(([] : List (S47))), (([] : List (S51))), (0), (by first | rfl | (simp only [YtodifojhegbjaaaDoorMpHelp.leq_not, YtodifojhegbjaaaDoorMpHelp.gtr_less]; done) | (simp; done) | (simp [*]; done)), H', ⟨Nat.le_refl _⟩, ⟨by (with_reducible repeat (first | apply Kd.V_alloc | apply Kd.V_drewN | apply Kd.V_drew)); exact Kd.V_mono HO0.out (fun _ hk => ⟨hk, ⟨(by simp [Value.ownBlock]), (by simp [Value.ownBlock])⟩⟩)⟩, ⟨by first | exact Kd.S_nil _ _ _ _ _ | exact Kd.N_nil _ _ _ _ _ | exact Kd.V_nil _ _ _ _ _ | exact Kd.Q_nil _ _ _ _ _ | exact Kd.R_nil _ _ _ _ _⟩, ⟨by first | exact Kd.R_nil _ _ _ _ _ | exact Kd.N_nil _ _ _ _ _ | exact Kd.V_nil _ _ _ _ _ | exact Kd.Q_nil _ _ _ _ _ | exact Kd.S_nil _ _ _ _ _⟩, ⟨by repeat (first | (with_reducible first | exact HB.out | apply below_alloc | apply pw_below_drewN | apply below_drew1) | exact HB.out)⟩⟩
 case round =>
  clear H'
  try clear c1
  obtain ⟨x4_1, x5_1, x6_1, rfl, HA, HK1, HO_0, HO_4, HO_5, HB⟩ := hrel
  cases gk with
  | zero => exact absurd HA.out (by simp [bindlelaw33_parts.l0])
  | succ k1 =>
   have H := HA.out
   clear HA
   simp only [bindlelaw33_parts.l0] at H
   by_cases c2 : x6_1 < (l0.length : Int)
   ·rw [if_pos c2] at H
    have c2b0 : decide (x6_1 < (l0.length : Int)) = true := decide_eq_true c2
    clear c2
    by_cases c3 : 0 ≤ x6_1
    ·rw [if_pos c3] at H
     have c3b0 : decide (0 ≤ x6_1) = true := decide_eq_true c3
     clear c3
     by_cases c4 : x4_1.length < 1466015503701
     ·rw [if_pos c4] at H
      have LMc4 := Aside0.mk c4
      clear c4
      obtain ⟨y116, hy116⟩ : ∃ y_ : List (S47), y_ = (x4_1 ++ [(⟨(rd_T66 l0 x6_1).f0.f0, (rd_T66 l0 x6_1).f0.f1, (rd_T66 l0 x6_1).f0.f2, (rd_T66 l0 x6_1).f0.f3, (⟨(rd_T66 l0 x6_1).f0.f4.f0, (rd_T66 l0 x6_1).f0.f4.f1, (rd_T66 l0 x6_1).f0.f4.f2⟩ : S45)⟩ : S47)]) := ⟨_, rfl⟩
      replace H : (if x5_1.length < 1466015503701 then (bindlelaw33_parts.l0 k1 l0 y116 (x5_1 ++ [(⟨(rd_T66 l0 x6_1).f1.f0, (rd_T66 l0 x6_1).f1.f1, (rd_T66 l0 x6_1).f1.f2, (rd_T66 l0 x6_1).f1.f3, (rd_T66 l0 x6_1).f1.f4, (rd_T66 l0 x6_1).f1.f5, (rd_T66 l0 x6_1).f1.f6⟩ : S51)]) (wrap64 (x6_1 + 1))) else (none)) = some (r1, r2) := by first | (rw [hy116]; with_reducible exact H) | (have H2_ := (Option.bind_some _ _).symm.trans H; rw [hy116]; with_reducible exact H2_) | (have H2_ := (Option.bind_some _ _).symm.trans H; with_reducible exact H2_) | with_reducible exact H | (rw [hy116]; exact H) | exact H
      have Ny116 := Aside0.mk hy116
      clear hy116
      by_cases c5 : x5_1.length < 1466015503701
      ·rw [if_pos c5] at H
       have LMc5 := Aside0.mk c5
       clear c5
       obtain ⟨y120, hy120⟩ : ∃ y_ : List (S51), y_ = (x5_1 ++ [(⟨(rd_T66 l0 x6_1).f1.f0, (rd_T66 l0 x6_1).f1.f1, (rd_T66 l0 x6_1).f1.f2, (rd_T66 l0 x6_1).f1.f3, (rd_T66 l0 x6_1).f1.f4, (rd_T66 l0 x6_1).f1.f5, (rd_T66 l0 x6_1).f1.f6⟩ : S51)]) := ⟨_, rfl⟩
       replace H : (bindlelaw33_parts.l0 k1 l0 y116 y120 (wrap64 (x6_1 + 1))) = some (r1, r2) := by first | (rw [hy120]; with_reducible exact H) | (have H2_ := (Option.bind_some _ _).symm.trans H; rw [hy120]; with_reducible exact H2_) | (have H2_ := (Option.bind_some _ _).symm.trans H; with_reducible exact H2_) | with_reducible exact H | (rw [hy120]; exact H) | exact H
       have Ny120 := Aside0.mk hy120
       clear hy120
       have H' := Aside0.mk H
       clear H
       have p115 : 0 ≤ (x6_1 : Int) := of_decide_eq_true (by first | (with_reducible assumption) | assumption)
       have q115 : x6_1 < (l0.length : Int) := of_decide_eq_true (by first | (with_reducible assumption) | assumption)
       obtain ⟨ad115, A115_2, c115_2, A115_4, c115_4, A115_8, c115_8, A115_10, c115_10, A115_11, c115_11, e115, hx115_0, hx115_1, hx115_2, hx115_3, hx115_4, hx115_5, hx115_6, hx115_7, hx115_8, hx115_9, hx115_10, hx115_11, hx115_12, hx115_13, hl115_2, hi115_2, hl115_4, hi115_4, hl115_8, hi115_8, hl115_10, hi115_10, hl115_11, hi115_11⟩ := at_T66 (Kd.V_reads' HO_0.out).2.2 x6_1 p115 q115
       cases e115
       obtain ⟨ce115, hce115, hMe115, hcc115⟩ := Kd.V_get HO_0.out z66 x6_1 p115 (by first | exact q115 | exact of_decide_eq_true (by first | (with_reducible assumption) | assumption) | (have e_ := (Kd.V_reads' HO_0.out).1; omega))
       obtain ⟨ua115_2, uc115_2, ua115_4, uc115_4, ua115_8, uc115_8, ua115_10, uc115_10, ua115_11, uc115_11, rfl, ul115_2, ge115_2, ul115_4, ge115_4, ul115_8, ge115_8, ul115_10, ge115_10, ul115_11, ge115_11⟩ := k66_openF hMe115
       have hv115_2 := hcc115 2 _ rfl
       rw [add_field _ _ 2 (by omega)] at hv115_2
       replace hv115_2 := Option.some.inj (hv115_2.symm.trans hx115_2)
       injection hv115_2 with hva_ hvn_ hvc_
       rw [hva_] at ge115_2
       rw [hvc_] at ul115_2
       have HL115_2 := Aside0.mk (show Kd.V (Kd.int .u8) 5 _ w.heap.size _ _ ((rd_T66 l0 x6_1).f0.f2) from Kd.V_mk ul115_2 ge115_2)
       clear hva_ hvn_ hvc_ ge115_2 ul115_2
       have hv115_4 := hcc115 4 _ rfl
       rw [add_field _ _ 4 (by omega)] at hv115_4
       replace hv115_4 := Option.some.inj (hv115_4.symm.trans hx115_4)
       injection hv115_4 with hva_ hvn_ hvc_
       rw [hva_] at ge115_4
       rw [hvc_] at ul115_4
       have HL115_4 := Aside0.mk (show Kd.V Kd.bool 4 _ w.heap.size _ _ ((rd_T66 l0 x6_1).f0.f4.f0) from Kd.V_mk ul115_4 ge115_4)
       clear hva_ hvn_ hvc_ ge115_4 ul115_4
       have hv115_8 := hcc115 8 _ rfl
       rw [add_field _ _ 8 (by omega)] at hv115_8
       replace hv115_8 := Option.some.inj (hv115_8.symm.trans hx115_8)
       injection hv115_8 with hva_ hvn_ hvc_
       rw [hva_] at ge115_8
       rw [hvc_] at ul115_8
       have HL115_8 := Aside0.mk (show Kd.V (Kd.int .u8) 5 _ w.heap.size _ _ ((rd_T66 l0 x6_1).f1.f1) from Kd.V_mk ul115_8 ge115_8)
       clear hva_ hvn_ hvc_ ge115_8 ul115_8
       have hv115_10 := hcc115 10 _ rfl
       rw [add_field _ _ 10 (by omega)] at hv115_10
       replace hv115_10 := Option.some.inj (hv115_10.symm.trans hx115_10)
       injection hv115_10 with hva_ hvn_ hvc_
       rw [hva_] at ge115_10
       rw [hvc_] at ul115_10
       have HL115_10 := Aside0.mk (show Kd.V Kd.string 9 _ w.heap.size _ _ ((rd_T66 l0 x6_1).f1.f3) from Kd.V_mk ul115_10 ge115_10)
       clear hva_ hvn_ hvc_ ge115_10 ul115_10
       have hv115_11 := hcc115 11 _ rfl
       rw [add_field _ _ 11 (by omega)] at hv115_11
       replace hv115_11 := Option.some.inj (hv115_11.symm.trans hx115_11)
       injection hv115_11 with hva_ hvn_ hvc_
       rw [hva_] at ge115_11
       rw [hvc_] at ul115_11
       have HL115_11 := Aside0.mk (show Kd.V k122 122 _ w.heap.size _ _ ((rd_T66 l0 x6_1).f1.f4) from Kd.V_mk ul115_11 ge115_11)
       clear hva_ hvn_ hvc_ ge115_11 ul115_11
       clear hcc115 hce115
       have HR115_2 := Aside0.mk hi115_2
       have HC115_2 := Aside0.mk hl115_2
       clear hi115_2 hl115_2
       have HR115_4 := Aside0.mk hi115_4
       have HC115_4 := Aside0.mk hl115_4
       clear hi115_4 hl115_4
       have HR115_8 := Aside0.mk hi115_8
       have HC115_8 := Aside0.mk hl115_8
       clear hi115_8 hl115_8
       have HR115_10 := Aside0.mk hi115_10
       have HC115_10 := Aside0.mk hl115_10
       clear hi115_10 hl115_10
       have HR115_11 := Aside0.mk hi115_11
       have HC115_11 := Aside0.mk hl115_11
       clear hi115_11 hl115_11
       replace p115 := eq_true p115
       replace q115 := eq_true q115
       go_wp2_with (first | ((with_reducible refine gate_builtin (b := .append) (xs := #[.tmp 13, .tmp 19]) rfl ?_); at_builtin; refine Kd.N_append k47 (w0 := w) w.heap.size rfl (.tmp 13) (.tmp 19) 32 47 (.agg #[(.int .i64 0), (.string ⟨#[]⟩), (.slice none 0 0), (.int .i64 0), (.slice none 0 0), (.int .i64 0), (.int .u8 0)]) 96 rfl Tryd.underlying32 info47 rfl (by decide) (by omega) u4 x4_1 (⟨(rd_T66 l0 x6_1).f0.f0, (rd_T66 l0 x6_1).f0.f1, (rd_T66 l0 x6_1).f0.f2, (rd_T66 l0 x6_1).f0.f3, (⟨(rd_T66 l0 x6_1).f0.f4.f0, (rd_T66 l0 x6_1).f0.f4.f1, (rd_T66 l0 x6_1).f0.f4.f2⟩ : S45)⟩ : S47) [.int .i64 ((rd_T66 l0 x6_1).f0.f0), .string ((rd_T66 l0 x6_1).f0.f1), .slice A115_2 ((rd_T66 l0 x6_1).f0.f2).length c115_2, .int .i64 ((rd_T66 l0 x6_1).f0.f3), .slice A115_4 ((rd_T66 l0 x6_1).f0.f4.f0).length c115_4, .int .i64 ((rd_T66 l0 x6_1).f0.f4.f1), .int .u8 ((rd_T66 l0 x6_1).f0.f4.f2)] (fun k_ => (P0_ k_ ∨ w.heap.size ≤ k_) ∧ some k_ ≠ (u5 : Value).ownBlock) (fun k_ => ((fun k_ => (P0_ k_ ∨ w.heap.size ≤ k_) ∧ some k_ ≠ (u5 : Value).ownBlock)) k_ ∧ some k_ ≠ (u4 : Value).ownBlock) rfl rfl ?aP (fun _ hk => hk) ?aF ?aO ?aB ?aS ?aL ?_; (case aP => first | exact (k47_mkF _ _ (⟨(rd_T66 l0 x6_1).f0.f0, (rd_T66 l0 x6_1).f0.f1, (rd_T66 l0 x6_1).f0.f2, (rd_T66 l0 x6_1).f0.f3, (⟨(rd_T66 l0 x6_1).f0.f4.f0, (rd_T66 l0 x6_1).f0.f4.f1, (rd_T66 l0 x6_1).f0.f4.f2⟩ : S45)⟩ : S47) (Kd.V_reads' (Kd.V_mono (ok' := (fun k_ => ((fun k_ => (P0_ k_ ∨ w.heap.size ≤ k_) ∧ some k_ ≠ (u5 : Value).ownBlock)) k_ ∧ some k_ ≠ (u4 : Value).ownBlock)) (HL115_2.out) (fun k_ hk => ⟨⟨hk.1, hk.2.2⟩, hk.2.1⟩))).2.1 (Kd.V_F (Kd.V_mono (ok' := (fun k_ => ((fun k_ => (P0_ k_ ∨ w.heap.size ≤ k_) ∧ some k_ ≠ (u5 : Value).ownBlock)) k_ ∧ some k_ ≠ (u4 : Value).ownBlock)) (HL115_2.out) (fun k_ hk => ⟨⟨hk.1, hk.2.2⟩, hk.2.1⟩))) (Kd.V_reads' (Kd.V_mono (ok' := (fun k_ => ((fun k_ => (P0_ k_ ∨ w.heap.size ≤ k_) ∧ some k_ ≠ (u5 : Value).ownBlock)) k_ ∧ some k_ ≠ (u4 : Value).ownBlock)) (HL115_4.out) (fun k_ hk => ⟨⟨hk.1, hk.2.2⟩, hk.2.1⟩))).2.1 (Kd.V_F (Kd.V_mono (ok' := (fun k_ => ((fun k_ => (P0_ k_ ∨ w.heap.size ≤ k_) ∧ some k_ ≠ (u5 : Value).ownBlock)) k_ ∧ some k_ ≠ (u4 : Value).ownBlock)) (HL115_4.out) (fun k_ hk => ⟨⟨hk.1, hk.2.2⟩, hk.2.1⟩)))) | exact (k47_mkF _ _ (⟨(rd_T66 l0 x6_1).f0.f0, (rd_T66 l0 x6_1).f0.f1, (rd_T66 l0 x6_1).f0.f2, (rd_T66 l0 x6_1).f0.f3, (⟨(rd_T66 l0 x6_1).f0.f4.f0, (rd_T66 l0 x6_1).f0.f4.f1, (rd_T66 l0 x6_1).f0.f4.f2⟩ : S45)⟩ : S47) (Kd.V_reads' (Kd.V_mono (ok' := (fun k_ => ((fun k_ => (P0_ k_ ∨ w.heap.size ≤ k_) ∧ some k_ ≠ (u5 : Value).ownBlock)) k_ ∧ some k_ ≠ (u4 : Value).ownBlock)) (HL115_2.out) (fun k_ hk => ⟨⟨hk.1, hk.2.2⟩, hk.2.1⟩))).2.1 (Kd.V_F (Kd.V_mono (ok' := (fun k_ => ((fun k_ => (P0_ k_ ∨ w.heap.size ≤ k_) ∧ some k_ ≠ (u5 : Value).ownBlock)) k_ ∧ some k_ ≠ (u4 : Value).ownBlock)) ((Kd.V_drewN (HL115_2.out) _)) (fun k_ hk => ⟨⟨hk.1, hk.2.2⟩, hk.2.1⟩))) (Kd.V_reads' (Kd.V_mono (ok' := (fun k_ => ((fun k_ => (P0_ k_ ∨ w.heap.size ≤ k_) ∧ some k_ ≠ (u5 : Value).ownBlock)) k_ ∧ some k_ ≠ (u4 : Value).ownBlock)) (HL115_4.out) (fun k_ hk => ⟨⟨hk.1, hk.2.2⟩, hk.2.1⟩))).2.1 (Kd.V_F (Kd.V_mono (ok' := (fun k_ => ((fun k_ => (P0_ k_ ∨ w.heap.size ≤ k_) ∧ some k_ ≠ (u5 : Value).ownBlock)) k_ ∧ some k_ ≠ (u4 : Value).ownBlock)) ((Kd.V_drewN (HL115_4.out) _)) (fun k_ hk => ⟨⟨hk.1, hk.2.2⟩, hk.2.1⟩)))) | exact (k47_mkF _ _ (⟨(rd_T66 l0 x6_1).f0.f0, (rd_T66 l0 x6_1).f0.f1, (rd_T66 l0 x6_1).f0.f2, (rd_T66 l0 x6_1).f0.f3, (⟨(rd_T66 l0 x6_1).f0.f4.f0, (rd_T66 l0 x6_1).f0.f4.f1, (rd_T66 l0 x6_1).f0.f4.f2⟩ : S45)⟩ : S47) (Kd.V_reads' (Kd.V_mono (ok' := (fun k_ => ((fun k_ => (P0_ k_ ∨ w.heap.size ≤ k_) ∧ some k_ ≠ (u5 : Value).ownBlock)) k_ ∧ some k_ ≠ (u4 : Value).ownBlock)) (HL115_2.out) (fun k_ hk => ⟨⟨hk.1, hk.2.2⟩, hk.2.1⟩))).2.1 (Kd.V_F (Kd.V_mono (ok' := (fun k_ => ((fun k_ => (P0_ k_ ∨ w.heap.size ≤ k_) ∧ some k_ ≠ (u5 : Value).ownBlock)) k_ ∧ some k_ ≠ (u4 : Value).ownBlock)) ((Kd.V_drewN (Kd.V_drewN (HL115_2.out) _) _)) (fun k_ hk => ⟨⟨hk.1, hk.2.2⟩, hk.2.1⟩))) (Kd.V_reads' (Kd.V_mono (ok' := (fun k_ => ((fun k_ => (P0_ k_ ∨ w.heap.size ≤ k_) ∧ some k_ ≠ (u5 : Value).ownBlock)) k_ ∧ some k_ ≠ (u4 : Value).ownBlock)) (HL115_4.out) (fun k_ hk => ⟨⟨hk.1, hk.2.2⟩, hk.2.1⟩))).2.1 (Kd.V_F (Kd.V_mono (ok' := (fun k_ => ((fun k_ => (P0_ k_ ∨ w.heap.size ≤ k_) ∧ some k_ ≠ (u5 : Value).ownBlock)) k_ ∧ some k_ ≠ (u4 : Value).ownBlock)) ((Kd.V_drewN (Kd.V_drewN (HL115_4.out) _) _)) (fun k_ hk => ⟨⟨hk.1, hk.2.2⟩, hk.2.1⟩)))) | exact (k47_mkF _ _ (⟨(rd_T66 l0 x6_1).f0.f0, (rd_T66 l0 x6_1).f0.f1, (rd_T66 l0 x6_1).f0.f2, (rd_T66 l0 x6_1).f0.f3, (⟨(rd_T66 l0 x6_1).f0.f4.f0, (rd_T66 l0 x6_1).f0.f4.f1, (rd_T66 l0 x6_1).f0.f4.f2⟩ : S45)⟩ : S47) (Kd.V_reads' (Kd.V_mono (ok' := (fun k_ => ((fun k_ => (P0_ k_ ∨ w.heap.size ≤ k_) ∧ some k_ ≠ (u5 : Value).ownBlock)) k_ ∧ some k_ ≠ (u4 : Value).ownBlock)) (HL115_2.out) (fun k_ hk => ⟨⟨hk.1, hk.2.2⟩, hk.2.1⟩))).2.1 (Kd.V_F (Kd.V_mono (ok' := (fun k_ => ((fun k_ => (P0_ k_ ∨ w.heap.size ≤ k_) ∧ some k_ ≠ (u5 : Value).ownBlock)) k_ ∧ some k_ ≠ (u4 : Value).ownBlock)) ((Kd.V_drewN (Kd.V_drewN (Kd.V_drewN (HL115_2.out) _) _) _)) (fun k_ hk => ⟨⟨hk.1, hk.2.2⟩, hk.2.1⟩))) (Kd.V_reads' (Kd.V_mono (ok' := (fun k_ => ((fun k_ => (P0_ k_ ∨ w.heap.size ≤ k_) ∧ some k_ ≠ (u5 : Value).ownBlock)) k_ ∧ some k_ ≠ (u4 : Value).ownBlock)) (HL115_4.out) (fun k_ hk => ⟨⟨hk.1, hk.2.2⟩, hk.2.1⟩))).2.1 (Kd.V_F (Kd.V_mono (ok' := (fun k_ => ((fun k_ => (P0_ k_ ∨ w.heap.size ≤ k_) ∧ some k_ ≠ (u5 : Value).ownBlock)) k_ ∧ some k_ ≠ (u4 : Value).ownBlock)) ((Kd.V_drewN (Kd.V_drewN (Kd.V_drewN (HL115_4.out) _) _) _)) (fun k_ hk => ⟨⟨hk.1, hk.2.2⟩, hk.2.1⟩))))); (case aB => exact (by repeat (first | (with_reducible first | exact HB.out | apply below_alloc | apply pw_below_drewN | apply below_drew1) | exact HB.out))); (case aF => exact (fun k_ hk => ⟨(.inr (Nat.le_trans (below_size (by repeat (first | (with_reducible first | exact HB.out | apply below_alloc | apply pw_below_drewN | apply below_drew1) | exact HB.out))) hk)), Kd.fresh' (Kd.N_lt (by (with_reducible repeat (first | apply Kd.N_alloc | apply Kd.N_drewN | apply Kd.N_drew)); exact HO_5.out)) k_ hk⟩)); (case aO => exact (by (with_reducible repeat (first | apply Kd.N_alloc | apply Kd.N_drewN | apply Kd.N_drew)); exact HO_4.out)); (case aS => exact (below_size (by repeat (first | (with_reducible first | exact HB.out | apply below_alloc | apply pw_below_drewN | apply below_drew1) | exact HB.out)))); (case aL => have := LMc4.out; omega); intro v117 w6 ho hb hg hat; rw [← Ny116.out] at ho; have n0_ := Aside0.mk (Kd.V_afterv (ok := (fun k_ => (P0_ k_ ∨ w.heap.size ≤ k_) ∧ some k_ ≠ (u5 : Value).ownBlock)) (by (with_reducible repeat (first | apply Kd.V_alloc | apply Kd.V_drewN | apply Kd.V_drew)); exact Kd.V_mono HO_0.out (fun _ hk => ⟨⟨hk.1, hk.2.2⟩, hk.2.1⟩)) hg hat); have n1_ := Aside0.mk (Kd.N_afterv (ok := (fun k_ => (P0_ k_ ∨ w.heap.size ≤ k_))) (by (with_reducible repeat (first | apply Kd.N_alloc | apply Kd.N_drewN | apply Kd.N_drew)); exact HO_5.out) hg hat); have n2_ := Aside0.mk (Kd.V_afterv (ok := (fun k_ => (P0_ k_ ∨ w.heap.size ≤ k_) ∧ some k_ ≠ (u5 : Value).ownBlock)) (by (with_reducible repeat (first | apply Kd.V_alloc | apply Kd.V_drewN | apply Kd.V_drew)); exact Kd.V_mono HL115_2.out (fun _ hk => ⟨⟨hk.1, hk.2.2⟩, hk.2.1⟩)) hg hat); have n3_ := Aside0.mk (Kd.V_afterv (ok := (fun k_ => (P0_ k_ ∨ w.heap.size ≤ k_) ∧ some k_ ≠ (u5 : Value).ownBlock)) (by (with_reducible repeat (first | apply Kd.V_alloc | apply Kd.V_drewN | apply Kd.V_drew)); exact Kd.V_mono HL115_4.out (fun _ hk => ⟨⟨hk.1, hk.2.2⟩, hk.2.1⟩)) hg hat); have n4_ := Aside0.mk (Kd.V_afterv (ok := (fun k_ => (P0_ k_ ∨ w.heap.size ≤ k_) ∧ some k_ ≠ (u5 : Value).ownBlock)) (by (with_reducible repeat (first | apply Kd.V_alloc | apply Kd.V_drewN | apply Kd.V_drew)); exact Kd.V_mono HL115_8.out (fun _ hk => ⟨⟨hk.1, hk.2.2⟩, hk.2.1⟩)) hg hat); have n5_ := Aside0.mk (Kd.V_afterv (ok := (fun k_ => (P0_ k_ ∨ w.heap.size ≤ k_) ∧ some k_ ≠ (u5 : Value).ownBlock)) (by (with_reducible repeat (first | apply Kd.V_alloc | apply Kd.V_drewN | apply Kd.V_drew)); exact Kd.V_mono HL115_10.out (fun _ hk => ⟨⟨hk.1, hk.2.2⟩, hk.2.1⟩)) hg hat); have n6_ := Aside0.mk (Kd.V_afterv (ok := (fun k_ => (P0_ k_ ∨ w.heap.size ≤ k_) ∧ some k_ ≠ (u5 : Value).ownBlock)) (by (with_reducible repeat (first | apply Kd.V_alloc | apply Kd.V_drewN | apply Kd.V_drew)); exact Kd.V_mono HL115_11.out (fun _ hk => ⟨⟨hk.1, hk.2.2⟩, hk.2.1⟩)) hg hat); have n7_ := Aside0.mk (hb); have n8_ := Aside0.mk (ho); clear HO_0; clear HO_5; clear HL115_2; clear HL115_4; clear HL115_8; clear HL115_10; clear HL115_11; clear HB; clear HO_4; have HO_0 := n0_; have HO_5 := n1_; have HL115_2 := n2_; have HL115_4 := n3_; have HL115_8 := n4_; have HL115_10 := n5_; have HL115_11 := n6_; have HB := n7_; have HO118 := n8_; clear n0_ n1_ n2_ n3_ n4_ n5_ n6_ n7_ n8_; clear ho hb hg hat; have p119 : 0 ≤ (x6_1 : Int) := of_decide_eq_true (by first | (with_reducible assumption) | assumption); have q119 : x6_1 < (l0.length : Int) := of_decide_eq_true (by first | (with_reducible assumption) | assumption); obtain ⟨ad119, A119_2, c119_2, A119_4, c119_4, A119_8, c119_8, A119_10, c119_10, A119_11, c119_11, e119, hx119_0, hx119_1, hx119_2, hx119_3, hx119_4, hx119_5, hx119_6, hx119_7, hx119_8, hx119_9, hx119_10, hx119_11, hx119_12, hx119_13, hl119_2, hi119_2, hl119_4, hi119_4, hl119_8, hi119_8, hl119_10, hi119_10, hl119_11, hi119_11⟩ := at_T66 (Kd.V_reads' HO_0.out).2.2 x6_1 p119 q119; obtain rfl : ad115 = ad119 := (by injection e119); obtain ⟨ce119, hce119, hMe119, hcc119⟩ := Kd.V_get HO_0.out z66 x6_1 p119 (by first | exact q119 | exact of_decide_eq_true (by first | (with_reducible assumption) | assumption) | (have e_ := (Kd.V_reads' HO_0.out).1; omega)); obtain ⟨ua119_2, uc119_2, ua119_4, uc119_4, ua119_8, uc119_8, ua119_10, uc119_10, ua119_11, uc119_11, rfl, ul119_2, ge119_2, ul119_4, ge119_4, ul119_8, ge119_8, ul119_10, ge119_10, ul119_11, ge119_11⟩ := k66_openF hMe119; have hv119_2 := hcc119 2 _ rfl; rw [add_field _ _ 2 (by omega)] at hv119_2; replace hv119_2 := Option.some.inj (hv119_2.symm.trans hx119_2); injection hv119_2 with hva_ hvn_ hvc_; rw [hva_] at ge119_2; rw [hvc_] at ul119_2; have HL119_2 := Aside0.mk (show Kd.V (Kd.int .u8) 5 _ w.heap.size _ _ ((rd_T66 l0 x6_1).f0.f2) from Kd.V_mk ul119_2 ge119_2); clear hva_ hvn_ hvc_ ge119_2 ul119_2; have hv119_4 := hcc119 4 _ rfl; rw [add_field _ _ 4 (by omega)] at hv119_4; replace hv119_4 := Option.some.inj (hv119_4.symm.trans hx119_4); injection hv119_4 with hva_ hvn_ hvc_; rw [hva_] at ge119_4; rw [hvc_] at ul119_4; have HL119_4 := Aside0.mk (show Kd.V Kd.bool 4 _ w.heap.size _ _ ((rd_T66 l0 x6_1).f0.f4.f0) from Kd.V_mk ul119_4 ge119_4); clear hva_ hvn_ hvc_ ge119_4 ul119_4; have hv119_8 := hcc119 8 _ rfl; rw [add_field _ _ 8 (by omega)] at hv119_8; replace hv119_8 := Option.some.inj (hv119_8.symm.trans hx119_8); injection hv119_8 with hva_ hvn_ hvc_; rw [hva_] at ge119_8; rw [hvc_] at ul119_8; have HL119_8 := Aside0.mk (show Kd.V (Kd.int .u8) 5 _ w.heap.size _ _ ((rd_T66 l0 x6_1).f1.f1) from Kd.V_mk ul119_8 ge119_8); clear hva_ hvn_ hvc_ ge119_8 ul119_8; have hv119_10 := hcc119 10 _ rfl; rw [add_field _ _ 10 (by omega)] at hv119_10; replace hv119_10 := Option.some.inj (hv119_10.symm.trans hx119_10); injection hv119_10 with hva_ hvn_ hvc_; rw [hva_] at ge119_10; rw [hvc_] at ul119_10; have HL119_10 := Aside0.mk (show Kd.V Kd.string 9 _ w.heap.size _ _ ((rd_T66 l0 x6_1).f1.f3) from Kd.V_mk ul119_10 ge119_10); clear hva_ hvn_ hvc_ ge119_10 ul119_10; have hv119_11 := hcc119 11 _ rfl; rw [add_field _ _ 11 (by omega)] at hv119_11; replace hv119_11 := Option.some.inj (hv119_11.symm.trans hx119_11); injection hv119_11 with hva_ hvn_ hvc_; rw [hva_] at ge119_11; rw [hvc_] at ul119_11; have HL119_11 := Aside0.mk (show Kd.V k122 122 _ w.heap.size _ _ ((rd_T66 l0 x6_1).f1.f4) from Kd.V_mk ul119_11 ge119_11); clear hva_ hvn_ hvc_ ge119_11 ul119_11; clear hcc119 hce119; have HR119_2 := Aside0.mk hi119_2; have HC119_2 := Aside0.mk hl119_2; clear hi119_2 hl119_2; have HR119_4 := Aside0.mk hi119_4; have HC119_4 := Aside0.mk hl119_4; clear hi119_4 hl119_4; have HR119_8 := Aside0.mk hi119_8; have HC119_8 := Aside0.mk hl119_8; clear hi119_8 hl119_8; have HR119_10 := Aside0.mk hi119_10; have HC119_10 := Aside0.mk hl119_10; clear hi119_10 hl119_10; have HR119_11 := Aside0.mk hi119_11; have HC119_11 := Aside0.mk hl119_11; clear hi119_11 hl119_11; replace p119 := eq_true p119; replace q119 := eq_true q119) | ((with_reducible refine gate_builtin (b := .append) (xs := #[.tmp 21, .tmp 27]) rfl ?_); at_builtin; refine Kd.N_append k51 (w0 := w) w.heap.size rfl (.tmp 21) (.tmp 27) 33 51 (.agg #[(.int .i64 0), (.slice none 0 0), (.int .i64 0), (.slice none 0 0), (.slice none 0 0), (.bool false), (.bool false)]) 96 rfl Tryd.underlying33 info51 rfl (by decide) (by omega) u5 x5_1 (⟨(rd_T66 l0 x6_1).f1.f0, (rd_T66 l0 x6_1).f1.f1, (rd_T66 l0 x6_1).f1.f2, (rd_T66 l0 x6_1).f1.f3, (rd_T66 l0 x6_1).f1.f4, (rd_T66 l0 x6_1).f1.f5, (rd_T66 l0 x6_1).f1.f6⟩ : S51) [.int .i64 ((rd_T66 l0 x6_1).f1.f0), .slice A119_8 ((rd_T66 l0 x6_1).f1.f1).length c119_8, .int .i64 ((rd_T66 l0 x6_1).f1.f2), .slice A119_10 ((rd_T66 l0 x6_1).f1.f3).length c119_10, .slice A119_11 ((rd_T66 l0 x6_1).f1.f4).length c119_11, .bool ((rd_T66 l0 x6_1).f1.f5), .bool ((rd_T66 l0 x6_1).f1.f6)] (fun k_ => (P0_ k_ ∨ w.heap.size ≤ k_) ∧ some k_ ≠ (v117 : Value).ownBlock) (fun k_ => ((fun k_ => (P0_ k_ ∨ w.heap.size ≤ k_) ∧ some k_ ≠ (v117 : Value).ownBlock)) k_ ∧ some k_ ≠ (u5 : Value).ownBlock) rfl rfl ?aP (fun _ hk => hk) ?aF ?aO ?aB ?aS ?aL ?_; (case aP => first | exact (k51_mkF _ _ (⟨(rd_T66 l0 x6_1).f1.f0, (rd_T66 l0 x6_1).f1.f1, (rd_T66 l0 x6_1).f1.f2, (rd_T66 l0 x6_1).f1.f3, (rd_T66 l0 x6_1).f1.f4, (rd_T66 l0 x6_1).f1.f5, (rd_T66 l0 x6_1).f1.f6⟩ : S51) (Kd.V_reads' (Kd.V_mono (ok' := (fun k_ => ((fun k_ => (P0_ k_ ∨ w.heap.size ≤ k_) ∧ some k_ ≠ (v117 : Value).ownBlock)) k_ ∧ some k_ ≠ (u5 : Value).ownBlock)) (HL119_8.out) (fun k_ hk => ⟨⟨hk.1.1, hk.2⟩, hk.1.2⟩))).2.1 (Kd.V_F (Kd.V_mono (ok' := (fun k_ => ((fun k_ => (P0_ k_ ∨ w.heap.size ≤ k_) ∧ some k_ ≠ (v117 : Value).ownBlock)) k_ ∧ some k_ ≠ (u5 : Value).ownBlock)) (HL119_8.out) (fun k_ hk => ⟨⟨hk.1.1, hk.2⟩, hk.1.2⟩))) (Kd.V_reads' (Kd.V_mono (ok' := (fun k_ => ((fun k_ => (P0_ k_ ∨ w.heap.size ≤ k_) ∧ some k_ ≠ (v117 : Value).ownBlock)) k_ ∧ some k_ ≠ (u5 : Value).ownBlock)) (HL119_10.out) (fun k_ hk => ⟨⟨hk.1.1, hk.2⟩, hk.1.2⟩))).2.1 (Kd.V_F (Kd.V_mono (ok' := (fun k_ => ((fun k_ => (P0_ k_ ∨ w.heap.size ≤ k_) ∧ some k_ ≠ (v117 : Value).ownBlock)) k_ ∧ some k_ ≠ (u5 : Value).ownBlock)) (HL119_10.out) (fun k_ hk => ⟨⟨hk.1.1, hk.2⟩, hk.1.2⟩))) (Kd.V_reads' (Kd.V_mono (ok' := (fun k_ => ((fun k_ => (P0_ k_ ∨ w.heap.size ≤ k_) ∧ some k_ ≠ (v117 : Value).ownBlock)) k_ ∧ some k_ ≠ (u5 : Value).ownBlock)) (HL119_11.out) (fun k_ hk => ⟨⟨hk.1.1, hk.2⟩, hk.1.2⟩))).2.1 (Kd.V_F (Kd.V_mono (ok' := (fun k_ => ((fun k_ => (P0_ k_ ∨ w.heap.size ≤ k_) ∧ some k_ ≠ (v117 : Value).ownBlock)) k_ ∧ some k_ ≠ (u5 : Value).ownBlock)) (HL119_11.out) (fun k_ hk => ⟨⟨hk.1.1, hk.2⟩, hk.1.2⟩)))) | exact (k51_mkF _ _ (⟨(rd_T66 l0 x6_1).f1.f0, (rd_T66 l0 x6_1).f1.f1, (rd_T66 l0 x6_1).f1.f2, (rd_T66 l0 x6_1).f1.f3, (rd_T66 l0 x6_1).f1.f4, (rd_T66 l0 x6_1).f1.f5, (rd_T66 l0 x6_1).f1.f6⟩ : S51) (Kd.V_reads' (Kd.V_mono (ok' := (fun k_ => ((fun k_ => (P0_ k_ ∨ w.heap.size ≤ k_) ∧ some k_ ≠ (v117 : Value).ownBlock)) k_ ∧ some k_ ≠ (u5 : Value).ownBlock)) (HL119_8.out) (fun k_ hk => ⟨⟨hk.1.1, hk.2⟩, hk.1.2⟩))).2.1 (Kd.V_F (Kd.V_mono (ok' := (fun k_ => ((fun k_ => (P0_ k_ ∨ w.heap.size ≤ k_) ∧ some k_ ≠ (v117 : Value).ownBlock)) k_ ∧ some k_ ≠ (u5 : Value).ownBlock)) ((Kd.V_drewN (HL119_8.out) _)) (fun k_ hk => ⟨⟨hk.1.1, hk.2⟩, hk.1.2⟩))) (Kd.V_reads' (Kd.V_mono (ok' := (fun k_ => ((fun k_ => (P0_ k_ ∨ w.heap.size ≤ k_) ∧ some k_ ≠ (v117 : Value).ownBlock)) k_ ∧ some k_ ≠ (u5 : Value).ownBlock)) (HL119_10.out) (fun k_ hk => ⟨⟨hk.1.1, hk.2⟩, hk.1.2⟩))).2.1 (Kd.V_F (Kd.V_mono (ok' := (fun k_ => ((fun k_ => (P0_ k_ ∨ w.heap.size ≤ k_) ∧ some k_ ≠ (v117 : Value).ownBlock)) k_ ∧ some k_ ≠ (u5 : Value).ownBlock)) ((Kd.V_drewN (HL119_10.out) _)) (fun k_ hk => ⟨⟨hk.1.1, hk.2⟩, hk.1.2⟩))) (Kd.V_reads' (Kd.V_mono (ok' := (fun k_ => ((fun k_ => (P0_ k_ ∨ w.heap.size ≤ k_) ∧ some k_ ≠ (v117 : Value).ownBlock)) k_ ∧ some k_ ≠ (u5 : Value).ownBlock)) (HL119_11.out) (fun k_ hk => ⟨⟨hk.1.1, hk.2⟩, hk.1.2⟩))).2.1 (Kd.V_F (Kd.V_mono (ok' := (fun k_ => ((fun k_ => (P0_ k_ ∨ w.heap.size ≤ k_) ∧ some k_ ≠ (v117 : Value).ownBlock)) k_ ∧ some k_ ≠ (u5 : Value).ownBlock)) ((Kd.V_drewN (HL119_11.out) _)) (fun k_ hk => ⟨⟨hk.1.1, hk.2⟩, hk.1.2⟩)))) | exact (k51_mkF _ _ (⟨(rd_T66 l0 x6_1).f1.f0, (rd_T66 l0 x6_1).f1.f1, (rd_T66 l0 x6_1).f1.f2, (rd_T66 l0 x6_1).f1.f3, (rd_T66 l0 x6_1).f1.f4, (rd_T66 l0 x6_1).f1.f5, (rd_T66 l0 x6_1).f1.f6⟩ : S51) (Kd.V_reads' (Kd.V_mono (ok' := (fun k_ => ((fun k_ => (P0_ k_ ∨ w.heap.size ≤ k_) ∧ some k_ ≠ (v117 : Value).ownBlock)) k_ ∧ some k_ ≠ (u5 : Value).ownBlock)) (HL119_8.out) (fun k_ hk => ⟨⟨hk.1.1, hk.2⟩, hk.1.2⟩))).2.1 (Kd.V_F (Kd.V_mono (ok' := (fun k_ => ((fun k_ => (P0_ k_ ∨ w.heap.size ≤ k_) ∧ some k_ ≠ (v117 : Value).ownBlock)) k_ ∧ some k_ ≠ (u5 : Value).ownBlock)) ((Kd.V_drewN (Kd.V_drewN (HL119_8.out) _) _)) (fun k_ hk => ⟨⟨hk.1.1, hk.2⟩, hk.1.2⟩))) (Kd.V_reads' (Kd.V_mono (ok' := (fun k_ => ((fun k_ => (P0_ k_ ∨ w.heap.size ≤ k_) ∧ some k_ ≠ (v117 : Value).ownBlock)) k_ ∧ some k_ ≠ (u5 : Value).ownBlock)) (HL119_10.out) (fun k_ hk => ⟨⟨hk.1.1, hk.2⟩, hk.1.2⟩))).2.1 (Kd.V_F (Kd.V_mono (ok' := (fun k_ => ((fun k_ => (P0_ k_ ∨ w.heap.size ≤ k_) ∧ some k_ ≠ (v117 : Value).ownBlock)) k_ ∧ some k_ ≠ (u5 : Value).ownBlock)) ((Kd.V_drewN (Kd.V_drewN (HL119_10.out) _) _)) (fun k_ hk => ⟨⟨hk.1.1, hk.2⟩, hk.1.2⟩))) (Kd.V_reads' (Kd.V_mono (ok' := (fun k_ => ((fun k_ => (P0_ k_ ∨ w.heap.size ≤ k_) ∧ some k_ ≠ (v117 : Value).ownBlock)) k_ ∧ some k_ ≠ (u5 : Value).ownBlock)) (HL119_11.out) (fun k_ hk => ⟨⟨hk.1.1, hk.2⟩, hk.1.2⟩))).2.1 (Kd.V_F (Kd.V_mono (ok' := (fun k_ => ((fun k_ => (P0_ k_ ∨ w.heap.size ≤ k_) ∧ some k_ ≠ (v117 : Value).ownBlock)) k_ ∧ some k_ ≠ (u5 : Value).ownBlock)) ((Kd.V_drewN (Kd.V_drewN (HL119_11.out) _) _)) (fun k_ hk => ⟨⟨hk.1.1, hk.2⟩, hk.1.2⟩)))) | exact (k51_mkF _ _ (⟨(rd_T66 l0 x6_1).f1.f0, (rd_T66 l0 x6_1).f1.f1, (rd_T66 l0 x6_1).f1.f2, (rd_T66 l0 x6_1).f1.f3, (rd_T66 l0 x6_1).f1.f4, (rd_T66 l0 x6_1).f1.f5, (rd_T66 l0 x6_1).f1.f6⟩ : S51) (Kd.V_reads' (Kd.V_mono (ok' := (fun k_ => ((fun k_ => (P0_ k_ ∨ w.heap.size ≤ k_) ∧ some k_ ≠ (v117 : Value).ownBlock)) k_ ∧ some k_ ≠ (u5 : Value).ownBlock)) (HL119_8.out) (fun k_ hk => ⟨⟨hk.1.1, hk.2⟩, hk.1.2⟩))).2.1 (Kd.V_F (Kd.V_mono (ok' := (fun k_ => ((fun k_ => (P0_ k_ ∨ w.heap.size ≤ k_) ∧ some k_ ≠ (v117 : Value).ownBlock)) k_ ∧ some k_ ≠ (u5 : Value).ownBlock)) ((Kd.V_drewN (Kd.V_drewN (Kd.V_drewN (HL119_8.out) _) _) _)) (fun k_ hk => ⟨⟨hk.1.1, hk.2⟩, hk.1.2⟩))) (Kd.V_reads' (Kd.V_mono (ok' := (fun k_ => ((fun k_ => (P0_ k_ ∨ w.heap.size ≤ k_) ∧ some k_ ≠ (v117 : Value).ownBlock)) k_ ∧ some k_ ≠ (u5 : Value).ownBlock)) (HL119_10.out) (fun k_ hk => ⟨⟨hk.1.1, hk.2⟩, hk.1.2⟩))).2.1 (Kd.V_F (Kd.V_mono (ok' := (fun k_ => ((fun k_ => (P0_ k_ ∨ w.heap.size ≤ k_) ∧ some k_ ≠ (v117 : Value).ownBlock)) k_ ∧ some k_ ≠ (u5 : Value).ownBlock)) ((Kd.V_drewN (Kd.V_drewN (Kd.V_drewN (HL119_10.out) _) _) _)) (fun k_ hk => ⟨⟨hk.1.1, hk.2⟩, hk.1.2⟩))) (Kd.V_reads' (Kd.V_mono (ok' := (fun k_ => ((fun k_ => (P0_ k_ ∨ w.heap.size ≤ k_) ∧ some k_ ≠ (v117 : Value).ownBlock)) k_ ∧ some k_ ≠ (u5 : Value).ownBlock)) (HL119_11.out) (fun k_ hk => ⟨⟨hk.1.1, hk.2⟩, hk.1.2⟩))).2.1 (Kd.V_F (Kd.V_mono (ok' := (fun k_ => ((fun k_ => (P0_ k_ ∨ w.heap.size ≤ k_) ∧ some k_ ≠ (v117 : Value).ownBlock)) k_ ∧ some k_ ≠ (u5 : Value).ownBlock)) ((Kd.V_drewN (Kd.V_drewN (Kd.V_drewN (HL119_11.out) _) _) _)) (fun k_ hk => ⟨⟨hk.1.1, hk.2⟩, hk.1.2⟩))))); (case aB => exact (by repeat (first | (with_reducible first | exact HB.out | apply below_alloc | apply pw_below_drewN | apply below_drew1) | exact HB.out))); (case aF => exact (fun k_ hk => ⟨(.inr (Nat.le_trans (below_size (by repeat (first | (with_reducible first | exact HB.out | apply below_alloc | apply pw_below_drewN | apply below_drew1) | exact HB.out))) hk)), Kd.fresh' (Kd.N_lt (by (with_reducible repeat (first | apply Kd.N_alloc | apply Kd.N_drewN | apply Kd.N_drew)); exact HO118.out)) k_ hk⟩)); (case aO => exact (by (with_reducible repeat (first | apply Kd.N_alloc | apply Kd.N_drewN | apply Kd.N_drew)); exact HO_5.out)); (case aS => exact (below_size (by repeat (first | (with_reducible first | exact HB.out | apply below_alloc | apply pw_below_drewN | apply below_drew1) | exact HB.out)))); (case aL => have := LMc5.out; omega); intro v121 w7 ho hb hg hat; rw [← Ny120.out] at ho; have n0_ := Aside0.mk (Kd.V_afterv (ok := (fun k_ => (P0_ k_ ∨ w.heap.size ≤ k_) ∧ some k_ ≠ (v117 : Value).ownBlock)) (by (with_reducible repeat (first | apply Kd.V_alloc | apply Kd.V_drewN | apply Kd.V_drew)); exact Kd.V_mono HO_0.out (fun _ hk => ⟨⟨hk.1.1, hk.2⟩, hk.1.2⟩)) hg hat); have n1_ := Aside0.mk (Kd.V_afterv (ok := (fun k_ => (P0_ k_ ∨ w.heap.size ≤ k_) ∧ some k_ ≠ (v117 : Value).ownBlock)) (by (with_reducible repeat (first | apply Kd.V_alloc | apply Kd.V_drewN | apply Kd.V_drew)); exact Kd.V_mono HL115_2.out (fun _ hk => ⟨⟨hk.1.1, hk.2⟩, hk.1.2⟩)) hg hat); have n2_ := Aside0.mk (Kd.V_afterv (ok := (fun k_ => (P0_ k_ ∨ w.heap.size ≤ k_) ∧ some k_ ≠ (v117 : Value).ownBlock)) (by (with_reducible repeat (first | apply Kd.V_alloc | apply Kd.V_drewN | apply Kd.V_drew)); exact Kd.V_mono HL115_4.out (fun _ hk => ⟨⟨hk.1.1, hk.2⟩, hk.1.2⟩)) hg hat); have n3_ := Aside0.mk (Kd.V_afterv (ok := (fun k_ => (P0_ k_ ∨ w.heap.size ≤ k_) ∧ some k_ ≠ (v117 : Value).ownBlock)) (by (with_reducible repeat (first | apply Kd.V_alloc | apply Kd.V_drewN | apply Kd.V_drew)); exact Kd.V_mono HL115_8.out (fun _ hk => ⟨⟨hk.1.1, hk.2⟩, hk.1.2⟩)) hg hat); have n4_ := Aside0.mk (Kd.V_afterv (ok := (fun k_ => (P0_ k_ ∨ w.heap.size ≤ k_) ∧ some k_ ≠ (v117 : Value).ownBlock)) (by (with_reducible repeat (first | apply Kd.V_alloc | apply Kd.V_drewN | apply Kd.V_drew)); exact Kd.V_mono HL115_10.out (fun _ hk => ⟨⟨hk.1.1, hk.2⟩, hk.1.2⟩)) hg hat); have n5_ := Aside0.mk (Kd.V_afterv (ok := (fun k_ => (P0_ k_ ∨ w.heap.size ≤ k_) ∧ some k_ ≠ (v117 : Value).ownBlock)) (by (with_reducible repeat (first | apply Kd.V_alloc | apply Kd.V_drewN | apply Kd.V_drew)); exact Kd.V_mono HL115_11.out (fun _ hk => ⟨⟨hk.1.1, hk.2⟩, hk.1.2⟩)) hg hat); have n6_ := Aside0.mk (Kd.N_afterv (ok := (fun k_ => (P0_ k_ ∨ w.heap.size ≤ k_))) (by (with_reducible repeat (first | apply Kd.N_alloc | apply Kd.N_drewN | apply Kd.N_drew)); exact HO118.out) hg hat); have n7_ := Aside0.mk (Kd.V_afterv (ok := (fun k_ => (P0_ k_ ∨ w.heap.size ≤ k_) ∧ some k_ ≠ (v117 : Value).ownBlock)) (by (with_reducible repeat (first | apply Kd.V_alloc | apply Kd.V_drewN | apply Kd.V_drew)); exact Kd.V_mono HL119_2.out (fun _ hk => ⟨⟨hk.1.1, hk.2⟩, hk.1.2⟩)) hg hat); have n8_ := Aside0.mk (Kd.V_afterv (ok := (fun k_ => (P0_ k_ ∨ w.heap.size ≤ k_) ∧ some k_ ≠ (v117 : Value).ownBlock)) (by (with_reducible repeat (first | apply Kd.V_alloc | apply Kd.V_drewN | apply Kd.V_drew)); exact Kd.V_mono HL119_4.out (fun _ hk => ⟨⟨hk.1.1, hk.2⟩, hk.1.2⟩)) hg hat); have n9_ := Aside0.mk (Kd.V_afterv (ok := (fun k_ => (P0_ k_ ∨ w.heap.size ≤ k_) ∧ some k_ ≠ (v117 : Value).ownBlock)) (by (with_reducible repeat (first | apply Kd.V_alloc | apply Kd.V_drewN | apply Kd.V_drew)); exact Kd.V_mono HL119_8.out (fun _ hk => ⟨⟨hk.1.1, hk.2⟩, hk.1.2⟩)) hg hat); have n10_ := Aside0.mk (Kd.V_afterv (ok := (fun k_ => (P0_ k_ ∨ w.heap.size ≤ k_) ∧ some k_ ≠ (v117 : Value).ownBlock)) (by (with_reducible repeat (first | apply Kd.V_alloc | apply Kd.V_drewN | apply Kd.V_drew)); exact Kd.V_mono HL119_10.out (fun _ hk => ⟨⟨hk.1.1, hk.2⟩, hk.1.2⟩)) hg hat); have n11_ := Aside0.mk (Kd.V_afterv (ok := (fun k_ => (P0_ k_ ∨ w.heap.size ≤ k_) ∧ some k_ ≠ (v117 : Value).ownBlock)) (by (with_reducible repeat (first | apply Kd.V_alloc | apply Kd.V_drewN | apply Kd.V_drew)); exact Kd.V_mono HL119_11.out (fun _ hk => ⟨⟨hk.1.1, hk.2⟩, hk.1.2⟩)) hg hat); have n12_ := Aside0.mk (hb); have n13_ := Aside0.mk (ho); clear HO_0; clear HL115_2; clear HL115_4; clear HL115_8; clear HL115_10; clear HL115_11; clear HO118; clear HL119_2; clear HL119_4; clear HL119_8; clear HL119_10; clear HL119_11; clear HB; clear HO_5; have HO_0 := n0_; have HL115_2 := n1_; have HL115_4 := n2_; have HL115_8 := n3_; have HL115_10 := n4_; have HL115_11 := n5_; have HO118 := n6_; have HL119_2 := n7_; have HL119_4 := n8_; have HL119_8 := n9_; have HL119_10 := n10_; have HL119_11 := n11_; have HB := n12_; have HO122 := n13_; clear n0_ n1_ n2_ n3_ n4_ n5_ n6_ n7_ n8_ n9_ n10_ n11_ n12_ n13_; clear ho hb hg hat))
       go_roundg k1
       case measure => have := HK1.out; omega
       case rel => exact ⟨(y116), (y120), (wrap64 (x6_1 + 1)), (by first | rfl | (simp only [YtodifojhegbjaaaDoorMpHelp.leq_not, YtodifojhegbjaaaDoorMpHelp.gtr_less]; done) | (simp; done) | (simp [*]; done)), H', ⟨by have := HK1.out; omega⟩, ⟨by (with_reducible repeat (first | apply Kd.V_alloc | apply Kd.V_drewN | apply Kd.V_drew)); exact Kd.V_mono HO_0.out (fun _ hk => ⟨hk.1.1, ⟨hk.1.2, hk.2⟩⟩)⟩, ⟨by (with_reducible repeat (first | apply Kd.N_alloc | apply Kd.N_drewN | apply Kd.N_drew)); exact HO118.out⟩, ⟨by (with_reducible repeat (first | apply Kd.N_alloc | apply Kd.N_drewN | apply Kd.N_drew)); exact HO122.out⟩, ⟨by repeat (first | (with_reducible first | exact HB.out | apply below_alloc | apply pw_below_drewN | apply below_drew1) | exact HB.out)⟩⟩
      ·rw [if_neg c5] at H
       exact absurd H (by simp)
     ·rw [if_neg c4] at H
      exact absurd H (by simp)
    ·rw [if_neg c3] at H
     exact absurd H (by simp)
   ·rw [if_neg c2] at H
    have c2b0 : decide (x6_1 < (l0.length : Int)) = false := decide_eq_false c2
    clear c2
    simp only [Option.some.injEq, Prod.mk.injEq] at H
    obtain ⟨rfl, rfl⟩ := H
    go_wp2
    go_ret2
    exact ⟨_, _, by first | rfl | (simp [errW_none, errW_some] <;> rfl) | (simp [*, errW_none, errW_some] <;> rfl), by (with_reducible repeat (first | apply Kd.N_alloc | apply Kd.N_drewN | apply Kd.N_drew)); exact HO_4.out, by (with_reducible repeat (first | apply Kd.N_alloc | apply Kd.N_drewN | apply Kd.N_drew)); exact HO_5.out, by repeat (first | (with_reducible first | exact HB.out | apply below_alloc | apply pw_below_drewN | apply below_drew1) | exact HB.out)⟩

/-! ### report_Sum: function 16 (told by hand) -/
/-- Forty numbers in a block. -/
def report_Sum.cs (xs : List Int) : Array Value := (xs.map (Value.int .i64)).toArray
def report_Sum.at_ (xs : List Int) (j : Nat) : Int := xs.getD j 0
def report_Sum.St (g : Nat) (xs : List Int) (W : World) : Prop := xs.length = 40 ∧ W.heap[g]? = some (.cells (report_Sum.cs xs) 39 (0, 0))
theorem report_Sum.St.cell {g : Nat} {xs : List Int} {W : World} (h : report_Sum.St g xs W) (j : Nat) (hj : j < 40) : W.cell? ⟨g, j, none⟩ = some (.int .i64 (report_Sum.at_ xs j)) := by
  rw [cell_of_row W g j _ _ (0, 0) h.2]
  unfold report_Sum.cs report_Sum.at_
  have := h.1
  simp [List.getD_eq_getElem?_getD, show j < xs.length by omega]
theorem report_Sum.St.frozen {g : Nat} {xs : List Int} {W : World} (h : report_Sum.St g xs W) (j : Nat) : W.frozen? ⟨g, j, none⟩ = false := blk_frozen h.2 j
theorem report_Sum.St.set {g : Nat} {xs : List Int} {W : World} (h : report_Sum.St g xs W) (j : Nat) (v : Int) : report_Sum.St g (xs.set j v) (W.setCell ⟨g, j, none⟩ (.int .i64 v)) := by
  refine ⟨by rw [List.length_set]; exact h.1, ?_⟩
  have := blk_put (cs := report_Sum.cs xs) h.2 j (.int .i64 v) rfl
  rw [this]
  unfold report_Sum.cs
  simp [List.map_set]
def report_Sum.inc (xs : List Int) (j : Nat) : List Int := xs.set j (wrap64 (report_Sum.at_ xs j + 1))
/-- What holds while a step is counted. -/
def report_Sum.Sx (base g bo ba : Nat) (bO bA : Array Value) (w : World) (xs : List Int) (W : World) : Prop := report_Sum.St g xs W ∧ W.heap[bo]? = some (.cells bO 47 (0, 0)) ∧ W.heap[ba]? = some (.cells bA 51 (0, 0)) ∧ Below base w W ∧ base ≤ W.heap.size
section
variable {base g bo ba : Nat} {bO bA : Array Value} {w : World} {xs : List Int} {W W' : World}
theorem report_Sum.Sx.o (h : report_Sum.Sx base g bo ba bO bA w xs W) (j : Nat) (v : Value) (hv : bO[j]? = some v) : W.cell? ⟨bo, j, none⟩ = some v := (blk_cell h.2.1 j).trans hv
theorem report_Sum.Sx.a (h : report_Sum.Sx base g bo ba bO bA w xs W) (j : Nat) (v : Value) (hv : bA[j]? = some v) : W.cell? ⟨ba, j, none⟩ = some v := (blk_cell h.2.2.1 j).trans hv
theorem report_Sum.Sx.drew (h : report_Sum.Sx base g bo ba bO bA w xs W) : report_Sum.Sx base g bo ba bO bA w xs W.drew := ⟨⟨h.1.1, h.1.2⟩, h.2.1, h.2.2.1, below_drew h.2.2.2.1, h.2.2.2.2⟩
theorem report_Sum.Sx.step (h : report_Sum.Sx base g bo ba bO bA w xs W) (hb : Below W.heap.size W W') : report_Sum.Sx base g bo ba bO bA w xs W' := ⟨⟨h.1.1, blk_below h.1.2 hb⟩, blk_below h.2.1 hb, blk_below h.2.2.1 hb, h.2.2.2.1.trans (hb.mono h.2.2.2.2), Nat.le_trans h.2.2.2.2 hb.size⟩
theorem report_Sum.Sx.set (h : report_Sum.Sx base g bo ba bO bA w xs W) (hg : base ≤ g) (j : Nat) (v : Int) : report_Sum.Sx base g bo ba bO bA w (xs.set j v) (W.setCell ⟨g, j, none⟩ (.int .i64 v)) :=
  ⟨h.1.set j v, (Below.heap_setCell W _ _ bo (blk_ne h.2.1 h.1.2 (by decide))).trans h.2.1, (Below.heap_setCell W _ _ ba (blk_ne h.2.2.1 h.1.2 (by decide))).trans h.2.2.1, h.2.2.2.1.setCell hg _, by rw [World.size_setCell]; exact h.2.2.2.2⟩
end
/-- A step counted. -/
def report_Sum.addL (xs : List Int) (k ec : Nat) (ok rf po : Bool) (m : Nat) : List Int :=
  let x2 := report_Sum.inc (report_Sum.inc xs 0) (4 + k)
  let x3 := if ok = true then report_Sum.inc x2 (23 + ec) else x2
  let x4 := if rf = true then report_Sum.inc x3 1 else x3
  let x5 := if po = true then report_Sum.inc x4 2 else x4
  x5.set 3 (max (report_Sum.at_ x5 3) (m : Int))
set_option maxRecDepth 100000 in
set_option maxHeartbeats 4000000 in
theorem report_Sum.add (g base : Nat) (xs : List Int) (kd N nn fl e sz : Int) (nm : ByteArray) (A2 A4 B1 B3 B4 : Option Addr) (n2 c2 n4 c4 m1 d1 m3 d3 m4 d4 : Nat) (rf po : Bool) (w : World) (hs : report_Sum.St g xs w) (hg : base ≤ g) (hb : base ≤ w.heap.size) (wd cd : ByteArray) (k : Nat) (ec : Nat) (ok : Bool)
    (h1_ : report_Word.f kd = some wd) (h2_ : report_Kind.f wd = some (k : Int)) (h3_ : report_Code.f e = some cd) (h4_ : report_Error.f cd = some ((ec : Int), ok)) (hk : k < 19) (he : ec < 17) :
    Calls Tryd.prog 23 #[.pointer (some ⟨g, 0, none⟩), .agg #[.int .i64 kd, .string nm, .slice A2 n2 c2, .int .i64 N, .slice A4 n4 c4, .int .i64 nn, .int .u8 fl], .agg #[.int .i64 e, .slice B1 m1 d1, .int .i64 sz, .slice B3 m3 d3, .slice B4 m4 d4, .bool rf, .bool po]] w fun e w' => e = .returned (.tuple #[]) ∧ report_Sum.St g (report_Sum.addL xs k ec ok rf po m1) w' ∧ Below base w w' := by
  have c0 := hs.cell 0 (by omega)
  have f0 := hs.frozen 0
  have HS := Aside0.mk hs
  have h1 := Aside0.mk h1_
  have h2 := Aside0.mk h2_
  have h3 := Aside0.mk h3_
  have h4 := Aside0.mk h4_
  have hlt : g < w.heap.size := World.block_lt_of_cell? w ⟨g, 0, none⟩ c0
  clear hs h1_ h2_ h3_ h4_
  go_enter Tryd.func23, Tryd.ntmps23
  go_upto_region 2 with (fail)
  obtain ⟨xs1, hxs1⟩ : ∃ x, x = report_Sum.inc xs 0 := ⟨_, rfl⟩
  obtain ⟨xs2, hxs2⟩ : ∃ x, x = report_Sum.inc xs1 (4 + k) := ⟨_, rfl⟩
  obtain ⟨bo, hbo⟩ : ∃ b, b = w.heap.size := ⟨_, rfl⟩
  obtain ⟨ba, hba⟩ : ∃ b, b = w.heap.size + 1 := ⟨_, rfl⟩
  rw [← hba, ← hbo]
  obtain ⟨W1, hW1⟩ : ∃ W, W = ((w.setCell ⟨g, 0, none⟩ (.int .i64 (wrap64 (report_Sum.at_ xs 0 + 1)))).alloc (.cells #[.int .i64 kd, .string nm, .slice A2 n2 c2, .int .i64 N, .slice A4 n4 c4, .int .i64 nn, .int .u8 fl] 47)).alloc (.cells #[.int .i64 e, .slice B1 m1 d1, .int .i64 sz, .slice B3 m3 d3, .slice B4 m4 d4, .bool rf, .bool po] 51) := ⟨_, rfl⟩
  rw [← hW1]
  have HX : Aside0 (report_Sum.Sx base g bo ba #[.int .i64 kd, .string nm, .slice A2 n2 c2, .int .i64 N, .slice A4 n4 c4, .int .i64 nn, .int .u8 fl] #[.int .i64 e, .slice B1 m1 d1, .int .i64 sz, .slice B3 m3 d3, .slice B4 m4 d4, .bool rf, .bool po] w xs1 W1) := by
    have h0 := HS.out.set 0 (wrap64 (report_Sum.at_ xs 0 + 1))
    have b0 : Below base w (w.setCell ⟨g, 0, none⟩ (.int .i64 (wrap64 (report_Sum.at_ xs 0 + 1)))) := (Below.refl _ _).setCell hg _
    have hsz : (w.setCell ⟨g, 0, none⟩ (.int .i64 (wrap64 (report_Sum.at_ xs 0 + 1)))).heap.size = w.heap.size := World.size_setCell _ _ _
    generalize w.setCell ⟨g, 0, none⟩ (.int .i64 (wrap64 (report_Sum.at_ xs 0 + 1))) = w0 at h0 b0 hsz hW1
    have hl0 := blk_lt h0.2
    subst hxs1
    have s1 : (w0.alloc (.cells #[.int .i64 kd, .string nm, .slice A2 n2 c2, .int .i64 N, .slice A4 n4 c4, .int .i64 nn, .int .u8 fl] 47)).heap.size = w0.heap.size + 1 := YtodifojhegbjaaaDoorMpHelp.size_new _ _
    rw [hW1]
    refine ⟨⟨h0.1, YtodifojhegbjaaaDoorMpHelp.heap_old _ _ (YtodifojhegbjaaaDoorMpHelp.heap_old _ _ h0.2)⟩, ?_, ?_, ?_, ?_⟩
    · rw [hbo, ← hsz]
      exact YtodifojhegbjaaaDoorMpHelp.heap_old _ _ (YtodifojhegbjaaaDoorMpHelp.heap_new _ _)
    · rw [hba, ← hsz, ← s1]
      exact YtodifojhegbjaaaDoorMpHelp.heap_new _ _
    · exact (b0.alloc (by rw [hsz]; exact hb) _).alloc (by rw [s1, hsz]; omega) _
    · rw [YtodifojhegbjaaaDoorMpHelp.size_new, s1, hsz]; omega
  have hbs : base ≤ W1.heap.size := HX.out.2.2.2.2
  have HX1 := Aside0.mk hxs1
  have HX2 := Aside0.mk hxs2
  clear hW1 HS c0 f0 hlt hb hbo hba hxs1 hxs2
  go_cut [15] (fun v15 wc => v15 = .pointer (some ⟨g, 0, none⟩) ∧ Aside0 (report_Sum.Sx base g bo ba #[.int .i64 kd, .string nm, .slice A2 n2 c2, .int .i64 N, .slice A4 n4 c4, .int .i64 nn, .int .u8 fl] #[.int .i64 e, .slice B1 m1 d1, .int .i64 sz, .slice B3 m3 d3, .slice B4 m4 d4, .bool rf, .bool po] w xs2 wc))
  case first =>
    have hki : (0 : Int) ≤ (k : Int) := Int.natCast_nonneg _
    have hki2 : (k : Int) < 19 := by omega
    refine start_ (n := 14) (S := fun w' => w'.cell? ⟨bo, 0, none⟩ = some (.int .i64 kd) ∧ w'.cell? ⟨g, 4 + k, none⟩ = some (.int .i64 (report_Sum.at_ xs1 (4 + k))) ∧ w'.frozen? ⟨g, 4 + k, none⟩ = false) (ds := [13]) #[false, false, false, false, false, false, false, false, false, false, false, false, false, false] (by kernel_rfl) rfl rfl ⟨(HX.out.drew).o 0 (.int .i64 kd) rfl, (HX.out.drew).1.cell (4 + k) (by omega), (HX.out.drew).1.frozen (4 + k)⟩ (fun hHeld => ?_)
    have HX1_ := Aside0.mk HX.out.drew
    clear HX
    generalize W1.drew = W2 at HX1_ hHeld ⊢
    have HX := HX1_
    clear HX1_
    refine pure_ (i := 0) (N := some 15) (v := ?_) (a' := ?_) #[true, false, false, false, false, false, false, false, false, false, false, false, false, false] rfl rfl (by kernel_rfl) (fun _ _ _ h => h) (Or.inl ⟨by rfl, ?_⟩) ?_ ?_
    rotate_left
    · intro w'
      go_simp
      with_reducible rfl
    rotate_left
    · simp only [Act.put, List.setIfInBounds_toArray, List.set_cons_zero, List.set_cons_succ, i64_w, i32_w]
      rfl
    refine pure_ (i := 1) (N := some 16) (v := ?_) (a' := ?_) #[true, true, false, false, false, false, false, false, false, false, false, false, false, false] rfl rfl (by kernel_rfl) (fun _ _ _ h => h) (Or.inl ⟨by rfl, ?_⟩) ?_ ?_
    rotate_left
    · intro w'
      go_simp
      with_reducible rfl
    rotate_left
    · simp only [Act.put, List.setIfInBounds_toArray, List.set_cons_zero, List.set_cons_succ, i64_w, i32_w]
      rfl
    refine pure_ (i := 5) (N := some 20) (v := ?_) (a' := ?_) #[true, true, false, false, false, true, false, false, false, false, false, false, false, false] rfl rfl (by kernel_rfl) (fun _ _ _ h => h) (Or.inl ⟨by rfl, ?_⟩) ?_ ?_
    rotate_left
    · intro w'
      go_simp
      with_reducible rfl
    rotate_left
    · simp only [Act.put, List.setIfInBounds_toArray, List.set_cons_zero, List.set_cons_succ, i64_w, i32_w]
      rfl
    refine pure_ (i := 6) (N := some 21) (v := ?_) (a' := ?_) #[true, true, false, false, false, true, true, false, false, false, false, false, false, false] rfl rfl (by kernel_rfl) (fun _ _ _ h => h) (Or.inl ⟨by rfl, ?_⟩) ?_ ?_
    rotate_left
    · intro w'
      go_simp
      with_reducible rfl
    rotate_left
    · simp only [Act.put, List.setIfInBounds_toArray, List.set_cons_zero, List.set_cons_succ, i64_w, i32_w]
      rfl
    refine pure_ (i := 10) (N := some 25) (v := ?_) (a' := ?_) #[true, true, false, false, false, true, true, false, false, false, true, false, false, false] rfl rfl (by kernel_rfl) (fun _ _ _ h => h) (Or.inl ⟨by rfl, ?_⟩) ?_ ?_
    rotate_left
    · intro w'
      go_simp
      with_reducible rfl
    rotate_left
    · simp only [Act.put, List.setIfInBounds_toArray, List.set_cons_zero, List.set_cons_succ, i64_w, i32_w]
      rfl
    refine pure_ (i := 11) (N := some 26) (v := ?_) (a' := ?_) #[true, true, false, false, false, true, true, false, false, false, true, true, false, false] rfl rfl (by kernel_rfl) (fun _ _ _ h => h) (Or.inl ⟨by rfl, ?_⟩) ?_ ?_
    rotate_left
    · intro w'
      go_simp
      with_reducible rfl
    rotate_left
    · simp only [Act.put, List.setIfInBounds_toArray, List.set_cons_zero, List.set_cons_succ, i64_w, i32_w]
      rfl
    refine take_ (i := 2) (N := some 17) (v := ?_) (a' := ?_) #[true, true, true, false, false, true, true, false, false, false, true, true, false, false] rfl rfl (by kernel_rfl) (fun _ _ _ h => h) (Or.inl ⟨by rfl, ?_⟩) hHeld ?_ ?_
    rotate_left
    · rintro w' ⟨s0, s1, s2⟩
      go_simp
      with_reducible rfl
    rotate_left
    · simp only [Act.put, List.setIfInBounds_toArray, List.set_cons_zero, List.set_cons_succ, i64_w, i32_w]
      rfl
    refine one_ (i := 3) (N := some 18) #[true, true, true, true, false, true, true, false, false, false, true, true, false, false] rfl rfl (by kernel_rfl) (by decide) (fun K hK => ?_)
    refine goes_ Tryd.func7 (by kernel_rfl) rfl #[.int .i64 kd] (by rfl) rfl rfl (by simp only [List.map_toArray, List.map_cons, List.map_nil]; rfl) ?_
    with_reducible refine (report_Word.calls kd wd _ h1.out).mono ?_
    rintro e w3 ⟨rfl, hb3⟩
    refine ⟨_, rfl, ?_⟩
    have HX3 := Aside0.mk (HX.out.step hb3)
    clear HX hb3
    refine hK.out _ _ ⟨(HX3.out).o 0 (.int .i64 kd) rfl, (HX3.out).1.cell (4 + k) (by omega), (HX3.out).1.frozen (4 + k)⟩ (fun hHeld => ?_)
    clear hK K
    refine norm_ (a' := ?_) ?_ ?_
    rotate_left
    · show Act.put _ (some 18) _ = _
      simp only [Act.put, List.setIfInBounds_toArray, List.set_cons_zero, List.set_cons_succ, i64_w, i32_w]
      rfl
    refine one_ (i := 4) (N := some 19) #[true, true, true, true, true, true, true, false, false, false, true, true, false, false] rfl rfl (by kernel_rfl) (by decide) (fun K hK => ?_)
    refine goes_ Tryd.func12 (by kernel_rfl) rfl #[.string wd] (by rfl) rfl rfl (by simp only [List.map_toArray, List.map_cons, List.map_nil]; rfl) ?_
    with_reducible refine (report_Kind.calls wd (k : Int) _ h2.out).mono ?_
    rintro e w4 ⟨rfl, hb4⟩
    refine ⟨_, rfl, ?_⟩
    have HX4 := Aside0.mk (HX3.out.step hb4)
    clear HX3 hb4
    refine hK.out _ _ ⟨(HX4.out).o 0 (.int .i64 kd) rfl, (HX4.out).1.cell (4 + k) (by omega), (HX4.out).1.frozen (4 + k)⟩ (fun hHeld => ?_)
    clear hK K
    refine norm_ (a' := ?_) ?_ ?_
    rotate_left
    · show Act.put _ (some 19) _ = _
      simp only [Act.put, List.setIfInBounds_toArray, List.set_cons_zero, List.set_cons_succ, i64_w, i32_w]
      rfl
    refine pure_ (i := 7) (N := some 22) (v := ?_) (a' := ?_) #[true, true, true, true, true, true, true, true, false, false, true, true, false, false] rfl rfl (by kernel_rfl) (fun _ _ _ h => h) (Or.inl ⟨by rfl, ?_⟩) ?_ ?_
    rotate_left
    · intro w'
      go_simp
      with_reducible rfl
    rotate_left
    · simp only [Act.put, List.setIfInBounds_toArray, List.set_cons_zero, List.set_cons_succ, i64_w, i32_w]
      rfl
    refine take_ (i := 8) (N := some 23) (v := ?_) (a' := ?_) #[true, true, true, true, true, true, true, true, true, false, true, true, false, false] rfl rfl (by kernel_rfl) (fun _ _ _ h => h) (Or.inl ⟨by rfl, ?_⟩) hHeld ?_ ?_
    rotate_left
    · rintro w' ⟨s0, s1, s2⟩
      go_simp
      with_reducible rfl
    rotate_left
    · simp only [Act.put, List.setIfInBounds_toArray, List.set_cons_zero, List.set_cons_succ, i64_w, i32_w]
      rfl
    refine pure_ (i := 9) (N := some 24) (v := ?_) (a' := ?_) #[true, true, true, true, true, true, true, true, true, true, true, true, false, false] rfl rfl (by kernel_rfl) (fun _ _ _ h => h) (Or.inl ⟨by rfl, ?_⟩) ?_ ?_
    rotate_left
    · intro w'
      go_simp
      with_reducible rfl
    rotate_left
    · simp only [Act.put, List.setIfInBounds_toArray, List.set_cons_zero, List.set_cons_succ, i64_w, i32_w]
      rfl
    refine pure_ (i := 12) (N := some 27) (v := ?_) (a' := ?_) #[true, true, true, true, true, true, true, true, true, true, true, true, true, false] rfl rfl (by kernel_rfl) (fun _ _ _ h => h) (Or.inl ⟨by rfl, ?_⟩) ?_ ?_
    rotate_left
    · intro w'
      go_simp
      with_reducible rfl
    rotate_left
    · simp only [Act.put, List.setIfInBounds_toArray, List.set_cons_zero, List.set_cons_succ, i64_w, i32_w]
      rfl
    refine last_ (i := 13) (N := none) #[true, true, true, true, true, true, true, true, true, true, true, true, true, true] rfl rfl (by kernel_rfl) (by decide) (fun K hK => ?_)
    refine skip_ (w1 := ?_) (by rfl) rfl ?_ ?_
    rotate_left
    · go_simp
      rfl
    refine hK.out _ _ ?_
    clear hK K
    refine done_ (by kernel_rfl) ?_
    go_wp2_with fail
    go_meet
    case rel => exact ⟨rfl, ⟨by rw [HX2.out]; exact HX4.out.set hg (4 + k) _⟩⟩
  case rest =>
    clear HX
    obtain ⟨rfl, HX⟩ := hcut
    have ca0 : wc.cell? ⟨ba, 0, none⟩ = some (.int .i64 e) := HX.out.a 0 _ rfl
    go_upto_if 35 with (first | (go_at_call 9; refine (report_Code.calls e cd _ h3.out).mono ?_; rintro e_ w3 ⟨rfl, hb3⟩; have HX3 := Aside0.mk (HX.out.step hb3); clear HX hb3; have HX := HX3; clear HX3) | (go_at_call 11; refine (report_Error.calls cd (ec : Int) ok _ h4.out).mono ?_; rintro e_ w4 ⟨rfl, hb4⟩; have HX4 := Aside0.mk (HX.out.step hb4); clear HX hb4; have HX := HX4; clear HX4))
    obtain ⟨xs3, hxs3⟩ : ∃ x, x = if ok = true then report_Sum.inc xs2 (23 + ec) else xs2 := ⟨_, rfl⟩
    have HX3_ := Aside0.mk hxs3
    clear hxs3
    go_cut [36] (fun v36 wc => Aside0 (report_Sum.Sx base g bo ba #[.int .i64 kd, .string nm, .slice A2 n2 c2, .int .i64 N, .slice A4 n4 c4, .int .i64 nn, .int .u8 fl] #[.int .i64 e, .slice B1 m1 d1, .int .i64 sz, .slice B3 m3 d3, .slice B4 m4 d4, .bool rf, .bool po] w xs3 wc))
    case first =>
      have hei : (0 : Int) ≤ (ec : Int) := Int.natCast_nonneg _
      have hei2 : (ec : Int) < 17 := by omega
      cases ok with
      | true =>
        go_wp2_with fail
        refine start_ (n := 11) (S := fun w' => w'.cell? ⟨g, 23 + ec, none⟩ = some (.int .i64 (report_Sum.at_ xs2 (23 + ec))) ∧ w'.frozen? ⟨g, 23 + ec, none⟩ = false) (ds := [10]) #[false, false, false, false, false, false, false, false, false, false, false] (by kernel_rfl) rfl rfl ⟨(HX.out.drew).1.cell (23 + ec) (by omega), (HX.out.drew).1.frozen (23 + ec)⟩ (fun hHeld => ?_)
        have HX1_ := Aside0.mk HX.out.drew
        clear HX
        generalize w4.drew = W4 at HX1_ hHeld ⊢
        have HX := HX1_
        clear HX1_
        refine pure_ (i := 0) (N := some 36) (v := ?_) (a' := ?_) #[true, false, false, false, false, false, false, false, false, false, false] rfl rfl (by kernel_rfl) (fun _ _ _ h => h) (Or.inl ⟨by rfl, ?_⟩) ?_ ?_
        rotate_left
        · intro w'
          go_simp
          with_reducible rfl
        rotate_left
        · simp only [Act.put, List.setIfInBounds_toArray, List.set_cons_zero, List.set_cons_succ, i64_w, i32_w]
          rfl
        refine pure_ (i := 1) (N := some 37) (v := ?_) (a' := ?_) #[true, true, false, false, false, false, false, false, false, false, false] rfl rfl (by kernel_rfl) (fun _ _ _ h => h) (Or.inl ⟨by rfl, ?_⟩) ?_ ?_
        rotate_left
        · intro w'
          go_simp
          with_reducible rfl
        rotate_left
        · simp only [Act.put, List.setIfInBounds_toArray, List.set_cons_zero, List.set_cons_succ, i64_w, i32_w]
          rfl
        refine pure_ (i := 2) (N := some 38) (v := ?_) (a' := ?_) #[true, true, true, false, false, false, false, false, false, false, false] rfl rfl (by kernel_rfl) (fun _ _ _ h => h) (Or.inl ⟨by rfl, ?_⟩) ?_ ?_
        rotate_left
        · intro w'
          go_simp
          with_reducible rfl
        rotate_left
        · simp only [Act.put, List.setIfInBounds_toArray, List.set_cons_zero, List.set_cons_succ, i64_w, i32_w]
          rfl
        refine pure_ (i := 3) (N := some 39) (v := ?_) (a' := ?_) #[true, true, true, true, false, false, false, false, false, false, false] rfl rfl (by kernel_rfl) (fun _ _ _ h => h) (Or.inl ⟨by rfl, ?_⟩) ?_ ?_
        rotate_left
        · intro w'
          go_simp
          with_reducible rfl
        rotate_left
        · simp only [Act.put, List.setIfInBounds_toArray, List.set_cons_zero, List.set_cons_succ, i64_w, i32_w]
          rfl
        refine pure_ (i := 4) (N := some 40) (v := ?_) (a' := ?_) #[true, true, true, true, true, false, false, false, false, false, false] rfl rfl (by kernel_rfl) (fun _ _ _ h => h) (Or.inl ⟨by rfl, ?_⟩) ?_ ?_
        rotate_left
        · intro w'
          go_simp
          with_reducible rfl
        rotate_left
        · simp only [Act.put, List.setIfInBounds_toArray, List.set_cons_zero, List.set_cons_succ, i64_w, i32_w]
          rfl
        refine pure_ (i := 7) (N := some 43) (v := ?_) (a' := ?_) #[true, true, true, true, true, false, false, true, false, false, false] rfl rfl (by kernel_rfl) (fun _ _ _ h => h) (Or.inl ⟨by rfl, ?_⟩) ?_ ?_
        rotate_left
        · intro w'
          go_simp
          with_reducible rfl
        rotate_left
        · simp only [Act.put, List.setIfInBounds_toArray, List.set_cons_zero, List.set_cons_succ, i64_w, i32_w]
          rfl
        refine pure_ (i := 8) (N := some 44) (v := ?_) (a' := ?_) #[true, true, true, true, true, false, false, true, true, false, false] rfl rfl (by kernel_rfl) (fun _ _ _ h => h) (Or.inl ⟨by rfl, ?_⟩) ?_ ?_
        rotate_left
        · intro w'
          go_simp
          with_reducible rfl
        rotate_left
        · simp only [Act.put, List.setIfInBounds_toArray, List.set_cons_zero, List.set_cons_succ, i64_w, i32_w]
          rfl
        refine take_ (i := 5) (N := some 41) (v := ?_) (a' := ?_) #[true, true, true, true, true, true, false, true, true, false, false] rfl rfl (by kernel_rfl) (fun _ _ _ h => h) (Or.inl ⟨by rfl, ?_⟩) hHeld ?_ ?_
        rotate_left
        · rintro w' ⟨s0, s1⟩
          go_simp
          with_reducible rfl
        rotate_left
        · simp only [Act.put, List.setIfInBounds_toArray, List.set_cons_zero, List.set_cons_succ, i64_w, i32_w]
          rfl
        refine pure_ (i := 6) (N := some 42) (v := ?_) (a' := ?_) #[true, true, true, true, true, true, true, true, true, false, false] rfl rfl (by kernel_rfl) (fun _ _ _ h => h) (Or.inl ⟨by rfl, ?_⟩) ?_ ?_
        rotate_left
        · intro w'
          go_simp
          with_reducible rfl
        rotate_left
        · simp only [Act.put, List.setIfInBounds_toArray, List.set_cons_zero, List.set_cons_succ, i64_w, i32_w]
          rfl
        refine pure_ (i := 9) (N := some 45) (v := ?_) (a' := ?_) #[true, true, true, true, true, true, true, true, true, true, false] rfl rfl (by kernel_rfl) (fun _ _ _ h => h) (Or.inl ⟨by rfl, ?_⟩) ?_ ?_
        rotate_left
        · intro w'
          go_simp
          with_reducible rfl
        rotate_left
        · simp only [Act.put, List.setIfInBounds_toArray, List.set_cons_zero, List.set_cons_succ, i64_w, i32_w]
          rfl
        refine last_ (i := 10) (N := none) #[true, true, true, true, true, true, true, true, true, true, true] rfl rfl (by kernel_rfl) (by decide) (fun K hK => ?_)
        refine skip_ (w1 := ?_) (by rfl) rfl ?_ ?_
        rotate_left
        · go_simp
          rfl
        refine hK.out _ _ ?_
        clear hK K
        refine done_ (by kernel_rfl) ?_
        go_wp2_with fail
        go_meet
        case rel => exact ⟨by rw [HX3_.out]; (first | rw [if_pos rfl] | rw [if_pos trivial]); exact HX.out.set hg (23 + ec) _⟩
      | false =>
        go_wp2_with fail
        go_meet
        case rel => exact ⟨by rw [HX3_.out, if_neg (by decide)]; exact HX.out⟩
    case rest =>
      clear HX ca0
      have HX := hcut
      clear hcut
      have ca5 : wc.cell? ⟨ba, 5, none⟩ = some (.bool rf) := HX.out.a 5 _ rfl
      have c1 := HX.out.1.cell 1 (by omega)
      have f1 := HX.out.1.frozen 1
      go_upto_if 47 with (fail)
      obtain ⟨xs4, hxs4⟩ : ∃ x, x = if rf = true then report_Sum.inc xs3 1 else xs3 := ⟨_, rfl⟩
      have HX4_ := Aside0.mk hxs4
      clear hxs4
      go_cut [48] (fun v48 wc => Aside0 (report_Sum.Sx base g bo ba #[.int .i64 kd, .string nm, .slice A2 n2 c2, .int .i64 N, .slice A4 n4 c4, .int .i64 nn, .int .u8 fl] #[.int .i64 e, .slice B1 m1 d1, .int .i64 sz, .slice B3 m3 d3, .slice B4 m4 d4, .bool rf, .bool po] w xs4 wc))
      case first =>
        cases rf with
        | true =>
          go_wp2_with fail
          go_meet
          case rel => exact ⟨by rw [HX4_.out]; (first | rw [if_pos rfl] | rw [if_pos trivial]); exact HX.out.set hg 1 _⟩
        | false =>
          go_wp2_with fail
          go_meet
          case rel => exact ⟨by rw [HX4_.out, if_neg (by decide)]; exact HX.out⟩
      case rest =>
        clear HX ca5 c1 f1
        have HX := hcut
        clear hcut
        have ca6 : wc.cell? ⟨ba, 6, none⟩ = some (.bool po) := HX.out.a 6 _ rfl
        have cc2 := HX.out.1.cell 2 (by omega)
        have ff2 := HX.out.1.frozen 2
        go_upto_if 56 with (fail)
        obtain ⟨xs5, hxs5⟩ : ∃ x, x = if po = true then report_Sum.inc xs4 2 else xs4 := ⟨_, rfl⟩
        have HX5_ := Aside0.mk hxs5
        clear hxs5
        go_cut [57] (fun v57 wc => Aside0 (report_Sum.Sx base g bo ba #[.int .i64 kd, .string nm, .slice A2 n2 c2, .int .i64 N, .slice A4 n4 c4, .int .i64 nn, .int .u8 fl] #[.int .i64 e, .slice B1 m1 d1, .int .i64 sz, .slice B3 m3 d3, .slice B4 m4 d4, .bool rf, .bool po] w xs5 wc))
        case first =>
          cases po with
          | true =>
            go_wp2_with fail
            go_meet
            case rel => exact ⟨by rw [HX5_.out]; (first | rw [if_pos rfl] | rw [if_pos trivial]); exact HX.out.set hg 2 _⟩
          | false =>
            go_wp2_with fail
            go_meet
            case rel => exact ⟨by rw [HX5_.out, if_neg (by decide)]; exact HX.out⟩
        case rest =>
          clear HX ca6 cc2 ff2
          have HX := hcut
          clear hcut
          go_wp2_with fail
          refine start_ (n := 12) (S := fun w' => w'.cell? ⟨g, 3, none⟩ = some (.int .i64 (report_Sum.at_ xs5 3)) ∧ w'.cell? ⟨ba, 1, none⟩ = some (.slice B1 m1 d1) ∧ w'.frozen? ⟨g, 3, none⟩ = false) (ds := [11]) #[false, false, false, false, false, false, false, false, false, false, false, false] (by kernel_rfl) rfl rfl ⟨(HX.out.drew).1.cell 3 (by omega), (HX.out.drew).a 1 (.slice B1 m1 d1) rfl, (HX.out.drew).1.frozen 3⟩ (fun hHeld => ?_)
          have HX1_ := Aside0.mk HX.out.drew
          clear HX
          generalize wc.drew = W6 at HX1_ hHeld ⊢
          have HX := HX1_
          clear HX1_
          refine pure_ (i := 0) (N := some 64) (v := ?_) (a' := ?_) #[true, false, false, false, false, false, false, false, false, false, false, false] rfl rfl (by kernel_rfl) (fun _ _ _ h => h) (Or.inl ⟨by rfl, ?_⟩) ?_ ?_
          rotate_left
          · intro w'
            go_simp
            with_reducible rfl
          rotate_left
          · simp only [Act.put, List.setIfInBounds_toArray, List.set_cons_zero, List.set_cons_succ, i64_w, i32_w]
            rfl
          refine pure_ (i := 1) (N := some 65) (v := ?_) (a' := ?_) #[true, true, false, false, false, false, false, false, false, false, false, false] rfl rfl (by kernel_rfl) (fun _ _ _ h => h) (Or.inl ⟨by rfl, ?_⟩) ?_ ?_
          rotate_left
          · intro w'
            go_simp
            with_reducible rfl
          rotate_left
          · simp only [Act.put, List.setIfInBounds_toArray, List.set_cons_zero, List.set_cons_succ, i64_w, i32_w]
            rfl
          refine pure_ (i := 2) (N := some 66) (v := ?_) (a' := ?_) #[true, true, true, false, false, false, false, false, false, false, false, false] rfl rfl (by kernel_rfl) (fun _ _ _ h => h) (Or.inl ⟨by rfl, ?_⟩) ?_ ?_
          rotate_left
          · intro w'
            go_simp
            with_reducible rfl
          rotate_left
          · simp only [Act.put, List.setIfInBounds_toArray, List.set_cons_zero, List.set_cons_succ, i64_w, i32_w]
            rfl
          refine pure_ (i := 3) (N := some 67) (v := ?_) (a' := ?_) #[true, true, true, true, false, false, false, false, false, false, false, false] rfl rfl (by kernel_rfl) (fun _ _ _ h => h) (Or.inl ⟨by rfl, ?_⟩) ?_ ?_
          rotate_left
          · intro w'
            go_simp
            with_reducible rfl
          rotate_left
          · simp only [Act.put, List.setIfInBounds_toArray, List.set_cons_zero, List.set_cons_succ, i64_w, i32_w]
            rfl
          refine pure_ (i := 5) (N := some 69) (v := ?_) (a' := ?_) #[true, true, true, true, false, true, false, false, false, false, false, false] rfl rfl (by kernel_rfl) (fun _ _ _ h => h) (Or.inl ⟨by rfl, ?_⟩) ?_ ?_
          rotate_left
          · intro w'
            go_simp
            with_reducible rfl
          rotate_left
          · simp only [Act.put, List.setIfInBounds_toArray, List.set_cons_zero, List.set_cons_succ, i64_w, i32_w]
            rfl
          refine take_ (i := 4) (N := some 68) (v := ?_) (a' := ?_) #[true, true, true, true, true, true, false, false, false, false, false, false] rfl rfl (by kernel_rfl) (fun _ _ _ h => h) (Or.inl ⟨by rfl, ?_⟩) hHeld ?_ ?_
          rotate_left
          · rintro w' ⟨s0, s1, s2⟩
            go_simp
            with_reducible rfl
          rotate_left
          · simp only [Act.put, List.setIfInBounds_toArray, List.set_cons_zero, List.set_cons_succ, i64_w, i32_w]
            rfl
          refine take_ (i := 6) (N := some 70) (v := ?_) (a' := ?_) #[true, true, true, true, true, true, true, false, false, false, false, false] rfl rfl (by kernel_rfl) (fun _ _ _ h => h) (Or.inl ⟨by rfl, ?_⟩) hHeld ?_ ?_
          rotate_left
          · rintro w' ⟨s0, s1, s2⟩
            go_simp
            with_reducible rfl
          rotate_left
          · simp only [Act.put, List.setIfInBounds_toArray, List.set_cons_zero, List.set_cons_succ, i64_w, i32_w]
            rfl
          refine pure_ (i := 7) (N := some 71) (v := ?_) (a' := ?_) #[true, true, true, true, true, true, true, true, false, false, false, false] rfl rfl (by kernel_rfl) (fun _ _ _ h => h) (Or.inl ⟨by rfl, ?_⟩) ?_ ?_
          rotate_left
          · intro w'
            go_simp
            with_reducible rfl
          rotate_left
          · simp only [Act.put, List.setIfInBounds_toArray, List.set_cons_zero, List.set_cons_succ, i64_w, i32_w]
            rfl
          refine pure_ (i := 8) (N := some 72) (v := ?_) (a' := ?_) #[true, true, true, true, true, true, true, true, true, false, false, false] rfl rfl (by kernel_rfl) (fun _ _ _ h => h) (Or.inl ⟨by rfl, ?_⟩) ?_ ?_
          rotate_left
          · intro w'
            go_simp
            with_reducible rfl
          rotate_left
          · simp only [Act.put, List.setIfInBounds_toArray, List.set_cons_zero, List.set_cons_succ, i64_w, i32_w]
            rfl
          refine pure_ (i := 9) (N := some 73) (v := ?_) (a' := ?_) #[true, true, true, true, true, true, true, true, true, true, false, false] rfl rfl (by kernel_rfl) (fun _ _ _ h => h) (Or.inl ⟨by rfl, ?_⟩) ?_ ?_
          rotate_left
          · intro w'
            go_simp
            with_reducible rfl
          rotate_left
          · simp only [Act.put, List.setIfInBounds_toArray, List.set_cons_zero, List.set_cons_succ, i64_w, i32_w]
            rfl
          refine pure_ (i := 10) (N := some 74) (v := ?_) (a' := ?_) #[true, true, true, true, true, true, true, true, true, true, true, false] rfl rfl (by kernel_rfl) (fun _ _ _ h => h) (Or.inl ⟨by rfl, ?_⟩) ?_ ?_
          rotate_left
          · intro w'
            go_simp
            with_reducible rfl
          rotate_left
          · simp only [Act.put, List.setIfInBounds_toArray, List.set_cons_zero, List.set_cons_succ, i64_w, i32_w]
            rfl
          refine last_ (i := 11) (N := none) #[true, true, true, true, true, true, true, true, true, true, true, true] rfl rfl (by kernel_rfl) (by decide) (fun K hK => ?_)
          refine skip_ (w1 := ?_) (by rfl) rfl ?_ ?_
          rotate_left
          · go_simp
            rfl
          refine hK.out _ _ ?_
          clear hK K
          refine done_ (by kernel_rfl) ?_
          go_wp2_with fail
          all_goals
            refine bodyPost_end (results_none rfl _ _ _) rfl ?_
            have hmx : report_Sum.addL xs k ec ok rf po m1 = xs5.set 3 (max (report_Sum.at_ xs5 3) (m1 : Int)) := by
              rw [HX5_.out, HX4_.out, HX3_.out, HX2.out, HX1.out]
              rfl
            rw [hmx]
            first
            | (have hm_ : max (report_Sum.at_ xs5 3) (m1 : Int) = report_Sum.at_ xs5 3 := by omega
               rw [hm_]
               have hfin := HX.out.set hg 3 (report_Sum.at_ xs5 3)
               exact ⟨rfl, hfin.1, hfin.2.2.2.1⟩)
            | (have hm_ : max (report_Sum.at_ xs5 3) (m1 : Int) = (m1 : Int) := by omega
               rw [hm_]
               have hfin := HX.out.set hg 3 (m1 : Int)
               exact ⟨rfl, hfin.1, hfin.2.2.2.1⟩)
/-- A Kind's number among the words. -/
def report_Sum.kN (kd : Int) : Nat := if 1 ≤ kd ∧ kd ≤ 18 then kd.toNat else 0
def report_Sum.eN (e : Int) : Nat := if 0 ≤ e ∧ e ≤ 16 then e.toNat else 0
def report_Sum.eB (e : Int) : Bool := decide (0 ≤ e ∧ e ≤ 16)
def report_Sum.stepL (xs : List Int) (o : S47) (a : S51) : List Int := report_Sum.addL xs (report_Sum.kN o.f0) (report_Sum.eN a.f0) (report_Sum.eB a.f0) a.f5 a.f6 a.f1.length
def report_Sum.zero : List Int := List.replicate 40 0
/-- The steps up to a place, counted. -/
def report_Sum.sumTo (l0 : List S47) (l1 : List S51) : Nat → List Int
  | 0 => report_Sum.zero
  | k + 1 => report_Sum.stepL (report_Sum.sumTo l0 l1 k) (rd_T47 l0 (k : Int)) (rd_T51 l1 (k : Int))
theorem report_Sum.words (kd : Int) : ∃ wd, report_Word.f kd = some wd ∧ report_Kind.f wd = some (report_Sum.kN kd : Int) := by
  refine ⟨_, rfl, ?_⟩
  unfold report_Sum.kN
  by_cases h : 1 ≤ kd ∧ kd ≤ 18
  · rw [if_pos h, if_pos h]
    obtain ⟨n, rfl⟩ := Int.eq_ofNat_of_zero_le (show 0 ≤ kd by omega)
    have hn : n < 19 := by omega
    rcases h with ⟨ha, hb⟩
    have : ∀ m : Fin 19, 1 ≤ m.val → report_Kind.f (report_kinds.words.getD m.val ByteArray.empty) = some ((m.val : Nat) : Int) := by decide +kernel
    exact this ⟨n, hn⟩ (by show 1 ≤ n; omega)
  · rw [if_neg h, if_neg h]
    decide +kernel
theorem report_Sum.codes (e : Int) : ∃ cd, report_Code.f e = some cd ∧ report_Error.f cd = some ((report_Sum.eN e : Int), report_Sum.eB e) := by
  refine ⟨_, rfl, ?_⟩
  unfold report_Sum.eN report_Sum.eB
  by_cases h : 0 ≤ e ∧ e ≤ 16
  · rw [if_pos h, if_pos h, decide_eq_true h]
    obtain ⟨n, rfl⟩ := Int.eq_ofNat_of_zero_le h.1
    have hn : n < 17 := by omega
    have : ∀ m : Fin 17, report_Error.f (report_codes.words.getD m.val ByteArray.empty) = some (((m.val : Nat) : Int), true) := by decide +kernel
    exact this ⟨n, hn⟩
  · rw [if_neg h, if_neg h, decide_eq_false h]
    decide +kernel
theorem report_Sum.res {P : Program} {fn : Func} {p u : Tmp} {ty : TypeId} (h : fn.results = #[.cell p ty, .tmp u]) (tmps : Array Value) (w : World) (g : Nat) (t : TypeId) (cs : Array Value) (fr : Nat × Nat) (d : TypeDesc)
    (hp : tmps.getD p undef = .pointer (some ⟨g, 0, none⟩)) (hg : w.heap[g]? = some (.cells cs t fr)) (hu : P.underlying ty = some d) (hd : (match d with | .struct _ | .array _ _ => true | _ => false) = true) (hi : (P.info? ty).map (·.size) = some cs.size) :
    (results fn tmps).run P w = .ok (.tuple #[.agg cs, tmps.getD u undef]) w := by
  rw [results_cell_tmp h, hp]
  simp [asAddr, run_loadVar_row w g t ty cs fr d hg hu hd hi, Result.andThen]
theorem report_Sum.zz (w : World) : (zeroValue 39).run Tryd.prog w = .ok (.agg (report_Sum.cs report_Sum.zero)) w := (zero_of_info (v := .agg (report_Sum.cs report_Sum.zero)) (n := 40) (by kernel_rfl)).1 w
set_option maxRecDepth 100000 in
set_option maxHeartbeats 4000000 in
theorem report_Sum.go (A0 : Option Addr) (c0 : Nat) (l0 : List S47) (A1 : Option Addr) (c1 : Nat) (l1 : List S51) (w : World) (hr0 : Kd.C k47 w A0 l0.length l0) (hr1 : Kd.C k51 w A1 l1.length l1) (hl : l0.length = l1.length) (hm : l0.length ≤ 1000000) :
    Calls Tryd.prog 16 #[.slice A0 l0.length c0, .slice A1 l1.length c1] w fun e w' => e = .returned (.tuple #[.agg (report_Sum.cs (report_Sum.sumTo l0 l1 l0.length)), .int .i64 0]) ∧ Below w.heap.size w w' := by
  have b1 : ((l0.length : Int) != (l1.length : Int)) = false := bne_eq_false_iff_eq.mpr (by omega)
  have HL := Aside0.mk hl
  have HR0 := Aside0.mk hr0
  have HR1 := Aside0.mk hr1
  have hzz := report_Sum.zz
  clear hl hr0 hr1
  generalize hZ : report_Sum.cs report_Sum.zero = Z at hzz
  have HZ := Aside0.mk hZ
  clear hZ
  go_enter Tryd.func16, Tryd.ntmps16
  go_wp2_with fail
  go_loopw [17] (fun v17 wr => ∃ k : Nat, k ≤ l0.length ∧ v17 = .int .i64 k ∧ Aside0 (report_Sum.St (w.heap.size + 1) (report_Sum.sumTo l0 l1 k) wr ∧ wr.heap[w.heap.size]? = some (.cells Z 39 (0, 0)) ∧ Below w.heap.size w wr)) (fun v17 _ => l0.length - (intOf v17).toNat)
  case atStart => exact ⟨0, Nat.zero_le _, rfl, ⟨⟨⟨rfl, by rw [show report_Sum.sumTo l0 l1 0 = report_Sum.zero from rfl, HZ.out, ← YtodifojhegbjaaaDoorMpHelp.size_new w (.cells Z 39)]; exact YtodifojhegbjaaaDoorMpHelp.heap_new _ _⟩, YtodifojhegbjaaaDoorMpHelp.heap_old _ _ (YtodifojhegbjaaaDoorMpHelp.heap_new _ _), below_alloc (below_alloc (Below.refl _ _) _) _⟩⟩⟩
  case round =>
    obtain ⟨k, hk, rfl, HS⟩ := hrel
    by_cases hlt : k < l0.length
    · have hk1 : (0 : Int) ≤ (k : Int) := Int.natCast_nonneg _
      have hk2 : (k : Int) < (l0.length : Int) := by omega
      have hk3 : (k : Int) < (l1.length : Int) := by have := HL.out; omega
      obtain ⟨ad0, A2, c2, A4, c4, e0, hx0, hx1, hx2, hx3, hx4, hx5, hx6, _⟩ := at_T47 HR0.out (k : Int) hk1 hk2
      obtain ⟨ad1, B1, d1, B3, d3, B4, d4, e1, hy0, hy1, hy2, hy3, hy4, hy5, hy6, _⟩ := at_T51 HR1.out (k : Int) hk1 hk3
      cases e0
      cases e1
      simp only [Int.toNat_natCast] at hx0 hx1 hx2 hx3 hx4 hx5 hx6 hy0 hy1 hy2 hy3 hy4 hy5 hy6
      obtain ⟨wd, h1_, h2_⟩ := report_Sum.words (rd_T47 l0 (k : Int)).f0
      obtain ⟨cd, h3_, h4_⟩ := report_Sum.codes (rd_T51 l1 (k : Int)).f0
      have h1 := Aside0.mk h1_
      have h2 := Aside0.mk h2_
      have h3 := Aside0.mk h3_
      have h4 := Aside0.mk h4_
      have hkN := Aside0.mk (show report_Sum.kN (rd_T47 l0 (k : Int)).f0 < 19 by unfold report_Sum.kN; split <;> omega)
      have heN := Aside0.mk (show report_Sum.eN (rd_T51 l1 (k : Int)).f0 < 17 by unfold report_Sum.eN; split <;> omega)
      clear h1_ h2_ h3_ h4_
      replace hx0 := (HS.out.2.2.cell (World.block_lt_of_cell? w _ hx0)).trans hx0
      replace hx1 := (HS.out.2.2.cell (World.block_lt_of_cell? w _ hx1)).trans hx1
      replace hx2 := (HS.out.2.2.cell (World.block_lt_of_cell? w _ hx2)).trans hx2
      replace hx3 := (HS.out.2.2.cell (World.block_lt_of_cell? w _ hx3)).trans hx3
      replace hx4 := (HS.out.2.2.cell (World.block_lt_of_cell? w _ hx4)).trans hx4
      replace hx5 := (HS.out.2.2.cell (World.block_lt_of_cell? w _ hx5)).trans hx5
      replace hx6 := (HS.out.2.2.cell (World.block_lt_of_cell? w _ hx6)).trans hx6
      have HZ2 := Aside0.mk (show w.heap.size + 1 ≤ wr.heap.size by have := blk_lt HS.out.1.2; omega)
      go_upto_region 7 with (first | ((with_reducible refine gate_dst (N := 8) rfl ?_); refine box_event ?hg (N := 8) ?hd (cs := #[.int .i64 0, .string (⟨#[]⟩ : ByteArray), .slice none 0 0, .int .i64 0, .slice none 0 0, .int .i64 0, .int .u8 0]) (t := 47) ?hr ?_; (case hd => rfl); (case hg => rfl); (case hr => first | (go_simp; done) | (go_simp; rfl)); intro g8 hg8 w5 hbox hb5; have HS5 := Aside0.mk (show report_Sum.St (w.heap.size + 1) (report_Sum.sumTo l0 l1 k) w5 ∧ w5.heap[w.heap.size]? = some (.cells Z 39 (0, 0)) ∧ w5.heap[g8]? = some (.cells #[.int .i64 0, .string (⟨#[]⟩ : ByteArray), .slice none 0 0, .int .i64 0, .slice none 0 0, .int .i64 0, .int .u8 0] 47 (0, 0)) ∧ Below w.heap.size w w5 from ⟨⟨HS.out.1.1, blk_below HS.out.1.2 hb5⟩, blk_below HS.out.2.1 hb5, hbox, HS.out.2.2.trans (hb5.mono HS.out.2.2.size)⟩); have HG8 := Aside0.mk (show w.heap.size + 1 < g8 from by rw [hg8]; exact blk_lt HS.out.1.2); have HZ5 := Aside0.mk (show w.heap.size + 1 ≤ w5.heap.size from Nat.le_trans HZ2.out hb5.size); clear HS HZ2 hbox hb5 hg8; have HZ2 := HZ5; clear HZ5) | (refine YtodifojhegbjaaaDoorMpHelp.wpList_store_blk (base := w.heap.size) (w0 := w) rfl rfl 47 (.tmp 8) (.tmp 21) rfl 47 g8 _ #[.int .i64 (rd_T47 l0 (k : Int)).f0, .string (rd_T47 l0 (k : Int)).f1, .slice A2 (rd_T47 l0 (k : Int)).f2.length c2, .int .i64 (rd_T47 l0 (k : Int)).f3, .slice A4 (rd_T47 l0 (k : Int)).f4.f0.length c4, .int .i64 (rd_T47 l0 (k : Int)).f4.f1, .int .u8 (rd_T47 l0 (k : Int)).f4.f2] HS5.out.2.2.1 rfl rfl (by kernel_rfl) rfl (by simp [Value.oneCell']) HS5.out.2.2.2 (by have := HG8.out; omega) ?_; intro w6 hbox6 hB6 hoth6; have HX := Aside0.mk (show report_Sum.St (w.heap.size + 1) (report_Sum.sumTo l0 l1 k) w6 ∧ w6.heap[w.heap.size]? = some (.cells Z 39 (0, 0)) ∧ w6.heap[g8]? = some (.cells #[.int .i64 (rd_T47 l0 (k : Int)).f0, .string (rd_T47 l0 (k : Int)).f1, .slice A2 (rd_T47 l0 (k : Int)).f2.length c2, .int .i64 (rd_T47 l0 (k : Int)).f3, .slice A4 (rd_T47 l0 (k : Int)).f4.f0.length c4, .int .i64 (rd_T47 l0 (k : Int)).f4.f1, .int .u8 (rd_T47 l0 (k : Int)).f4.f2] 47 (0, 0)) ∧ Below w.heap.size w w6 from ⟨⟨HS5.out.1.1, (hoth6 _ (by have := HG8.out; omega)).trans HS5.out.1.2⟩, (hoth6 _ (by have := HG8.out; omega)).trans HS5.out.2.1, hbox6, hB6⟩); have HZ6 := Aside0.mk (show w.heap.size + 1 ≤ w6.heap.size from Nat.le_of_lt (blk_lt HX.out.1.2)); clear HS5 HZ2 hbox6 hB6 hoth6; have HZ2 := HZ6; clear HZ6))
      refine start_ (n := 6) (S := fun w' => w'.cell? ⟨g8, 0, none⟩ = some (.int .i64 (rd_T47 l0 (k : Int)).f0) ∧ w'.cell? ⟨g8, 1, none⟩ = some (.string (rd_T47 l0 (k : Int)).f1) ∧ w'.cell? ⟨g8, 2, none⟩ = some (.slice A2 (rd_T47 l0 (k : Int)).f2.length c2) ∧ w'.cell? ⟨g8, 3, none⟩ = some (.int .i64 (rd_T47 l0 (k : Int)).f3) ∧ w'.cell? ⟨g8, 4, none⟩ = some (.slice A4 (rd_T47 l0 (k : Int)).f4.f0.length c4) ∧ w'.cell? ⟨g8, 5, none⟩ = some (.int .i64 (rd_T47 l0 (k : Int)).f4.f1) ∧ w'.cell? ⟨g8, 6, none⟩ = some (.int .u8 (rd_T47 l0 (k : Int)).f4.f2) ∧ w'.cell? (ad1.add (k * 7)) = some (.int .i64 (rd_T51 l1 (k : Int)).f0) ∧ w'.cell? ⟨(ad1.add (k * 7)).block, (ad1.add (k * 7)).off + 1, none⟩ = some (.slice B1 (rd_T51 l1 (k : Int)).f1.length d1) ∧ w'.cell? ⟨(ad1.add (k * 7)).block, (ad1.add (k * 7)).off + 2, none⟩ = some (.int .i64 (rd_T51 l1 (k : Int)).f2) ∧ w'.cell? ⟨(ad1.add (k * 7)).block, (ad1.add (k * 7)).off + 3, none⟩ = some (.slice B3 (rd_T51 l1 (k : Int)).f3.length d3) ∧ w'.cell? ⟨(ad1.add (k * 7)).block, (ad1.add (k * 7)).off + 4, none⟩ = some (.slice B4 (rd_T51 l1 (k : Int)).f4.length d4) ∧ w'.cell? ⟨(ad1.add (k * 7)).block, (ad1.add (k * 7)).off + 5, none⟩ = some (.bool (rd_T51 l1 (k : Int)).f5) ∧ w'.cell? ⟨(ad1.add (k * 7)).block, (ad1.add (k * 7)).off + 6, none⟩ = some (.bool (rd_T51 l1 (k : Int)).f6)) (ds := [5]) #[false, false, false, false, false, false] (by kernel_rfl) rfl rfl ⟨(blk_cell HX.out.2.2.1 0).trans rfl, (blk_cell HX.out.2.2.1 1).trans rfl, (blk_cell HX.out.2.2.1 2).trans rfl, (blk_cell HX.out.2.2.1 3).trans rfl, (blk_cell HX.out.2.2.1 4).trans rfl, (blk_cell HX.out.2.2.1 5).trans rfl, (blk_cell HX.out.2.2.1 6).trans rfl, (HX.out.2.2.2.cell (World.block_lt_of_cell? w _ hy0)).trans hy0, (HX.out.2.2.2.cell (World.block_lt_of_cell? w _ hy1)).trans hy1, (HX.out.2.2.2.cell (World.block_lt_of_cell? w _ hy2)).trans hy2, (HX.out.2.2.2.cell (World.block_lt_of_cell? w _ hy3)).trans hy3, (HX.out.2.2.2.cell (World.block_lt_of_cell? w _ hy4)).trans hy4, (HX.out.2.2.2.cell (World.block_lt_of_cell? w _ hy5)).trans hy5, (HX.out.2.2.2.cell (World.block_lt_of_cell? w _ hy6)).trans hy6⟩ (fun hHeld => ?_)
      have HX_ := Aside0.mk (show report_Sum.St (w.heap.size + 1) (report_Sum.sumTo l0 l1 k) w6.drew ∧ w6.drew.heap[w.heap.size]? = some (.cells Z 39 (0, 0)) ∧ w6.drew.heap[g8]? = some (.cells #[.int .i64 (rd_T47 l0 (k : Int)).f0, .string (rd_T47 l0 (k : Int)).f1, .slice A2 (rd_T47 l0 (k : Int)).f2.length c2, .int .i64 (rd_T47 l0 (k : Int)).f3, .slice A4 (rd_T47 l0 (k : Int)).f4.f0.length c4, .int .i64 (rd_T47 l0 (k : Int)).f4.f1, .int .u8 (rd_T47 l0 (k : Int)).f4.f2] 47 (0, 0)) ∧ Below w.heap.size w w6.drew from ⟨⟨HX.out.1.1, HX.out.1.2⟩, HX.out.2.1, HX.out.2.2.1, below_drew HX.out.2.2.2⟩)
      have HZ2_ := Aside0.mk (show w.heap.size + 1 ≤ w6.drew.heap.size from HZ2.out)
      clear HX HZ2
      generalize w6.drew = w7_ at HX_ HZ2_ hHeld ⊢
      have HX := HX_
      have HZ2 := HZ2_
      clear HX_ HZ2_
      refine pure_ (i := 1) (N := some 23) (v := ?_) (a' := ?_) #[false, true, false, false, false, false] rfl rfl (by kernel_rfl) (fun _ _ _ h => h) (Or.inl ⟨by rfl, ?_⟩) ?_ ?_
      rotate_left
      · intro w'
        go_simp
        with_reducible rfl
      rotate_left
      · simp only [Act.put, List.setIfInBounds_toArray, List.set_cons_zero, List.set_cons_succ, i64_w, i32_w]
        rfl
      refine pure_ (i := 2) (N := some 24) (v := ?_) (a' := ?_) #[false, true, true, false, false, false] rfl rfl (by kernel_rfl) (fun _ _ _ h => h) (Or.inl ⟨by rfl, ?_⟩) ?_ ?_
      rotate_left
      · intro w'
        go_simp
        with_reducible rfl
      rotate_left
      · simp only [Act.put, List.setIfInBounds_toArray, List.set_cons_zero, List.set_cons_succ, i64_w, i32_w]
        rfl
      refine pure_ (i := 3) (N := some 25) (v := ?_) (a' := ?_) #[false, true, true, true, false, false] rfl rfl (by kernel_rfl) (fun _ _ _ h => h) (Or.inl ⟨by rfl, ?_⟩) ?_ ?_
      rotate_left
      · intro w'
        go_simp
        with_reducible rfl
      rotate_left
      · simp only [Act.put, List.setIfInBounds_toArray, List.set_cons_zero, List.set_cons_succ, i64_w, i32_w]
        rfl
      refine take_ (i := 0) (N := some 22) (v := ?_) (a' := ?_) #[true, true, true, true, false, false] rfl rfl (by kernel_rfl) (fun _ _ _ h => h) (Or.inl ⟨by rfl, ?_⟩) hHeld ?_ ?_
      rotate_left
      · rintro w' ⟨s0, s1, s2, s3, s4, s5, s6, s7, s8, s9, s10, s11, s12, s13⟩
        go_simp
        with_reducible rfl
      rotate_left
      · simp only [Act.put, List.setIfInBounds_toArray, List.set_cons_zero, List.set_cons_succ, i64_w, i32_w]
        rfl
      refine take_ (i := 4) (N := some 26) (v := ?_) (a' := ?_) #[true, true, true, true, true, false] rfl rfl (by kernel_rfl) (fun _ _ _ h => h) (Or.inl ⟨by rfl, ?_⟩) hHeld ?_ ?_
      rotate_left
      · rintro w' ⟨s0, s1, s2, s3, s4, s5, s6, s7, s8, s9, s10, s11, s12, s13⟩
        go_simp
        with_reducible rfl
      rotate_left
      · simp only [Act.put, List.setIfInBounds_toArray, List.set_cons_zero, List.set_cons_succ, i64_w, i32_w]
        rfl
      refine last_ (i := 5) (N := some 27) #[true, true, true, true, true, true] rfl rfl (by kernel_rfl) (by decide) (fun K hK => ?_)
      refine goes_ Tryd.func23 (by kernel_rfl) rfl #[.pointer (some ⟨w.heap.size + 1, 0, none⟩), .agg #[.int .i64 (rd_T47 l0 (k : Int)).f0, .string (rd_T47 l0 (k : Int)).f1, .slice A2 (rd_T47 l0 (k : Int)).f2.length c2, .int .i64 (rd_T47 l0 (k : Int)).f3, .slice A4 (rd_T47 l0 (k : Int)).f4.f0.length c4, .int .i64 (rd_T47 l0 (k : Int)).f4.f1, .int .u8 (rd_T47 l0 (k : Int)).f4.f2], .agg #[.int .i64 (rd_T51 l1 (k : Int)).f0, .slice B1 (rd_T51 l1 (k : Int)).f1.length d1, .int .i64 (rd_T51 l1 (k : Int)).f2, .slice B3 (rd_T51 l1 (k : Int)).f3.length d3, .slice B4 (rd_T51 l1 (k : Int)).f4.length d4, .bool (rd_T51 l1 (k : Int)).f5, .bool (rd_T51 l1 (k : Int)).f6]] (by rfl) rfl rfl (by simp only [List.map_toArray, List.map_cons, List.map_nil]; rfl) ?_
      with_reducible refine (report_Sum.add (g := w.heap.size + 1) (base := w.heap.size + 1) (xs := report_Sum.sumTo l0 l1 k) (hs := HX.out.1) (hg := Nat.le_refl _) (hb := HZ2.out) (wd := wd) (cd := cd) (h1_ := h1.out) (h2_ := h2.out) (h3_ := h3.out) (h4_ := h4.out) (hk := hkN.out) (he := heN.out) ..).mono ?_
      rintro e w7 ⟨rfl, hS7, hb7⟩
      refine ⟨_, rfl, ?_⟩
      have HX7 := Aside0.mk (show report_Sum.St (w.heap.size + 1) (report_Sum.sumTo l0 l1 (k + 1)) w7 ∧ w7.heap[w.heap.size]? = some (.cells Z 39 (0, 0)) ∧ Below w.heap.size w w7 from ⟨hS7, (hb7.block _ (by omega)).trans HX.out.2.1, HX.out.2.2.2.trans (hb7.mono (by omega))⟩)
      refine hK.out _ _ ?_
      clear hK K
      refine norm_ (a' := ?_) ?_ ?_
      rotate_left
      · show Act.put _ (some 27) _ = _
        simp only [Act.put, List.setIfInBounds_toArray, List.set_cons_zero, List.set_cons_succ, i64_w, i32_w]
        rfl
      refine done_ (by kernel_rfl) ?_
      go_wp2_with fail
      go_roundw
      case rel => exact ⟨k + 1, by omega, by go_num, HX7⟩
      case measure => simp [intOf]; omega
    · have hk3 : k = l0.length := by omega
      subst hk3
      have hcz : (report_Sum.cs (report_Sum.sumTo l0 l1 l0.length)).size = 40 := by unfold report_Sum.cs; simp [HS.out.1.1]
      have hone : ∀ q ∈ (report_Sum.cs (report_Sum.sumTo l0 l1 l0.length)).toList, q.oneCell' = true := fun q hq => by
        unfold report_Sum.cs at hq
        simp only [List.mem_map] at hq
        obtain ⟨x, _, rfl⟩ := hq
        rfl
      have hSV := HS.out.1.2
      have hS4 := HS.out.2.1
      have hSB := HS.out.2.2
      have hsi : (Tryd.prog.info? 39).map (·.size) = some 40 := by kernel_rfl
      rw [← hcz] at hsi
      have hZs : Z.size = (report_Sum.cs (report_Sum.sumTo l0 l1 l0.length)).size := by rw [hcz, ← HZ.out]; rfl
      clear hcz HS
      generalize hV : report_Sum.cs (report_Sum.sumTo l0 l1 l0.length) = V at hsi hone hZs hSV
      have HV := Aside0.mk hV
      have HS1 := Aside0.mk hSV
      have HS2 := Aside0.mk hS4
      have HS3 := Aside0.mk hSB
      have HSI := Aside0.mk hsi
      have HZS := Aside0.mk hZs
      have HONE := Aside0.mk hone
      clear hV hSV hS4 hSB hsi hZs hone
      go_wp2_with (first | (refine wpList_load_row rfl 39 (.tmp 6) rfl (w.heap.size + 1) rfl 39 V (0, 0) _ HS1.out Tryd.underlying39 rfl HSI.out ?_) | (refine YtodifojhegbjaaaDoorMpHelp.wpList_store_blk (base := w.heap.size) (w0 := w) rfl rfl 39 (.tmp 4) (.tmp 29) rfl 39 w.heap.size _ V HS2.out rfl rfl HSI.out HZS.out HONE.out HS3.out (Nat.le_refl _) ?_; intro w9 hbox9 hB9 hoth9; have HB9 := Aside0.mk hbox9; have HC9 := Aside0.mk hB9; clear hbox9 hB9 hoth9))
      refine bodyPost_ret (v := .tuple #[.agg V, .int .i64 0]) ?_ rfl ⟨by rw [HV.out], HC9.out⟩
      exact report_Sum.res (p := 4) (u := 5) rfl _ _ w.heap.size _ V (0, 0) _ rfl HB9.out Tryd.underlying39 rfl HSI.out
def report_Sum.f (l0 : List S47) (l1 : List S51) : Option (Value × Int) := if l0.length = l1.length then (if l0.length ≤ 1000000 then some (.agg (report_Sum.cs (report_Sum.sumTo l0 l1 l0.length)), 0) else none) else some (.agg (report_Sum.cs report_Sum.zero), 1)
set_option maxRecDepth 100000 in
set_option maxHeartbeats 4000000 in
theorem report_Sum.calls (A0 : Option Addr) (c0 : Nat) (l0 : List S47) (A1 : Option Addr) (c1 : Nat) (l1 : List S51) (r1 : Value) (r2 : Int) (w : World) (hr0 : Kd.C k47 w A0 l0.length l0) (hc0 : l0.length ≤ c0) (hr1 : Kd.C k51 w A1 l1.length l1) (hc1 : l1.length ≤ c1) (h : report_Sum.f l0 l1 = some (r1, r2)) :
    Calls Tryd.prog 16 #[.slice A0 l0.length c0, .slice A1 l1.length c1] w fun e w' => e = .returned (.tuple #[r1, .int .i64 r2]) ∧ Below w.heap.size w w' := by
  unfold report_Sum.f at h
  by_cases hl : l0.length = l1.length
  · rw [if_pos hl] at h
    by_cases hm : l0.length ≤ 1000000
    · rw [if_pos hm] at h
      obtain ⟨rfl, rfl⟩ := Prod.mk.inj (Option.some.inj h)
      exact report_Sum.go A0 c0 l0 A1 c1 l1 w hr0 hr1 hl hm
    · rw [if_neg hm] at h
      cases h
  · rw [if_neg hl] at h
    obtain ⟨rfl, rfl⟩ := Prod.mk.inj (Option.some.inj h)
    have b0 : ((l0.length : Int) == (l1.length : Int)) = false := beq_eq_false_iff_ne.mpr (by omega)
    have b1 : ((l0.length : Int) != (l1.length : Int)) = true := bne_iff_ne.mpr (by omega)
    clear hr0 hr1 h
    have hzz := report_Sum.zz
    have hcz : (report_Sum.cs report_Sum.zero).size = 40 := rfl
    have hone : ∀ q ∈ (report_Sum.cs report_Sum.zero).toList, q.oneCell' = true := fun q hq => by
      unfold report_Sum.cs at hq
      simp only [List.mem_map] at hq
      obtain ⟨x, _, rfl⟩ := hq
      rfl
    have hsi : (Tryd.prog.info? 39).map (·.size) = some 40 := by kernel_rfl
    rw [← hcz] at hsi
    clear hcz
    generalize hZ : report_Sum.cs report_Sum.zero = Z at hzz hone hsi ⊢
    clear hZ
    have HSI := Aside0.mk hsi
    have HONE := Aside0.mk hone
    clear hsi hone
    go_enter Tryd.func16, Tryd.ntmps16
    go_wp2_with (refine YtodifojhegbjaaaDoorMpHelp.wpList_store_blk (base := w.heap.size) (w0 := w) rfl rfl 39 (.tmp 4) (.tmp 14) rfl 39 w.heap.size Z Z (YtodifojhegbjaaaDoorMpHelp.heap_new _ _) rfl rfl HSI.out rfl HONE.out (below_alloc (Below.refl _ _) _) (Nat.le_refl _) ?_; intro w9 hbox9 hB9 hoth9; have HB9 := Aside0.mk hbox9; have HC9 := Aside0.mk hB9; clear hbox9 hB9 hoth9)
    refine bodyPost_ret (v := .tuple #[.agg Z, .int .i64 1]) ?_ rfl ⟨rfl, HC9.out⟩
    exact report_Sum.res (p := 4) (u := 5) rfl _ _ w.heap.size _ Z (0, 0) _ rfl HB9.out Tryd.underlying39 rfl HSI.out


end Go.Proofs.YtodifojhegbjaaaDoor.PReportCounts
