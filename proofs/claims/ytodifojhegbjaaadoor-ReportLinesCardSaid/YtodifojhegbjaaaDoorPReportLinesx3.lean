/- The machine side of a law: for each Go function that it uses a Lean function with the same answers, and the proof that the Go code comes to them; or the row of the law over these. Written by a program of this session. -/
import Derived.Test.YtodifojhegbjaaaDoorPReportLinesx0
namespace Go.Proofs.YtodifojhegbjaaaDoor.PReportLines
open Go.RowKit Go.Proofs.YtodifojhegbjaaaDoorW.PrintWords Go.Proofs.YtodifojhegbjaaaDoorW.PrintLast Go.Proofs.YtodifojhegbjaaaDoorW.PrintMore
attribute [local go_sem] max2_int min2_int max_two min_two max_three min_three max_four min_four   -- for this text's walks alone
set_option linter.unusedVariables false
set_option linter.unusedSimpArgs false

/-! ### bindlelaw33_parts: function 15 -/
def bindlelaw33_parts.l0 : Nat → List (S66) → List (S47) → List (S51) → Int → Option ((List (S47)) × (List (S51)))
 | 0, _, _, _, _ => none
 | k + 1, x0, x4, x5, x6 => if x6 < (x0.length : Int) then (if 0 ≤ x6 then (if x4.length < 1466015503701 then (if x5.length < 1466015503701 then (bindlelaw33_parts.l0 k x0 (x4 ++ [(⟨(rd_T66 x0 x6).f0.f0, (rd_T66 x0 x6).f0.f1, (rd_T66 x0 x6).f0.f2, (rd_T66 x0 x6).f0.f3, (⟨(rd_T66 x0 x6).f0.f4.f0, (rd_T66 x0 x6).f0.f4.f1, (rd_T66 x0 x6).f0.f4.f2⟩ : S45)⟩ : S47)]) (x5 ++ [(⟨(rd_T66 x0 x6).f1.f0, (rd_T66 x0 x6).f1.f1, (rd_T66 x0 x6).f1.f2, (rd_T66 x0 x6).f1.f3, (rd_T66 x0 x6).f1.f4, (rd_T66 x0 x6).f1.f5, (rd_T66 x0 x6).f1.f6⟩ : S51)]) (wrap64 (x6 + 1))) else (none)) else (none)) else (none)) else (some (x4, x5))
def bindlelaw33_parts.f (k : Nat) (l0 : List (S66)) : Option ((List (S47)) × (List (S51))) := bindlelaw33_parts.l0 k l0 ([] : List (S47)) ([] : List (S51)) 0
theorem bindlelaw33_parts.mono_l : ∀ k, (∀ y0 y1 y2 y3, LeO (bindlelaw33_parts.l0 k y0 y1 y2 y3) (bindlelaw33_parts.l0 (k + 1) y0 y1 y2 y3))
 | 0 => fun _ _ _ _ r h => by simp [bindlelaw33_parts.l0] at h
 | k + 1 => by
  have ih0 := bindlelaw33_parts.mono_l k
  ·intro y0 y1 y2 y3
   unfold bindlelaw33_parts.l0
   repeat' first
   | (with_reducible exact ih0 _ _ _ _)
   | (with_reducible exact LeO.refl _)
   | (with_reducible exact LeO.none _)
   | (with_reducible refine LeO.ite ?_ ?_)
   | (with_reducible refine LeO.bind ?_ (fun _ => ?_))
   | exact ih0 _ _ _ _
   | exact LeO.none _
   | refine LeO.ite ?_ ?_
   | refine LeO.bind ?_ (fun _ => ?_)
theorem bindlelaw33_parts.mono : ∀ a0 k, LeO (bindlelaw33_parts.f k a0) (bindlelaw33_parts.f (k + 1) a0) := by
 intro a0 k
 have ih0 := bindlelaw33_parts.mono_l k
 unfold bindlelaw33_parts.f
 repeat' first
   | (with_reducible exact ih0 _ _ _ _)
   | (with_reducible exact LeO.refl _)
   | (with_reducible exact LeO.none _)
   | (with_reducible refine LeO.ite ?_ ?_)
   | (with_reducible refine LeO.bind ?_ (fun _ => ?_))
   | exact ih0 _ _ _ _
   | exact LeO.none _
   | refine LeO.ite ?_ ?_
   | refine LeO.bind ?_ (fun _ => ?_)
set_option maxHeartbeats 8000000 in
set_option maxRecDepth 100000 in
theorem bindlelaw33_parts.calls (k : Nat) (P0_ : Nat → Prop) (A0 : Option Addr) (c0 : Nat) (l0 : List (S66)) (r1 : List (S47)) (r2 : List (S51)) (w : World) (hs0 : Kd.V k66 66 w w.heap.size (fun k_ => P0_ k_) (.slice A0 l0.length c0) l0) (h : bindlelaw33_parts.f k l0 = some (r1, r2)) :
  Calls Tryd.prog 15 #[.slice A0 l0.length c0] w fun e w' => ∃ v0_ v1_ : Value, e = .returned (.tuple #[v0_, v1_]) ∧ Kd.N k47 47 w' w.heap.size (fun k_ => (P0_ k_ ∨ w.heap.size ≤ k_) ∧ some k_ ≠ (v1_ : Value).ownBlock) v0_ r1 ∧ Kd.N k51 51 w' w.heap.size (fun k_ => (P0_ k_ ∨ w.heap.size ≤ k_) ∧ some k_ ≠ (v0_ : Value).ownBlock) v1_ r2 ∧ Below w.heap.size w w' := by
 have hu47 := Tryd.underlying47
 have hu51 := Tryd.underlying51
 have HO0 := Aside0.mk (show Kd.V k66 66 w w.heap.size (fun k_ => (P0_ k_ ∨ w.heap.size ≤ k_)) (.slice A0 l0.length c0) l0 from Kd.V_mono hs0 (fun k_ hk => .inl hk))
 have HB := Aside0.mk (Below.refl w.heap.size w)
 have H : (bindlelaw33_parts.l0 k l0 ([] : List (S47)) ([] : List (S51)) 0) = some (r1, r2) := h
 clear h
 have H' := Aside0.mk H
 clear H
 go_enter Tryd.func15, Tryd.ntmps15
 go_wp2
 go_loopg [4, 5, 6] k (fun kq v4 v5 v6 w' => ∃ (x4_1 : List (S47)) (x5_1 : List (S51)) (x6_1 : Int), v6 = .int .i64 x6_1 ∧ Aside0 (bindlelaw33_parts.l0 kq l0 x4_1 x5_1 x6_1 = some (r1, r2)) ∧ Aside0 (kq ≤ k) ∧ Aside0 (Kd.V k66 66 w' w.heap.size (fun k_ => (P0_ k_ ∨ w.heap.size ≤ k_) ∧ some k_ ≠ (v4 : Value).ownBlock ∧ some k_ ≠ (v5 : Value).ownBlock) (.slice A0 l0.length c0) l0) ∧ Aside0 (Kd.N k47 47 w' w.heap.size (fun k_ => (P0_ k_ ∨ w.heap.size ≤ k_) ∧ some k_ ≠ (v5 : Value).ownBlock) v4 x4_1) ∧ Aside0 (Kd.N k51 51 w' w.heap.size (fun k_ => (P0_ k_ ∨ w.heap.size ≤ k_) ∧ some k_ ≠ (v4 : Value).ownBlock) v5 x5_1) ∧ Aside0 (Below w.heap.size w w'))
 case atStart => exact ⟨(([] : List (S47))), (([] : List (S51))), (0), (by first | rfl | (simp only [YtodifojhegbjaaaDoorMpHelp.leq_not, YtodifojhegbjaaaDoorMpHelp.gtr_less]; done) | (simp; done) | (simp [*]; done)), H', ⟨Nat.le_refl _⟩, ⟨by (with_reducible repeat (first | apply Kd.V_alloc | apply Kd.V_drewN | apply Kd.V_drew)); exact Kd.V_mono HO0.out (fun _ hk => ⟨hk, ⟨(by simp [Value.ownBlock]), (by simp [Value.ownBlock])⟩⟩)⟩, ⟨by first | exact Kd.S_nil _ _ _ _ _ | exact Kd.N_nil _ _ _ _ _ | exact Kd.V_nil _ _ _ _ _ | exact Kd.Q_nil _ _ _ _ _ | exact Kd.R_nil _ _ _ _ _⟩, ⟨by first | exact Kd.R_nil _ _ _ _ _ | exact Kd.N_nil _ _ _ _ _ | exact Kd.V_nil _ _ _ _ _ | exact Kd.Q_nil _ _ _ _ _ | exact Kd.S_nil _ _ _ _ _⟩, ⟨by repeat (first | (with_reducible first | exact HB.out | apply below_alloc | apply pw_below_drewN | apply below_drew1) | exact HB.out)⟩⟩
 case round =>
  clear H'
  try clear c1
  obtain ⟨x4_1, x5_1, x6_1, rfl, HA, HK1, HO_0, HO_4, HO_5, HB⟩ := hrel
  cases gk with
  | zero => exact absurd HA.out (by simp [bindlelaw33_parts.l0])
  | succ k1 =>
   have H := HA.out
   clear HA
   simp only [bindlelaw33_parts.l0] at H
   by_cases c2 : x6_1 < (l0.length : Int)
   ·rw [if_pos c2] at H
    have c2b0 : decide (x6_1 < (l0.length : Int)) = true := decide_eq_true c2
    clear c2
    by_cases c3 : 0 ≤ x6_1
    ·rw [if_pos c3] at H
     have c3b0 : decide (0 ≤ x6_1) = true := decide_eq_true c3
     clear c3
     by_cases c4 : x4_1.length < 1466015503701
     ·rw [if_pos c4] at H
      have LMc4 := Aside0.mk c4
      clear c4
      obtain ⟨y116, hy116⟩ : ∃ y_ : List (S47), y_ = (x4_1 ++ [(⟨(rd_T66 l0 x6_1).f0.f0, (rd_T66 l0 x6_1).f0.f1, (rd_T66 l0 x6_1).f0.f2, (rd_T66 l0 x6_1).f0.f3, (⟨(rd_T66 l0 x6_1).f0.f4.f0, (rd_T66 l0 x6_1).f0.f4.f1, (rd_T66 l0 x6_1).f0.f4.f2⟩ : S45)⟩ : S47)]) := ⟨_, rfl⟩
      replace H : (if x5_1.length < 1466015503701 then (bindlelaw33_parts.l0 k1 l0 y116 (x5_1 ++ [(⟨(rd_T66 l0 x6_1).f1.f0, (rd_T66 l0 x6_1).f1.f1, (rd_T66 l0 x6_1).f1.f2, (rd_T66 l0 x6_1).f1.f3, (rd_T66 l0 x6_1).f1.f4, (rd_T66 l0 x6_1).f1.f5, (rd_T66 l0 x6_1).f1.f6⟩ : S51)]) (wrap64 (x6_1 + 1))) else (none)) = some (r1, r2) := by first | (rw [hy116]; with_reducible exact H) | (have H2_ := (Option.bind_some _ _).symm.trans H; rw [hy116]; with_reducible exact H2_) | (have H2_ := (Option.bind_some _ _).symm.trans H; with_reducible exact H2_) | with_reducible exact H | (rw [hy116]; exact H) | exact H
      have Ny116 := Aside0.mk hy116
      clear hy116
      by_cases c5 : x5_1.length < 1466015503701
      ·rw [if_pos c5] at H
       have LMc5 := Aside0.mk c5
       clear c5
       obtain ⟨y120, hy120⟩ : ∃ y_ : List (S51), y_ = (x5_1 ++ [(⟨(rd_T66 l0 x6_1).f1.f0, (rd_T66 l0 x6_1).f1.f1, (rd_T66 l0 x6_1).f1.f2, (rd_T66 l0 x6_1).f1.f3, (rd_T66 l0 x6_1).f1.f4, (rd_T66 l0 x6_1).f1.f5, (rd_T66 l0 x6_1).f1.f6⟩ : S51)]) := ⟨_, rfl⟩
       replace H : (bindlelaw33_parts.l0 k1 l0 y116 y120 (wrap64 (x6_1 + 1))) = some (r1, r2) := by first | (rw [hy120]; with_reducible exact H) | (have H2_ := (Option.bind_some _ _).symm.trans H; rw [hy120]; with_reducible exact H2_) | (have H2_ := (Option.bind_some _ _).symm.trans H; with_reducible exact H2_) | with_reducible exact H | (rw [hy120]; exact H) | exact H
       have Ny120 := Aside0.mk hy120
       clear hy120
       have H' := Aside0.mk H
       clear H
       have p115 : 0 ≤ (x6_1 : Int) := of_decide_eq_true (by first | (with_reducible assumption) | assumption)
       have q115 : x6_1 < (l0.length : Int) := of_decide_eq_true (by first | (with_reducible assumption) | assumption)
       obtain ⟨ad115, A115_2, c115_2, A115_4, c115_4, A115_8, c115_8, A115_10, c115_10, A115_11, c115_11, e115, hx115_0, hx115_1, hx115_2, hx115_3, hx115_4, hx115_5, hx115_6, hx115_7, hx115_8, hx115_9, hx115_10, hx115_11, hx115_12, hx115_13, hl115_2, hi115_2, hl115_4, hi115_4, hl115_8, hi115_8, hl115_10, hi115_10, hl115_11, hi115_11⟩ := at_T66 (Kd.V_reads' HO_0.out).2.2 x6_1 p115 q115
       cases e115
       obtain ⟨ce115, hce115, hMe115, hcc115⟩ := Kd.V_get HO_0.out z66 x6_1 p115 (by first | exact q115 | exact of_decide_eq_true (by first | (with_reducible assumption) | assumption) | (have e_ := (Kd.V_reads' HO_0.out).1; omega))
       obtain ⟨ua115_2, uc115_2, ua115_4, uc115_4, ua115_8, uc115_8, ua115_10, uc115_10, ua115_11, uc115_11, rfl, ul115_2, ge115_2, ul115_4, ge115_4, ul115_8, ge115_8, ul115_10, ge115_10, ul115_11, ge115_11⟩ := k66_openF hMe115
       have hv115_2 := hcc115 2 _ rfl
       rw [add_field _ _ 2 (by omega)] at hv115_2
       replace hv115_2 := Option.some.inj (hv115_2.symm.trans hx115_2)
       injection hv115_2 with hva_ hvn_ hvc_
       rw [hva_] at ge115_2
       rw [hvc_] at ul115_2
       have HL115_2 := Aside0.mk (show Kd.V (Kd.int .u8) 5 _ w.heap.size _ _ ((rd_T66 l0 x6_1).f0.f2) from Kd.V_mk ul115_2 ge115_2)
       clear hva_ hvn_ hvc_ ge115_2 ul115_2
       have hv115_4 := hcc115 4 _ rfl
       rw [add_field _ _ 4 (by omega)] at hv115_4
       replace hv115_4 := Option.some.inj (hv115_4.symm.trans hx115_4)
       injection hv115_4 with hva_ hvn_ hvc_
       rw [hva_] at ge115_4
       rw [hvc_] at ul115_4
       have HL115_4 := Aside0.mk (show Kd.V Kd.bool 4 _ w.heap.size _ _ ((rd_T66 l0 x6_1).f0.f4.f0) from Kd.V_mk ul115_4 ge115_4)
       clear hva_ hvn_ hvc_ ge115_4 ul115_4
       have hv115_8 := hcc115 8 _ rfl
       rw [add_field _ _ 8 (by omega)] at hv115_8
       replace hv115_8 := Option.some.inj (hv115_8.symm.trans hx115_8)
       injection hv115_8 with hva_ hvn_ hvc_
       rw [hva_] at ge115_8
       rw [hvc_] at ul115_8
       have HL115_8 := Aside0.mk (show Kd.V (Kd.int .u8) 5 _ w.heap.size _ _ ((rd_T66 l0 x6_1).f1.f1) from Kd.V_mk ul115_8 ge115_8)
       clear hva_ hvn_ hvc_ ge115_8 ul115_8
       have hv115_10 := hcc115 10 _ rfl
       rw [add_field _ _ 10 (by omega)] at hv115_10
       replace hv115_10 := Option.some.inj (hv115_10.symm.trans hx115_10)
       injection hv115_10 with hva_ hvn_ hvc_
       rw [hva_] at ge115_10
       rw [hvc_] at ul115_10
       have HL115_10 := Aside0.mk (show Kd.V Kd.string 9 _ w.heap.size _ _ ((rd_T66 l0 x6_1).f1.f3) from Kd.V_mk ul115_10 ge115_10)
       clear hva_ hvn_ hvc_ ge115_10 ul115_10
       have hv115_11 := hcc115 11 _ rfl
       rw [add_field _ _ 11 (by omega)] at hv115_11
       replace hv115_11 := Option.some.inj (hv115_11.symm.trans hx115_11)
       injection hv115_11 with hva_ hvn_ hvc_
       rw [hva_] at ge115_11
       rw [hvc_] at ul115_11
       have HL115_11 := Aside0.mk (show Kd.V k122 122 _ w.heap.size _ _ ((rd_T66 l0 x6_1).f1.f4) from Kd.V_mk ul115_11 ge115_11)
       clear hva_ hvn_ hvc_ ge115_11 ul115_11
       clear hcc115 hce115
       have HR115_2 := Aside0.mk hi115_2
       have HC115_2 := Aside0.mk hl115_2
       clear hi115_2 hl115_2
       have HR115_4 := Aside0.mk hi115_4
       have HC115_4 := Aside0.mk hl115_4
       clear hi115_4 hl115_4
       have HR115_8 := Aside0.mk hi115_8
       have HC115_8 := Aside0.mk hl115_8
       clear hi115_8 hl115_8
       have HR115_10 := Aside0.mk hi115_10
       have HC115_10 := Aside0.mk hl115_10
       clear hi115_10 hl115_10
       have HR115_11 := Aside0.mk hi115_11
       have HC115_11 := Aside0.mk hl115_11
       clear hi115_11 hl115_11
       replace p115 := eq_true p115
       replace q115 := eq_true q115
       go_wp2_with (first | ((with_reducible refine gate_builtin (b := .append) (xs := #[.tmp 13, .tmp 19]) rfl ?_); at_builtin; refine Kd.N_append k47 (w0 := w) w.heap.size rfl (.tmp 13) (.tmp 19) 32 47 (.agg #[(.int .i64 0), (.string ⟨#[]⟩), (.slice none 0 0), (.int .i64 0), (.slice none 0 0), (.int .i64 0), (.int .u8 0)]) 96 rfl Tryd.underlying32 info47 rfl (by decide) (by omega) u4 x4_1 (⟨(rd_T66 l0 x6_1).f0.f0, (rd_T66 l0 x6_1).f0.f1, (rd_T66 l0 x6_1).f0.f2, (rd_T66 l0 x6_1).f0.f3, (⟨(rd_T66 l0 x6_1).f0.f4.f0, (rd_T66 l0 x6_1).f0.f4.f1, (rd_T66 l0 x6_1).f0.f4.f2⟩ : S45)⟩ : S47) [.int .i64 ((rd_T66 l0 x6_1).f0.f0), .string ((rd_T66 l0 x6_1).f0.f1), .slice A115_2 ((rd_T66 l0 x6_1).f0.f2).length c115_2, .int .i64 ((rd_T66 l0 x6_1).f0.f3), .slice A115_4 ((rd_T66 l0 x6_1).f0.f4.f0).length c115_4, .int .i64 ((rd_T66 l0 x6_1).f0.f4.f1), .int .u8 ((rd_T66 l0 x6_1).f0.f4.f2)] (fun k_ => (P0_ k_ ∨ w.heap.size ≤ k_) ∧ some k_ ≠ (u5 : Value).ownBlock) (fun k_ => ((fun k_ => (P0_ k_ ∨ w.heap.size ≤ k_) ∧ some k_ ≠ (u5 : Value).ownBlock)) k_ ∧ some k_ ≠ (u4 : Value).ownBlock) rfl rfl ?aP (fun _ hk => hk) ?aF ?aO ?aB ?aS ?aL ?_; (case aP => first | exact (k47_mkF _ _ (⟨(rd_T66 l0 x6_1).f0.f0, (rd_T66 l0 x6_1).f0.f1, (rd_T66 l0 x6_1).f0.f2, (rd_T66 l0 x6_1).f0.f3, (⟨(rd_T66 l0 x6_1).f0.f4.f0, (rd_T66 l0 x6_1).f0.f4.f1, (rd_T66 l0 x6_1).f0.f4.f2⟩ : S45)⟩ : S47) (Kd.V_reads' (Kd.V_mono (ok' := (fun k_ => ((fun k_ => (P0_ k_ ∨ w.heap.size ≤ k_) ∧ some k_ ≠ (u5 : Value).ownBlock)) k_ ∧ some k_ ≠ (u4 : Value).ownBlock)) (HL115_2.out) (fun k_ hk => ⟨⟨hk.1, hk.2.2⟩, hk.2.1⟩))).2.1 (Kd.V_F (Kd.V_mono (ok' := (fun k_ => ((fun k_ => (P0_ k_ ∨ w.heap.size ≤ k_) ∧ some k_ ≠ (u5 : Value).ownBlock)) k_ ∧ some k_ ≠ (u4 : Value).ownBlock)) (HL115_2.out) (fun k_ hk => ⟨⟨hk.1, hk.2.2⟩, hk.2.1⟩))) (Kd.V_reads' (Kd.V_mono (ok' := (fun k_ => ((fun k_ => (P0_ k_ ∨ w.heap.size ≤ k_) ∧ some k_ ≠ (u5 : Value).ownBlock)) k_ ∧ some k_ ≠ (u4 : Value).ownBlock)) (HL115_4.out) (fun k_ hk => ⟨⟨hk.1, hk.2.2⟩, hk.2.1⟩))).2.1 (Kd.V_F (Kd.V_mono (ok' := (fun k_ => ((fun k_ => (P0_ k_ ∨ w.heap.size ≤ k_) ∧ some k_ ≠ (u5 : Value).ownBlock)) k_ ∧ some k_ ≠ (u4 : Value).ownBlock)) (HL115_4.out) (fun k_ hk => ⟨⟨hk.1, hk.2.2⟩, hk.2.1⟩)))) | exact (k47_mkF _ _ (⟨(rd_T66 l0 x6_1).f0.f0, (rd_T66 l0 x6_1).f0.f1, (rd_T66 l0 x6_1).f0.f2, (rd_T66 l0 x6_1).f0.f3, (⟨(rd_T66 l0 x6_1).f0.f4.f0, (rd_T66 l0 x6_1).f0.f4.f1, (rd_T66 l0 x6_1).f0.f4.f2⟩ : S45)⟩ : S47) (Kd.V_reads' (Kd.V_mono (ok' := (fun k_ => ((fun k_ => (P0_ k_ ∨ w.heap.size ≤ k_) ∧ some k_ ≠ (u5 : Value).ownBlock)) k_ ∧ some k_ ≠ (u4 : Value).ownBlock)) (HL115_2.out) (fun k_ hk => ⟨⟨hk.1, hk.2.2⟩, hk.2.1⟩))).2.1 (Kd.V_F (Kd.V_mono (ok' := (fun k_ => ((fun k_ => (P0_ k_ ∨ w.heap.size ≤ k_) ∧ some k_ ≠ (u5 : Value).ownBlock)) k_ ∧ some k_ ≠ (u4 : Value).ownBlock)) ((Kd.V_drewN (HL115_2.out) _)) (fun k_ hk => ⟨⟨hk.1, hk.2.2⟩, hk.2.1⟩))) (Kd.V_reads' (Kd.V_mono (ok' := (fun k_ => ((fun k_ => (P0_ k_ ∨ w.heap.size ≤ k_) ∧ some k_ ≠ (u5 : Value).ownBlock)) k_ ∧ some k_ ≠ (u4 : Value).ownBlock)) (HL115_4.out) (fun k_ hk => ⟨⟨hk.1, hk.2.2⟩, hk.2.1⟩))).2.1 (Kd.V_F (Kd.V_mono (ok' := (fun k_ => ((fun k_ => (P0_ k_ ∨ w.heap.size ≤ k_) ∧ some k_ ≠ (u5 : Value).ownBlock)) k_ ∧ some k_ ≠ (u4 : Value).ownBlock)) ((Kd.V_drewN (HL115_4.out) _)) (fun k_ hk => ⟨⟨hk.1, hk.2.2⟩, hk.2.1⟩)))) | exact (k47_mkF _ _ (⟨(rd_T66 l0 x6_1).f0.f0, (rd_T66 l0 x6_1).f0.f1, (rd_T66 l0 x6_1).f0.f2, (rd_T66 l0 x6_1).f0.f3, (⟨(rd_T66 l0 x6_1).f0.f4.f0, (rd_T66 l0 x6_1).f0.f4.f1, (rd_T66 l0 x6_1).f0.f4.f2⟩ : S45)⟩ : S47) (Kd.V_reads' (Kd.V_mono (ok' := (fun k_ => ((fun k_ => (P0_ k_ ∨ w.heap.size ≤ k_) ∧ some k_ ≠ (u5 : Value).ownBlock)) k_ ∧ some k_ ≠ (u4 : Value).ownBlock)) (HL115_2.out) (fun k_ hk => ⟨⟨hk.1, hk.2.2⟩, hk.2.1⟩))).2.1 (Kd.V_F (Kd.V_mono (ok' := (fun k_ => ((fun k_ => (P0_ k_ ∨ w.heap.size ≤ k_) ∧ some k_ ≠ (u5 : Value).ownBlock)) k_ ∧ some k_ ≠ (u4 : Value).ownBlock)) ((Kd.V_drewN (Kd.V_drewN (HL115_2.out) _) _)) (fun k_ hk => ⟨⟨hk.1, hk.2.2⟩, hk.2.1⟩))) (Kd.V_reads' (Kd.V_mono (ok' := (fun k_ => ((fun k_ => (P0_ k_ ∨ w.heap.size ≤ k_) ∧ some k_ ≠ (u5 : Value).ownBlock)) k_ ∧ some k_ ≠ (u4 : Value).ownBlock)) (HL115_4.out) (fun k_ hk => ⟨⟨hk.1, hk.2.2⟩, hk.2.1⟩))).2.1 (Kd.V_F (Kd.V_mono (ok' := (fun k_ => ((fun k_ => (P0_ k_ ∨ w.heap.size ≤ k_) ∧ some k_ ≠ (u5 : Value).ownBlock)) k_ ∧ some k_ ≠ (u4 : Value).ownBlock)) ((Kd.V_drewN (Kd.V_drewN (HL115_4.out) _) _)) (fun k_ hk => ⟨⟨hk.1, hk.2.2⟩, hk.2.1⟩)))) | exact (k47_mkF _ _ (⟨(rd_T66 l0 x6_1).f0.f0, (rd_T66 l0 x6_1).f0.f1, (rd_T66 l0 x6_1).f0.f2, (rd_T66 l0 x6_1).f0.f3, (⟨(rd_T66 l0 x6_1).f0.f4.f0, (rd_T66 l0 x6_1).f0.f4.f1, (rd_T66 l0 x6_1).f0.f4.f2⟩ : S45)⟩ : S47) (Kd.V_reads' (Kd.V_mono (ok' := (fun k_ => ((fun k_ => (P0_ k_ ∨ w.heap.size ≤ k_) ∧ some k_ ≠ (u5 : Value).ownBlock)) k_ ∧ some k_ ≠ (u4 : Value).ownBlock)) (HL115_2.out) (fun k_ hk => ⟨⟨hk.1, hk.2.2⟩, hk.2.1⟩))).2.1 (Kd.V_F (Kd.V_mono (ok' := (fun k_ => ((fun k_ => (P0_ k_ ∨ w.heap.size ≤ k_) ∧ some k_ ≠ (u5 : Value).ownBlock)) k_ ∧ some k_ ≠ (u4 : Value).ownBlock)) ((Kd.V_drewN (Kd.V_drewN (Kd.V_drewN (HL115_2.out) _) _) _)) (fun k_ hk => ⟨⟨hk.1, hk.2.2⟩, hk.2.1⟩))) (Kd.V_reads' (Kd.V_mono (ok' := (fun k_ => ((fun k_ => (P0_ k_ ∨ w.heap.size ≤ k_) ∧ some k_ ≠ (u5 : Value).ownBlock)) k_ ∧ some k_ ≠ (u4 : Value).ownBlock)) (HL115_4.out) (fun k_ hk => ⟨⟨hk.1, hk.2.2⟩, hk.2.1⟩))).2.1 (Kd.V_F (Kd.V_mono (ok' := (fun k_ => ((fun k_ => (P0_ k_ ∨ w.heap.size ≤ k_) ∧ some k_ ≠ (u5 : Value).ownBlock)) k_ ∧ some k_ ≠ (u4 : Value).ownBlock)) ((Kd.V_drewN (Kd.V_drewN (Kd.V_drewN (HL115_4.out) _) _) _)) (fun k_ hk => ⟨⟨hk.1, hk.2.2⟩, hk.2.1⟩))))); (case aB => exact (by repeat (first | (with_reducible first | exact HB.out | apply below_alloc | apply pw_below_drewN | apply below_drew1) | exact HB.out))); (case aF => exact (fun k_ hk => ⟨(.inr (Nat.le_trans (below_size (by repeat (first | (with_reducible first | exact HB.out | apply below_alloc | apply pw_below_drewN | apply below_drew1) | exact HB.out))) hk)), Kd.fresh' (Kd.N_lt (by (with_reducible repeat (first | apply Kd.N_alloc | apply Kd.N_drewN | apply Kd.N_drew)); exact HO_5.out)) k_ hk⟩)); (case aO => exact (by (with_reducible repeat (first | apply Kd.N_alloc | apply Kd.N_drewN | apply Kd.N_drew)); exact HO_4.out)); (case aS => exact (below_size (by repeat (first | (with_reducible first | exact HB.out | apply below_alloc | apply pw_below_drewN | apply below_drew1) | exact HB.out)))); (case aL => have := LMc4.out; omega); intro v117 w6 ho hb hg hat; rw [← Ny116.out] at ho; have n0_ := Aside0.mk (Kd.V_afterv (ok := (fun k_ => (P0_ k_ ∨ w.heap.size ≤ k_) ∧ some k_ ≠ (u5 : Value).ownBlock)) (by (with_reducible repeat (first | apply Kd.V_alloc | apply Kd.V_drewN | apply Kd.V_drew)); exact Kd.V_mono HO_0.out (fun _ hk => ⟨⟨hk.1, hk.2.2⟩, hk.2.1⟩)) hg hat); have n1_ := Aside0.mk (Kd.N_afterv (ok := (fun k_ => (P0_ k_ ∨ w.heap.size ≤ k_))) (by (with_reducible repeat (first | apply Kd.N_alloc | apply Kd.N_drewN | apply Kd.N_drew)); exact HO_5.out) hg hat); have n2_ := Aside0.mk (Kd.V_afterv (ok := (fun k_ => (P0_ k_ ∨ w.heap.size ≤ k_) ∧ some k_ ≠ (u5 : Value).ownBlock)) (by (with_reducible repeat (first | apply Kd.V_alloc | apply Kd.V_drewN | apply Kd.V_drew)); exact Kd.V_mono HL115_2.out (fun _ hk => ⟨⟨hk.1, hk.2.2⟩, hk.2.1⟩)) hg hat); have n3_ := Aside0.mk (Kd.V_afterv (ok := (fun k_ => (P0_ k_ ∨ w.heap.size ≤ k_) ∧ some k_ ≠ (u5 : Value).ownBlock)) (by (with_reducible repeat (first | apply Kd.V_alloc | apply Kd.V_drewN | apply Kd.V_drew)); exact Kd.V_mono HL115_4.out (fun _ hk => ⟨⟨hk.1, hk.2.2⟩, hk.2.1⟩)) hg hat); have n4_ := Aside0.mk (Kd.V_afterv (ok := (fun k_ => (P0_ k_ ∨ w.heap.size ≤ k_) ∧ some k_ ≠ (u5 : Value).ownBlock)) (by (with_reducible repeat (first | apply Kd.V_alloc | apply Kd.V_drewN | apply Kd.V_drew)); exact Kd.V_mono HL115_8.out (fun _ hk => ⟨⟨hk.1, hk.2.2⟩, hk.2.1⟩)) hg hat); have n5_ := Aside0.mk (Kd.V_afterv (ok := (fun k_ => (P0_ k_ ∨ w.heap.size ≤ k_) ∧ some k_ ≠ (u5 : Value).ownBlock)) (by (with_reducible repeat (first | apply Kd.V_alloc | apply Kd.V_drewN | apply Kd.V_drew)); exact Kd.V_mono HL115_10.out (fun _ hk => ⟨⟨hk.1, hk.2.2⟩, hk.2.1⟩)) hg hat); have n6_ := Aside0.mk (Kd.V_afterv (ok := (fun k_ => (P0_ k_ ∨ w.heap.size ≤ k_) ∧ some k_ ≠ (u5 : Value).ownBlock)) (by (with_reducible repeat (first | apply Kd.V_alloc | apply Kd.V_drewN | apply Kd.V_drew)); exact Kd.V_mono HL115_11.out (fun _ hk => ⟨⟨hk.1, hk.2.2⟩, hk.2.1⟩)) hg hat); have n7_ := Aside0.mk (hb); have n8_ := Aside0.mk (ho); clear HO_0; clear HO_5; clear HL115_2; clear HL115_4; clear HL115_8; clear HL115_10; clear HL115_11; clear HB; clear HO_4; have HO_0 := n0_; have HO_5 := n1_; have HL115_2 := n2_; have HL115_4 := n3_; have HL115_8 := n4_; have HL115_10 := n5_; have HL115_11 := n6_; have HB := n7_; have HO118 := n8_; clear n0_ n1_ n2_ n3_ n4_ n5_ n6_ n7_ n8_; clear ho hb hg hat; have p119 : 0 ≤ (x6_1 : Int) := of_decide_eq_true (by first | (with_reducible assumption) | assumption); have q119 : x6_1 < (l0.length : Int) := of_decide_eq_true (by first | (with_reducible assumption) | assumption); obtain ⟨ad119, A119_2, c119_2, A119_4, c119_4, A119_8, c119_8, A119_10, c119_10, A119_11, c119_11, e119, hx119_0, hx119_1, hx119_2, hx119_3, hx119_4, hx119_5, hx119_6, hx119_7, hx119_8, hx119_9, hx119_10, hx119_11, hx119_12, hx119_13, hl119_2, hi119_2, hl119_4, hi119_4, hl119_8, hi119_8, hl119_10, hi119_10, hl119_11, hi119_11⟩ := at_T66 (Kd.V_reads' HO_0.out).2.2 x6_1 p119 q119; obtain rfl : ad115 = ad119 := (by injection e119); obtain ⟨ce119, hce119, hMe119, hcc119⟩ := Kd.V_get HO_0.out z66 x6_1 p119 (by first | exact q119 | exact of_decide_eq_true (by first | (with_reducible assumption) | assumption) | (have e_ := (Kd.V_reads' HO_0.out).1; omega)); obtain ⟨ua119_2, uc119_2, ua119_4, uc119_4, ua119_8, uc119_8, ua119_10, uc119_10, ua119_11, uc119_11, rfl, ul119_2, ge119_2, ul119_4, ge119_4, ul119_8, ge119_8, ul119_10, ge119_10, ul119_11, ge119_11⟩ := k66_openF hMe119; have hv119_2 := hcc119 2 _ rfl; rw [add_field _ _ 2 (by omega)] at hv119_2; replace hv119_2 := Option.some.inj (hv119_2.symm.trans hx119_2); injection hv119_2 with hva_ hvn_ hvc_; rw [hva_] at ge119_2; rw [hvc_] at ul119_2; have HL119_2 := Aside0.mk (show Kd.V (Kd.int .u8) 5 _ w.heap.size _ _ ((rd_T66 l0 x6_1).f0.f2) from Kd.V_mk ul119_2 ge119_2); clear hva_ hvn_ hvc_ ge119_2 ul119_2; have hv119_4 := hcc119 4 _ rfl; rw [add_field _ _ 4 (by omega)] at hv119_4; replace hv119_4 := Option.some.inj (hv119_4.symm.trans hx119_4); injection hv119_4 with hva_ hvn_ hvc_; rw [hva_] at ge119_4; rw [hvc_] at ul119_4; have HL119_4 := Aside0.mk (show Kd.V Kd.bool 4 _ w.heap.size _ _ ((rd_T66 l0 x6_1).f0.f4.f0) from Kd.V_mk ul119_4 ge119_4); clear hva_ hvn_ hvc_ ge119_4 ul119_4; have hv119_8 := hcc119 8 _ rfl; rw [add_field _ _ 8 (by omega)] at hv119_8; replace hv119_8 := Option.some.inj (hv119_8.symm.trans hx119_8); injection hv119_8 with hva_ hvn_ hvc_; rw [hva_] at ge119_8; rw [hvc_] at ul119_8; have HL119_8 := Aside0.mk (show Kd.V (Kd.int .u8) 5 _ w.heap.size _ _ ((rd_T66 l0 x6_1).f1.f1) from Kd.V_mk ul119_8 ge119_8); clear hva_ hvn_ hvc_ ge119_8 ul119_8; have hv119_10 := hcc119 10 _ rfl; rw [add_field _ _ 10 (by omega)] at hv119_10; replace hv119_10 := Option.some.inj (hv119_10.symm.trans hx119_10); injection hv119_10 with hva_ hvn_ hvc_; rw [hva_] at ge119_10; rw [hvc_] at ul119_10; have HL119_10 := Aside0.mk (show Kd.V Kd.string 9 _ w.heap.size _ _ ((rd_T66 l0 x6_1).f1.f3) from Kd.V_mk ul119_10 ge119_10); clear hva_ hvn_ hvc_ ge119_10 ul119_10; have hv119_11 := hcc119 11 _ rfl; rw [add_field _ _ 11 (by omega)] at hv119_11; replace hv119_11 := Option.some.inj (hv119_11.symm.trans hx119_11); injection hv119_11 with hva_ hvn_ hvc_; rw [hva_] at ge119_11; rw [hvc_] at ul119_11; have HL119_11 := Aside0.mk (show Kd.V k122 122 _ w.heap.size _ _ ((rd_T66 l0 x6_1).f1.f4) from Kd.V_mk ul119_11 ge119_11); clear hva_ hvn_ hvc_ ge119_11 ul119_11; clear hcc119 hce119; have HR119_2 := Aside0.mk hi119_2; have HC119_2 := Aside0.mk hl119_2; clear hi119_2 hl119_2; have HR119_4 := Aside0.mk hi119_4; have HC119_4 := Aside0.mk hl119_4; clear hi119_4 hl119_4; have HR119_8 := Aside0.mk hi119_8; have HC119_8 := Aside0.mk hl119_8; clear hi119_8 hl119_8; have HR119_10 := Aside0.mk hi119_10; have HC119_10 := Aside0.mk hl119_10; clear hi119_10 hl119_10; have HR119_11 := Aside0.mk hi119_11; have HC119_11 := Aside0.mk hl119_11; clear hi119_11 hl119_11; replace p119 := eq_true p119; replace q119 := eq_true q119) | ((with_reducible refine gate_builtin (b := .append) (xs := #[.tmp 21, .tmp 27]) rfl ?_); at_builtin; refine Kd.N_append k51 (w0 := w) w.heap.size rfl (.tmp 21) (.tmp 27) 33 51 (.agg #[(.int .i64 0), (.slice none 0 0), (.int .i64 0), (.slice none 0 0), (.slice none 0 0), (.bool false), (.bool false)]) 96 rfl Tryd.underlying33 info51 rfl (by decide) (by omega) u5 x5_1 (⟨(rd_T66 l0 x6_1).f1.f0, (rd_T66 l0 x6_1).f1.f1, (rd_T66 l0 x6_1).f1.f2, (rd_T66 l0 x6_1).f1.f3, (rd_T66 l0 x6_1).f1.f4, (rd_T66 l0 x6_1).f1.f5, (rd_T66 l0 x6_1).f1.f6⟩ : S51) [.int .i64 ((rd_T66 l0 x6_1).f1.f0), .slice A119_8 ((rd_T66 l0 x6_1).f1.f1).length c119_8, .int .i64 ((rd_T66 l0 x6_1).f1.f2), .slice A119_10 ((rd_T66 l0 x6_1).f1.f3).length c119_10, .slice A119_11 ((rd_T66 l0 x6_1).f1.f4).length c119_11, .bool ((rd_T66 l0 x6_1).f1.f5), .bool ((rd_T66 l0 x6_1).f1.f6)] (fun k_ => (P0_ k_ ∨ w.heap.size ≤ k_) ∧ some k_ ≠ (v117 : Value).ownBlock) (fun k_ => ((fun k_ => (P0_ k_ ∨ w.heap.size ≤ k_) ∧ some k_ ≠ (v117 : Value).ownBlock)) k_ ∧ some k_ ≠ (u5 : Value).ownBlock) rfl rfl ?aP (fun _ hk => hk) ?aF ?aO ?aB ?aS ?aL ?_; (case aP => first | exact (k51_mkF _ _ (⟨(rd_T66 l0 x6_1).f1.f0, (rd_T66 l0 x6_1).f1.f1, (rd_T66 l0 x6_1).f1.f2, (rd_T66 l0 x6_1).f1.f3, (rd_T66 l0 x6_1).f1.f4, (rd_T66 l0 x6_1).f1.f5, (rd_T66 l0 x6_1).f1.f6⟩ : S51) (Kd.V_reads' (Kd.V_mono (ok' := (fun k_ => ((fun k_ => (P0_ k_ ∨ w.heap.size ≤ k_) ∧ some k_ ≠ (v117 : Value).ownBlock)) k_ ∧ some k_ ≠ (u5 : Value).ownBlock)) (HL119_8.out) (fun k_ hk => ⟨⟨hk.1.1, hk.2⟩, hk.1.2⟩))).2.1 (Kd.V_F (Kd.V_mono (ok' := (fun k_ => ((fun k_ => (P0_ k_ ∨ w.heap.size ≤ k_) ∧ some k_ ≠ (v117 : Value).ownBlock)) k_ ∧ some k_ ≠ (u5 : Value).ownBlock)) (HL119_8.out) (fun k_ hk => ⟨⟨hk.1.1, hk.2⟩, hk.1.2⟩))) (Kd.V_reads' (Kd.V_mono (ok' := (fun k_ => ((fun k_ => (P0_ k_ ∨ w.heap.size ≤ k_) ∧ some k_ ≠ (v117 : Value).ownBlock)) k_ ∧ some k_ ≠ (u5 : Value).ownBlock)) (HL119_10.out) (fun k_ hk => ⟨⟨hk.1.1, hk.2⟩, hk.1.2⟩))).2.1 (Kd.V_F (Kd.V_mono (ok' := (fun k_ => ((fun k_ => (P0_ k_ ∨ w.heap.size ≤ k_) ∧ some k_ ≠ (v117 : Value).ownBlock)) k_ ∧ some k_ ≠ (u5 : Value).ownBlock)) (HL119_10.out) (fun k_ hk => ⟨⟨hk.1.1, hk.2⟩, hk.1.2⟩))) (Kd.V_reads' (Kd.V_mono (ok' := (fun k_ => ((fun k_ => (P0_ k_ ∨ w.heap.size ≤ k_) ∧ some k_ ≠ (v117 : Value).ownBlock)) k_ ∧ some k_ ≠ (u5 : Value).ownBlock)) (HL119_11.out) (fun k_ hk => ⟨⟨hk.1.1, hk.2⟩, hk.1.2⟩))).2.1 (Kd.V_F (Kd.V_mono (ok' := (fun k_ => ((fun k_ => (P0_ k_ ∨ w.heap.size ≤ k_) ∧ some k_ ≠ (v117 : Value).ownBlock)) k_ ∧ some k_ ≠ (u5 : Value).ownBlock)) (HL119_11.out) (fun k_ hk => ⟨⟨hk.1.1, hk.2⟩, hk.1.2⟩)))) | exact (k51_mkF _ _ (⟨(rd_T66 l0 x6_1).f1.f0, (rd_T66 l0 x6_1).f1.f1, (rd_T66 l0 x6_1).f1.f2, (rd_T66 l0 x6_1).f1.f3, (rd_T66 l0 x6_1).f1.f4, (rd_T66 l0 x6_1).f1.f5, (rd_T66 l0 x6_1).f1.f6⟩ : S51) (Kd.V_reads' (Kd.V_mono (ok' := (fun k_ => ((fun k_ => (P0_ k_ ∨ w.heap.size ≤ k_) ∧ some k_ ≠ (v117 : Value).ownBlock)) k_ ∧ some k_ ≠ (u5 : Value).ownBlock)) (HL119_8.out) (fun k_ hk => ⟨⟨hk.1.1, hk.2⟩, hk.1.2⟩))).2.1 (Kd.V_F (Kd.V_mono (ok' := (fun k_ => ((fun k_ => (P0_ k_ ∨ w.heap.size ≤ k_) ∧ some k_ ≠ (v117 : Value).ownBlock)) k_ ∧ some k_ ≠ (u5 : Value).ownBlock)) ((Kd.V_drewN (HL119_8.out) _)) (fun k_ hk => ⟨⟨hk.1.1, hk.2⟩, hk.1.2⟩))) (Kd.V_reads' (Kd.V_mono (ok' := (fun k_ => ((fun k_ => (P0_ k_ ∨ w.heap.size ≤ k_) ∧ some k_ ≠ (v117 : Value).ownBlock)) k_ ∧ some k_ ≠ (u5 : Value).ownBlock)) (HL119_10.out) (fun k_ hk => ⟨⟨hk.1.1, hk.2⟩, hk.1.2⟩))).2.1 (Kd.V_F (Kd.V_mono (ok' := (fun k_ => ((fun k_ => (P0_ k_ ∨ w.heap.size ≤ k_) ∧ some k_ ≠ (v117 : Value).ownBlock)) k_ ∧ some k_ ≠ (u5 : Value).ownBlock)) ((Kd.V_drewN (HL119_10.out) _)) (fun k_ hk => ⟨⟨hk.1.1, hk.2⟩, hk.1.2⟩))) (Kd.V_reads' (Kd.V_mono (ok' := (fun k_ => ((fun k_ => (P0_ k_ ∨ w.heap.size ≤ k_) ∧ some k_ ≠ (v117 : Value).ownBlock)) k_ ∧ some k_ ≠ (u5 : Value).ownBlock)) (HL119_11.out) (fun k_ hk => ⟨⟨hk.1.1, hk.2⟩, hk.1.2⟩))).2.1 (Kd.V_F (Kd.V_mono (ok' := (fun k_ => ((fun k_ => (P0_ k_ ∨ w.heap.size ≤ k_) ∧ some k_ ≠ (v117 : Value).ownBlock)) k_ ∧ some k_ ≠ (u5 : Value).ownBlock)) ((Kd.V_drewN (HL119_11.out) _)) (fun k_ hk => ⟨⟨hk.1.1, hk.2⟩, hk.1.2⟩)))) | exact (k51_mkF _ _ (⟨(rd_T66 l0 x6_1).f1.f0, (rd_T66 l0 x6_1).f1.f1, (rd_T66 l0 x6_1).f1.f2, (rd_T66 l0 x6_1).f1.f3, (rd_T66 l0 x6_1).f1.f4, (rd_T66 l0 x6_1).f1.f5, (rd_T66 l0 x6_1).f1.f6⟩ : S51) (Kd.V_reads' (Kd.V_mono (ok' := (fun k_ => ((fun k_ => (P0_ k_ ∨ w.heap.size ≤ k_) ∧ some k_ ≠ (v117 : Value).ownBlock)) k_ ∧ some k_ ≠ (u5 : Value).ownBlock)) (HL119_8.out) (fun k_ hk => ⟨⟨hk.1.1, hk.2⟩, hk.1.2⟩))).2.1 (Kd.V_F (Kd.V_mono (ok' := (fun k_ => ((fun k_ => (P0_ k_ ∨ w.heap.size ≤ k_) ∧ some k_ ≠ (v117 : Value).ownBlock)) k_ ∧ some k_ ≠ (u5 : Value).ownBlock)) ((Kd.V_drewN (Kd.V_drewN (HL119_8.out) _) _)) (fun k_ hk => ⟨⟨hk.1.1, hk.2⟩, hk.1.2⟩))) (Kd.V_reads' (Kd.V_mono (ok' := (fun k_ => ((fun k_ => (P0_ k_ ∨ w.heap.size ≤ k_) ∧ some k_ ≠ (v117 : Value).ownBlock)) k_ ∧ some k_ ≠ (u5 : Value).ownBlock)) (HL119_10.out) (fun k_ hk => ⟨⟨hk.1.1, hk.2⟩, hk.1.2⟩))).2.1 (Kd.V_F (Kd.V_mono (ok' := (fun k_ => ((fun k_ => (P0_ k_ ∨ w.heap.size ≤ k_) ∧ some k_ ≠ (v117 : Value).ownBlock)) k_ ∧ some k_ ≠ (u5 : Value).ownBlock)) ((Kd.V_drewN (Kd.V_drewN (HL119_10.out) _) _)) (fun k_ hk => ⟨⟨hk.1.1, hk.2⟩, hk.1.2⟩))) (Kd.V_reads' (Kd.V_mono (ok' := (fun k_ => ((fun k_ => (P0_ k_ ∨ w.heap.size ≤ k_) ∧ some k_ ≠ (v117 : Value).ownBlock)) k_ ∧ some k_ ≠ (u5 : Value).ownBlock)) (HL119_11.out) (fun k_ hk => ⟨⟨hk.1.1, hk.2⟩, hk.1.2⟩))).2.1 (Kd.V_F (Kd.V_mono (ok' := (fun k_ => ((fun k_ => (P0_ k_ ∨ w.heap.size ≤ k_) ∧ some k_ ≠ (v117 : Value).ownBlock)) k_ ∧ some k_ ≠ (u5 : Value).ownBlock)) ((Kd.V_drewN (Kd.V_drewN (HL119_11.out) _) _)) (fun k_ hk => ⟨⟨hk.1.1, hk.2⟩, hk.1.2⟩)))) | exact (k51_mkF _ _ (⟨(rd_T66 l0 x6_1).f1.f0, (rd_T66 l0 x6_1).f1.f1, (rd_T66 l0 x6_1).f1.f2, (rd_T66 l0 x6_1).f1.f3, (rd_T66 l0 x6_1).f1.f4, (rd_T66 l0 x6_1).f1.f5, (rd_T66 l0 x6_1).f1.f6⟩ : S51) (Kd.V_reads' (Kd.V_mono (ok' := (fun k_ => ((fun k_ => (P0_ k_ ∨ w.heap.size ≤ k_) ∧ some k_ ≠ (v117 : Value).ownBlock)) k_ ∧ some k_ ≠ (u5 : Value).ownBlock)) (HL119_8.out) (fun k_ hk => ⟨⟨hk.1.1, hk.2⟩, hk.1.2⟩))).2.1 (Kd.V_F (Kd.V_mono (ok' := (fun k_ => ((fun k_ => (P0_ k_ ∨ w.heap.size ≤ k_) ∧ some k_ ≠ (v117 : Value).ownBlock)) k_ ∧ some k_ ≠ (u5 : Value).ownBlock)) ((Kd.V_drewN (Kd.V_drewN (Kd.V_drewN (HL119_8.out) _) _) _)) (fun k_ hk => ⟨⟨hk.1.1, hk.2⟩, hk.1.2⟩))) (Kd.V_reads' (Kd.V_mono (ok' := (fun k_ => ((fun k_ => (P0_ k_ ∨ w.heap.size ≤ k_) ∧ some k_ ≠ (v117 : Value).ownBlock)) k_ ∧ some k_ ≠ (u5 : Value).ownBlock)) (HL119_10.out) (fun k_ hk => ⟨⟨hk.1.1, hk.2⟩, hk.1.2⟩))).2.1 (Kd.V_F (Kd.V_mono (ok' := (fun k_ => ((fun k_ => (P0_ k_ ∨ w.heap.size ≤ k_) ∧ some k_ ≠ (v117 : Value).ownBlock)) k_ ∧ some k_ ≠ (u5 : Value).ownBlock)) ((Kd.V_drewN (Kd.V_drewN (Kd.V_drewN (HL119_10.out) _) _) _)) (fun k_ hk => ⟨⟨hk.1.1, hk.2⟩, hk.1.2⟩))) (Kd.V_reads' (Kd.V_mono (ok' := (fun k_ => ((fun k_ => (P0_ k_ ∨ w.heap.size ≤ k_) ∧ some k_ ≠ (v117 : Value).ownBlock)) k_ ∧ some k_ ≠ (u5 : Value).ownBlock)) (HL119_11.out) (fun k_ hk => ⟨⟨hk.1.1, hk.2⟩, hk.1.2⟩))).2.1 (Kd.V_F (Kd.V_mono (ok' := (fun k_ => ((fun k_ => (P0_ k_ ∨ w.heap.size ≤ k_) ∧ some k_ ≠ (v117 : Value).ownBlock)) k_ ∧ some k_ ≠ (u5 : Value).ownBlock)) ((Kd.V_drewN (Kd.V_drewN (Kd.V_drewN (HL119_11.out) _) _) _)) (fun k_ hk => ⟨⟨hk.1.1, hk.2⟩, hk.1.2⟩))))); (case aB => exact (by repeat (first | (with_reducible first | exact HB.out | apply below_alloc | apply pw_below_drewN | apply below_drew1) | exact HB.out))); (case aF => exact (fun k_ hk => ⟨(.inr (Nat.le_trans (below_size (by repeat (first | (with_reducible first | exact HB.out | apply below_alloc | apply pw_below_drewN | apply below_drew1) | exact HB.out))) hk)), Kd.fresh' (Kd.N_lt (by (with_reducible repeat (first | apply Kd.N_alloc | apply Kd.N_drewN | apply Kd.N_drew)); exact HO118.out)) k_ hk⟩)); (case aO => exact (by (with_reducible repeat (first | apply Kd.N_alloc | apply Kd.N_drewN | apply Kd.N_drew)); exact HO_5.out)); (case aS => exact (below_size (by repeat (first | (with_reducible first | exact HB.out | apply below_alloc | apply pw_below_drewN | apply below_drew1) | exact HB.out)))); (case aL => have := LMc5.out; omega); intro v121 w7 ho hb hg hat; rw [← Ny120.out] at ho; have n0_ := Aside0.mk (Kd.V_afterv (ok := (fun k_ => (P0_ k_ ∨ w.heap.size ≤ k_) ∧ some k_ ≠ (v117 : Value).ownBlock)) (by (with_reducible repeat (first | apply Kd.V_alloc | apply Kd.V_drewN | apply Kd.V_drew)); exact Kd.V_mono HO_0.out (fun _ hk => ⟨⟨hk.1.1, hk.2⟩, hk.1.2⟩)) hg hat); have n1_ := Aside0.mk (Kd.V_afterv (ok := (fun k_ => (P0_ k_ ∨ w.heap.size ≤ k_) ∧ some k_ ≠ (v117 : Value).ownBlock)) (by (with_reducible repeat (first | apply Kd.V_alloc | apply Kd.V_drewN | apply Kd.V_drew)); exact Kd.V_mono HL115_2.out (fun _ hk => ⟨⟨hk.1.1, hk.2⟩, hk.1.2⟩)) hg hat); have n2_ := Aside0.mk (Kd.V_afterv (ok := (fun k_ => (P0_ k_ ∨ w.heap.size ≤ k_) ∧ some k_ ≠ (v117 : Value).ownBlock)) (by (with_reducible repeat (first | apply Kd.V_alloc | apply Kd.V_drewN | apply Kd.V_drew)); exact Kd.V_mono HL115_4.out (fun _ hk => ⟨⟨hk.1.1, hk.2⟩, hk.1.2⟩)) hg hat); have n3_ := Aside0.mk (Kd.V_afterv (ok := (fun k_ => (P0_ k_ ∨ w.heap.size ≤ k_) ∧ some k_ ≠ (v117 : Value).ownBlock)) (by (with_reducible repeat (first | apply Kd.V_alloc | apply Kd.V_drewN | apply Kd.V_drew)); exact Kd.V_mono HL115_8.out (fun _ hk => ⟨⟨hk.1.1, hk.2⟩, hk.1.2⟩)) hg hat); have n4_ := Aside0.mk (Kd.V_afterv (ok := (fun k_ => (P0_ k_ ∨ w.heap.size ≤ k_) ∧ some k_ ≠ (v117 : Value).ownBlock)) (by (with_reducible repeat (first | apply Kd.V_alloc | apply Kd.V_drewN | apply Kd.V_drew)); exact Kd.V_mono HL115_10.out (fun _ hk => ⟨⟨hk.1.1, hk.2⟩, hk.1.2⟩)) hg hat); have n5_ := Aside0.mk (Kd.V_afterv (ok := (fun k_ => (P0_ k_ ∨ w.heap.size ≤ k_) ∧ some k_ ≠ (v117 : Value).ownBlock)) (by (with_reducible repeat (first | apply Kd.V_alloc | apply Kd.V_drewN | apply Kd.V_drew)); exact Kd.V_mono HL115_11.out (fun _ hk => ⟨⟨hk.1.1, hk.2⟩, hk.1.2⟩)) hg hat); have n6_ := Aside0.mk (Kd.N_afterv (ok := (fun k_ => (P0_ k_ ∨ w.heap.size ≤ k_))) (by (with_reducible repeat (first | apply Kd.N_alloc | apply Kd.N_drewN | apply Kd.N_drew)); exact HO118.out) hg hat); have n7_ := Aside0.mk (Kd.V_afterv (ok := (fun k_ => (P0_ k_ ∨ w.heap.size ≤ k_) ∧ some k_ ≠ (v117 : Value).ownBlock)) (by (with_reducible repeat (first | apply Kd.V_alloc | apply Kd.V_drewN | apply Kd.V_drew)); exact Kd.V_mono HL119_2.out (fun _ hk => ⟨⟨hk.1.1, hk.2⟩, hk.1.2⟩)) hg hat); have n8_ := Aside0.mk (Kd.V_afterv (ok := (fun k_ => (P0_ k_ ∨ w.heap.size ≤ k_) ∧ some k_ ≠ (v117 : Value).ownBlock)) (by (with_reducible repeat (first | apply Kd.V_alloc | apply Kd.V_drewN | apply Kd.V_drew)); exact Kd.V_mono HL119_4.out (fun _ hk => ⟨⟨hk.1.1, hk.2⟩, hk.1.2⟩)) hg hat); have n9_ := Aside0.mk (Kd.V_afterv (ok := (fun k_ => (P0_ k_ ∨ w.heap.size ≤ k_) ∧ some k_ ≠ (v117 : Value).ownBlock)) (by (with_reducible repeat (first | apply Kd.V_alloc | apply Kd.V_drewN | apply Kd.V_drew)); exact Kd.V_mono HL119_8.out (fun _ hk => ⟨⟨hk.1.1, hk.2⟩, hk.1.2⟩)) hg hat); have n10_ := Aside0.mk (Kd.V_afterv (ok := (fun k_ => (P0_ k_ ∨ w.heap.size ≤ k_) ∧ some k_ ≠ (v117 : Value).ownBlock)) (by (with_reducible repeat (first | apply Kd.V_alloc | apply Kd.V_drewN | apply Kd.V_drew)); exact Kd.V_mono HL119_10.out (fun _ hk => ⟨⟨hk.1.1, hk.2⟩, hk.1.2⟩)) hg hat); have n11_ := Aside0.mk (Kd.V_afterv (ok := (fun k_ => (P0_ k_ ∨ w.heap.size ≤ k_) ∧ some k_ ≠ (v117 : Value).ownBlock)) (by (with_reducible repeat (first | apply Kd.V_alloc | apply Kd.V_drewN | apply Kd.V_drew)); exact Kd.V_mono HL119_11.out (fun _ hk => ⟨⟨hk.1.1, hk.2⟩, hk.1.2⟩)) hg hat); have n12_ := Aside0.mk (hb); have n13_ := Aside0.mk (ho); clear HO_0; clear HL115_2; clear HL115_4; clear HL115_8; clear HL115_10; clear HL115_11; clear HO118; clear HL119_2; clear HL119_4; clear HL119_8; clear HL119_10; clear HL119_11; clear HB; clear HO_5; have HO_0 := n0_; have HL115_2 := n1_; have HL115_4 := n2_; have HL115_8 := n3_; have HL115_10 := n4_; have HL115_11 := n5_; have HO118 := n6_; have HL119_2 := n7_; have HL119_4 := n8_; have HL119_8 := n9_; have HL119_10 := n10_; have HL119_11 := n11_; have HB := n12_; have HO122 := n13_; clear n0_ n1_ n2_ n3_ n4_ n5_ n6_ n7_ n8_ n9_ n10_ n11_ n12_ n13_; clear ho hb hg hat))
       go_roundg k1
       case measure => have := HK1.out; omega
       case rel => exact ⟨(y116), (y120), (wrap64 (x6_1 + 1)), (by first | rfl | (simp only [YtodifojhegbjaaaDoorMpHelp.leq_not, YtodifojhegbjaaaDoorMpHelp.gtr_less]; done) | (simp; done) | (simp [*]; done)), H', ⟨by have := HK1.out; omega⟩, ⟨by (with_reducible repeat (first | apply Kd.V_alloc | apply Kd.V_drewN | apply Kd.V_drew)); exact Kd.V_mono HO_0.out (fun _ hk => ⟨hk.1.1, ⟨hk.1.2, hk.2⟩⟩)⟩, ⟨by (with_reducible repeat (first | apply Kd.N_alloc | apply Kd.N_drewN | apply Kd.N_drew)); exact HO118.out⟩, ⟨by (with_reducible repeat (first | apply Kd.N_alloc | apply Kd.N_drewN | apply Kd.N_drew)); exact HO122.out⟩, ⟨by repeat (first | (with_reducible first | exact HB.out | apply below_alloc | apply pw_below_drewN | apply below_drew1) | exact HB.out)⟩⟩
      ·rw [if_neg c5] at H
       exact absurd H (by simp)
     ·rw [if_neg c4] at H
      exact absurd H (by simp)
    ·rw [if_neg c3] at H
     exact absurd H (by simp)
   ·rw [if_neg c2] at H
    have c2b0 : decide (x6_1 < (l0.length : Int)) = false := decide_eq_false c2
    clear c2
    simp only [Option.some.injEq, Prod.mk.injEq] at H
    obtain ⟨rfl, rfl⟩ := H
    go_wp2
    go_ret2
    exact ⟨_, _, by first | rfl | (simp [errW_none, errW_some] <;> rfl) | (simp [*, errW_none, errW_some] <;> rfl), by (with_reducible repeat (first | apply Kd.N_alloc | apply Kd.N_drewN | apply Kd.N_drew)); exact HO_4.out, by (with_reducible repeat (first | apply Kd.N_alloc | apply Kd.N_drewN | apply Kd.N_drew)); exact HO_5.out, by repeat (first | (with_reducible first | exact HB.out | apply below_alloc | apply pw_below_drewN | apply below_drew1) | exact HB.out)⟩

/-! ### report_Sum: function 16 (told by hand) -/
/-- report.Sum, where steps and answers are unlike in number. -/
def report_Sum.cs (xs : List Int) : Array Value := (xs.map (Value.int .i64)).toArray
def report_Sum.zero : List Int := List.replicate 40 0
theorem report_Sum.res {P : Program} {fn : Func} {p u : Tmp} {ty : TypeId} (h : fn.results = #[.cell p ty, .tmp u]) (tmps : Array Value) (w : World) (g : Nat) (t : TypeId) (cs : Array Value) (fr : Nat × Nat) (d : TypeDesc)
    (hp : tmps.getD p undef = .pointer (some ⟨g, 0, none⟩)) (hg : w.heap[g]? = some (.cells cs t fr)) (hu : P.underlying ty = some d) (hd : (match d with | .struct _ | .array _ _ => true | _ => false) = true) (hi : (P.info? ty).map (·.size) = some cs.size) :
    (results fn tmps).run P w = .ok (.tuple #[.agg cs, tmps.getD u undef]) w := by
  rw [results_cell_tmp h, hp]
  simp [asAddr, run_loadVar_row w g t ty cs fr d hg hu hd hi, Result.andThen]
theorem report_Sum.zz (w : World) : (zeroValue 39).run Tryd.prog w = .ok (.agg (report_Sum.cs report_Sum.zero)) w := (zero_of_info (v := .agg (report_Sum.cs report_Sum.zero)) (n := 40) (by kernel_rfl)).1 w
theorem report_Sum.one (xs : List Int) : ∀ q ∈ (report_Sum.cs xs).toList, q.oneCell' = true := fun q hq => by
  unfold report_Sum.cs at hq
  simp only [List.mem_map] at hq
  obtain ⟨x, _, rfl⟩ := hq
  rfl
def report_Sum.f (l0 : List S47) (l1 : List S51) : Option (Int × Int × Int × Int × Int × Int × Int × Int × Int × Int × Int × Int × Int × Int × Int × Int × Int × Int × Int × Int × Int × Int × Int × Int × Int × Int × Int × Int × Int × Int × Int × Int × Int × Int × Int × Int × Int × Int × Int × Int × Int) := if l0.length = l1.length then none else some (0, 0, 0, 0, 0, 0, 0, 0, 0, 0, 0, 0, 0, 0, 0, 0, 0, 0, 0, 0, 0, 0, 0, 0, 0, 0, 0, 0, 0, 0, 0, 0, 0, 0, 0, 0, 0, 0, 0, 0, 1)
set_option maxRecDepth 100000 in
set_option maxHeartbeats 4000000 in
theorem report_Sum.calls (A0 : Option Addr) (c0 : Nat) (l0 : List S47) (A1 : Option Addr) (c1 : Nat) (l1 : List S51) (r1 : Int) (r2 : Int) (r3 : Int) (r4 : Int) (r5 : Int) (r6 : Int) (r7 : Int) (r8 : Int) (r9 : Int) (r10 : Int) (r11 : Int) (r12 : Int) (r13 : Int) (r14 : Int) (r15 : Int) (r16 : Int) (r17 : Int) (r18 : Int) (r19 : Int) (r20 : Int) (r21 : Int) (r22 : Int) (r23 : Int) (r24 : Int) (r25 : Int) (r26 : Int) (r27 : Int) (r28 : Int) (r29 : Int) (r30 : Int) (r31 : Int) (r32 : Int) (r33 : Int) (r34 : Int) (r35 : Int) (r36 : Int) (r37 : Int) (r38 : Int) (r39 : Int) (r40 : Int) (r41 : Int) (w : World) (hr0 : Kd.C k47 w A0 l0.length l0) (hc0 : l0.length ≤ c0) (hr1 : Kd.C k51 w A1 l1.length l1) (hc1 : l1.length ≤ c1) (h : report_Sum.f l0 l1 = some (r1, r2, r3, r4, r5, r6, r7, r8, r9, r10, r11, r12, r13, r14, r15, r16, r17, r18, r19, r20, r21, r22, r23, r24, r25, r26, r27, r28, r29, r30, r31, r32, r33, r34, r35, r36, r37, r38, r39, r40, r41)) :
    Calls Tryd.prog 16 #[.slice A0 l0.length c0, .slice A1 l1.length c1] w fun e w' => e = .returned (.tuple #[.agg #[.int .i64 r1, .int .i64 r2, .int .i64 r3, .int .i64 r4, .int .i64 r5, .int .i64 r6, .int .i64 r7, .int .i64 r8, .int .i64 r9, .int .i64 r10, .int .i64 r11, .int .i64 r12, .int .i64 r13, .int .i64 r14, .int .i64 r15, .int .i64 r16, .int .i64 r17, .int .i64 r18, .int .i64 r19, .int .i64 r20, .int .i64 r21, .int .i64 r22, .int .i64 r23, .int .i64 r24, .int .i64 r25, .int .i64 r26, .int .i64 r27, .int .i64 r28, .int .i64 r29, .int .i64 r30, .int .i64 r31, .int .i64 r32, .int .i64 r33, .int .i64 r34, .int .i64 r35, .int .i64 r36, .int .i64 r37, .int .i64 r38, .int .i64 r39, .int .i64 r40], .int .i64 r41]) ∧ Below w.heap.size w w' := by
  unfold report_Sum.f at h
  by_cases hl : l0.length = l1.length
  · rw [if_pos hl] at h
    cases h
  · rw [if_neg hl] at h
    replace h := Option.some.inj h
    simp only [Prod.mk.injEq] at h
    obtain ⟨rfl, rfl, rfl, rfl, rfl, rfl, rfl, rfl, rfl, rfl, rfl, rfl, rfl, rfl, rfl, rfl, rfl, rfl, rfl, rfl, rfl, rfl, rfl, rfl, rfl, rfl, rfl, rfl, rfl, rfl, rfl, rfl, rfl, rfl, rfl, rfl, rfl, rfl, rfl, rfl, rfl⟩ := h
    have b0 : ((l0.length : Int) == (l1.length : Int)) = false := beq_eq_false_iff_ne.mpr (by omega)
    have b1 : ((l0.length : Int) != (l1.length : Int)) = true := bne_iff_ne.mpr (by omega)
    clear hr0 hr1
    show Calls Tryd.prog 16 _ w fun e w' => e = .returned (.tuple #[.agg (report_Sum.cs report_Sum.zero), .int .i64 1]) ∧ Below w.heap.size w w'
    have hzz := report_Sum.zz
    have hcz : (report_Sum.cs report_Sum.zero).size = 40 := rfl
    have hone : ∀ q ∈ (report_Sum.cs report_Sum.zero).toList, q.oneCell' = true := fun q hq => by
      unfold report_Sum.cs at hq
      simp only [List.mem_map] at hq
      obtain ⟨x, _, rfl⟩ := hq
      rfl
    have hsi : (Tryd.prog.info? 39).map (·.size) = some 40 := by kernel_rfl
    rw [← hcz] at hsi
    clear hcz
    generalize hZ : report_Sum.cs report_Sum.zero = Z at hzz hone hsi ⊢
    clear hZ
    have HSI := Aside0.mk hsi
    have HONE := Aside0.mk hone
    clear hsi hone
    go_enter Tryd.func16, Tryd.ntmps16
    go_wp2_with (refine YtodifojhegbjaaaDoorMpHelp.wpList_store_blk (base := w.heap.size) (w0 := w) rfl rfl 39 (.tmp 4) (.tmp 14) rfl 39 w.heap.size Z Z (YtodifojhegbjaaaDoorMpHelp.heap_new _ _) rfl rfl HSI.out rfl HONE.out (below_alloc (Below.refl _ _) _) (Nat.le_refl _) ?_; intro w9 hbox9 hB9 hoth9; have HB9 := Aside0.mk hbox9; have HC9 := Aside0.mk hB9; clear hbox9 hB9 hoth9)
    refine bodyPost_ret (v := .tuple #[.agg Z, .int .i64 1]) ?_ rfl ⟨rfl, HC9.out⟩
    exact report_Sum.res (p := 4) (u := 5) rfl _ _ w.heap.size _ Z (0, 0) _ rfl HB9.out Tryd.underlying39 rfl HSI.out


/-! ### bindleref33_Word: function 8 -/
def bindleref33_Word.f (a0 : Int) : Option (ByteArray) := if a0 = 1 then (some (⟨#[99, 114, 101, 97, 116, 101]⟩ : ByteArray)) else (if a0 = 2 then (some (⟨#[111, 112, 101, 110]⟩ : ByteArray)) else (if a0 = 3 then (some (⟨#[112, 117, 116]⟩ : ByteArray)) else (if a0 = 4 then (some (⟨#[98, 101, 103, 105, 110]⟩ : ByteArray)) else (if a0 = 5 then (some (⟨#[119, 114, 105, 116, 101]⟩ : ByteArray)) else (if a0 = 6 then (some (⟨#[102, 105, 110, 105, 115, 104]⟩ : ByteArray)) else (if a0 = 7 then (some (⟨#[97, 98, 111, 114, 116]⟩ : ByteArray)) else (if a0 = 8 then (some (⟨#[103, 101, 116]⟩ : ByteArray)) else (if a0 = 9 then (some (⟨#[115, 116, 97, 116]⟩ : ByteArray)) else (if a0 = 10 then (some (⟨#[108, 105, 115, 116]⟩ : ByteArray)) else (if a0 = 11 then (some (⟨#[100, 101, 108, 101, 116, 101]⟩ : ByteArray)) else (if a0 = 12 then (some (⟨#[115, 121, 110, 99]⟩ : ByteArray)) else (if a0 = 13 then (some (⟨#[118, 97, 99, 117, 117, 109]⟩ : ByteArray)) else (if a0 = 14 then (some (⟨#[99, 108, 111, 115, 101]⟩ : ByteArray)) else (if a0 = 15 then (some (⟨#[118, 101, 114, 105, 102, 121]⟩ : ByteArray)) else (if a0 = 16 then (some (⟨#[114, 101, 102, 117, 115, 101]⟩ : ByteArray)) else (if a0 = 17 then (some (⟨#[99, 117, 116]⟩ : ByteArray)) else (if a0 = 18 then (some (⟨#[99, 114, 97, 115, 104]⟩ : ByteArray)) else (some (⟨#[110, 111, 110, 101]⟩ : ByteArray)))))))))))))))))))
set_option maxHeartbeats 8000000 in
set_option maxRecDepth 100000 in
theorem bindleref33_Word.calls (a0 : Int) (r : ByteArray) (w : World) (h : bindleref33_Word.f a0 = some r) :
  Calls Tryd.prog 8 #[.int .i64 a0] w fun e w' => e = .returned (.string r) ∧ Drawn0 w w' := by
 have H : (if a0 = 1 then (some (⟨#[99, 114, 101, 97, 116, 101]⟩ : ByteArray)) else (if a0 = 2 then (some (⟨#[111, 112, 101, 110]⟩ : ByteArray)) else (if a0 = 3 then (some (⟨#[112, 117, 116]⟩ : ByteArray)) else (if a0 = 4 then (some (⟨#[98, 101, 103, 105, 110]⟩ : ByteArray)) else (if a0 = 5 then (some (⟨#[119, 114, 105, 116, 101]⟩ : ByteArray)) else (if a0 = 6 then (some (⟨#[102, 105, 110, 105, 115, 104]⟩ : ByteArray)) else (if a0 = 7 then (some (⟨#[97, 98, 111, 114, 116]⟩ : ByteArray)) else (if a0 = 8 then (some (⟨#[103, 101, 116]⟩ : ByteArray)) else (if a0 = 9 then (some (⟨#[115, 116, 97, 116]⟩ : ByteArray)) else (if a0 = 10 then (some (⟨#[108, 105, 115, 116]⟩ : ByteArray)) else (if a0 = 11 then (some (⟨#[100, 101, 108, 101, 116, 101]⟩ : ByteArray)) else (if a0 = 12 then (some (⟨#[115, 121, 110, 99]⟩ : ByteArray)) else (if a0 = 13 then (some (⟨#[118, 97, 99, 117, 117, 109]⟩ : ByteArray)) else (if a0 = 14 then (some (⟨#[99, 108, 111, 115, 101]⟩ : ByteArray)) else (if a0 = 15 then (some (⟨#[118, 101, 114, 105, 102, 121]⟩ : ByteArray)) else (if a0 = 16 then (some (⟨#[114, 101, 102, 117, 115, 101]⟩ : ByteArray)) else (if a0 = 17 then (some (⟨#[99, 117, 116]⟩ : ByteArray)) else (if a0 = 18 then (some (⟨#[99, 114, 97, 115, 104]⟩ : ByteArray)) else (some (⟨#[110, 111, 110, 101]⟩ : ByteArray)))))))))))))))))))) = some r := h
 clear h
 by_cases c2 : a0 = 1
 ·rw [if_pos c2] at H
  have c2b0 : (a0 == 1) = true := beq_iff_eq.mpr c2
  have c2b1 : (a0 != 1) = false := bne_eq_false_iff_eq.mpr c2
  clear c2
  obtain rfl := Option.some.inj H
  go_enter Tryd.func8, Tryd.ntmps8
  go_wp2
  go_ret
  exact ⟨by first | rfl | (simp only [YtodifojhegbjaaaDoorMpHelp.leq_not, YtodifojhegbjaaaDoorMpHelp.gtr_less]; done) | (simp; done) | (simp [*]; done), by repeat (first | exact Drawn0.refl _ | apply Drawn0.step)⟩
 ·rw [if_neg c2] at H
  have c2b0 : (a0 == 1) = false := beq_eq_false_iff_ne.mpr c2
  have c2b1 : (a0 != 1) = true := bne_iff_ne.mpr c2
  by_cases c3 : a0 = 2
  ·rw [if_pos c3] at H
   have c3b0 : (a0 == 2) = true := beq_iff_eq.mpr c3
   have c3b1 : (a0 != 2) = false := bne_eq_false_iff_eq.mpr c3
   clear c3
   obtain rfl := Option.some.inj H
   go_enter Tryd.func8, Tryd.ntmps8
   go_wp2
   go_ret
   exact ⟨by first | rfl | (simp only [YtodifojhegbjaaaDoorMpHelp.leq_not, YtodifojhegbjaaaDoorMpHelp.gtr_less]; done) | (simp; done) | (simp [*]; done), by repeat (first | exact Drawn0.refl _ | apply Drawn0.step)⟩
  ·rw [if_neg c3] at H
   have c3b0 : (a0 == 2) = false := beq_eq_false_iff_ne.mpr c3
   have c3b1 : (a0 != 2) = true := bne_iff_ne.mpr c3
   by_cases c4 : a0 = 3
   ·rw [if_pos c4] at H
    have c4b0 : (a0 == 3) = true := beq_iff_eq.mpr c4
    have c4b1 : (a0 != 3) = false := bne_eq_false_iff_eq.mpr c4
    clear c4
    obtain rfl := Option.some.inj H
    go_enter Tryd.func8, Tryd.ntmps8
    go_wp2
    go_ret
    exact ⟨by first | rfl | (simp only [YtodifojhegbjaaaDoorMpHelp.leq_not, YtodifojhegbjaaaDoorMpHelp.gtr_less]; done) | (simp; done) | (simp [*]; done), by repeat (first | exact Drawn0.refl _ | apply Drawn0.step)⟩
   ·rw [if_neg c4] at H
    have c4b0 : (a0 == 3) = false := beq_eq_false_iff_ne.mpr c4
    have c4b1 : (a0 != 3) = true := bne_iff_ne.mpr c4
    by_cases c5 : a0 = 4
    ·rw [if_pos c5] at H
     have c5b0 : (a0 == 4) = true := beq_iff_eq.mpr c5
     have c5b1 : (a0 != 4) = false := bne_eq_false_iff_eq.mpr c5
     clear c5
     obtain rfl := Option.some.inj H
     go_enter Tryd.func8, Tryd.ntmps8
     go_wp2
     go_ret
     exact ⟨by first | rfl | (simp only [YtodifojhegbjaaaDoorMpHelp.leq_not, YtodifojhegbjaaaDoorMpHelp.gtr_less]; done) | (simp; done) | (simp [*]; done), by repeat (first | exact Drawn0.refl _ | apply Drawn0.step)⟩
    ·rw [if_neg c5] at H
     have c5b0 : (a0 == 4) = false := beq_eq_false_iff_ne.mpr c5
     have c5b1 : (a0 != 4) = true := bne_iff_ne.mpr c5
     by_cases c6 : a0 = 5
     ·rw [if_pos c6] at H
      have c6b0 : (a0 == 5) = true := beq_iff_eq.mpr c6
      have c6b1 : (a0 != 5) = false := bne_eq_false_iff_eq.mpr c6
      clear c6
      obtain rfl := Option.some.inj H
      go_enter Tryd.func8, Tryd.ntmps8
      go_wp2
      go_ret
      exact ⟨by first | rfl | (simp only [YtodifojhegbjaaaDoorMpHelp.leq_not, YtodifojhegbjaaaDoorMpHelp.gtr_less]; done) | (simp; done) | (simp [*]; done), by repeat (first | exact Drawn0.refl _ | apply Drawn0.step)⟩
     ·rw [if_neg c6] at H
      have c6b0 : (a0 == 5) = false := beq_eq_false_iff_ne.mpr c6
      have c6b1 : (a0 != 5) = true := bne_iff_ne.mpr c6
      by_cases c7 : a0 = 6
      ·rw [if_pos c7] at H
       have c7b0 : (a0 == 6) = true := beq_iff_eq.mpr c7
       have c7b1 : (a0 != 6) = false := bne_eq_false_iff_eq.mpr c7
       clear c7
       obtain rfl := Option.some.inj H
       go_enter Tryd.func8, Tryd.ntmps8
       go_wp2
       go_ret
       exact ⟨by first | rfl | (simp only [YtodifojhegbjaaaDoorMpHelp.leq_not, YtodifojhegbjaaaDoorMpHelp.gtr_less]; done) | (simp; done) | (simp [*]; done), by repeat (first | exact Drawn0.refl _ | apply Drawn0.step)⟩
      ·rw [if_neg c7] at H
       have c7b0 : (a0 == 6) = false := beq_eq_false_iff_ne.mpr c7
       have c7b1 : (a0 != 6) = true := bne_iff_ne.mpr c7
       by_cases c8 : a0 = 7
       ·rw [if_pos c8] at H
        have c8b0 : (a0 == 7) = true := beq_iff_eq.mpr c8
        have c8b1 : (a0 != 7) = false := bne_eq_false_iff_eq.mpr c8
        clear c8
        obtain rfl := Option.some.inj H
        go_enter Tryd.func8, Tryd.ntmps8
        go_wp2
        go_ret
        exact ⟨by first | rfl | (simp only [YtodifojhegbjaaaDoorMpHelp.leq_not, YtodifojhegbjaaaDoorMpHelp.gtr_less]; done) | (simp; done) | (simp [*]; done), by repeat (first | exact Drawn0.refl _ | apply Drawn0.step)⟩
       ·rw [if_neg c8] at H
        have c8b0 : (a0 == 7) = false := beq_eq_false_iff_ne.mpr c8
        have c8b1 : (a0 != 7) = true := bne_iff_ne.mpr c8
        by_cases c9 : a0 = 8
        ·rw [if_pos c9] at H
         have c9b0 : (a0 == 8) = true := beq_iff_eq.mpr c9
         have c9b1 : (a0 != 8) = false := bne_eq_false_iff_eq.mpr c9
         clear c9
         obtain rfl := Option.some.inj H
         go_enter Tryd.func8, Tryd.ntmps8
         go_wp2
         go_ret
         exact ⟨by first | rfl | (simp only [YtodifojhegbjaaaDoorMpHelp.leq_not, YtodifojhegbjaaaDoorMpHelp.gtr_less]; done) | (simp; done) | (simp [*]; done), by repeat (first | exact Drawn0.refl _ | apply Drawn0.step)⟩
        ·rw [if_neg c9] at H
         have c9b0 : (a0 == 8) = false := beq_eq_false_iff_ne.mpr c9
         have c9b1 : (a0 != 8) = true := bne_iff_ne.mpr c9
         by_cases c10 : a0 = 9
         ·rw [if_pos c10] at H
          have c10b0 : (a0 == 9) = true := beq_iff_eq.mpr c10
          have c10b1 : (a0 != 9) = false := bne_eq_false_iff_eq.mpr c10
          clear c10
          obtain rfl := Option.some.inj H
          go_enter Tryd.func8, Tryd.ntmps8
          go_wp2
          go_ret
          exact ⟨by first | rfl | (simp only [YtodifojhegbjaaaDoorMpHelp.leq_not, YtodifojhegbjaaaDoorMpHelp.gtr_less]; done) | (simp; done) | (simp [*]; done), by repeat (first | exact Drawn0.refl _ | apply Drawn0.step)⟩
         ·rw [if_neg c10] at H
          have c10b0 : (a0 == 9) = false := beq_eq_false_iff_ne.mpr c10
          have c10b1 : (a0 != 9) = true := bne_iff_ne.mpr c10
          by_cases c11 : a0 = 10
          ·rw [if_pos c11] at H
           have c11b0 : (a0 == 10) = true := beq_iff_eq.mpr c11
           have c11b1 : (a0 != 10) = false := bne_eq_false_iff_eq.mpr c11
           clear c11
           obtain rfl := Option.some.inj H
           go_enter Tryd.func8, Tryd.ntmps8
           go_wp2
           go_ret
           exact ⟨by first | rfl | (simp only [YtodifojhegbjaaaDoorMpHelp.leq_not, YtodifojhegbjaaaDoorMpHelp.gtr_less]; done) | (simp; done) | (simp [*]; done), by repeat (first | exact Drawn0.refl _ | apply Drawn0.step)⟩
          ·rw [if_neg c11] at H
           have c11b0 : (a0 == 10) = false := beq_eq_false_iff_ne.mpr c11
           have c11b1 : (a0 != 10) = true := bne_iff_ne.mpr c11
           by_cases c12 : a0 = 11
           ·rw [if_pos c12] at H
            have c12b0 : (a0 == 11) = true := beq_iff_eq.mpr c12
            have c12b1 : (a0 != 11) = false := bne_eq_false_iff_eq.mpr c12
            clear c12
            obtain rfl := Option.some.inj H
            go_enter Tryd.func8, Tryd.ntmps8
            go_wp2
            go_ret
            exact ⟨by first | rfl | (simp only [YtodifojhegbjaaaDoorMpHelp.leq_not, YtodifojhegbjaaaDoorMpHelp.gtr_less]; done) | (simp; done) | (simp [*]; done), by repeat (first | exact Drawn0.refl _ | apply Drawn0.step)⟩
           ·rw [if_neg c12] at H
            have c12b0 : (a0 == 11) = false := beq_eq_false_iff_ne.mpr c12
            have c12b1 : (a0 != 11) = true := bne_iff_ne.mpr c12
            by_cases c13 : a0 = 12
            ·rw [if_pos c13] at H
             have c13b0 : (a0 == 12) = true := beq_iff_eq.mpr c13
             have c13b1 : (a0 != 12) = false := bne_eq_false_iff_eq.mpr c13
             clear c13
             obtain rfl := Option.some.inj H
             go_enter Tryd.func8, Tryd.ntmps8
             go_wp2
             go_ret
             exact ⟨by first | rfl | (simp only [YtodifojhegbjaaaDoorMpHelp.leq_not, YtodifojhegbjaaaDoorMpHelp.gtr_less]; done) | (simp; done) | (simp [*]; done), by repeat (first | exact Drawn0.refl _ | apply Drawn0.step)⟩
            ·rw [if_neg c13] at H
             have c13b0 : (a0 == 12) = false := beq_eq_false_iff_ne.mpr c13
             have c13b1 : (a0 != 12) = true := bne_iff_ne.mpr c13
             by_cases c14 : a0 = 13
             ·rw [if_pos c14] at H
              have c14b0 : (a0 == 13) = true := beq_iff_eq.mpr c14
              have c14b1 : (a0 != 13) = false := bne_eq_false_iff_eq.mpr c14
              clear c14
              obtain rfl := Option.some.inj H
              go_enter Tryd.func8, Tryd.ntmps8
              go_wp2
              go_ret
              exact ⟨by first | rfl | (simp only [YtodifojhegbjaaaDoorMpHelp.leq_not, YtodifojhegbjaaaDoorMpHelp.gtr_less]; done) | (simp; done) | (simp [*]; done), by repeat (first | exact Drawn0.refl _ | apply Drawn0.step)⟩
             ·rw [if_neg c14] at H
              have c14b0 : (a0 == 13) = false := beq_eq_false_iff_ne.mpr c14
              have c14b1 : (a0 != 13) = true := bne_iff_ne.mpr c14
              by_cases c15 : a0 = 14
              ·rw [if_pos c15] at H
               have c15b0 : (a0 == 14) = true := beq_iff_eq.mpr c15
               have c15b1 : (a0 != 14) = false := bne_eq_false_iff_eq.mpr c15
               clear c15
               obtain rfl := Option.some.inj H
               go_enter Tryd.func8, Tryd.ntmps8
               go_wp2
               go_ret
               exact ⟨by first | rfl | (simp only [YtodifojhegbjaaaDoorMpHelp.leq_not, YtodifojhegbjaaaDoorMpHelp.gtr_less]; done) | (simp; done) | (simp [*]; done), by repeat (first | exact Drawn0.refl _ | apply Drawn0.step)⟩
              ·rw [if_neg c15] at H
               have c15b0 : (a0 == 14) = false := beq_eq_false_iff_ne.mpr c15
               have c15b1 : (a0 != 14) = true := bne_iff_ne.mpr c15
               by_cases c16 : a0 = 15
               ·rw [if_pos c16] at H
                have c16b0 : (a0 == 15) = true := beq_iff_eq.mpr c16
                have c16b1 : (a0 != 15) = false := bne_eq_false_iff_eq.mpr c16
                clear c16
                obtain rfl := Option.some.inj H
                go_enter Tryd.func8, Tryd.ntmps8
                go_wp2
                go_ret
                exact ⟨by first | rfl | (simp only [YtodifojhegbjaaaDoorMpHelp.leq_not, YtodifojhegbjaaaDoorMpHelp.gtr_less]; done) | (simp; done) | (simp [*]; done), by repeat (first | exact Drawn0.refl _ | apply Drawn0.step)⟩
               ·rw [if_neg c16] at H
                have c16b0 : (a0 == 15) = false := beq_eq_false_iff_ne.mpr c16
                have c16b1 : (a0 != 15) = true := bne_iff_ne.mpr c16
                by_cases c17 : a0 = 16
                ·rw [if_pos c17] at H
                 have c17b0 : (a0 == 16) = true := beq_iff_eq.mpr c17
                 have c17b1 : (a0 != 16) = false := bne_eq_false_iff_eq.mpr c17
                 clear c17
                 obtain rfl := Option.some.inj H
                 go_enter Tryd.func8, Tryd.ntmps8
                 go_wp2
                 go_ret
                 exact ⟨by first | rfl | (simp only [YtodifojhegbjaaaDoorMpHelp.leq_not, YtodifojhegbjaaaDoorMpHelp.gtr_less]; done) | (simp; done) | (simp [*]; done), by repeat (first | exact Drawn0.refl _ | apply Drawn0.step)⟩
                ·rw [if_neg c17] at H
                 have c17b0 : (a0 == 16) = false := beq_eq_false_iff_ne.mpr c17
                 have c17b1 : (a0 != 16) = true := bne_iff_ne.mpr c17
                 by_cases c18 : a0 = 17
                 ·rw [if_pos c18] at H
                  have c18b0 : (a0 == 17) = true := beq_iff_eq.mpr c18
                  have c18b1 : (a0 != 17) = false := bne_eq_false_iff_eq.mpr c18
                  clear c18
                  obtain rfl := Option.some.inj H
                  go_enter Tryd.func8, Tryd.ntmps8
                  go_wp2
                  go_ret
                  exact ⟨by first | rfl | (simp only [YtodifojhegbjaaaDoorMpHelp.leq_not, YtodifojhegbjaaaDoorMpHelp.gtr_less]; done) | (simp; done) | (simp [*]; done), by repeat (first | exact Drawn0.refl _ | apply Drawn0.step)⟩
                 ·rw [if_neg c18] at H
                  have c18b0 : (a0 == 17) = false := beq_eq_false_iff_ne.mpr c18
                  have c18b1 : (a0 != 17) = true := bne_iff_ne.mpr c18
                  by_cases c19 : a0 = 18
                  ·rw [if_pos c19] at H
                   have c19b0 : (a0 == 18) = true := beq_iff_eq.mpr c19
                   have c19b1 : (a0 != 18) = false := bne_eq_false_iff_eq.mpr c19
                   clear c19
                   obtain rfl := Option.some.inj H
                   go_enter Tryd.func8, Tryd.ntmps8
                   go_wp2
                   go_ret
                   exact ⟨by first | rfl | (simp only [YtodifojhegbjaaaDoorMpHelp.leq_not, YtodifojhegbjaaaDoorMpHelp.gtr_less]; done) | (simp; done) | (simp [*]; done), by repeat (first | exact Drawn0.refl _ | apply Drawn0.step)⟩
                  ·rw [if_neg c19] at H
                   have c19b0 : (a0 == 18) = false := beq_eq_false_iff_ne.mpr c19
                   have c19b1 : (a0 != 18) = true := bne_iff_ne.mpr c19
                   obtain rfl := Option.some.inj H
                   go_enter Tryd.func8, Tryd.ntmps8
                   go_wp2
                   go_ret
                   exact ⟨by first | rfl | (simp only [YtodifojhegbjaaaDoorMpHelp.leq_not, YtodifojhegbjaaaDoorMpHelp.gtr_less]; done) | (simp; done) | (simp [*]; done), by repeat (first | exact Drawn0.refl _ | apply Drawn0.step)⟩

/-! ### bindleref33_Code: function 10 -/
def bindleref33_Code.f (a0 : Int) : Option (ByteArray) := (some (([(⟨#[111, 107]⟩ : ByteArray), (⟨#[97, 114, 103]⟩ : ByteArray), (⟨#[101, 110, 100]⟩ : ByteArray), (⟨#[102, 111, 114, 109]⟩ : ByteArray), (⟨#[115, 117, 109]⟩ : ByteArray), (⟨#[115, 105, 122, 101]⟩ : ByteArray), (⟨#[110, 97, 109, 101]⟩ : ByteArray), (⟨#[110, 111, 116, 102, 111, 117, 110, 100]⟩ : ByteArray), (⟨#[98, 117, 115, 121]⟩ : ByteArray), (⟨#[110, 111, 115, 112, 97, 99, 101]⟩ : ByteArray), (⟨#[105, 111]⟩ : ByteArray), (⟨#[112, 111, 105, 115, 111, 110, 101, 100]⟩ : ByteArray), (⟨#[99, 108, 111, 115, 101, 100]⟩ : ByteArray), (⟨#[99, 111, 100, 101, 115]⟩ : ByteArray), (⟨#[108, 105, 109, 105, 116]⟩ : ByteArray), (⟨#[110, 111, 115, 116, 114, 101, 97, 109]⟩ : ByteArray), (⟨#[101, 120, 105, 115, 116, 115]⟩ : ByteArray)] : List ByteArray) : List ByteArray)).bind fun y123 => (if a0 < 0 then (some (⟨#[111, 116, 104, 101, 114]⟩ : ByteArray)) else (if a0 ≥ (y123.length : Int) then (some (⟨#[111, 116, 104, 101, 114]⟩ : ByteArray)) else (if 0 ≤ a0 then (if a0 < (y123.length : Int) then (some (rdOf ByteArray.empty y123 a0)) else (none)) else (none))))
set_option maxHeartbeats 8000000 in
set_option maxRecDepth 100000 in
theorem bindleref33_Code.calls (a0 : Int) (r : ByteArray) (w : World) (h : bindleref33_Code.f a0 = some r) :
  Calls Tryd.prog 10 #[.int .i64 a0] w fun e w' => e = .returned (.string r) ∧ Below w.heap.size w w' := by
 have HB := Aside0.mk (Below.refl w.heap.size w)
 have H : ((some (([(⟨#[111, 107]⟩ : ByteArray), (⟨#[97, 114, 103]⟩ : ByteArray), (⟨#[101, 110, 100]⟩ : ByteArray), (⟨#[102, 111, 114, 109]⟩ : ByteArray), (⟨#[115, 117, 109]⟩ : ByteArray), (⟨#[115, 105, 122, 101]⟩ : ByteArray), (⟨#[110, 97, 109, 101]⟩ : ByteArray), (⟨#[110, 111, 116, 102, 111, 117, 110, 100]⟩ : ByteArray), (⟨#[98, 117, 115, 121]⟩ : ByteArray), (⟨#[110, 111, 115, 112, 97, 99, 101]⟩ : ByteArray), (⟨#[105, 111]⟩ : ByteArray), (⟨#[112, 111, 105, 115, 111, 110, 101, 100]⟩ : ByteArray), (⟨#[99, 108, 111, 115, 101, 100]⟩ : ByteArray), (⟨#[99, 111, 100, 101, 115]⟩ : ByteArray), (⟨#[108, 105, 109, 105, 116]⟩ : ByteArray), (⟨#[110, 111, 115, 116, 114, 101, 97, 109]⟩ : ByteArray), (⟨#[101, 120, 105, 115, 116, 115]⟩ : ByteArray)] : List ByteArray) : List ByteArray)).bind fun y123 => (if a0 < 0 then (some (⟨#[111, 116, 104, 101, 114]⟩ : ByteArray)) else (if a0 ≥ (y123.length : Int) then (some (⟨#[111, 116, 104, 101, 114]⟩ : ByteArray)) else (if 0 ≤ a0 then (if a0 < (y123.length : Int) then (some (rdOf ByteArray.empty y123 a0)) else (none)) else (none))))) = some r := h
 clear h
 obtain ⟨y123, hy123⟩ : ∃ y_ : List ByteArray, y_ = (([(⟨#[111, 107]⟩ : ByteArray), (⟨#[97, 114, 103]⟩ : ByteArray), (⟨#[101, 110, 100]⟩ : ByteArray), (⟨#[102, 111, 114, 109]⟩ : ByteArray), (⟨#[115, 117, 109]⟩ : ByteArray), (⟨#[115, 105, 122, 101]⟩ : ByteArray), (⟨#[110, 97, 109, 101]⟩ : ByteArray), (⟨#[110, 111, 116, 102, 111, 117, 110, 100]⟩ : ByteArray), (⟨#[98, 117, 115, 121]⟩ : ByteArray), (⟨#[110, 111, 115, 112, 97, 99, 101]⟩ : ByteArray), (⟨#[105, 111]⟩ : ByteArray), (⟨#[112, 111, 105, 115, 111, 110, 101, 100]⟩ : ByteArray), (⟨#[99, 108, 111, 115, 101, 100]⟩ : ByteArray), (⟨#[99, 111, 100, 101, 115]⟩ : ByteArray), (⟨#[108, 105, 109, 105, 116]⟩ : ByteArray), (⟨#[110, 111, 115, 116, 114, 101, 97, 109]⟩ : ByteArray), (⟨#[101, 120, 105, 115, 116, 115]⟩ : ByteArray)] : List ByteArray)) := ⟨_, rfl⟩
 replace H : (if a0 < 0 then (some (⟨#[111, 116, 104, 101, 114]⟩ : ByteArray)) else (if a0 ≥ (y123.length : Int) then (some (⟨#[111, 116, 104, 101, 114]⟩ : ByteArray)) else (if 0 ≤ a0 then (if a0 < (y123.length : Int) then (some (rdOf ByteArray.empty y123 a0)) else (none)) else (none)))) = some r := by first | (rw [hy123]; with_reducible exact H) | (have H2_ := (Option.bind_some _ _).symm.trans H; rw [hy123]; with_reducible exact H2_) | (have H2_ := (Option.bind_some _ _).symm.trans H; with_reducible exact H2_) | with_reducible exact H | (rw [hy123]; exact H) | exact H
 have Ny123 := Aside0.mk hy123
 clear hy123
 by_cases c2 : a0 < 0
 ·rw [if_pos c2] at H
  have c2b0 : decide (a0 < 0) = true := decide_eq_true c2
  clear c2
  obtain rfl := Option.some.inj H
  go_enter Tryd.func10, Tryd.ntmps10
  go_wp2_with (first | ((with_reducible refine gate_dst (N := 4) rfl ?_); (try (refine gate_guard (by rfl) ?_; dsimp only)); refine Kd.R_lit Kd.string _ 9 ?hg (N := 4) ?hd (xs := ([(⟨#[111, 107]⟩ : ByteArray), (⟨#[97, 114, 103]⟩ : ByteArray), (⟨#[101, 110, 100]⟩ : ByteArray), (⟨#[102, 111, 114, 109]⟩ : ByteArray), (⟨#[115, 117, 109]⟩ : ByteArray), (⟨#[115, 105, 122, 101]⟩ : ByteArray), (⟨#[110, 97, 109, 101]⟩ : ByteArray), (⟨#[110, 111, 116, 102, 111, 117, 110, 100]⟩ : ByteArray), (⟨#[98, 117, 115, 121]⟩ : ByteArray), (⟨#[110, 111, 115, 112, 97, 99, 101]⟩ : ByteArray), (⟨#[105, 111]⟩ : ByteArray), (⟨#[112, 111, 105, 115, 111, 110, 101, 100]⟩ : ByteArray), (⟨#[99, 108, 111, 115, 101, 100]⟩ : ByteArray), (⟨#[99, 111, 100, 101, 115]⟩ : ByteArray), (⟨#[108, 105, 109, 105, 116]⟩ : ByteArray), (⟨#[110, 111, 115, 116, 114, 101, 97, 109]⟩ : ByteArray), (⟨#[101, 120, 105, 115, 116, 115]⟩ : ByteArray)] : List ByteArray)) (inner := [.string (⟨#[111, 107]⟩ : ByteArray), .string (⟨#[97, 114, 103]⟩ : ByteArray), .string (⟨#[101, 110, 100]⟩ : ByteArray), .string (⟨#[102, 111, 114, 109]⟩ : ByteArray), .string (⟨#[115, 117, 109]⟩ : ByteArray), .string (⟨#[115, 105, 122, 101]⟩ : ByteArray), .string (⟨#[110, 97, 109, 101]⟩ : ByteArray), .string (⟨#[110, 111, 116, 102, 111, 117, 110, 100]⟩ : ByteArray), .string (⟨#[98, 117, 115, 121]⟩ : ByteArray), .string (⟨#[110, 111, 115, 112, 97, 99, 101]⟩ : ByteArray), .string (⟨#[105, 111]⟩ : ByteArray), .string (⟨#[112, 111, 105, 115, 111, 110, 101, 100]⟩ : ByteArray), .string (⟨#[99, 108, 111, 115, 101, 100]⟩ : ByteArray), .string (⟨#[99, 111, 100, 101, 115]⟩ : ByteArray), .string (⟨#[108, 105, 109, 105, 116]⟩ : ByteArray), .string (⟨#[110, 111, 115, 116, 114, 101, 97, 109]⟩ : ByteArray), .string (⟨#[101, 120, 105, 115, 116, 115]⟩ : ByteArray)]) (ok := fun _ => True) (okp := fun _ => True) ?hr ?hp (fun _ hk => hk) trivial (Below.refl _ _) (Nat.le_refl _) (by simp) ?_; (case hd => rfl); (case hg => rfl); (case hr => first | (go_simp; done) | (go_simp; rfl)); (case hp => exact (Reps.one (show Kd.M Kd.string _ _ _ (⟨#[111, 107]⟩ : ByteArray) [.string (⟨#[111, 107]⟩ : ByteArray)] from rfl) (Reps.one (show Kd.M Kd.string _ _ _ (⟨#[97, 114, 103]⟩ : ByteArray) [.string (⟨#[97, 114, 103]⟩ : ByteArray)] from rfl) (Reps.one (show Kd.M Kd.string _ _ _ (⟨#[101, 110, 100]⟩ : ByteArray) [.string (⟨#[101, 110, 100]⟩ : ByteArray)] from rfl) (Reps.one (show Kd.M Kd.string _ _ _ (⟨#[102, 111, 114, 109]⟩ : ByteArray) [.string (⟨#[102, 111, 114, 109]⟩ : ByteArray)] from rfl) (Reps.one (show Kd.M Kd.string _ _ _ (⟨#[115, 117, 109]⟩ : ByteArray) [.string (⟨#[115, 117, 109]⟩ : ByteArray)] from rfl) (Reps.one (show Kd.M Kd.string _ _ _ (⟨#[115, 105, 122, 101]⟩ : ByteArray) [.string (⟨#[115, 105, 122, 101]⟩ : ByteArray)] from rfl) (Reps.one (show Kd.M Kd.string _ _ _ (⟨#[110, 97, 109, 101]⟩ : ByteArray) [.string (⟨#[110, 97, 109, 101]⟩ : ByteArray)] from rfl) (Reps.one (show Kd.M Kd.string _ _ _ (⟨#[110, 111, 116, 102, 111, 117, 110, 100]⟩ : ByteArray) [.string (⟨#[110, 111, 116, 102, 111, 117, 110, 100]⟩ : ByteArray)] from rfl) (Reps.one (show Kd.M Kd.string _ _ _ (⟨#[98, 117, 115, 121]⟩ : ByteArray) [.string (⟨#[98, 117, 115, 121]⟩ : ByteArray)] from rfl) (Reps.one (show Kd.M Kd.string _ _ _ (⟨#[110, 111, 115, 112, 97, 99, 101]⟩ : ByteArray) [.string (⟨#[110, 111, 115, 112, 97, 99, 101]⟩ : ByteArray)] from rfl) (Reps.one (show Kd.M Kd.string _ _ _ (⟨#[105, 111]⟩ : ByteArray) [.string (⟨#[105, 111]⟩ : ByteArray)] from rfl) (Reps.one (show Kd.M Kd.string _ _ _ (⟨#[112, 111, 105, 115, 111, 110, 101, 100]⟩ : ByteArray) [.string (⟨#[112, 111, 105, 115, 111, 110, 101, 100]⟩ : ByteArray)] from rfl) (Reps.one (show Kd.M Kd.string _ _ _ (⟨#[99, 108, 111, 115, 101, 100]⟩ : ByteArray) [.string (⟨#[99, 108, 111, 115, 101, 100]⟩ : ByteArray)] from rfl) (Reps.one (show Kd.M Kd.string _ _ _ (⟨#[99, 111, 100, 101, 115]⟩ : ByteArray) [.string (⟨#[99, 111, 100, 101, 115]⟩ : ByteArray)] from rfl) (Reps.one (show Kd.M Kd.string _ _ _ (⟨#[108, 105, 109, 105, 116]⟩ : ByteArray) [.string (⟨#[108, 105, 109, 105, 116]⟩ : ByteArray)] from rfl) (Reps.one (show Kd.M Kd.string _ _ _ (⟨#[110, 111, 115, 116, 114, 101, 97, 109]⟩ : ByteArray) [.string (⟨#[110, 111, 115, 116, 114, 101, 97, 109]⟩ : ByteArray)] from rfl) (Reps.one (show Kd.M Kd.string _ _ _ (⟨#[101, 120, 105, 115, 116, 115]⟩ : ByteArray) [.string (⟨#[101, 120, 105, 115, 116, 115]⟩ : ByteArray)] from rfl) (Reps.none _ _))))))))))))))))))); intro v124 w3 ho4 hb hg_ hnew_; clear hg_ hnew_; (first | rw [← Ny123.out] at ho4 | (simp only [Int.reduceToNat] at ho4; rw [← Ny123.out] at ho4)); have n0_ := Aside0.mk (Kd.R_lower ho4 (below_size (by repeat (first | (with_reducible first | exact HB.out | apply below_alloc | apply pw_below_drewN | apply below_drew1) | exact HB.out)))); have n1_ := Aside0.mk (below_step (by repeat (first | (with_reducible first | exact HB.out | apply below_alloc | apply pw_below_drewN | apply below_drew1) | exact HB.out)) hb); clear HB; have HO125 := n0_; have HB := n1_; clear n0_ n1_; clear hb ho4))
  go_ret
  exact ⟨by first | rfl | (simp [errW_none, errW_some] <;> rfl) | (simp [*, errW_none, errW_some] <;> rfl), by repeat (first | (with_reducible first | exact HB.out | apply below_alloc | apply pw_below_drewN | apply below_drew1) | exact HB.out)⟩
 ·rw [if_neg c2] at H
  have c2b0 : decide (a0 < 0) = false := decide_eq_false c2
  clear c2
  by_cases c5 : a0 ≥ (y123.length : Int)
  ·rw [if_pos c5] at H
   have c5b0 : decide ((y123.length : Int) ≤ a0) = true := decide_eq_true c5
   clear c5
   obtain rfl := Option.some.inj H
   go_enter Tryd.func10, Tryd.ntmps10
   go_wp2_with (first | ((with_reducible refine gate_dst (N := 4) rfl ?_); (try (refine gate_guard (by rfl) ?_; dsimp only)); refine Kd.R_lit Kd.string _ 9 ?hg (N := 4) ?hd (xs := ([(⟨#[111, 107]⟩ : ByteArray), (⟨#[97, 114, 103]⟩ : ByteArray), (⟨#[101, 110, 100]⟩ : ByteArray), (⟨#[102, 111, 114, 109]⟩ : ByteArray), (⟨#[115, 117, 109]⟩ : ByteArray), (⟨#[115, 105, 122, 101]⟩ : ByteArray), (⟨#[110, 97, 109, 101]⟩ : ByteArray), (⟨#[110, 111, 116, 102, 111, 117, 110, 100]⟩ : ByteArray), (⟨#[98, 117, 115, 121]⟩ : ByteArray), (⟨#[110, 111, 115, 112, 97, 99, 101]⟩ : ByteArray), (⟨#[105, 111]⟩ : ByteArray), (⟨#[112, 111, 105, 115, 111, 110, 101, 100]⟩ : ByteArray), (⟨#[99, 108, 111, 115, 101, 100]⟩ : ByteArray), (⟨#[99, 111, 100, 101, 115]⟩ : ByteArray), (⟨#[108, 105, 109, 105, 116]⟩ : ByteArray), (⟨#[110, 111, 115, 116, 114, 101, 97, 109]⟩ : ByteArray), (⟨#[101, 120, 105, 115, 116, 115]⟩ : ByteArray)] : List ByteArray)) (inner := [.string (⟨#[111, 107]⟩ : ByteArray), .string (⟨#[97, 114, 103]⟩ : ByteArray), .string (⟨#[101, 110, 100]⟩ : ByteArray), .string (⟨#[102, 111, 114, 109]⟩ : ByteArray), .string (⟨#[115, 117, 109]⟩ : ByteArray), .string (⟨#[115, 105, 122, 101]⟩ : ByteArray), .string (⟨#[110, 97, 109, 101]⟩ : ByteArray), .string (⟨#[110, 111, 116, 102, 111, 117, 110, 100]⟩ : ByteArray), .string (⟨#[98, 117, 115, 121]⟩ : ByteArray), .string (⟨#[110, 111, 115, 112, 97, 99, 101]⟩ : ByteArray), .string (⟨#[105, 111]⟩ : ByteArray), .string (⟨#[112, 111, 105, 115, 111, 110, 101, 100]⟩ : ByteArray), .string (⟨#[99, 108, 111, 115, 101, 100]⟩ : ByteArray), .string (⟨#[99, 111, 100, 101, 115]⟩ : ByteArray), .string (⟨#[108, 105, 109, 105, 116]⟩ : ByteArray), .string (⟨#[110, 111, 115, 116, 114, 101, 97, 109]⟩ : ByteArray), .string (⟨#[101, 120, 105, 115, 116, 115]⟩ : ByteArray)]) (ok := fun _ => True) (okp := fun _ => True) ?hr ?hp (fun _ hk => hk) trivial (Below.refl _ _) (Nat.le_refl _) (by simp) ?_; (case hd => rfl); (case hg => rfl); (case hr => first | (go_simp; done) | (go_simp; rfl)); (case hp => exact (Reps.one (show Kd.M Kd.string _ _ _ (⟨#[111, 107]⟩ : ByteArray) [.string (⟨#[111, 107]⟩ : ByteArray)] from rfl) (Reps.one (show Kd.M Kd.string _ _ _ (⟨#[97, 114, 103]⟩ : ByteArray) [.string (⟨#[97, 114, 103]⟩ : ByteArray)] from rfl) (Reps.one (show Kd.M Kd.string _ _ _ (⟨#[101, 110, 100]⟩ : ByteArray) [.string (⟨#[101, 110, 100]⟩ : ByteArray)] from rfl) (Reps.one (show Kd.M Kd.string _ _ _ (⟨#[102, 111, 114, 109]⟩ : ByteArray) [.string (⟨#[102, 111, 114, 109]⟩ : ByteArray)] from rfl) (Reps.one (show Kd.M Kd.string _ _ _ (⟨#[115, 117, 109]⟩ : ByteArray) [.string (⟨#[115, 117, 109]⟩ : ByteArray)] from rfl) (Reps.one (show Kd.M Kd.string _ _ _ (⟨#[115, 105, 122, 101]⟩ : ByteArray) [.string (⟨#[115, 105, 122, 101]⟩ : ByteArray)] from rfl) (Reps.one (show Kd.M Kd.string _ _ _ (⟨#[110, 97, 109, 101]⟩ : ByteArray) [.string (⟨#[110, 97, 109, 101]⟩ : ByteArray)] from rfl) (Reps.one (show Kd.M Kd.string _ _ _ (⟨#[110, 111, 116, 102, 111, 117, 110, 100]⟩ : ByteArray) [.string (⟨#[110, 111, 116, 102, 111, 117, 110, 100]⟩ : ByteArray)] from rfl) (Reps.one (show Kd.M Kd.string _ _ _ (⟨#[98, 117, 115, 121]⟩ : ByteArray) [.string (⟨#[98, 117, 115, 121]⟩ : ByteArray)] from rfl) (Reps.one (show Kd.M Kd.string _ _ _ (⟨#[110, 111, 115, 112, 97, 99, 101]⟩ : ByteArray) [.string (⟨#[110, 111, 115, 112, 97, 99, 101]⟩ : ByteArray)] from rfl) (Reps.one (show Kd.M Kd.string _ _ _ (⟨#[105, 111]⟩ : ByteArray) [.string (⟨#[105, 111]⟩ : ByteArray)] from rfl) (Reps.one (show Kd.M Kd.string _ _ _ (⟨#[112, 111, 105, 115, 111, 110, 101, 100]⟩ : ByteArray) [.string (⟨#[112, 111, 105, 115, 111, 110, 101, 100]⟩ : ByteArray)] from rfl) (Reps.one (show Kd.M Kd.string _ _ _ (⟨#[99, 108, 111, 115, 101, 100]⟩ : ByteArray) [.string (⟨#[99, 108, 111, 115, 101, 100]⟩ : ByteArray)] from rfl) (Reps.one (show Kd.M Kd.string _ _ _ (⟨#[99, 111, 100, 101, 115]⟩ : ByteArray) [.string (⟨#[99, 111, 100, 101, 115]⟩ : ByteArray)] from rfl) (Reps.one (show Kd.M Kd.string _ _ _ (⟨#[108, 105, 109, 105, 116]⟩ : ByteArray) [.string (⟨#[108, 105, 109, 105, 116]⟩ : ByteArray)] from rfl) (Reps.one (show Kd.M Kd.string _ _ _ (⟨#[110, 111, 115, 116, 114, 101, 97, 109]⟩ : ByteArray) [.string (⟨#[110, 111, 115, 116, 114, 101, 97, 109]⟩ : ByteArray)] from rfl) (Reps.one (show Kd.M Kd.string _ _ _ (⟨#[101, 120, 105, 115, 116, 115]⟩ : ByteArray) [.string (⟨#[101, 120, 105, 115, 116, 115]⟩ : ByteArray)] from rfl) (Reps.none _ _))))))))))))))))))); intro v124 w6 ho7 hb hg_ hnew_; clear hg_ hnew_; (first | rw [← Ny123.out] at ho7 | (simp only [Int.reduceToNat] at ho7; rw [← Ny123.out] at ho7)); have n0_ := Aside0.mk (Kd.R_lower ho7 (below_size (by repeat (first | (with_reducible first | exact HB.out | apply below_alloc | apply pw_below_drewN | apply below_drew1) | exact HB.out)))); have n1_ := Aside0.mk (below_step (by repeat (first | (with_reducible first | exact HB.out | apply below_alloc | apply pw_below_drewN | apply below_drew1) | exact HB.out)) hb); clear HB; have HO125 := n0_; have HB := n1_; clear n0_ n1_; clear hb ho7; obtain ⟨Ao8, co8, eo8⟩ := Kd.R_slice HO125.out; subst eo8))
   go_ret
   exact ⟨by first | rfl | (simp [errW_none, errW_some] <;> rfl) | (simp [*, errW_none, errW_some] <;> rfl), by repeat (first | (with_reducible first | exact HB.out | apply below_alloc | apply pw_below_drewN | apply below_drew1) | exact HB.out)⟩
  ·rw [if_neg c5] at H
   have c5b0 : decide ((y123.length : Int) ≤ a0) = false := decide_eq_false c5
   clear c5
   by_cases c9 : 0 ≤ a0
   ·rw [if_pos c9] at H
    have c9b0 : decide (0 ≤ a0) = true := decide_eq_true c9
    clear c9
    by_cases c10 : a0 < (y123.length : Int)
    ·rw [if_pos c10] at H
     have c10b0 : decide (a0 < (y123.length : Int)) = true := decide_eq_true c10
     clear c10
     obtain rfl := Option.some.inj H
     go_enter Tryd.func10, Tryd.ntmps10
     go_wp2_with (first | ((with_reducible refine gate_dst (N := 4) rfl ?_); (try (refine gate_guard (by rfl) ?_; dsimp only)); refine Kd.R_lit Kd.string _ 9 ?hg (N := 4) ?hd (xs := ([(⟨#[111, 107]⟩ : ByteArray), (⟨#[97, 114, 103]⟩ : ByteArray), (⟨#[101, 110, 100]⟩ : ByteArray), (⟨#[102, 111, 114, 109]⟩ : ByteArray), (⟨#[115, 117, 109]⟩ : ByteArray), (⟨#[115, 105, 122, 101]⟩ : ByteArray), (⟨#[110, 97, 109, 101]⟩ : ByteArray), (⟨#[110, 111, 116, 102, 111, 117, 110, 100]⟩ : ByteArray), (⟨#[98, 117, 115, 121]⟩ : ByteArray), (⟨#[110, 111, 115, 112, 97, 99, 101]⟩ : ByteArray), (⟨#[105, 111]⟩ : ByteArray), (⟨#[112, 111, 105, 115, 111, 110, 101, 100]⟩ : ByteArray), (⟨#[99, 108, 111, 115, 101, 100]⟩ : ByteArray), (⟨#[99, 111, 100, 101, 115]⟩ : ByteArray), (⟨#[108, 105, 109, 105, 116]⟩ : ByteArray), (⟨#[110, 111, 115, 116, 114, 101, 97, 109]⟩ : ByteArray), (⟨#[101, 120, 105, 115, 116, 115]⟩ : ByteArray)] : List ByteArray)) (inner := [.string (⟨#[111, 107]⟩ : ByteArray), .string (⟨#[97, 114, 103]⟩ : ByteArray), .string (⟨#[101, 110, 100]⟩ : ByteArray), .string (⟨#[102, 111, 114, 109]⟩ : ByteArray), .string (⟨#[115, 117, 109]⟩ : ByteArray), .string (⟨#[115, 105, 122, 101]⟩ : ByteArray), .string (⟨#[110, 97, 109, 101]⟩ : ByteArray), .string (⟨#[110, 111, 116, 102, 111, 117, 110, 100]⟩ : ByteArray), .string (⟨#[98, 117, 115, 121]⟩ : ByteArray), .string (⟨#[110, 111, 115, 112, 97, 99, 101]⟩ : ByteArray), .string (⟨#[105, 111]⟩ : ByteArray), .string (⟨#[112, 111, 105, 115, 111, 110, 101, 100]⟩ : ByteArray), .string (⟨#[99, 108, 111, 115, 101, 100]⟩ : ByteArray), .string (⟨#[99, 111, 100, 101, 115]⟩ : ByteArray), .string (⟨#[108, 105, 109, 105, 116]⟩ : ByteArray), .string (⟨#[110, 111, 115, 116, 114, 101, 97, 109]⟩ : ByteArray), .string (⟨#[101, 120, 105, 115, 116, 115]⟩ : ByteArray)]) (ok := fun _ => True) (okp := fun _ => True) ?hr ?hp (fun _ hk => hk) trivial (Below.refl _ _) (Nat.le_refl _) (by simp) ?_; (case hd => rfl); (case hg => rfl); (case hr => first | (go_simp; done) | (go_simp; rfl)); (case hp => exact (Reps.one (show Kd.M Kd.string _ _ _ (⟨#[111, 107]⟩ : ByteArray) [.string (⟨#[111, 107]⟩ : ByteArray)] from rfl) (Reps.one (show Kd.M Kd.string _ _ _ (⟨#[97, 114, 103]⟩ : ByteArray) [.string (⟨#[97, 114, 103]⟩ : ByteArray)] from rfl) (Reps.one (show Kd.M Kd.string _ _ _ (⟨#[101, 110, 100]⟩ : ByteArray) [.string (⟨#[101, 110, 100]⟩ : ByteArray)] from rfl) (Reps.one (show Kd.M Kd.string _ _ _ (⟨#[102, 111, 114, 109]⟩ : ByteArray) [.string (⟨#[102, 111, 114, 109]⟩ : ByteArray)] from rfl) (Reps.one (show Kd.M Kd.string _ _ _ (⟨#[115, 117, 109]⟩ : ByteArray) [.string (⟨#[115, 117, 109]⟩ : ByteArray)] from rfl) (Reps.one (show Kd.M Kd.string _ _ _ (⟨#[115, 105, 122, 101]⟩ : ByteArray) [.string (⟨#[115, 105, 122, 101]⟩ : ByteArray)] from rfl) (Reps.one (show Kd.M Kd.string _ _ _ (⟨#[110, 97, 109, 101]⟩ : ByteArray) [.string (⟨#[110, 97, 109, 101]⟩ : ByteArray)] from rfl) (Reps.one (show Kd.M Kd.string _ _ _ (⟨#[110, 111, 116, 102, 111, 117, 110, 100]⟩ : ByteArray) [.string (⟨#[110, 111, 116, 102, 111, 117, 110, 100]⟩ : ByteArray)] from rfl) (Reps.one (show Kd.M Kd.string _ _ _ (⟨#[98, 117, 115, 121]⟩ : ByteArray) [.string (⟨#[98, 117, 115, 121]⟩ : ByteArray)] from rfl) (Reps.one (show Kd.M Kd.string _ _ _ (⟨#[110, 111, 115, 112, 97, 99, 101]⟩ : ByteArray) [.string (⟨#[110, 111, 115, 112, 97, 99, 101]⟩ : ByteArray)] from rfl) (Reps.one (show Kd.M Kd.string _ _ _ (⟨#[105, 111]⟩ : ByteArray) [.string (⟨#[105, 111]⟩ : ByteArray)] from rfl) (Reps.one (show Kd.M Kd.string _ _ _ (⟨#[112, 111, 105, 115, 111, 110, 101, 100]⟩ : ByteArray) [.string (⟨#[112, 111, 105, 115, 111, 110, 101, 100]⟩ : ByteArray)] from rfl) (Reps.one (show Kd.M Kd.string _ _ _ (⟨#[99, 108, 111, 115, 101, 100]⟩ : ByteArray) [.string (⟨#[99, 108, 111, 115, 101, 100]⟩ : ByteArray)] from rfl) (Reps.one (show Kd.M Kd.string _ _ _ (⟨#[99, 111, 100, 101, 115]⟩ : ByteArray) [.string (⟨#[99, 111, 100, 101, 115]⟩ : ByteArray)] from rfl) (Reps.one (show Kd.M Kd.string _ _ _ (⟨#[108, 105, 109, 105, 116]⟩ : ByteArray) [.string (⟨#[108, 105, 109, 105, 116]⟩ : ByteArray)] from rfl) (Reps.one (show Kd.M Kd.string _ _ _ (⟨#[110, 111, 115, 116, 114, 101, 97, 109]⟩ : ByteArray) [.string (⟨#[110, 111, 115, 116, 114, 101, 97, 109]⟩ : ByteArray)] from rfl) (Reps.one (show Kd.M Kd.string _ _ _ (⟨#[101, 120, 105, 115, 116, 115]⟩ : ByteArray) [.string (⟨#[101, 120, 105, 115, 116, 115]⟩ : ByteArray)] from rfl) (Reps.none _ _))))))))))))))))))); intro v124 w11 ho12 hb hg_ hnew_; clear hg_ hnew_; (first | rw [← Ny123.out] at ho12 | (simp only [Int.reduceToNat] at ho12; rw [← Ny123.out] at ho12)); have n0_ := Aside0.mk (Kd.R_lower ho12 (below_size (by repeat (first | (with_reducible first | exact HB.out | apply below_alloc | apply pw_below_drewN | apply below_drew1) | exact HB.out)))); have n1_ := Aside0.mk (below_step (by repeat (first | (with_reducible first | exact HB.out | apply below_alloc | apply pw_below_drewN | apply below_drew1) | exact HB.out)) hb); clear HB; have HO125 := n0_; have HB := n1_; clear n0_ n1_; clear hb ho12; obtain ⟨Ao13, co13, eo13⟩ := Kd.R_slice HO125.out; subst eo13; have p126 : 0 ≤ (a0 : Int) := of_decide_eq_true (by first | (with_reducible assumption) | assumption); have q126 : a0 < (y123.length : Int) := of_decide_eq_true (by first | (with_reducible assumption) | assumption); obtain ⟨ad126, e126, hx126_0⟩ := Kd.at_string (Kd.R_reads' HO125.out).2.2 a0 p126 q126; cases e126; replace p126 := eq_true p126; replace q126 := eq_true q126))
     go_ret
     exact ⟨by first | rfl | (simp [errW_none, errW_some] <;> rfl) | (simp [*, errW_none, errW_some] <;> rfl), by repeat (first | (with_reducible first | exact HB.out | apply below_alloc | apply pw_below_drewN | apply below_drew1) | exact HB.out)⟩
    ·rw [if_neg c10] at H
     exact absurd H (by simp)
   ·rw [if_neg c9] at H
    exact absurd H (by simp)

/-! ### bindleref15_Parts: function 33 -/
def bindleref15_Parts.l0 : Nat → ByteArray → List ByteArray → Int → Int → Option (List ByteArray)
 | 0, _, _, _, _ => none
 | k + 1, x0, x3, x4, x5 => if x5 < (x0.size : Int) then (if 0 ≤ x5 then (if (bt x0 x5) = 47 then (if 0 ≤ x4 then (if x4 ≤ x5 then (if x5 ≤ (x0.size : Int) then (if x3.length < 8796093022208 then (bindleref15_Parts.l0 k x0 (x3 ++ [x0.extract (x4 : Int).toNat (x5 : Int).toNat]) (wrap64 (x5 + 1)) (wrap64 (x5 + 1))) else (none)) else (none)) else (none)) else (none)) else (bindleref15_Parts.l0 k x0 x3 x4 (wrap64 (x5 + 1)))) else (none)) else (if 0 ≤ x4 then (if x4 ≤ (x0.size : Int) then (if x3.length < 8796093022208 then (some (x3 ++ [x0.extract (x4 : Int).toNat x0.size])) else (none)) else (none)) else (none))
def bindleref15_Parts.f (k : Nat) (a0 : ByteArray) : Option (List ByteArray) := bindleref15_Parts.l0 k a0 ([] : List ByteArray) 0 0
theorem bindleref15_Parts.mono_l : ∀ k, (∀ y0 y1 y2 y3, LeO (bindleref15_Parts.l0 k y0 y1 y2 y3) (bindleref15_Parts.l0 (k + 1) y0 y1 y2 y3))
 | 0 => fun _ _ _ _ r h => by simp [bindleref15_Parts.l0] at h
 | k + 1 => by
  have ih0 := bindleref15_Parts.mono_l k
  ·intro y0 y1 y2 y3
   unfold bindleref15_Parts.l0
   repeat' first
   | (with_reducible exact ih0 _ _ _ _)
   | (with_reducible exact LeO.refl _)
   | (with_reducible exact LeO.none _)
   | (with_reducible refine LeO.ite ?_ ?_)
   | (with_reducible refine LeO.bind ?_ (fun _ => ?_))
   | exact ih0 _ _ _ _
   | exact LeO.none _
   | refine LeO.ite ?_ ?_
   | refine LeO.bind ?_ (fun _ => ?_)
theorem bindleref15_Parts.mono : ∀ a0 k, LeO (bindleref15_Parts.f k a0) (bindleref15_Parts.f (k + 1) a0) := by
 intro a0 k
 have ih0 := bindleref15_Parts.mono_l k
 unfold bindleref15_Parts.f
 repeat' first
   | (with_reducible exact ih0 _ _ _ _)
   | (with_reducible exact LeO.refl _)
   | (with_reducible exact LeO.none _)
   | (with_reducible refine LeO.ite ?_ ?_)
   | (with_reducible refine LeO.bind ?_ (fun _ => ?_))
   | exact ih0 _ _ _ _
   | exact LeO.none _
   | refine LeO.ite ?_ ?_
   | refine LeO.bind ?_ (fun _ => ?_)
set_option maxHeartbeats 8000000 in
set_option maxRecDepth 100000 in
theorem bindleref15_Parts.calls (k : Nat) (a0 : ByteArray) (r : List ByteArray) (w : World) (h : bindleref15_Parts.f k a0 = some r) :
  Calls Tryd.prog 33 #[.string a0] w fun e w' => ∃ v0_ : Value, e = .returned (v0_) ∧ Kd.R Kd.string 9 w' w.heap.size (fun _ => True) v0_ r ∧ Below w.heap.size w w' := by
 have HB := Aside0.mk (Below.refl w.heap.size w)
 have H : (bindleref15_Parts.l0 k a0 ([] : List ByteArray) 0 0) = some r := h
 clear h
 have H' := Aside0.mk H
 clear H
 go_enter Tryd.func33, Tryd.ntmps33
 go_wp2
 go_loopg [3, 4, 5] k (fun kq v3 v4 v5 w' => ∃ (x3_1 : List ByteArray) (x4_1 : Int) (x5_1 : Int), v4 = .int .i64 x4_1 ∧ v5 = .int .i64 x5_1 ∧ Aside0 (bindleref15_Parts.l0 kq a0 x3_1 x4_1 x5_1 = some r) ∧ Aside0 (kq ≤ k) ∧ Aside0 (Kd.R Kd.string 9 w' w.heap.size (fun _ => True) v3 x3_1) ∧ Aside0 (Below w.heap.size w w'))
 case atStart => exact ⟨(([] : List ByteArray)), (0), (0), (by first | rfl | (simp only [YtodifojhegbjaaaDoorMpHelp.leq_not, YtodifojhegbjaaaDoorMpHelp.gtr_less]; done) | (simp; done) | (simp [*]; done)), (by first | rfl | (simp only [YtodifojhegbjaaaDoorMpHelp.leq_not, YtodifojhegbjaaaDoorMpHelp.gtr_less]; done) | (simp; done) | (simp [*]; done)), H', ⟨Nat.le_refl _⟩, ⟨by first | exact Kd.R_nil _ _ _ _ _ | exact Kd.N_nil _ _ _ _ _ | exact Kd.V_nil _ _ _ _ _ | exact Kd.Q_nil _ _ _ _ _ | exact Kd.S_nil _ _ _ _ _⟩, ⟨by repeat (first | (with_reducible first | exact HB.out | apply below_alloc | apply pw_below_drewN | apply below_drew1) | exact HB.out)⟩⟩
 case round =>
  clear H'
  obtain ⟨x3_1, x4_1, x5_1, rfl, rfl, HA, HK1, HO_3, HB⟩ := hrel
  cases gk with
  | zero => exact absurd HA.out (by simp [bindleref15_Parts.l0])
  | succ k1 =>
   have H := HA.out
   clear HA
   simp only [bindleref15_Parts.l0] at H
   by_cases c2 : x5_1 < (a0.size : Int)
   ·rw [if_pos c2] at H
    have c2b0 : decide (x5_1 < (a0.size : Int)) = true := decide_eq_true c2
    clear c2
    by_cases c3 : 0 ≤ x5_1
    ·rw [if_pos c3] at H
     have c3b0 : decide (0 ≤ x5_1) = true := decide_eq_true c3
     clear c3
     by_cases c5 : (bt a0 x5_1) = 47
     ·rw [if_pos c5] at H
      have c5b0 : ((bt a0 x5_1) == 47) = true := beq_iff_eq.mpr c5
      have c5b1 : ((bt a0 x5_1) != 47) = false := bne_eq_false_iff_eq.mpr c5
      clear c5
      by_cases c6 : 0 ≤ x4_1
      ·rw [if_pos c6] at H
       have c6b0 := eq_true c6
       have c6b1 : decide (0 ≤ x4_1) = true := decide_eq_true c6
       clear c6
       by_cases c7 : x4_1 ≤ x5_1
       ·rw [if_pos c7] at H
        have c7b0 := eq_true c7
        have c7b1 : decide (x4_1 ≤ x5_1) = true := decide_eq_true c7
        clear c7
        by_cases c8 : x5_1 ≤ (a0.size : Int)
        ·rw [if_pos c8] at H
         have c8b0 := eq_true c8
         have c8b1 : decide (x5_1 ≤ (a0.size : Int)) = true := decide_eq_true c8
         clear c8
         by_cases c9 : x3_1.length < 8796093022208
         ·rw [if_pos c9] at H
          have LMc9 := Aside0.mk c9
          clear c9
          obtain ⟨y127, hy127⟩ : ∃ y_ : List ByteArray, y_ = (x3_1 ++ [a0.extract (x4_1 : Int).toNat (x5_1 : Int).toNat]) := ⟨_, rfl⟩
          replace H : (bindleref15_Parts.l0 k1 a0 y127 (wrap64 (x5_1 + 1)) (wrap64 (x5_1 + 1))) = some r := by first | (rw [hy127]; with_reducible exact H) | (have H2_ := (Option.bind_some _ _).symm.trans H; rw [hy127]; with_reducible exact H2_) | (have H2_ := (Option.bind_some _ _).symm.trans H; with_reducible exact H2_) | with_reducible exact H | (rw [hy127]; exact H) | exact H
          have Ny127 := Aside0.mk hy127
          clear hy127
          have H' := Aside0.mk H
          clear H
          have p4 : 0 ≤ (x5_1 : Int) := of_decide_eq_true (by first | (with_reducible assumption) | assumption)
          have q4 : x5_1 < (a0.size : Int) := of_decide_eq_true (by first | (with_reducible assumption) | assumption)
          have hx4 := bt_at a0 x5_1
          replace p4 := eq_true p4
          replace q4 := eq_true q4
          go_wp2_with (first | ((with_reducible refine gate_builtin (b := .append) (xs := #[.tmp 16, .tmp 21]) rfl ?_); at_builtin; refine Kd.R_append Kd.string (w0 := w) w.heap.size rfl (.tmp 16) (.tmp 21) 48 9 (.string ⟨#[]⟩) 16 rfl Tryd.underlying48 info9 rfl (by decide) (by omega) u3 x3_1 (a0.extract (x4_1 : Int).toNat (x5_1 : Int).toNat) [.string (a0.extract (x4_1 : Int).toNat (x5_1 : Int).toNat)] (fun _ => True) (fun _ => False) rfl rfl ?aP (fun _ hk => hk.elim) ?aF ?aO ?aB ?aS ?aL ?_; (case aP => exact rfl); (case aB => exact (by repeat (first | (with_reducible first | exact HB.out | apply below_alloc | apply pw_below_drewN | apply below_drew1) | exact HB.out))); (case aF => exact (fun _ _ => trivial)); (case aO => exact (by (with_reducible repeat (first | apply Kd.R_alloc | apply Kd.R_drewN | apply Kd.R_drew)); exact HO_3.out)); (case aS => exact (below_size (by repeat (first | (with_reducible first | exact HB.out | apply below_alloc | apply pw_below_drewN | apply below_drew1) | exact HB.out)))); (case aL => have := LMc9.out; omega); intro v128 w10 ho hb hg hat; rw [← Ny127.out] at ho; have n0_ := Aside0.mk (hb); have n1_ := Aside0.mk (ho); clear HB; clear HO_3; have HB := n0_; have HO129 := n1_; clear n0_ n1_; clear ho hb hg hat))
          go_roundg k1
          case measure => have := HK1.out; omega
          case rel => exact ⟨(y127), (wrap64 (x5_1 + 1)), (wrap64 (x5_1 + 1)), (by first | rfl | (simp only [YtodifojhegbjaaaDoorMpHelp.leq_not, YtodifojhegbjaaaDoorMpHelp.gtr_less]; done) | (simp; done) | (simp [*]; done)), (by first | rfl | (simp only [YtodifojhegbjaaaDoorMpHelp.leq_not, YtodifojhegbjaaaDoorMpHelp.gtr_less]; done) | (simp; done) | (simp [*]; done)), H', ⟨by have := HK1.out; omega⟩, ⟨by (with_reducible repeat (first | apply Kd.R_alloc | apply Kd.R_drewN | apply Kd.R_drew)); exact HO129.out⟩, ⟨by repeat (first | (with_reducible first | exact HB.out | apply below_alloc | apply pw_below_drewN | apply below_drew1) | exact HB.out)⟩⟩
         ·rw [if_neg c9] at H
          exact absurd H (by simp)
        ·rw [if_neg c8] at H
         exact absurd H (by simp)
       ·rw [if_neg c7] at H
        exact absurd H (by simp)
      ·rw [if_neg c6] at H
       exact absurd H (by simp)
     ·rw [if_neg c5] at H
      have c5b0 : ((bt a0 x5_1) == 47) = false := beq_eq_false_iff_ne.mpr c5
      have c5b1 : ((bt a0 x5_1) != 47) = true := bne_iff_ne.mpr c5
      have H' := Aside0.mk H
      clear H
      have p4 : 0 ≤ (x5_1 : Int) := of_decide_eq_true (by first | (with_reducible assumption) | assumption)
      have q4 : x5_1 < (a0.size : Int) := of_decide_eq_true (by first | (with_reducible assumption) | assumption)
      have hx4 := bt_at a0 x5_1
      replace p4 := eq_true p4
      replace q4 := eq_true q4
      go_wp2
      go_roundg k1
      case measure => have := HK1.out; omega
      case rel => exact ⟨(x3_1), (x4_1), (wrap64 (x5_1 + 1)), (by first | rfl | (simp only [YtodifojhegbjaaaDoorMpHelp.leq_not, YtodifojhegbjaaaDoorMpHelp.gtr_less]; done) | (simp; done) | (simp [*]; done)), (by first | rfl | (simp only [YtodifojhegbjaaaDoorMpHelp.leq_not, YtodifojhegbjaaaDoorMpHelp.gtr_less]; done) | (simp; done) | (simp [*]; done)), H', ⟨by have := HK1.out; omega⟩, ⟨by (with_reducible repeat (first | apply Kd.R_alloc | apply Kd.R_drewN | apply Kd.R_drew)); exact HO_3.out⟩, ⟨by repeat (first | (with_reducible first | exact HB.out | apply below_alloc | apply pw_below_drewN | apply below_drew1) | exact HB.out)⟩⟩
    ·rw [if_neg c3] at H
     exact absurd H (by simp)
   ·rw [if_neg c2] at H
    have c2b0 : decide (x5_1 < (a0.size : Int)) = false := decide_eq_false c2
    clear c2
    by_cases c11 : 0 ≤ x4_1
    ·rw [if_pos c11] at H
     have c11b0 := eq_true c11
     have c11b1 : decide (0 ≤ x4_1) = true := decide_eq_true c11
     clear c11
     by_cases c12 : x4_1 ≤ (a0.size : Int)
     ·rw [if_pos c12] at H
      have c12b0 := eq_true c12
      have c12b1 : decide (x4_1 ≤ (a0.size : Int)) = true := decide_eq_true c12
      clear c12
      by_cases c13 : x3_1.length < 8796093022208
      ·rw [if_pos c13] at H
       have LMc13 := Aside0.mk c13
       clear c13
       obtain ⟨y130, hy130⟩ : ∃ y_ : List ByteArray, y_ = (x3_1 ++ [a0.extract (x4_1 : Int).toNat a0.size]) := ⟨_, rfl⟩
       replace H : (some y130) = some r := by first | (rw [hy130]; with_reducible exact H) | (have H2_ := (Option.bind_some _ _).symm.trans H; rw [hy130]; with_reducible exact H2_) | (have H2_ := (Option.bind_some _ _).symm.trans H; with_reducible exact H2_) | with_reducible exact H | (rw [hy130]; exact H) | exact H
       have Ny130 := Aside0.mk hy130
       clear hy130
       obtain rfl := Option.some.inj H
       go_wp2_with (first | ((with_reducible refine gate_builtin (b := .append) (xs := #[.tmp 25, .tmp 29]) rfl ?_); at_builtin; refine Kd.R_append Kd.string (w0 := w) w.heap.size rfl (.tmp 25) (.tmp 29) 48 9 (.string ⟨#[]⟩) 16 rfl Tryd.underlying48 info9 rfl (by decide) (by omega) u3 x3_1 (a0.extract (x4_1 : Int).toNat a0.size) [.string (a0.extract (x4_1 : Int).toNat a0.size)] (fun _ => True) (fun _ => False) rfl rfl ?aP (fun _ hk => hk.elim) ?aF ?aO ?aB ?aS ?aL ?_; (case aP => exact rfl); (case aB => exact (by repeat (first | (with_reducible first | exact HB.out | apply below_alloc | apply pw_below_drewN | apply below_drew1) | exact HB.out))); (case aF => exact (fun _ _ => trivial)); (case aO => exact (by (with_reducible repeat (first | apply Kd.R_alloc | apply Kd.R_drewN | apply Kd.R_drew)); exact HO_3.out)); (case aS => exact (below_size (by repeat (first | (with_reducible first | exact HB.out | apply below_alloc | apply pw_below_drewN | apply below_drew1) | exact HB.out)))); (case aL => have := LMc13.out; omega); intro v131 w14 ho hb hg hat; rw [← Ny130.out] at ho; have n0_ := Aside0.mk (hb); have n1_ := Aside0.mk (ho); clear HB; clear HO_3; have HB := n0_; have HO132 := n1_; clear n0_ n1_; clear ho hb hg hat))
       go_ret
       exact ⟨_, by first | rfl | (simp [errW_none, errW_some] <;> rfl) | (simp [*, errW_none, errW_some] <;> rfl), by (with_reducible repeat (first | apply Kd.R_alloc | apply Kd.R_drewN | apply Kd.R_drew)); exact HO132.out, by repeat (first | (with_reducible first | exact HB.out | apply below_alloc | apply pw_below_drewN | apply below_drew1) | exact HB.out)⟩
      ·rw [if_neg c13] at H
       exact absurd H (by simp)
     ·rw [if_neg c12] at H
      exact absurd H (by simp)
    ·rw [if_neg c11] at H
     exact absurd H (by simp)

end Go.Proofs.YtodifojhegbjaaaDoor.PReportLines
