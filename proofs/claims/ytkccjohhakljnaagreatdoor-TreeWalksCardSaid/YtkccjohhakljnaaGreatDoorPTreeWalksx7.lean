/- The machine side of a law: for each Go function that it uses a Lean function with the same answers, and the proof that the Go code comes to them; or the row of the law over these. Written by a program of this session. -/
import Derived.Test.YtkccjohhakljnaaGreatDoorPTreeWalksx0
import Derived.Test.YtkccjohhakljnaaGreatDoorPTreeWalksx6
namespace Go.Proofs.YtkccjohhakljnaaGreatDoor.PTreeWalks
open Go.RowKit Go.Proofs.YtkccjohhakljnaaGreatDoorW.PrintWords Go.Proofs.YtkccjohhakljnaaGreatDoorW.PrintLast Go.Proofs.YtkccjohhakljnaaGreatDoorW.PrintMore
attribute [local go_sem] max2_int min2_int max_two min_two max_three min_three max_four min_four   -- for this text's walks alone
set_option linter.unusedVariables false
set_option linter.unusedSimpArgs false

/-! ### bindleref39_Walk: function 14 -/
def bindleref39_Walk.l0 : Nat → List (S49) → List (S36) → List (S36) → Option ((List (S36)))
 | 0, _, _, _ => none
 | k + 1, x0, x5, x6 => if (x5.length : Int) > 0 then (if 0 < (x5.length : Int) then (if x6.length < 2199023255552 then ((some (x6 ++ [(⟨(rd_T36 x5 0).f0, (rd_T36 x5 0).f1, (rd_T36 x5 0).f2, (rd_T36 x5 0).f3, (rd_T36 x5 0).f4, (rd_T36 x5 0).f5⟩ : S36)] : List (S36))).bind fun y240 => (if (rd_T36 x5 0).f3 = true then ((bindleref39_List.f k x0 ((rd_T36 x5 0).f4) (wrap64 (((rd_T36 x5 0).f5) + 1))).bind fun t243 => (if 1 ≤ (x5.length : Int) then ((some (x5.drop 1 : List (S36))).bind fun y246 => (if t243.length + y246.length < 2199023255552 then (bindleref39_Walk.l0 k x0 (t243 ++ y246) y240) else (none))) else (none))) else (if 1 ≤ (x5.length : Int) then ((some (x5.drop 1 : List (S36))).bind fun y253 => (if ([] : List (S36)).length + y253.length < 2199023255552 then (bindleref39_Walk.l0 k x0 (([] : List (S36)) ++ y253) y240) else (none))) else (none)))) else (none)) else (none)) else (some x6)
def bindleref39_Walk.f (k : Nat) (l0 : List (S49)) (a1 : ByteArray) : Option ((List (S36))) := (bindleref39_List.f k l0 a1 0).bind fun t235 => (bindleref39_Walk.l0 k l0 t235 ([] : List (S36)))
theorem bindleref39_Walk.mono_l : ∀ k, (∀ y0 y1 y2, LeO (bindleref39_Walk.l0 k y0 y1 y2) (bindleref39_Walk.l0 (k + 1) y0 y1 y2))
 | 0 => fun _ _ _ r h => by simp [bindleref39_Walk.l0] at h
 | k + 1 => by
  have ih0 := bindleref39_Walk.mono_l k
  ·intro y0 y1 y2
   unfold bindleref39_Walk.l0
   repeat' first
   | (with_reducible exact ih0 _ _ _)
   | (with_reducible exact bindleref39_List.mono _ _ _ _)
   | (with_reducible exact LeO.refl _)
   | (with_reducible exact LeO.none _)
   | (with_reducible refine LeO.ite ?_ ?_)
   | (with_reducible refine LeO.bind ?_ (fun _ => ?_))
   | exact ih0 _ _ _
   | exact bindleref39_List.mono _ _ _ _
   | exact LeO.none _
   | refine LeO.ite ?_ ?_
   | refine LeO.bind ?_ (fun _ => ?_)
theorem bindleref39_Walk.mono : ∀ a0 a1 k, LeO (bindleref39_Walk.f k a0 a1) (bindleref39_Walk.f (k + 1) a0 a1) := by
 intro a0 a1 k
 have ih0 := bindleref39_Walk.mono_l k
 unfold bindleref39_Walk.f
 repeat' first
   | (with_reducible exact ih0 _ _ _)
   | (with_reducible exact bindleref39_List.mono _ _ _ _)
   | (with_reducible exact LeO.refl _)
   | (with_reducible exact LeO.none _)
   | (with_reducible refine LeO.ite ?_ ?_)
   | (with_reducible refine LeO.bind ?_ (fun _ => ?_))
   | exact ih0 _ _ _
   | exact bindleref39_List.mono _ _ _ _
   | exact LeO.none _
   | refine LeO.ite ?_ ?_
   | refine LeO.bind ?_ (fun _ => ?_)
set_option maxHeartbeats 8000000 in
set_option maxRecDepth 100000 in
theorem bindleref39_Walk.calls (k : Nat) (A0 : Option Addr) (c0 : Nat) (l0 : List (S49)) (a1 : ByteArray) (r : List (S36)) (w : World) (hr0 : Kd.C k49 w A0 l0.length l0) (hc0 : l0.length ≤ c0) (h : bindleref39_Walk.f k l0 a1 = some r) :
  Calls Tryz.prog 14 #[.slice A0 l0.length c0, .string a1] w fun e w' => ∃ v0_ : Value, e = .returned (v0_) ∧ Kd.R k36 36 w' w.heap.size (fun _ => True) v0_ r ∧ Below w.heap.size w w' := by
 have hu36 := Tryz.underlying36
 have HR0 := Aside0.mk hr0
 have HC0 := Aside0.mk hc0
 clear hr0 hc0
 have HB := Aside0.mk (Below.refl w.heap.size w)
 have H : ((bindleref39_List.f k l0 a1 0).bind fun t235 => (bindleref39_Walk.l0 k l0 t235 ([] : List (S36)))) = some r := h
 clear h
 replace H := Option.bind_eq_some_iff.mp H
 obtain ⟨t235, A30, H⟩ := H
 replace H : (bindleref39_Walk.l0 k l0 t235 ([] : List (S36))) = some r := H
 have A3 := Aside0.mk A30
 clear A30
 have H' := Aside0.mk H
 clear H
 go_enter Tryz.func14, Tryz.ntmps14
 go_wp2_with (first | ((with_reducible refine gate_callee (f := 11) rfl ?_); refine goesL_ (some 11) rfl rfl Tryz.func11 (by kernel_rfl) rfl #[.slice A0 l0.length c0, .string a1, .int .i64 0] rfl (by (try simp only [List.map_toArray, List.map_cons, List.map_nil]); first | done | rfl | (simp only [List.length_drop, List.length_take]; rfl)) ?_; (with_reducible refine (bindleref39_List.calls k _ _ l0 a1 0 t235 _ ?side1 ?side2 A3.out).mono ?_); (case side1 => repeat (first | exact HR0.out | (with_reducible refine Kd.C_alloc ?_ _) | (with_reducible refine Kd.C_drewN ?_ _) | (with_reducible refine Kd.C_drew ?_))); (case side2 => exact HC0.out); rintro e w4 ⟨v236, rfl, ho0, hb⟩; refine ⟨_, rfl, ?_⟩; have n0_ := Aside0.mk (Kd.R_lower ho0 (below_size (by repeat (first | (with_reducible first | exact HB.out | apply below_alloc | apply pw_below_drewN | apply below_drew1) | exact HB.out)))); have n1_ := Aside0.mk (below_step (by repeat (first | (with_reducible first | exact HB.out | apply below_alloc | apply pw_below_drewN | apply below_drew1) | exact HB.out)) hb); clear HB; have HO237 := n0_; have HB := n1_; clear n0_ n1_; (try clear hb); (try clear hb2); (try clear hk); (try clear hi); (try clear ho0)))
 go_loopg [5, 6] k (fun kq v5 v6 w' => ∃ (x5_1 : List (S36)) (x6_1 : List (S36)), Aside0 (bindleref39_Walk.l0 kq l0 x5_1 x6_1 = some r) ∧ Aside0 (kq ≤ k) ∧ Aside0 (Kd.R k36 36 w' w.heap.size (fun k_ => some k_ ≠ (v6 : Value).ownBlock) v5 x5_1) ∧ Aside0 (Kd.R k36 36 w' w.heap.size (fun k_ => some k_ ≠ (v5 : Value).ownBlock) v6 x6_1) ∧ Aside0 (Below w.heap.size w w'))
 case atStart => exact ⟨(t235), (([] : List (S36))), H', ⟨Nat.le_refl _⟩, ⟨by (with_reducible repeat (first | apply Kd.R_alloc | apply Kd.R_drewN | apply Kd.R_drew)); exact Kd.R_mono HO237.out (fun _ hk => (by simp [Value.ownBlock]))⟩, ⟨by first | exact Kd.R_nil _ _ _ _ _ | exact Kd.N_nil _ _ _ _ _ | exact Kd.V_nil _ _ _ _ _ | exact Kd.Q_nil _ _ _ _ _ | exact Kd.S_nil _ _ _ _ _⟩, ⟨by repeat (first | (with_reducible first | exact HB.out | apply below_alloc | apply pw_below_drewN | apply below_drew1) | exact HB.out)⟩⟩
 case round =>
  clear H'
  try clear c1
  try clear p2
  obtain ⟨x5_1, x6_1, HA, HK1, HO_5, HO_6, HB⟩ := hrel
  cases gk with
  | zero => exact absurd HA.out (by simp [bindleref39_Walk.l0])
  | succ k1 =>
   have H := HA.out
   clear HA
   simp only [bindleref39_Walk.l0] at H
   by_cases c5 : (x5_1.length : Int) > 0
   ·rw [if_pos c5] at H
    have c5b0 : decide (0 < (x5_1.length : Int)) = true := decide_eq_true c5
    have c5b1 : decide (0 < x5_1.length) = true := decide_eq_true (by omega)
    clear c5
    by_cases c6 : 0 < (x5_1.length : Int)
    ·rw [if_pos c6] at H
     have c6b0 : decide (0 < (x5_1.length : Int)) = true := decide_eq_true c6
     have c6b1 : decide (0 < x5_1.length) = true := decide_eq_true (by omega)
     clear c6
     by_cases c7 : x6_1.length < 2199023255552
     ·rw [if_pos c7] at H
      have LMc7 := Aside0.mk c7
      clear c7
      obtain ⟨y240, hy240⟩ : ∃ y_ : List (S36), y_ = (x6_1 ++ [(⟨(rd_T36 x5_1 0).f0, (rd_T36 x5_1 0).f1, (rd_T36 x5_1 0).f2, (rd_T36 x5_1 0).f3, (rd_T36 x5_1 0).f4, (rd_T36 x5_1 0).f5⟩ : S36)]) := ⟨_, rfl⟩
      replace H : (if (rd_T36 x5_1 0).f3 = true then ((bindleref39_List.f k1 l0 ((rd_T36 x5_1 0).f4) (wrap64 (((rd_T36 x5_1 0).f5) + 1))).bind fun t243 => (if 1 ≤ (x5_1.length : Int) then ((some (x5_1.drop 1 : List (S36))).bind fun y246 => (if t243.length + y246.length < 2199023255552 then (bindleref39_Walk.l0 k1 l0 (t243 ++ y246) y240) else (none))) else (none))) else (if 1 ≤ (x5_1.length : Int) then ((some (x5_1.drop 1 : List (S36))).bind fun y253 => (if ([] : List (S36)).length + y253.length < 2199023255552 then (bindleref39_Walk.l0 k1 l0 (([] : List (S36)) ++ y253) y240) else (none))) else (none))) = some r := by first | (rw [hy240]; with_reducible exact H) | (have H2_ := (Option.bind_some _ _).symm.trans H; rw [hy240]; with_reducible exact H2_) | (have H2_ := (Option.bind_some _ _).symm.trans H; with_reducible exact H2_) | with_reducible exact H | (rw [hy240]; exact H) | exact H
      have Ny240 := Aside0.mk hy240
      clear hy240
      obtain ⟨bq8, hbq8⟩ : ∃ b_ : Bool, b_ = ((rd_T36 x5_1 0).f3) := ⟨_, rfl⟩
      replace H : (if bq8 = true then ((bindleref39_List.f k1 l0 ((rd_T36 x5_1 0).f4) (wrap64 (((rd_T36 x5_1 0).f5) + 1))).bind fun t243 => (if 1 ≤ (x5_1.length : Int) then ((some (x5_1.drop 1 : List (S36))).bind fun y246 => (if t243.length + y246.length < 2199023255552 then (bindleref39_Walk.l0 k1 l0 (t243 ++ y246) y240) else (none))) else (none))) else (if 1 ≤ (x5_1.length : Int) then ((some (x5_1.drop 1 : List (S36))).bind fun y253 => (if ([] : List (S36)).length + y253.length < 2199023255552 then (bindleref39_Walk.l0 k1 l0 (([] : List (S36)) ++ y253) y240) else (none))) else (none))) = some r := by rw [← hbq8] at H; exact H
      have Nbq8 := Aside0.mk hbq8
      clear hbq8
      by_cases c9 : bq8 = true
      ·subst c9
       have H1 : ((bindleref39_List.f k1 l0 ((rd_T36 x5_1 0).f4) (wrap64 (((rd_T36 x5_1 0).f5) + 1))).bind fun t243 => (if 1 ≤ (x5_1.length : Int) then ((some (x5_1.drop 1 : List (S36))).bind fun y246 => (if t243.length + y246.length < 2199023255552 then (bindleref39_Walk.l0 k1 l0 (t243 ++ y246) y240) else (none))) else (none))) = some r := by rw [if_pos rfl] at H; exact H
       clear H
       have H := H1
       clear H1
       replace H := Option.bind_eq_some_iff.mp H
       obtain ⟨t243, A100, H⟩ := H
       replace H : (if 1 ≤ (x5_1.length : Int) then ((some (x5_1.drop 1 : List (S36))).bind fun y246 => (if t243.length + y246.length < 2199023255552 then (bindleref39_Walk.l0 k1 l0 (t243 ++ y246) y240) else (none))) else (none)) = some r := H
       have A10 := Aside0.mk A100
       clear A100
       by_cases c11 : 1 ≤ (x5_1.length : Int)
       ·rw [if_pos c11] at H
        have c11b0 := eq_true c11
        have c11b1 : decide (1 ≤ (x5_1.length : Int)) = true := decide_eq_true c11
        clear c11
        obtain ⟨y246, hy246⟩ : ∃ y_ : List (S36), y_ = (x5_1.drop 1) := ⟨_, rfl⟩
        replace H : (if t243.length + y246.length < 2199023255552 then (bindleref39_Walk.l0 k1 l0 (t243 ++ y246) y240) else (none)) = some r := by first | (rw [hy246]; with_reducible exact H) | (have H2_ := (Option.bind_some _ _).symm.trans H; rw [hy246]; with_reducible exact H2_) | (have H2_ := (Option.bind_some _ _).symm.trans H; with_reducible exact H2_) | with_reducible exact H | (rw [hy246]; exact H) | exact H
        have Ny246 := Aside0.mk hy246
        clear hy246
        by_cases c12 : t243.length + y246.length < 2199023255552
        ·rw [if_pos c12] at H
         have LMc12 := Aside0.mk c12
         clear c12
         obtain ⟨y250, hy250⟩ : ∃ y_ : List (S36), y_ = (t243 ++ y246) := ⟨_, rfl⟩
         replace H : (bindleref39_Walk.l0 k1 l0 y250 y240) = some r := by first | (rw [hy250]; with_reducible exact H) | (have H2_ := (Option.bind_some _ _).symm.trans H; rw [hy250]; with_reducible exact H2_) | (have H2_ := (Option.bind_some _ _).symm.trans H; with_reducible exact H2_) | with_reducible exact H | (rw [hy250]; exact H) | exact H
         have Ny250 := Aside0.mk hy250
         clear hy250
         have H' := Aside0.mk H
         clear H
         obtain ⟨Ao13, co13, eo13⟩ := Kd.R_slice HO_5.out
         subst eo13
         have p238 : 0 ≤ (0 : Int) := (by omega)
         have q238 : 0 < (x5_1.length : Int) := of_decide_eq_true (by first | (with_reducible assumption) | assumption)
         obtain ⟨ad238, e238, hx238_0, hx238_1, hx238_2, hx238_3, hx238_4, hx238_5⟩ := at_T36 (Kd.R_reads' HO_5.out).2.2 0 p238 q238
         (try rw [← Nbq8.out] at hx238_3)
         cases e238
         have qi238 : (0 < x5_1.length) = True := eq_true (by omega)
         (try rw [show ((0 : Int)).toNat = 0 from rfl] at hx238_0)
         (try rw [show 0 * 6 = 0 from rfl] at hx238_0)
         (try rw [Addr.add_zero'] at hx238_0)
         (try rw [show ((0 : Int)).toNat = 0 from rfl] at hx238_1)
         (try rw [show 0 * 6 = 0 from rfl] at hx238_1)
         (try rw [Addr.add_zero'] at hx238_1)
         (try rw [show ((0 : Int)).toNat = 0 from rfl] at hx238_2)
         (try rw [show 0 * 6 = 0 from rfl] at hx238_2)
         (try rw [Addr.add_zero'] at hx238_2)
         (try rw [show ((0 : Int)).toNat = 0 from rfl] at hx238_3)
         (try rw [show 0 * 6 = 0 from rfl] at hx238_3)
         (try rw [Addr.add_zero'] at hx238_3)
         (try rw [show ((0 : Int)).toNat = 0 from rfl] at hx238_4)
         (try rw [show 0 * 6 = 0 from rfl] at hx238_4)
         (try rw [Addr.add_zero'] at hx238_4)
         (try rw [show ((0 : Int)).toNat = 0 from rfl] at hx238_5)
         (try rw [show 0 * 6 = 0 from rfl] at hx238_5)
         (try rw [Addr.add_zero'] at hx238_5)
         replace p238 := eq_true p238
         replace q238 := eq_true q238
         go_upto_region 5 with (((with_reducible refine gate_dst (N := 7) rfl ?_); refine box_event ?hg (N := 7) ?hd (cs := #[.string (⟨#[]⟩ : ByteArray), .int .i64 0, .int .i64 0, .bool false, .string (⟨#[]⟩ : ByteArray), .int .i64 0]) (t := 36) ?hr ?_; (case hd => rfl); (case hg => rfl); (case hr => first | (go_simp; done) | (go_simp; rfl)); intro gb239 hg w14 hbox hb; have n0_ := Aside0.mk (Kd.R_below (Kd.R_elderB (by (with_reducible repeat (first | apply Kd.R_alloc | apply Kd.R_drewN | apply Kd.R_drew)); exact HO_5.out) gb239 (Nat.le_of_eq hg.symm)) hb); have n1_ := Aside0.mk (Kd.R_below (Kd.R_elderB (by (with_reducible repeat (first | apply Kd.R_alloc | apply Kd.R_drewN | apply Kd.R_drew)); exact HO_6.out) gb239 (Nat.le_of_eq hg.symm)) hb); have n2_ := Aside0.mk (below_step (by repeat (first | (with_reducible first | exact HB.out | apply below_alloc | apply pw_below_drewN | apply below_drew1) | exact HB.out)) hb); have n3_ := Aside0.mk (hbox); have n4_ := Aside0.mk ((by rw [hg]; exact (below_size (by repeat (first | (with_reducible first | exact HB.out | apply below_alloc | apply pw_below_drewN | apply below_drew1) | exact HB.out))) : w.heap.size ≤ gb239)); have n5_ := Aside0.mk ((by rw [hg]; exact (below_size (by repeat (first | (with_reducible first | exact HB.out | apply below_alloc | apply pw_below_drewN | apply below_drew1) | exact HB.out))) : w.heap.size ≤ gb239)); clear HO_5; clear HO_6; clear HB; have HO_5 := n0_; have HO_6 := n1_; have HB := n2_; have BK239 := n3_; have GW239 := n4_; have GE239 := n5_; clear n0_ n1_ n2_ n3_ n4_ n5_; clear hb hbox hg; have hcz15_0 : w14.cell? ⟨gb239, 0, none⟩ = some (.string (⟨#[]⟩ : ByteArray)) := (blk_cell BK239.out 0).trans rfl; have hcz15_1 : w14.cell? ⟨gb239, 1, none⟩ = some (.int .i64 0) := (blk_cell BK239.out 1).trans rfl; have hcz15_2 : w14.cell? ⟨gb239, 2, none⟩ = some (.int .i64 0) := (blk_cell BK239.out 2).trans rfl; have hcz15_3 : w14.cell? ⟨gb239, 3, none⟩ = some (.bool false) := (blk_cell BK239.out 3).trans rfl; have hcz15_4 : w14.cell? ⟨gb239, 4, none⟩ = some (.string (⟨#[]⟩ : ByteArray)) := (blk_cell BK239.out 4).trans rfl; have hcz15_5 : w14.cell? ⟨gb239, 5, none⟩ = some (.int .i64 0) := (blk_cell BK239.out 5).trans rfl; have hfz15_0 := blk_frozen BK239.out 0; have hfz15_1 := blk_frozen BK239.out 1; have hfz15_2 := blk_frozen BK239.out 2; have hfz15_3 := blk_frozen BK239.out 3; have hfz15_4 := blk_frozen BK239.out 4; have hfz15_5 := blk_frozen BK239.out 5))
         have bk0_ := (blk_put (cs' := #[.string ((rd_T36 x5_1 0).f0), .int .i64 ((rd_T36 x5_1 0).f1), .int .i64 ((rd_T36 x5_1 0).f2), .bool true, .string ((rd_T36 x5_1 0).f4), .int .i64 ((rd_T36 x5_1 0).f5)]) (blk_put (cs' := #[.string ((rd_T36 x5_1 0).f0), .int .i64 ((rd_T36 x5_1 0).f1), .int .i64 ((rd_T36 x5_1 0).f2), .bool true, .string ((rd_T36 x5_1 0).f4), .int .i64 0]) (blk_put (cs' := #[.string ((rd_T36 x5_1 0).f0), .int .i64 ((rd_T36 x5_1 0).f1), .int .i64 ((rd_T36 x5_1 0).f2), .bool true, .string (⟨#[]⟩ : ByteArray), .int .i64 0]) (blk_put (cs' := #[.string ((rd_T36 x5_1 0).f0), .int .i64 ((rd_T36 x5_1 0).f1), .int .i64 ((rd_T36 x5_1 0).f2), .bool false, .string (⟨#[]⟩ : ByteArray), .int .i64 0]) (blk_put (cs' := #[.string ((rd_T36 x5_1 0).f0), .int .i64 ((rd_T36 x5_1 0).f1), .int .i64 0, .bool false, .string (⟨#[]⟩ : ByteArray), .int .i64 0]) (blk_put (cs' := #[.string ((rd_T36 x5_1 0).f0), .int .i64 0, .int .i64 0, .bool false, .string (⟨#[]⟩ : ByteArray), .int .i64 0]) BK239.out 0 _ rfl) 1 _ rfl) 2 _ rfl) 3 _ rfl) 4 _ rfl) 5 _ rfl)
         have q0_5 := (Kd.R_far (p := ⟨gb239, 5, none⟩) (Kd.R_far (p := ⟨gb239, 4, none⟩) (Kd.R_far (p := ⟨gb239, 3, none⟩) (Kd.R_far (p := ⟨gb239, 2, none⟩) (Kd.R_far (p := ⟨gb239, 1, none⟩) (Kd.R_far (p := ⟨gb239, 0, none⟩) (Kd.R_mono HO_5.out (fun k_ hk => (⟨hk, hk.2⟩ : _ ∧ k_ ≠ gb239))) (fun _ hk => hk.2) (.string ((rd_T36 x5_1 0).f0))) (fun _ hk => hk.2) (.int .i64 ((rd_T36 x5_1 0).f1))) (fun _ hk => hk.2) (.int .i64 ((rd_T36 x5_1 0).f2))) (fun _ hk => hk.2) (.bool true)) (fun _ hk => hk.2) (.string ((rd_T36 x5_1 0).f4))) (fun _ hk => hk.2) (.int .i64 ((rd_T36 x5_1 0).f5)))
         have q0_6 := (Kd.R_far (p := ⟨gb239, 5, none⟩) (Kd.R_far (p := ⟨gb239, 4, none⟩) (Kd.R_far (p := ⟨gb239, 3, none⟩) (Kd.R_far (p := ⟨gb239, 2, none⟩) (Kd.R_far (p := ⟨gb239, 1, none⟩) (Kd.R_far (p := ⟨gb239, 0, none⟩) (Kd.R_mono HO_6.out (fun k_ hk => (⟨hk, hk.2⟩ : _ ∧ k_ ≠ gb239))) (fun _ hk => hk.2) (.string ((rd_T36 x5_1 0).f0))) (fun _ hk => hk.2) (.int .i64 ((rd_T36 x5_1 0).f1))) (fun _ hk => hk.2) (.int .i64 ((rd_T36 x5_1 0).f2))) (fun _ hk => hk.2) (.bool true)) (fun _ hk => hk.2) (.string ((rd_T36 x5_1 0).f4))) (fun _ hk => hk.2) (.int .i64 ((rd_T36 x5_1 0).f5)))
         have hb0_ : Below w.heap.size w ((((((w14.setCell ⟨gb239, 0, none⟩ (.string ((rd_T36 x5_1 0).f0))).setCell ⟨gb239, 1, none⟩ (.int .i64 ((rd_T36 x5_1 0).f1))).setCell ⟨gb239, 2, none⟩ (.int .i64 ((rd_T36 x5_1 0).f2))).setCell ⟨gb239, 3, none⟩ (.bool true)).setCell ⟨gb239, 4, none⟩ (.string ((rd_T36 x5_1 0).f4))).setCell ⟨gb239, 5, none⟩ (.int .i64 ((rd_T36 x5_1 0).f5))) := (by repeat (first | exact HB.out | refine below_set ?_ GE239.out))
         clear hcz15_0 hcz15_1 hcz15_2 hcz15_3 hcz15_4 hcz15_5 hfz15_0 hfz15_1 hfz15_2 hfz15_3 hfz15_4 hfz15_5
         generalize ((((((w14.setCell ⟨gb239, 0, none⟩ (.string ((rd_T36 x5_1 0).f0))).setCell ⟨gb239, 1, none⟩ (.int .i64 ((rd_T36 x5_1 0).f1))).setCell ⟨gb239, 2, none⟩ (.int .i64 ((rd_T36 x5_1 0).f2))).setCell ⟨gb239, 3, none⟩ (.bool true)).setCell ⟨gb239, 4, none⟩ (.string ((rd_T36 x5_1 0).f4))).setCell ⟨gb239, 5, none⟩ (.int .i64 ((rd_T36 x5_1 0).f5))) = w15_ at bk0_ q0_5 q0_6 hb0_ ⊢
         have bk_ := Aside0.mk bk0_
         have q_5 := Aside0.mk q0_5
         have q_6 := Aside0.mk q0_6
         replace HB := Aside0.mk hb0_
         have hcz15_0 : w15_.cell? ⟨gb239, 0, none⟩ = some (.string ((rd_T36 x5_1 0).f0)) := (blk_cell bk_.out 0).trans rfl
         have hcz15_1 : w15_.cell? ⟨gb239, 1, none⟩ = some (.int .i64 ((rd_T36 x5_1 0).f1)) := (blk_cell bk_.out 1).trans rfl
         have hcz15_2 : w15_.cell? ⟨gb239, 2, none⟩ = some (.int .i64 ((rd_T36 x5_1 0).f2)) := (blk_cell bk_.out 2).trans rfl
         have hcz15_3 : w15_.cell? ⟨gb239, 3, none⟩ = some (.bool true) := (blk_cell bk_.out 3).trans rfl
         have hcz15_4 : w15_.cell? ⟨gb239, 4, none⟩ = some (.string ((rd_T36 x5_1 0).f4)) := (blk_cell bk_.out 4).trans rfl
         have hcz15_5 : w15_.cell? ⟨gb239, 5, none⟩ = some (.int .i64 ((rd_T36 x5_1 0).f5)) := (blk_cell bk_.out 5).trans rfl
         clear bk0_ hb0_ q0_5 q0_6
         go_upto_region 7 with (((with_reducible refine gate_builtin (b := .append) (xs := #[.tmp 18, .tmp 20]) rfl ?_); at_builtin; refine Kd.R_append k36 (w0 := w) w.heap.size rfl (.tmp 18) (.tmp 20) 29 36 (.agg #[(.string ⟨#[]⟩), (.int .i64 0), (.int .i64 0), (.bool false), (.string ⟨#[]⟩), (.int .i64 0)]) 64 rfl Tryz.underlying29 info36 rfl (by decide) (by omega) u6 x6_1 (⟨(rd_T36 x5_1 0).f0, (rd_T36 x5_1 0).f1, (rd_T36 x5_1 0).f2, true, (rd_T36 x5_1 0).f4, (rd_T36 x5_1 0).f5⟩ : S36) [.string ((rd_T36 x5_1 0).f0), .int .i64 ((rd_T36 x5_1 0).f1), .int .i64 ((rd_T36 x5_1 0).f2), .bool true, .string ((rd_T36 x5_1 0).f4), .int .i64 ((rd_T36 x5_1 0).f5)] (fun k_ => some k_ ≠ (.slice (some ad238) x5_1.length co13 : Value).ownBlock ∧ k_ ≠ gb239) (fun _ => False) rfl (by first | (go_simp; done) | (go_simp; rfl)) ?aP (fun _ hk => hk.elim) ?aF ?aO ?aB ?aS ?aL ?_; (case aP => exact k36_mkM _ _ _ (⟨(rd_T36 x5_1 0).f0, (rd_T36 x5_1 0).f1, (rd_T36 x5_1 0).f2, true, (rd_T36 x5_1 0).f4, (rd_T36 x5_1 0).f5⟩ : S36)); (case aB => exact (by repeat (first | (with_reducible first | exact HB.out | apply below_alloc | apply pw_below_drewN | apply below_drew1 | refine below_set ?_ GE239.out) | exact HB.out))); (case aF => exact (fun k_ hk => ⟨Kd.fresh' (Kd.R_lt (by (with_reducible repeat (first | apply Kd.R_alloc | apply Kd.R_drewN | apply Kd.R_drew)); exact (Kd.R_mono q_5.out (fun _ h_ => h_.1)))) k_ hk, Kd.freshB (g := gb239) (o := .cells #[.string ((rd_T36 x5_1 0).f0), .int .i64 ((rd_T36 x5_1 0).f1), .int .i64 ((rd_T36 x5_1 0).f2), .bool true, .string ((rd_T36 x5_1 0).f4), .int .i64 ((rd_T36 x5_1 0).f5)] 36 (0, 0)) bk_.out k_ hk⟩)); (case aO => exact (by (with_reducible repeat (first | apply Kd.R_alloc | apply Kd.R_drewN | apply Kd.R_drew)); exact Kd.R_mono q_6.out (fun _ hk => ⟨hk.1.1, hk.1.2⟩))); (case aS => exact (below_size (by repeat (first | (with_reducible first | exact HB.out | apply below_alloc | apply pw_below_drewN | apply below_drew1 | refine below_set ?_ GE239.out) | exact HB.out)))); (case aL => have := LMc7.out; omega); intro v241 w16 ho hb hg hat; have ny_ := Ny240.out; rw [← Nbq8.out] at ny_; rw [← ny_] at ho; clear ny_; have n0_ := Aside0.mk (Kd.R_after (ok := (fun k_ => k_ ≠ gb239)) (by (with_reducible repeat (first | apply Kd.R_alloc | apply Kd.R_drewN | apply Kd.R_drew)); exact Kd.R_mono q_5.out (fun _ hk => ⟨hk.1.2, hk.1.1⟩)) hg hat); have n1_ := Aside0.mk (blk_grown (g := gb239) (o := .cells #[.string ((rd_T36 x5_1 0).f0), .int .i64 ((rd_T36 x5_1 0).f1), .int .i64 ((rd_T36 x5_1 0).f2), .bool true, .string ((rd_T36 x5_1 0).f4), .int .i64 ((rd_T36 x5_1 0).f5)] 36 (0, 0)) bk_.out hg (Kd.R_away HO_6.out (fun _ hk => hk.2))); have n2_ := Aside0.mk (hb); have n3_ := Aside0.mk (ho); clear HO_5 q_5; clear BK239 bk_; clear HB; clear HO_6 q_6; have HO_5 := n0_; have BK239 := n1_; have HB := n2_; have HO242 := n3_; clear n0_ n1_ n2_ n3_; clear ho hb hg hat; have hcz17_0 : w16.cell? ⟨gb239, 0, none⟩ = some (.string ((rd_T36 x5_1 0).f0)) := (blk_cell BK239.out 0).trans rfl; have hcz17_1 : w16.cell? ⟨gb239, 1, none⟩ = some (.int .i64 ((rd_T36 x5_1 0).f1)) := (blk_cell BK239.out 1).trans rfl; have hcz17_2 : w16.cell? ⟨gb239, 2, none⟩ = some (.int .i64 ((rd_T36 x5_1 0).f2)) := (blk_cell BK239.out 2).trans rfl; have hcz17_3 : w16.cell? ⟨gb239, 3, none⟩ = some (.bool true) := (blk_cell BK239.out 3).trans rfl; have hcz17_4 : w16.cell? ⟨gb239, 4, none⟩ = some (.string ((rd_T36 x5_1 0).f4)) := (blk_cell BK239.out 4).trans rfl; have hcz17_5 : w16.cell? ⟨gb239, 5, none⟩ = some (.int .i64 ((rd_T36 x5_1 0).f5)) := (blk_cell BK239.out 5).trans rfl; have hfz17_0 := blk_frozen BK239.out 0; have hfz17_1 := blk_frozen BK239.out 1; have hfz17_2 := blk_frozen BK239.out 2; have hfz17_3 := blk_frozen BK239.out 3; have hfz17_4 := blk_frozen BK239.out 4; have hfz17_5 := blk_frozen BK239.out 5))
         go_wp2_with (first | ((with_reducible refine gate_callee (f := 11) rfl ?_); refine goesL_ (some 30) rfl rfl Tryz.func11 (by kernel_rfl) rfl #[.slice A0 l0.length c0, .string ((rd_T36 x5_1 0).f4), .int .i64 (wrap64 (((rd_T36 x5_1 0).f5) + 1))] rfl (by (try simp only [List.map_toArray, List.map_cons, List.map_nil]); first | done | rfl | (simp only [List.length_drop, List.length_take]; rfl)) ?_; (with_reducible refine (bindleref39_List.calls k1 _ _ l0 ((rd_T36 x5_1 0).f4) (wrap64 (((rd_T36 x5_1 0).f5) + 1)) t243 _ ?side1 ?side2 A10.out).mono ?_); (case side1 => repeat (first | exact (Kd.C_below HR0.out HB.out) | (with_reducible refine Kd.C_alloc ?_ _) | (with_reducible refine Kd.C_drewN ?_ _) | (with_reducible refine Kd.C_drew ?_))); (case side2 => exact HC0.out); rintro e w18 ⟨v244, rfl, ho0, hb⟩; refine ⟨_, rfl, ?_⟩; have n0_ := Aside0.mk (Kd.R_elder' (by (with_reducible repeat (first | apply Kd.R_alloc | apply Kd.R_drewN | apply Kd.R_drew)); exact HO_5.out) (Kd.R_base ho0) hb); have n1_ := Aside0.mk (Kd.R_elder' (by (with_reducible repeat (first | apply Kd.R_alloc | apply Kd.R_drewN | apply Kd.R_drew)); exact HO242.out) (Kd.R_base ho0) hb); have n2_ := Aside0.mk (Kd.R_lower (Kd.R_newB (Kd.R_new' (Kd.R_new' ho0 (Kd.R_lt (by (with_reducible repeat (first | apply Kd.R_alloc | apply Kd.R_drewN | apply Kd.R_drew)); exact HO_5.out))) (Kd.R_lt (by (with_reducible repeat (first | apply Kd.R_alloc | apply Kd.R_drewN | apply Kd.R_drew)); exact HO242.out))) (g := gb239) (o := .cells #[.string ((rd_T36 x5_1 0).f0), .int .i64 ((rd_T36 x5_1 0).f1), .int .i64 ((rd_T36 x5_1 0).f2), .bool true, .string ((rd_T36 x5_1 0).f4), .int .i64 ((rd_T36 x5_1 0).f5)] 36 (0, 0)) (by (with_reducible repeat (first | refine blk_drewN ?_ _ | refine blk_drew ?_ | refine blk_alloc ?_ _)); exact BK239.out)) (below_size (by repeat (first | (with_reducible first | exact HB.out | apply below_alloc | apply pw_below_drewN | apply below_drew1 | refine below_set ?_ GE239.out) | exact HB.out)))); have n3_ := Aside0.mk (blk_below (g := gb239) (o := .cells #[.string ((rd_T36 x5_1 0).f0), .int .i64 ((rd_T36 x5_1 0).f1), .int .i64 ((rd_T36 x5_1 0).f2), .bool true, .string ((rd_T36 x5_1 0).f4), .int .i64 ((rd_T36 x5_1 0).f5)] 36 (0, 0)) (by (with_reducible repeat (first | refine blk_drewN ?_ _ | refine blk_drew ?_ | refine blk_alloc ?_ _)); exact BK239.out) hb); have n4_ := Aside0.mk (below_step (by repeat (first | (with_reducible first | exact HB.out | apply below_alloc | apply pw_below_drewN | apply below_drew1 | refine below_set ?_ GE239.out) | exact HB.out)) hb); clear HO_5; clear HO242; clear BK239; clear HB; have HO_5 := n0_; have HO242 := n1_; have HO245 := n2_; have BK239 := n3_; have HB := n4_; clear n0_ n1_ n2_ n3_ n4_; (try clear hb); (try clear hb2); (try clear hk); (try clear hi); (try clear ho0); have q19 : (1 : Int) ≤ ((x5_1.length : Int) : Int) := of_decide_eq_true (by first | (with_reducible assumption) | assumption); obtain ⟨i019, hi019, _, hsz19, _⟩ := info_parts info36; have hroom19 : x5_1.length ≤ co13 := (Kd.R_reads' HO_5.out).2.1; have hC19 : Kd.C k36 _ (some ad238) x5_1.length x5_1 := (Kd.R_reads' HO_5.out).2.2; have hcut19 := cut_from (P := Tryz.prog) 29 36 .i64 Tryz.underlying29 hi019 6 hsz19 (some ad238) x5_1.length co13 1 (by omega) q19; have hr19 := Kd.C_drop (m := (1 : Int).toNat) (c := co13) hC19 (by omega) hroom19; obtain ⟨A19, hA19⟩ : ∃ Az_, Az_ = (if co13 = (1 : Int).toNat then (some ad238) else ((some ad238) : Option Addr).map (·.add ((1 : Int).toNat * 6))) := ⟨_, rfl⟩; obtain ⟨c19, hc19⟩ : ∃ cz_, cz_ = co13 - (1 : Int).toNat := ⟨_, rfl⟩; have hy19 : y246.length = x5_1.length - (1 : Int).toNat := (by rw [Ny246.out, List.length_drop] <;> omega); rw [show (x5_1).drop (1 : Int).toNat = y246 from Ny246.out.symm] at hr19; replace hr19 : Kd.C k36 _ A19 y246.length y246 := (by rw [hA19]; exact hr19); rw [← hy19, ← hA19, ← hc19] at hcut19; have HR249 := Aside0.mk hr19; have HC249 := Aside0.mk (show y246.length ≤ c19 from by rw [hy19, hc19]; exact Nat.sub_le_sub_right hroom19 _); clear hr19 hC19 hroom19 hi019 hsz19 hc19; have KY19 := Aside0.mk hy19; have KA19 := Aside0.mk hA19; clear hy19 hA19; have KL19 := Aside0.mk (show 1 ≤ x5_1.length from by omega); replace q19 := eq_true q19) | ((with_reducible refine gate_builtin (b := .append) (xs := #[.tmp 31, .tmp 33]) rfl ?_); at_builtin; refine Kd.R_append_rows k36 (w0 := w) w.heap.size rfl (.tmp 31) (.tmp 33) 29 36 (.agg #[(.string ⟨#[]⟩), (.int .i64 0), (.int .i64 0), (.bool false), (.string ⟨#[]⟩), (.int .i64 0)]) 64 rfl Tryz.underlying29 info36 rfl (by decide) (by omega) v244 t243 y246 _ _ _ (fun k_ => some k_ ≠ (.slice (some ad238) x5_1.length co13 : Value).ownBlock ∧ some k_ ≠ (v241 : Value).ownBlock ∧ k_ ≠ gb239) (fun _ => False) rfl rfl ?aO ?aR (fun _ _ h => h) (fun _ h => h.elim) ?aF ?aB ?aS ?aL ?_; (case aR => repeat (first | exact (by repeat (first | (with_reducible exact HR249.out) | (with_reducible refine Kd.C_alloc ?_ _) | (with_reducible refine Kd.C_drewN ?_ _) | (with_reducible refine Kd.C_drew ?_) | exact HR249.out)) | (with_reducible refine Kd.C_alloc ?_ _) | (with_reducible refine Kd.C_drewN ?_ _) | (with_reducible refine Kd.C_drew ?_))); (case aB => exact (by repeat (first | (with_reducible first | exact HB.out | apply below_alloc | apply pw_below_drewN | apply below_drew1 | refine below_set ?_ GE239.out) | exact HB.out))); (case aF => exact (fun k_ hk => ⟨Kd.fresh' (Kd.R_lt (by (with_reducible repeat (first | apply Kd.R_alloc | apply Kd.R_drewN | apply Kd.R_drew)); exact HO_5.out)) k_ hk, Kd.fresh' (Kd.R_lt (by (with_reducible repeat (first | apply Kd.R_alloc | apply Kd.R_drewN | apply Kd.R_drew)); exact HO242.out)) k_ hk, Kd.freshB (g := gb239) (o := .cells #[.string ((rd_T36 x5_1 0).f0), .int .i64 ((rd_T36 x5_1 0).f1), .int .i64 ((rd_T36 x5_1 0).f2), .bool true, .string ((rd_T36 x5_1 0).f4), .int .i64 ((rd_T36 x5_1 0).f5)] 36 (0, 0)) (by (with_reducible repeat (first | refine blk_drewN ?_ _ | refine blk_drew ?_ | refine blk_alloc ?_ _)); exact BK239.out) k_ hk⟩)); (case aO => exact (by (with_reducible repeat (first | apply Kd.R_alloc | apply Kd.R_drewN | apply Kd.R_drew)); exact Kd.R_mono HO245.out (fun _ hk => ⟨hk.1.1.2, ⟨hk.1.2, hk.2⟩⟩))); (case aS => exact (below_size (by repeat (first | (with_reducible first | exact HB.out | apply below_alloc | apply pw_below_drewN | apply below_drew1 | refine below_set ?_ GE239.out) | exact HB.out)))); (case aL => have := LMc12.out; omega); intro v251 w20 ho hb hg hat; rw [← Ny250.out] at ho; have n0_ := Aside0.mk (Kd.R_after (ok := (fun k_ => some k_ ≠ (v241 : Value).ownBlock ∧ k_ ≠ gb239)) (by (with_reducible repeat (first | apply Kd.R_alloc | apply Kd.R_drewN | apply Kd.R_drew)); exact Kd.R_mono HO_5.out (fun _ hk => ⟨⟨hk.1.2, hk.1.1⟩, hk.2⟩)) hg hat); have n1_ := Aside0.mk (blk_grown (g := gb239) (o := .cells #[.string ((rd_T36 x5_1 0).f0), .int .i64 ((rd_T36 x5_1 0).f1), .int .i64 ((rd_T36 x5_1 0).f2), .bool true, .string ((rd_T36 x5_1 0).f4), .int .i64 ((rd_T36 x5_1 0).f5)] 36 (0, 0)) (by (with_reducible repeat (first | refine blk_drewN ?_ _ | refine blk_drew ?_ | refine blk_alloc ?_ _)); exact BK239.out) hg (Kd.R_away HO245.out (fun _ hk => hk.2))); have n2_ := Aside0.mk (Kd.R_after (ok := (fun k_ => some k_ ≠ (.slice (some ad238) x5_1.length co13 : Value).ownBlock ∧ k_ ≠ gb239)) (by (with_reducible repeat (first | apply Kd.R_alloc | apply Kd.R_drewN | apply Kd.R_drew)); exact HO242.out) hg hat); have n3_ := Aside0.mk (hb); have n4_ := Aside0.mk ((show Kd.C k36 w20 A19 y246.length y246 from by rw [Ny246.out, KA19.out]; exact Kd.C_drop (m := 1) (c := co13) ((Kd.R_reads' (Kd.R_after (ok := (fun k_ => some k_ ≠ (v241 : Value).ownBlock ∧ k_ ≠ gb239)) (by (with_reducible repeat (first | apply Kd.R_alloc | apply Kd.R_drewN | apply Kd.R_drew)); exact Kd.R_mono HO_5.out (fun _ hk => ⟨⟨hk.1.2, hk.1.1⟩, hk.2⟩)) hg hat)).2.2) KL19.out ((Kd.R_reads' (Kd.R_after (ok := (fun k_ => some k_ ≠ (v241 : Value).ownBlock ∧ k_ ≠ gb239)) (by (with_reducible repeat (first | apply Kd.R_alloc | apply Kd.R_drewN | apply Kd.R_drew)); exact Kd.R_mono HO_5.out (fun _ hk => ⟨⟨hk.1.2, hk.1.1⟩, hk.2⟩)) hg hat)).2.1))); have n5_ := Aside0.mk (ho); clear HO_5; clear BK239; clear HO242; clear HB; clear HR249; clear HO245; have HO_5 := n0_; have BK239 := n1_; have HO242 := n2_; have HB := n3_; have HR249 := n4_; have HO252 := n5_; clear n0_ n1_ n2_ n3_ n4_ n5_; clear ho hb hg hat))
         go_roundg k1
         case measure => have := HK1.out; omega
         case rel => exact ⟨(y250), (y240), H', ⟨by have := HK1.out; omega⟩, ⟨by (with_reducible repeat (first | apply Kd.R_alloc | apply Kd.R_drewN | apply Kd.R_drew)); exact Kd.R_mono HO252.out (fun _ hk => hk.2.1)⟩, ⟨by (with_reducible repeat (first | apply Kd.R_alloc | apply Kd.R_drewN | apply Kd.R_drew)); exact Kd.R_mono HO242.out (fun _ hk => hk.2)⟩, ⟨by repeat (first | (with_reducible first | exact HB.out | apply below_alloc | apply pw_below_drewN | apply below_drew1 | refine below_set ?_ GE239.out) | exact HB.out)⟩⟩
        ·rw [if_neg c12] at H
         exact absurd H (by simp)
       ·rw [if_neg c11] at H
        exact absurd H (by simp)
      ·replace c9 := Bool.eq_false_iff.mpr c9
       subst c9
       have H1 : (if 1 ≤ (x5_1.length : Int) then ((some (x5_1.drop 1 : List (S36))).bind fun y253 => (if ([] : List (S36)).length + y253.length < 2199023255552 then (bindleref39_Walk.l0 k1 l0 (([] : List (S36)) ++ y253) y240) else (none))) else (none)) = some r := by rw [if_neg (show ¬ (false = true) by decide)] at H; exact H
       clear H
       have H := H1
       clear H1
       by_cases c21 : 1 ≤ (x5_1.length : Int)
       ·rw [if_pos c21] at H
        have c21b0 := eq_true c21
        have c21b1 : decide (1 ≤ (x5_1.length : Int)) = true := decide_eq_true c21
        clear c21
        obtain ⟨y253, hy253⟩ : ∃ y_ : List (S36), y_ = (x5_1.drop 1) := ⟨_, rfl⟩
        replace H : (if ([] : List (S36)).length + y253.length < 2199023255552 then (bindleref39_Walk.l0 k1 l0 (([] : List (S36)) ++ y253) y240) else (none)) = some r := by first | (rw [hy253]; with_reducible exact H) | (have H2_ := (Option.bind_some _ _).symm.trans H; rw [hy253]; with_reducible exact H2_) | (have H2_ := (Option.bind_some _ _).symm.trans H; with_reducible exact H2_) | with_reducible exact H | (rw [hy253]; exact H) | exact H
        have Ny253 := Aside0.mk hy253
        clear hy253
        by_cases c22 : ([] : List (S36)).length + y253.length < 2199023255552
        ·rw [if_pos c22] at H
         have LMc22 := Aside0.mk c22
         clear c22
         obtain ⟨y257, hy257⟩ : ∃ y_ : List (S36), y_ = (([] : List (S36)) ++ y253) := ⟨_, rfl⟩
         replace H : (bindleref39_Walk.l0 k1 l0 y257 y240) = some r := by first | (rw [hy257]; with_reducible exact H) | (have H2_ := (Option.bind_some _ _).symm.trans H; rw [hy257]; with_reducible exact H2_) | (have H2_ := (Option.bind_some _ _).symm.trans H; with_reducible exact H2_) | with_reducible exact H | (rw [hy257]; exact H) | exact H
         have Ny257 := Aside0.mk hy257
         clear hy257
         have H' := Aside0.mk H
         clear H
         obtain ⟨Ao23, co23, eo23⟩ := Kd.R_slice HO_5.out
         subst eo23
         have p238 : 0 ≤ (0 : Int) := (by omega)
         have q238 : 0 < (x5_1.length : Int) := of_decide_eq_true (by first | (with_reducible assumption) | assumption)
         obtain ⟨ad238, e238, hx238_0, hx238_1, hx238_2, hx238_3, hx238_4, hx238_5⟩ := at_T36 (Kd.R_reads' HO_5.out).2.2 0 p238 q238
         (try rw [← Nbq8.out] at hx238_3)
         cases e238
         have qi238 : (0 < x5_1.length) = True := eq_true (by omega)
         (try rw [show ((0 : Int)).toNat = 0 from rfl] at hx238_0)
         (try rw [show 0 * 6 = 0 from rfl] at hx238_0)
         (try rw [Addr.add_zero'] at hx238_0)
         (try rw [show ((0 : Int)).toNat = 0 from rfl] at hx238_1)
         (try rw [show 0 * 6 = 0 from rfl] at hx238_1)
         (try rw [Addr.add_zero'] at hx238_1)
         (try rw [show ((0 : Int)).toNat = 0 from rfl] at hx238_2)
         (try rw [show 0 * 6 = 0 from rfl] at hx238_2)
         (try rw [Addr.add_zero'] at hx238_2)
         (try rw [show ((0 : Int)).toNat = 0 from rfl] at hx238_3)
         (try rw [show 0 * 6 = 0 from rfl] at hx238_3)
         (try rw [Addr.add_zero'] at hx238_3)
         (try rw [show ((0 : Int)).toNat = 0 from rfl] at hx238_4)
         (try rw [show 0 * 6 = 0 from rfl] at hx238_4)
         (try rw [Addr.add_zero'] at hx238_4)
         (try rw [show ((0 : Int)).toNat = 0 from rfl] at hx238_5)
         (try rw [show 0 * 6 = 0 from rfl] at hx238_5)
         (try rw [Addr.add_zero'] at hx238_5)
         replace p238 := eq_true p238
         replace q238 := eq_true q238
         go_upto_region 5 with (((with_reducible refine gate_dst (N := 7) rfl ?_); refine box_event ?hg (N := 7) ?hd (cs := #[.string (⟨#[]⟩ : ByteArray), .int .i64 0, .int .i64 0, .bool false, .string (⟨#[]⟩ : ByteArray), .int .i64 0]) (t := 36) ?hr ?_; (case hd => rfl); (case hg => rfl); (case hr => first | (go_simp; done) | (go_simp; rfl)); intro gb239 hg w24 hbox hb; have n0_ := Aside0.mk (Kd.R_below (Kd.R_elderB (by (with_reducible repeat (first | apply Kd.R_alloc | apply Kd.R_drewN | apply Kd.R_drew)); exact HO_5.out) gb239 (Nat.le_of_eq hg.symm)) hb); have n1_ := Aside0.mk (Kd.R_below (Kd.R_elderB (by (with_reducible repeat (first | apply Kd.R_alloc | apply Kd.R_drewN | apply Kd.R_drew)); exact HO_6.out) gb239 (Nat.le_of_eq hg.symm)) hb); have n2_ := Aside0.mk (below_step (by repeat (first | (with_reducible first | exact HB.out | apply below_alloc | apply pw_below_drewN | apply below_drew1) | exact HB.out)) hb); have n3_ := Aside0.mk (hbox); have n4_ := Aside0.mk ((by rw [hg]; exact (below_size (by repeat (first | (with_reducible first | exact HB.out | apply below_alloc | apply pw_below_drewN | apply below_drew1) | exact HB.out))) : w.heap.size ≤ gb239)); have n5_ := Aside0.mk ((by rw [hg]; exact (below_size (by repeat (first | (with_reducible first | exact HB.out | apply below_alloc | apply pw_below_drewN | apply below_drew1) | exact HB.out))) : w.heap.size ≤ gb239)); clear HO_5; clear HO_6; clear HB; have HO_5 := n0_; have HO_6 := n1_; have HB := n2_; have BK239 := n3_; have GW239 := n4_; have GE239 := n5_; clear n0_ n1_ n2_ n3_ n4_ n5_; clear hb hbox hg; have hcz25_0 : w24.cell? ⟨gb239, 0, none⟩ = some (.string (⟨#[]⟩ : ByteArray)) := (blk_cell BK239.out 0).trans rfl; have hcz25_1 : w24.cell? ⟨gb239, 1, none⟩ = some (.int .i64 0) := (blk_cell BK239.out 1).trans rfl; have hcz25_2 : w24.cell? ⟨gb239, 2, none⟩ = some (.int .i64 0) := (blk_cell BK239.out 2).trans rfl; have hcz25_3 : w24.cell? ⟨gb239, 3, none⟩ = some (.bool false) := (blk_cell BK239.out 3).trans rfl; have hcz25_4 : w24.cell? ⟨gb239, 4, none⟩ = some (.string (⟨#[]⟩ : ByteArray)) := (blk_cell BK239.out 4).trans rfl; have hcz25_5 : w24.cell? ⟨gb239, 5, none⟩ = some (.int .i64 0) := (blk_cell BK239.out 5).trans rfl; have hfz25_0 := blk_frozen BK239.out 0; have hfz25_1 := blk_frozen BK239.out 1; have hfz25_2 := blk_frozen BK239.out 2; have hfz25_3 := blk_frozen BK239.out 3; have hfz25_4 := blk_frozen BK239.out 4; have hfz25_5 := blk_frozen BK239.out 5))
         have bk0_ := (blk_put (cs' := #[.string ((rd_T36 x5_1 0).f0), .int .i64 ((rd_T36 x5_1 0).f1), .int .i64 ((rd_T36 x5_1 0).f2), .bool false, .string ((rd_T36 x5_1 0).f4), .int .i64 ((rd_T36 x5_1 0).f5)]) (blk_put (cs' := #[.string ((rd_T36 x5_1 0).f0), .int .i64 ((rd_T36 x5_1 0).f1), .int .i64 ((rd_T36 x5_1 0).f2), .bool false, .string ((rd_T36 x5_1 0).f4), .int .i64 0]) (blk_put (cs' := #[.string ((rd_T36 x5_1 0).f0), .int .i64 ((rd_T36 x5_1 0).f1), .int .i64 ((rd_T36 x5_1 0).f2), .bool false, .string (⟨#[]⟩ : ByteArray), .int .i64 0]) (blk_put (cs' := #[.string ((rd_T36 x5_1 0).f0), .int .i64 ((rd_T36 x5_1 0).f1), .int .i64 ((rd_T36 x5_1 0).f2), .bool false, .string (⟨#[]⟩ : ByteArray), .int .i64 0]) (blk_put (cs' := #[.string ((rd_T36 x5_1 0).f0), .int .i64 ((rd_T36 x5_1 0).f1), .int .i64 0, .bool false, .string (⟨#[]⟩ : ByteArray), .int .i64 0]) (blk_put (cs' := #[.string ((rd_T36 x5_1 0).f0), .int .i64 0, .int .i64 0, .bool false, .string (⟨#[]⟩ : ByteArray), .int .i64 0]) BK239.out 0 _ rfl) 1 _ rfl) 2 _ rfl) 3 _ rfl) 4 _ rfl) 5 _ rfl)
         have q0_5 := (Kd.R_far (p := ⟨gb239, 5, none⟩) (Kd.R_far (p := ⟨gb239, 4, none⟩) (Kd.R_far (p := ⟨gb239, 3, none⟩) (Kd.R_far (p := ⟨gb239, 2, none⟩) (Kd.R_far (p := ⟨gb239, 1, none⟩) (Kd.R_far (p := ⟨gb239, 0, none⟩) (Kd.R_mono HO_5.out (fun k_ hk => (⟨hk, hk.2⟩ : _ ∧ k_ ≠ gb239))) (fun _ hk => hk.2) (.string ((rd_T36 x5_1 0).f0))) (fun _ hk => hk.2) (.int .i64 ((rd_T36 x5_1 0).f1))) (fun _ hk => hk.2) (.int .i64 ((rd_T36 x5_1 0).f2))) (fun _ hk => hk.2) (.bool false)) (fun _ hk => hk.2) (.string ((rd_T36 x5_1 0).f4))) (fun _ hk => hk.2) (.int .i64 ((rd_T36 x5_1 0).f5)))
         have q0_6 := (Kd.R_far (p := ⟨gb239, 5, none⟩) (Kd.R_far (p := ⟨gb239, 4, none⟩) (Kd.R_far (p := ⟨gb239, 3, none⟩) (Kd.R_far (p := ⟨gb239, 2, none⟩) (Kd.R_far (p := ⟨gb239, 1, none⟩) (Kd.R_far (p := ⟨gb239, 0, none⟩) (Kd.R_mono HO_6.out (fun k_ hk => (⟨hk, hk.2⟩ : _ ∧ k_ ≠ gb239))) (fun _ hk => hk.2) (.string ((rd_T36 x5_1 0).f0))) (fun _ hk => hk.2) (.int .i64 ((rd_T36 x5_1 0).f1))) (fun _ hk => hk.2) (.int .i64 ((rd_T36 x5_1 0).f2))) (fun _ hk => hk.2) (.bool false)) (fun _ hk => hk.2) (.string ((rd_T36 x5_1 0).f4))) (fun _ hk => hk.2) (.int .i64 ((rd_T36 x5_1 0).f5)))
         have hb0_ : Below w.heap.size w ((((((w24.setCell ⟨gb239, 0, none⟩ (.string ((rd_T36 x5_1 0).f0))).setCell ⟨gb239, 1, none⟩ (.int .i64 ((rd_T36 x5_1 0).f1))).setCell ⟨gb239, 2, none⟩ (.int .i64 ((rd_T36 x5_1 0).f2))).setCell ⟨gb239, 3, none⟩ (.bool false)).setCell ⟨gb239, 4, none⟩ (.string ((rd_T36 x5_1 0).f4))).setCell ⟨gb239, 5, none⟩ (.int .i64 ((rd_T36 x5_1 0).f5))) := (by repeat (first | exact HB.out | refine below_set ?_ GE239.out))
         clear hcz25_0 hcz25_1 hcz25_2 hcz25_3 hcz25_4 hcz25_5 hfz25_0 hfz25_1 hfz25_2 hfz25_3 hfz25_4 hfz25_5
         generalize ((((((w24.setCell ⟨gb239, 0, none⟩ (.string ((rd_T36 x5_1 0).f0))).setCell ⟨gb239, 1, none⟩ (.int .i64 ((rd_T36 x5_1 0).f1))).setCell ⟨gb239, 2, none⟩ (.int .i64 ((rd_T36 x5_1 0).f2))).setCell ⟨gb239, 3, none⟩ (.bool false)).setCell ⟨gb239, 4, none⟩ (.string ((rd_T36 x5_1 0).f4))).setCell ⟨gb239, 5, none⟩ (.int .i64 ((rd_T36 x5_1 0).f5))) = w15_ at bk0_ q0_5 q0_6 hb0_ ⊢
         have bk_ := Aside0.mk bk0_
         have q_5 := Aside0.mk q0_5
         have q_6 := Aside0.mk q0_6
         replace HB := Aside0.mk hb0_
         have hcz25_0 : w15_.cell? ⟨gb239, 0, none⟩ = some (.string ((rd_T36 x5_1 0).f0)) := (blk_cell bk_.out 0).trans rfl
         have hcz25_1 : w15_.cell? ⟨gb239, 1, none⟩ = some (.int .i64 ((rd_T36 x5_1 0).f1)) := (blk_cell bk_.out 1).trans rfl
         have hcz25_2 : w15_.cell? ⟨gb239, 2, none⟩ = some (.int .i64 ((rd_T36 x5_1 0).f2)) := (blk_cell bk_.out 2).trans rfl
         have hcz25_3 : w15_.cell? ⟨gb239, 3, none⟩ = some (.bool false) := (blk_cell bk_.out 3).trans rfl
         have hcz25_4 : w15_.cell? ⟨gb239, 4, none⟩ = some (.string ((rd_T36 x5_1 0).f4)) := (blk_cell bk_.out 4).trans rfl
         have hcz25_5 : w15_.cell? ⟨gb239, 5, none⟩ = some (.int .i64 ((rd_T36 x5_1 0).f5)) := (blk_cell bk_.out 5).trans rfl
         clear bk0_ hb0_ q0_5 q0_6
         go_upto_region 7 with (((with_reducible refine gate_builtin (b := .append) (xs := #[.tmp 18, .tmp 20]) rfl ?_); at_builtin; refine Kd.R_append k36 (w0 := w) w.heap.size rfl (.tmp 18) (.tmp 20) 29 36 (.agg #[(.string ⟨#[]⟩), (.int .i64 0), (.int .i64 0), (.bool false), (.string ⟨#[]⟩), (.int .i64 0)]) 64 rfl Tryz.underlying29 info36 rfl (by decide) (by omega) u6 x6_1 (⟨(rd_T36 x5_1 0).f0, (rd_T36 x5_1 0).f1, (rd_T36 x5_1 0).f2, false, (rd_T36 x5_1 0).f4, (rd_T36 x5_1 0).f5⟩ : S36) [.string ((rd_T36 x5_1 0).f0), .int .i64 ((rd_T36 x5_1 0).f1), .int .i64 ((rd_T36 x5_1 0).f2), .bool false, .string ((rd_T36 x5_1 0).f4), .int .i64 ((rd_T36 x5_1 0).f5)] (fun k_ => some k_ ≠ (.slice (some ad238) x5_1.length co23 : Value).ownBlock ∧ k_ ≠ gb239) (fun _ => False) rfl (by first | (go_simp; done) | (go_simp; rfl)) ?aP (fun _ hk => hk.elim) ?aF ?aO ?aB ?aS ?aL ?_; (case aP => exact k36_mkM _ _ _ (⟨(rd_T36 x5_1 0).f0, (rd_T36 x5_1 0).f1, (rd_T36 x5_1 0).f2, false, (rd_T36 x5_1 0).f4, (rd_T36 x5_1 0).f5⟩ : S36)); (case aB => exact (by repeat (first | (with_reducible first | exact HB.out | apply below_alloc | apply pw_below_drewN | apply below_drew1 | refine below_set ?_ GE239.out) | exact HB.out))); (case aF => exact (fun k_ hk => ⟨Kd.fresh' (Kd.R_lt (by (with_reducible repeat (first | apply Kd.R_alloc | apply Kd.R_drewN | apply Kd.R_drew)); exact (Kd.R_mono q_5.out (fun _ h_ => h_.1)))) k_ hk, Kd.freshB (g := gb239) (o := .cells #[.string ((rd_T36 x5_1 0).f0), .int .i64 ((rd_T36 x5_1 0).f1), .int .i64 ((rd_T36 x5_1 0).f2), .bool false, .string ((rd_T36 x5_1 0).f4), .int .i64 ((rd_T36 x5_1 0).f5)] 36 (0, 0)) bk_.out k_ hk⟩)); (case aO => exact (by (with_reducible repeat (first | apply Kd.R_alloc | apply Kd.R_drewN | apply Kd.R_drew)); exact Kd.R_mono q_6.out (fun _ hk => ⟨hk.1.1, hk.1.2⟩))); (case aS => exact (below_size (by repeat (first | (with_reducible first | exact HB.out | apply below_alloc | apply pw_below_drewN | apply below_drew1 | refine below_set ?_ GE239.out) | exact HB.out)))); (case aL => have := LMc7.out; omega); intro v241 w26 ho hb hg hat; have ny_ := Ny240.out; rw [← Nbq8.out] at ny_; rw [← ny_] at ho; clear ny_; have n0_ := Aside0.mk (Kd.R_after (ok := (fun k_ => k_ ≠ gb239)) (by (with_reducible repeat (first | apply Kd.R_alloc | apply Kd.R_drewN | apply Kd.R_drew)); exact Kd.R_mono q_5.out (fun _ hk => ⟨hk.1.2, hk.1.1⟩)) hg hat); have n1_ := Aside0.mk (blk_grown (g := gb239) (o := .cells #[.string ((rd_T36 x5_1 0).f0), .int .i64 ((rd_T36 x5_1 0).f1), .int .i64 ((rd_T36 x5_1 0).f2), .bool false, .string ((rd_T36 x5_1 0).f4), .int .i64 ((rd_T36 x5_1 0).f5)] 36 (0, 0)) bk_.out hg (Kd.R_away HO_6.out (fun _ hk => hk.2))); have n2_ := Aside0.mk (hb); have n3_ := Aside0.mk (ho); clear HO_5 q_5; clear BK239 bk_; clear HB; clear HO_6 q_6; have HO_5 := n0_; have BK239 := n1_; have HB := n2_; have HO242 := n3_; clear n0_ n1_ n2_ n3_; clear ho hb hg hat; have hcz27_0 : w26.cell? ⟨gb239, 0, none⟩ = some (.string ((rd_T36 x5_1 0).f0)) := (blk_cell BK239.out 0).trans rfl; have hcz27_1 : w26.cell? ⟨gb239, 1, none⟩ = some (.int .i64 ((rd_T36 x5_1 0).f1)) := (blk_cell BK239.out 1).trans rfl; have hcz27_2 : w26.cell? ⟨gb239, 2, none⟩ = some (.int .i64 ((rd_T36 x5_1 0).f2)) := (blk_cell BK239.out 2).trans rfl; have hcz27_3 : w26.cell? ⟨gb239, 3, none⟩ = some (.bool false) := (blk_cell BK239.out 3).trans rfl; have hcz27_4 : w26.cell? ⟨gb239, 4, none⟩ = some (.string ((rd_T36 x5_1 0).f4)) := (blk_cell BK239.out 4).trans rfl; have hcz27_5 : w26.cell? ⟨gb239, 5, none⟩ = some (.int .i64 ((rd_T36 x5_1 0).f5)) := (blk_cell BK239.out 5).trans rfl; have hfz27_0 := blk_frozen BK239.out 0; have hfz27_1 := blk_frozen BK239.out 1; have hfz27_2 := blk_frozen BK239.out 2; have hfz27_3 := blk_frozen BK239.out 3; have hfz27_4 := blk_frozen BK239.out 4; have hfz27_5 := blk_frozen BK239.out 5; have q28 : (1 : Int) ≤ ((x5_1.length : Int) : Int) := of_decide_eq_true (by first | (with_reducible assumption) | assumption); obtain ⟨i028, hi028, _, hsz28, _⟩ := info_parts info36; have hroom28 : x5_1.length ≤ co23 := (Kd.R_reads' HO_5.out).2.1; have hC28 : Kd.C k36 _ (some ad238) x5_1.length x5_1 := (Kd.R_reads' HO_5.out).2.2; have hcut28 := cut_from (P := Tryz.prog) 29 36 .i64 Tryz.underlying29 hi028 6 hsz28 (some ad238) x5_1.length co23 1 (by omega) q28; have hr28 := Kd.C_drop (m := (1 : Int).toNat) (c := co23) hC28 (by omega) hroom28; obtain ⟨A28, hA28⟩ : ∃ Az_, Az_ = (if co23 = (1 : Int).toNat then (some ad238) else ((some ad238) : Option Addr).map (·.add ((1 : Int).toNat * 6))) := ⟨_, rfl⟩; obtain ⟨c28, hc28⟩ : ∃ cz_, cz_ = co23 - (1 : Int).toNat := ⟨_, rfl⟩; have hy28 : y253.length = x5_1.length - (1 : Int).toNat := (by rw [Ny253.out, List.length_drop] <;> omega); rw [show (x5_1).drop (1 : Int).toNat = y253 from Ny253.out.symm] at hr28; replace hr28 : Kd.C k36 _ A28 y253.length y253 := (by rw [hA28]; exact hr28); rw [← hy28, ← hA28, ← hc28] at hcut28; have HR256 := Aside0.mk hr28; have HC256 := Aside0.mk (show y253.length ≤ c28 from by rw [hy28, hc28]; exact Nat.sub_le_sub_right hroom28 _); clear hr28 hC28 hroom28 hi028 hsz28 hc28; have KY28 := Aside0.mk hy28; have KA28 := Aside0.mk hA28; clear hy28 hA28; have KL28 := Aside0.mk (show 1 ≤ x5_1.length from by omega); replace q28 := eq_true q28))
         go_wp2_with (first | ((with_reducible refine gate_builtin (b := .append) (xs := #[.tmp 31, .tmp 33]) rfl ?_); at_builtin; refine Kd.R_append_rows k36 (w0 := w) w.heap.size rfl (.tmp 31) (.tmp 33) 29 36 (.agg #[(.string ⟨#[]⟩), (.int .i64 0), (.int .i64 0), (.bool false), (.string ⟨#[]⟩), (.int .i64 0)]) 64 rfl Tryz.underlying29 info36 rfl (by decide) (by omega) (.slice none 0 0) ([] : List (S36)) y253 _ _ _ (fun k_ => some k_ ≠ (.slice (some ad238) x5_1.length co23 : Value).ownBlock ∧ some k_ ≠ (v241 : Value).ownBlock ∧ k_ ≠ gb239) (fun _ => False) rfl rfl ?aO ?aR (fun _ _ h => h) (fun _ h => h.elim) ?aF ?aB ?aS ?aL ?_; (case aR => repeat (first | exact (by repeat (first | (with_reducible exact HR256.out) | (with_reducible refine Kd.C_alloc ?_ _) | (with_reducible refine Kd.C_drewN ?_ _) | (with_reducible refine Kd.C_drew ?_) | exact HR256.out)) | (with_reducible refine Kd.C_alloc ?_ _) | (with_reducible refine Kd.C_drewN ?_ _) | (with_reducible refine Kd.C_drew ?_))); (case aB => exact (by repeat (first | (with_reducible first | exact HB.out | apply below_alloc | apply pw_below_drewN | apply below_drew1 | refine below_set ?_ GE239.out) | exact HB.out))); (case aF => exact (fun k_ hk => ⟨Kd.fresh' (Kd.R_lt (by (with_reducible repeat (first | apply Kd.R_alloc | apply Kd.R_drewN | apply Kd.R_drew)); exact HO_5.out)) k_ hk, Kd.fresh' (Kd.R_lt (by (with_reducible repeat (first | apply Kd.R_alloc | apply Kd.R_drewN | apply Kd.R_drew)); exact HO242.out)) k_ hk, Kd.freshB (g := gb239) (o := .cells #[.string ((rd_T36 x5_1 0).f0), .int .i64 ((rd_T36 x5_1 0).f1), .int .i64 ((rd_T36 x5_1 0).f2), .bool false, .string ((rd_T36 x5_1 0).f4), .int .i64 ((rd_T36 x5_1 0).f5)] 36 (0, 0)) (by (with_reducible repeat (first | refine blk_drewN ?_ _ | refine blk_drew ?_ | refine blk_alloc ?_ _)); exact BK239.out) k_ hk⟩)); (case aO => exact ((Kd.R_nil _ _ _ _ (fun k_ => some k_ ≠ (.slice (some ad238) x5_1.length co23 : Value).ownBlock ∧ some k_ ≠ (v241 : Value).ownBlock ∧ k_ ≠ gb239)))); (case aS => exact (below_size (by repeat (first | (with_reducible first | exact HB.out | apply below_alloc | apply pw_below_drewN | apply below_drew1 | refine below_set ?_ GE239.out) | exact HB.out)))); (case aL => have := LMc22.out; omega); intro v258 w29 ho hb hg hat; rw [← Ny257.out] at ho; have n0_ := Aside0.mk (Kd.R_after (Kd.R_apart_nil (by (with_reducible repeat (first | apply Kd.R_alloc | apply Kd.R_drewN | apply Kd.R_drew)); exact HO_5.out)) hg hat); have n1_ := Aside0.mk (blk_grown (g := gb239) (o := .cells #[.string ((rd_T36 x5_1 0).f0), .int .i64 ((rd_T36 x5_1 0).f1), .int .i64 ((rd_T36 x5_1 0).f2), .bool false, .string ((rd_T36 x5_1 0).f4), .int .i64 ((rd_T36 x5_1 0).f5)] 36 (0, 0)) (by (with_reducible repeat (first | refine blk_drewN ?_ _ | refine blk_drew ?_ | refine blk_alloc ?_ _)); exact BK239.out) hg (by simp [Value.ownBlock])); have n2_ := Aside0.mk (Kd.R_after (Kd.R_apart_nil (by (with_reducible repeat (first | apply Kd.R_alloc | apply Kd.R_drewN | apply Kd.R_drew)); exact HO242.out)) hg hat); have n3_ := Aside0.mk (hb); have n4_ := Aside0.mk ((show Kd.C k36 w29 A28 y253.length y253 from by rw [Ny253.out, KA28.out]; exact Kd.C_drop (m := 1) (c := co23) ((Kd.R_reads' (Kd.R_after (Kd.R_apart_nil (by (with_reducible repeat (first | apply Kd.R_alloc | apply Kd.R_drewN | apply Kd.R_drew)); exact HO_5.out)) hg hat)).2.2) KL28.out ((Kd.R_reads' (Kd.R_after (Kd.R_apart_nil (by (with_reducible repeat (first | apply Kd.R_alloc | apply Kd.R_drewN | apply Kd.R_drew)); exact HO_5.out)) hg hat)).2.1))); have n5_ := Aside0.mk (ho); clear HO_5; clear BK239; clear HO242; clear HB; clear HR256; have HO_5 := n0_; have BK239 := n1_; have HO242 := n2_; have HB := n3_; have HR256 := n4_; have HO259 := n5_; clear n0_ n1_ n2_ n3_ n4_ n5_; clear ho hb hg hat))
         go_roundg k1
         case measure => have := HK1.out; omega
         case rel => exact ⟨(y257), (y240), H', ⟨by have := HK1.out; omega⟩, ⟨by (with_reducible repeat (first | apply Kd.R_alloc | apply Kd.R_drewN | apply Kd.R_drew)); exact Kd.R_mono HO259.out (fun _ hk => hk.2.1)⟩, ⟨by (with_reducible repeat (first | apply Kd.R_alloc | apply Kd.R_drewN | apply Kd.R_drew)); exact Kd.R_mono HO242.out (fun _ hk => hk.2)⟩, ⟨by repeat (first | (with_reducible first | exact HB.out | apply below_alloc | apply pw_below_drewN | apply below_drew1 | refine below_set ?_ GE239.out) | exact HB.out)⟩⟩
        ·rw [if_neg c22] at H
         exact absurd H (by simp)
       ·rw [if_neg c21] at H
        exact absurd H (by simp)
     ·rw [if_neg c7] at H
      exact absurd H (by simp)
    ·rw [if_neg c6] at H
     exact absurd H (by simp)
   ·rw [if_neg c5] at H
    have c5b0 : decide (0 < (x5_1.length : Int)) = false := decide_eq_false c5
    have c5b1 : decide (0 < x5_1.length) = false := decide_eq_false (by omega)
    clear c5
    obtain rfl := Option.some.inj H
    obtain ⟨Ao30, co30, eo30⟩ := Kd.R_slice HO_5.out
    subst eo30
    go_wp2
    go_ret
    exact ⟨_, by first | rfl | (simp [errW_none, errW_some] <;> rfl) | (simp [*, errW_none, errW_some] <;> rfl), by (with_reducible repeat (first | apply Kd.R_alloc | apply Kd.R_drewN | apply Kd.R_drew)); exact Kd.R_mono HO_6.out (fun _ hk => trivial), by repeat (first | (with_reducible first | exact HB.out | apply below_alloc | apply pw_below_drewN | apply below_drew1) | exact HB.out)⟩

/-! ### bindleref33_Digits: function 36 -/
def bindleref33_Digits.f : Nat → Int → Option (ByteArray)
 | 0, _ => none
 | k + 1, a0 => if a0 < 0 then (if a0 > (-10) then ((bindleref33_Digits.f k (wrap64 (-a0))).bind fun t260 => (if 1 + t260.size ≤ 9223372036854775807 then (some ((⟨#[45]⟩ : ByteArray) ++ t260)) else (none))) else ((bindleref33_Digits.f k (wrap64 (Int.tdiv a0 10))).bind fun t261 => ((bindleref33_Digits.f k (wrap64 (-(Int.tmod a0 10)))).bind fun t262 => (if t261.size + t262.size ≤ 9223372036854775807 then (some (t261 ++ t262)) else (none))))) else (if a0 < 10 then (some (strOfNums (([(wrap64 (48 + a0)) % 256] : List Int)))) else ((bindleref33_Digits.f k (wrap64 (Int.tdiv a0 10))).bind fun t266 => ((bindleref33_Digits.f k (Int.tmod a0 10)).bind fun t267 => (if t266.size + t267.size ≤ 9223372036854775807 then (some (t266 ++ t267)) else (none)))))
theorem bindleref33_Digits.mono_l : ∀ k, (∀ y0, LeO (bindleref33_Digits.f k y0) (bindleref33_Digits.f (k + 1) y0))
 | 0 => fun _ r h => by simp [bindleref33_Digits.f] at h
 | k + 1 => by
  have ih0 := bindleref33_Digits.mono_l k
  ·intro y0
   unfold bindleref33_Digits.f
   repeat' first
   | (with_reducible exact ih0 _)
   | (with_reducible exact LeO.refl _)
   | (with_reducible exact LeO.none _)
   | (with_reducible refine LeO.ite ?_ ?_)
   | (with_reducible refine LeO.bind ?_ (fun _ => ?_))
   | exact ih0 _
   | exact LeO.none _
   | refine LeO.ite ?_ ?_
   | refine LeO.bind ?_ (fun _ => ?_)
theorem bindleref33_Digits.mono : ∀ a0 k, LeO (bindleref33_Digits.f k a0) (bindleref33_Digits.f (k + 1) a0) := by
 intro a0 k
 have ih0 := bindleref33_Digits.mono_l k
 exact ih0 a0
set_option maxHeartbeats 8000000 in
set_option maxRecDepth 100000 in
theorem bindleref33_Digits.calls (k : Nat) : ∀ (a0 : Int) (r : ByteArray) (w : World) (h : bindleref33_Digits.f k a0 = some r),
  Calls Tryz.prog 36 #[.int .i64 a0] w fun e w' => e = .returned (.string r) ∧ Below w.heap.size w w' := by
 induction k using Nat.strongRecOn with
 | _ k ih =>
 intro a0 r w h
 cases k with
 | zero => exact absurd h (by simp [bindleref33_Digits.f])
 | succ k =>
 simp only [bindleref33_Digits.f] at h
 have HB := Aside0.mk (Below.refl w.heap.size w)
 have H : (if a0 < 0 then (if a0 > (-10) then ((bindleref33_Digits.f k (wrap64 (-a0))).bind fun t260 => (if 1 + t260.size ≤ 9223372036854775807 then (some ((⟨#[45]⟩ : ByteArray) ++ t260)) else (none))) else ((bindleref33_Digits.f k (wrap64 (Int.tdiv a0 10))).bind fun t261 => ((bindleref33_Digits.f k (wrap64 (-(Int.tmod a0 10)))).bind fun t262 => (if t261.size + t262.size ≤ 9223372036854775807 then (some (t261 ++ t262)) else (none))))) else (if a0 < 10 then (some (strOfNums (([(wrap64 (48 + a0)) % 256] : List Int)))) else ((bindleref33_Digits.f k (wrap64 (Int.tdiv a0 10))).bind fun t266 => ((bindleref33_Digits.f k (Int.tmod a0 10)).bind fun t267 => (if t266.size + t267.size ≤ 9223372036854775807 then (some (t266 ++ t267)) else (none)))))) = some r := h
 clear h
 by_cases c2 : a0 < 0
 ·rw [if_pos c2] at H
  have c2b0 : decide (a0 < 0) = true := decide_eq_true c2
  clear c2
  by_cases c3 : a0 > (-10)
  ·rw [if_pos c3] at H
   have c3b0 : decide ((-10) < a0) = true := decide_eq_true c3
   clear c3
   replace H := Option.bind_eq_some_iff.mp H
   obtain ⟨t260, A40, H⟩ := H
   replace H : (if 1 + t260.size ≤ 9223372036854775807 then (some ((⟨#[45]⟩ : ByteArray) ++ t260)) else (none)) = some r := H
   have A4 := Aside0.mk A40
   clear A40
   by_cases c5 : 1 + t260.size ≤ 9223372036854775807
   ·rw [if_pos c5] at H
    have c5b0 := eq_true c5
    have c5b1 : decide (1 + t260.size ≤ 9223372036854775807) = true := decide_eq_true c5
    try have c5b2 : (9223372036854775807 < 1 + t260.size) = False := eq_false (Nat.not_lt.2 c5)
    obtain rfl := Option.some.inj H
    go_enter Tryz.func36, Tryz.ntmps36
    go_wp2_with (first | ((with_reducible refine gate_callee (f := 36) rfl ?_); refine goesL_ (some 9) rfl rfl Tryz.func36 (by kernel_rfl) rfl #[.int .i64 (wrap64 (-a0))] rfl (by (try simp only [List.map_toArray, List.map_cons, List.map_nil]); first | done | rfl | (simp only [List.length_drop, List.length_take]; rfl)) ?_; (with_reducible refine (ih k (by omega) (wrap64 (-a0)) t260 _ A4.out).mono ?_); rintro e w6 ⟨rfl, hb⟩; refine ⟨_, rfl, ?_⟩; have n0_ := Aside0.mk (below_step (by repeat (first | (with_reducible first | exact HB.out | apply below_alloc | apply pw_below_drewN | apply below_drew1) | exact HB.out)) hb); clear HB; have HB := n0_; clear n0_; (try clear hb); (try clear hb2); (try clear hk); (try clear hi)))
    go_ret
    exact ⟨by first | rfl | (simp [errW_none, errW_some] <;> rfl) | (simp [*, errW_none, errW_some] <;> rfl), by repeat (first | (with_reducible first | exact HB.out | apply below_alloc | apply pw_below_drewN | apply below_drew1) | exact HB.out)⟩
   ·rw [if_neg c5] at H
    exact absurd H (by simp)
  ·rw [if_neg c3] at H
   have c3b0 : decide ((-10) < a0) = false := decide_eq_false c3
   clear c3
   replace H := Option.bind_eq_some_iff.mp H
   obtain ⟨t261, A70, H⟩ := H
   replace H : ((bindleref33_Digits.f k (wrap64 (-(Int.tmod a0 10)))).bind fun t262 => (if t261.size + t262.size ≤ 9223372036854775807 then (some (t261 ++ t262)) else (none))) = some r := H
   have A7 := Aside0.mk A70
   clear A70
   replace H := Option.bind_eq_some_iff.mp H
   obtain ⟨t262, A80, H⟩ := H
   replace H : (if t261.size + t262.size ≤ 9223372036854775807 then (some (t261 ++ t262)) else (none)) = some r := H
   have A8 := Aside0.mk A80
   clear A80
   by_cases c9 : t261.size + t262.size ≤ 9223372036854775807
   ·rw [if_pos c9] at H
    have c9b0 := eq_true c9
    have c9b1 : decide (t261.size + t262.size ≤ 9223372036854775807) = true := decide_eq_true c9
    try have c9b2 : (9223372036854775807 < t261.size + t262.size) = False := eq_false (Nat.not_lt.2 c9)
    obtain rfl := Option.some.inj H
    go_enter Tryz.func36, Tryz.ntmps36
    go_wp2_with (first | ((with_reducible refine gate_callee (f := 36) rfl ?_); refine goesL_ (some 13) rfl rfl Tryz.func36 (by kernel_rfl) rfl #[.int .i64 (wrap64 (Int.tdiv a0 10))] rfl (by (try simp only [List.map_toArray, List.map_cons, List.map_nil]); first | done | rfl | (simp only [List.length_drop, List.length_take]; rfl)) ?_; (with_reducible refine (ih k (by omega) (wrap64 (Int.tdiv a0 10)) t261 _ A7.out).mono ?_); rintro e w10 ⟨rfl, hb⟩; refine ⟨_, rfl, ?_⟩; have n0_ := Aside0.mk (below_step (by repeat (first | (with_reducible first | exact HB.out | apply below_alloc | apply pw_below_drewN | apply below_drew1) | exact HB.out)) hb); clear HB; have HB := n0_; clear n0_; (try clear hb); (try clear hb2); (try clear hk); (try clear hi)) | ((with_reducible refine gate_callee (f := 36) rfl ?_); refine goesL_ (some 17) rfl rfl Tryz.func36 (by kernel_rfl) rfl #[.int .i64 (wrap64 (-(Int.tmod a0 10)))] rfl (by (try simp only [List.map_toArray, List.map_cons, List.map_nil]); first | done | rfl | (simp only [List.length_drop, List.length_take]; rfl)) ?_; (with_reducible refine (ih k (by omega) (wrap64 (-(Int.tmod a0 10))) t262 _ A8.out).mono ?_); rintro e w11 ⟨rfl, hb⟩; refine ⟨_, rfl, ?_⟩; have n0_ := Aside0.mk (below_step (by repeat (first | (with_reducible first | exact HB.out | apply below_alloc | apply pw_below_drewN | apply below_drew1) | exact HB.out)) hb); clear HB; have HB := n0_; clear n0_; (try clear hb); (try clear hb2); (try clear hk); (try clear hi)))
    go_ret
    exact ⟨by first | rfl | (simp [errW_none, errW_some] <;> rfl) | (simp [*, errW_none, errW_some] <;> rfl), by repeat (first | (with_reducible first | exact HB.out | apply below_alloc | apply pw_below_drewN | apply below_drew1) | exact HB.out)⟩
   ·rw [if_neg c9] at H
    exact absurd H (by simp)
 ·rw [if_neg c2] at H
  have c2b0 : decide (a0 < 0) = false := decide_eq_false c2
  clear c2
  by_cases c12 : a0 < 10
  ·rw [if_pos c12] at H
   have c12b0 : decide (a0 < 10) = true := decide_eq_true c12
   clear c12
   obtain ⟨y263, hy263⟩ : ∃ y_ : List Int, y_ = (([(wrap64 (48 + a0)) % 256] : List Int)) := ⟨_, rfl⟩
   replace H : (some (strOfNums y263)) = some r := by first | (rw [hy263]; with_reducible exact H) | (have H2_ := (Option.bind_some _ _).symm.trans H; rw [hy263]; with_reducible exact H2_) | (have H2_ := (Option.bind_some _ _).symm.trans H; with_reducible exact H2_) | with_reducible exact H | (rw [hy263]; exact H) | exact H
   have Ny263 := Aside0.mk hy263
   clear hy263
   obtain rfl := Option.some.inj H
   go_enter Tryz.func36, Tryz.ntmps36
   go_wp2_with (first | ((with_reducible refine gate_dst (N := 24) rfl ?_); refine Kd.R_lit (Kd.int .u8) _ 5 ?hg (N := 24) ?hd (xs := ([(wrap64 (48 + a0)) % 256] : List Int)) (inner := [.int .u8 ((wrap64 (48 + a0)) % 256)]) (ok := fun _ => True) (okp := fun _ => True) ?hr ?hp (fun _ hk => hk) trivial (Below.refl _ _) (Nat.le_refl _) (by simp) ?_; (case hd => rfl); (case hg => rfl); (case hr => first | (go_simp; done) | (go_simp; rfl)); (case hp => exact (Reps.one (show Kd.M (Kd.int .u8) _ _ _ ((wrap64 (48 + a0)) % 256) [.int .u8 ((wrap64 (48 + a0)) % 256)] from rfl) (Reps.none _ _))); intro v264 w13 ho14 hb hg_ hnew_; clear hg_ hnew_; (first | rw [← Ny263.out] at ho14 | (simp only [Int.reduceToNat] at ho14; rw [← Ny263.out] at ho14)); have n0_ := Aside0.mk (Kd.R_lower ho14 (below_size (by repeat (first | (with_reducible first | exact HB.out | apply below_alloc | apply pw_below_drewN | apply below_drew1) | exact HB.out)))); have n1_ := Aside0.mk (below_step (by repeat (first | (with_reducible first | exact HB.out | apply below_alloc | apply pw_below_drewN | apply below_drew1) | exact HB.out)) hb); clear HB; have HO265 := n0_; have HB := n1_; clear n0_ n1_; clear hb ho14; have hcv15 := own_string (P := Tryz.prog) Tryz.underlying47 Tryz.underlying5 Tryz.underlying9 (Kd.own_of_R HO265.out)))
   go_ret
   exact ⟨by first | rfl | (simp [errW_none, errW_some] <;> rfl) | (simp [*, errW_none, errW_some] <;> rfl), by repeat (first | (with_reducible first | exact HB.out | apply below_alloc | apply pw_below_drewN | apply below_drew1) | exact HB.out)⟩
  ·rw [if_neg c12] at H
   have c12b0 : decide (a0 < 10) = false := decide_eq_false c12
   clear c12
   replace H := Option.bind_eq_some_iff.mp H
   obtain ⟨t266, A160, H⟩ := H
   replace H : ((bindleref33_Digits.f k (Int.tmod a0 10)).bind fun t267 => (if t266.size + t267.size ≤ 9223372036854775807 then (some (t266 ++ t267)) else (none))) = some r := H
   have A16 := Aside0.mk A160
   clear A160
   replace H := Option.bind_eq_some_iff.mp H
   obtain ⟨t267, A170, H⟩ := H
   replace H : (if t266.size + t267.size ≤ 9223372036854775807 then (some (t266 ++ t267)) else (none)) = some r := H
   have A17 := Aside0.mk A170
   clear A170
   by_cases c18 : t266.size + t267.size ≤ 9223372036854775807
   ·rw [if_pos c18] at H
    have c18b0 := eq_true c18
    have c18b1 : decide (t266.size + t267.size ≤ 9223372036854775807) = true := decide_eq_true c18
    try have c18b2 : (9223372036854775807 < t266.size + t267.size) = False := eq_false (Nat.not_lt.2 c18)
    obtain rfl := Option.some.inj H
    go_enter Tryz.func36, Tryz.ntmps36
    go_wp2_with (first | ((with_reducible refine gate_callee (f := 36) rfl ?_); refine goesL_ (some 28) rfl rfl Tryz.func36 (by kernel_rfl) rfl #[.int .i64 (wrap64 (Int.tdiv a0 10))] rfl (by (try simp only [List.map_toArray, List.map_cons, List.map_nil]); first | done | rfl | (simp only [List.length_drop, List.length_take]; rfl)) ?_; (with_reducible refine (ih k (by omega) (wrap64 (Int.tdiv a0 10)) t266 _ A16.out).mono ?_); rintro e w19 ⟨rfl, hb⟩; refine ⟨_, rfl, ?_⟩; have n0_ := Aside0.mk (below_step (by repeat (first | (with_reducible first | exact HB.out | apply below_alloc | apply pw_below_drewN | apply below_drew1) | exact HB.out)) hb); clear HB; have HB := n0_; clear n0_; (try clear hb); (try clear hb2); (try clear hk); (try clear hi)) | ((with_reducible refine gate_callee (f := 36) rfl ?_); refine goesL_ (some 31) rfl rfl Tryz.func36 (by kernel_rfl) rfl #[.int .i64 (Int.tmod a0 10)] rfl (by (try simp only [List.map_toArray, List.map_cons, List.map_nil]); first | done | rfl | (simp only [List.length_drop, List.length_take]; rfl)) ?_; (with_reducible refine (ih k (by omega) (Int.tmod a0 10) t267 _ A17.out).mono ?_); rintro e w20 ⟨rfl, hb⟩; refine ⟨_, rfl, ?_⟩; have n0_ := Aside0.mk (below_step (by repeat (first | (with_reducible first | exact HB.out | apply below_alloc | apply pw_below_drewN | apply below_drew1) | exact HB.out)) hb); clear HB; have HB := n0_; clear n0_; (try clear hb); (try clear hb2); (try clear hk); (try clear hi)))
    go_ret
    exact ⟨by first | rfl | (simp [errW_none, errW_some] <;> rfl) | (simp [*, errW_none, errW_some] <;> rfl), by repeat (first | (with_reducible first | exact HB.out | apply below_alloc | apply pw_below_drewN | apply below_drew1) | exact HB.out)⟩
   ·rw [if_neg c18] at H
    exact absurd H (by simp)

/-! ### bindleref39_Text: function 17 -/
mutual
def bindleref39_Text.l0 : Nat → ByteArray → List (S36) → Int → Option (ByteArray)
 | 0, _, _, _ => none
 | k + 1, x5, x6, x7 => if x7 < (x6.length : Int) then (bindleref39_Text.l1 k x5 x6 x7 0) else (some x5)
def bindleref39_Text.l1 : Nat → ByteArray → List (S36) → Int → Int → Option (ByteArray)
 | 0, _, _, _, _ => none
 | k + 1, x5, x6, x7, x8 => if 0 ≤ x7 then (if x7 < (x6.length : Int) then (if x8 < ((rd_T36 x6 x7).f5) then (if x5.size + 2 ≤ 9223372036854775807 then (bindleref39_Text.l1 k (x5 ++ (⟨#[32, 32]⟩ : ByteArray)) x6 x7 (wrap64 (x8 + 1))) else (none)) else (if x5.size + ((rd_T36 x6 x7).f0).size ≤ 9223372036854775807 then (if (rd_T36 x6 x7).f3 = true then (if (x5 ++ ((rd_T36 x6 x7).f0)).size + 1 ≤ 9223372036854775807 then (if ((x5 ++ ((rd_T36 x6 x7).f0)) ++ (⟨#[47]⟩ : ByteArray)).size + 1 ≤ 9223372036854775807 then ((bindleref33_Digits.f k ((rd_T36 x6 x7).f2)).bind fun t275 => (if (((x5 ++ ((rd_T36 x6 x7).f0)) ++ (⟨#[47]⟩ : ByteArray)) ++ (⟨#[32]⟩ : ByteArray)).size + t275.size ≤ 9223372036854775807 then (if ((((x5 ++ ((rd_T36 x6 x7).f0)) ++ (⟨#[47]⟩ : ByteArray)) ++ (⟨#[32]⟩ : ByteArray)) ++ t275).size + 1 ≤ 9223372036854775807 then (bindleref39_Text.l0 k (((((x5 ++ ((rd_T36 x6 x7).f0)) ++ (⟨#[47]⟩ : ByteArray)) ++ (⟨#[32]⟩ : ByteArray)) ++ t275) ++ (⟨#[10]⟩ : ByteArray)) x6 (wrap64 (x7 + 1))) else (none)) else (none))) else (none)) else (none)) else (if (x5 ++ ((rd_T36 x6 x7).f0)).size + 1 ≤ 9223372036854775807 then ((bindleref33_Digits.f k ((rd_T36 x6 x7).f2)).bind fun t277 => (if ((x5 ++ ((rd_T36 x6 x7).f0)) ++ (⟨#[32]⟩ : ByteArray)).size + t277.size ≤ 9223372036854775807 then (if (((x5 ++ ((rd_T36 x6 x7).f0)) ++ (⟨#[32]⟩ : ByteArray)) ++ t277).size + 1 ≤ 9223372036854775807 then (bindleref39_Text.l0 k ((((x5 ++ ((rd_T36 x6 x7).f0)) ++ (⟨#[32]⟩ : ByteArray)) ++ t277) ++ (⟨#[10]⟩ : ByteArray)) x6 (wrap64 (x7 + 1))) else (none)) else (none))) else (none))) else (none))) else (none)) else (none)
end
def bindleref39_Text.f (k : Nat) (l0 : List (S49)) (a1 : ByteArray) : Option (ByteArray) := (bindleref39_Walk.f k l0 a1).bind fun t268 => (bindleref39_Text.l0 k (⟨#[]⟩ : ByteArray) t268 0)
theorem bindleref39_Text.mono_l : ∀ k, (∀ y0 y1 y2, LeO (bindleref39_Text.l0 k y0 y1 y2) (bindleref39_Text.l0 (k + 1) y0 y1 y2)) ∧ (∀ y0 y1 y2 y3, LeO (bindleref39_Text.l1 k y0 y1 y2 y3) (bindleref39_Text.l1 (k + 1) y0 y1 y2 y3))
 | 0 => ⟨fun _ _ _ r h => by simp [bindleref39_Text.l0] at h, fun _ _ _ _ r h => by simp [bindleref39_Text.l1] at h⟩
 | k + 1 => by
  obtain ⟨ih0, ih1⟩ := bindleref39_Text.mono_l k
  refine ⟨?_, ?_⟩
  ·intro y0 y1 y2
   unfold bindleref39_Text.l0
   repeat' first
   | (with_reducible exact ih0 _ _ _)
   | (with_reducible exact ih1 _ _ _ _)
   | (with_reducible exact bindleref33_Digits.mono _ _)
   | (with_reducible exact bindleref39_Walk.mono _ _ _)
   | (with_reducible exact LeO.refl _)
   | (with_reducible exact LeO.none _)
   | (with_reducible refine LeO.ite ?_ ?_)
   | (with_reducible refine LeO.bind ?_ (fun _ => ?_))
   | exact ih0 _ _ _
   | exact ih1 _ _ _ _
   | exact bindleref33_Digits.mono _ _
   | exact bindleref39_Walk.mono _ _ _
   | exact LeO.none _
   | refine LeO.ite ?_ ?_
   | refine LeO.bind ?_ (fun _ => ?_)
  ·intro y0 y1 y2 y3
   unfold bindleref39_Text.l1
   repeat' first
   | (with_reducible exact ih0 _ _ _)
   | (with_reducible exact ih1 _ _ _ _)
   | (with_reducible exact bindleref33_Digits.mono _ _)
   | (with_reducible exact bindleref39_Walk.mono _ _ _)
   | (with_reducible exact LeO.refl _)
   | (with_reducible exact LeO.none _)
   | (with_reducible refine LeO.ite ?_ ?_)
   | (with_reducible refine LeO.bind ?_ (fun _ => ?_))
   | exact ih0 _ _ _
   | exact ih1 _ _ _ _
   | exact bindleref33_Digits.mono _ _
   | exact bindleref39_Walk.mono _ _ _
   | exact LeO.none _
   | refine LeO.ite ?_ ?_
   | refine LeO.bind ?_ (fun _ => ?_)
theorem bindleref39_Text.mono : ∀ a0 a1 k, LeO (bindleref39_Text.f k a0 a1) (bindleref39_Text.f (k + 1) a0 a1) := by
 intro a0 a1 k
 obtain ⟨ih0, ih1⟩ := bindleref39_Text.mono_l k
 unfold bindleref39_Text.f
 repeat' first
   | (with_reducible exact ih0 _ _ _)
   | (with_reducible exact ih1 _ _ _ _)
   | (with_reducible exact bindleref33_Digits.mono _ _)
   | (with_reducible exact bindleref39_Walk.mono _ _ _)
   | (with_reducible exact LeO.refl _)
   | (with_reducible exact LeO.none _)
   | (with_reducible refine LeO.ite ?_ ?_)
   | (with_reducible refine LeO.bind ?_ (fun _ => ?_))
   | exact ih0 _ _ _
   | exact ih1 _ _ _ _
   | exact bindleref33_Digits.mono _ _
   | exact bindleref39_Walk.mono _ _ _
   | exact LeO.none _
   | refine LeO.ite ?_ ?_
   | refine LeO.bind ?_ (fun _ => ?_)
set_option maxHeartbeats 8000000 in
set_option maxRecDepth 100000 in
theorem bindleref39_Text.calls (k : Nat) (A0 : Option Addr) (c0 : Nat) (l0 : List (S49)) (a1 : ByteArray) (r : ByteArray) (w : World) (hr0 : Kd.C k49 w A0 l0.length l0) (hc0 : l0.length ≤ c0) (h : bindleref39_Text.f k l0 a1 = some r) :
  Calls Tryz.prog 17 #[.slice A0 l0.length c0, .string a1] w fun e w' => e = .returned (.string r) ∧ Below w.heap.size w w' := by
 have HR0 := Aside0.mk hr0
 have HC0 := Aside0.mk hc0
 clear hr0 hc0
 have HB := Aside0.mk (Below.refl w.heap.size w)
 have H : ((bindleref39_Walk.f k l0 a1).bind fun t268 => (bindleref39_Text.l0 k (⟨#[]⟩ : ByteArray) t268 0)) = some r := h
 clear h
 replace H := Option.bind_eq_some_iff.mp H
 obtain ⟨t268, A30, H⟩ := H
 replace H : (bindleref39_Text.l0 k (⟨#[]⟩ : ByteArray) t268 0) = some r := H
 have A3 := Aside0.mk A30
 clear A30
 have H' := Aside0.mk H
 clear H
 go_enter Tryz.func17, Tryz.ntmps17
 go_wp2_with (first | ((with_reducible refine gate_callee (f := 14) rfl ?_); refine goesL_ (some 11) rfl rfl Tryz.func14 (by kernel_rfl) rfl #[.slice A0 l0.length c0, .string a1] rfl (by (try simp only [List.map_toArray, List.map_cons, List.map_nil]); first | done | rfl | (simp only [List.length_drop, List.length_take]; rfl)) ?_; (with_reducible refine (bindleref39_Walk.calls k _ _ l0 a1 t268 _ ?side1 ?side2 A3.out).mono ?_); (case side1 => repeat (first | exact HR0.out | (with_reducible refine Kd.C_alloc ?_ _) | (with_reducible refine Kd.C_drewN ?_ _) | (with_reducible refine Kd.C_drew ?_))); (case side2 => exact HC0.out); rintro e w4 ⟨v269, rfl, ho0, hb⟩; refine ⟨_, rfl, ?_⟩; have n0_ := Aside0.mk (Kd.R_lower ho0 (below_size (by repeat (first | (with_reducible first | exact HB.out | apply below_alloc | apply pw_below_drewN | apply below_drew1) | exact HB.out)))); have n1_ := Aside0.mk (below_step (by repeat (first | (with_reducible first | exact HB.out | apply below_alloc | apply pw_below_drewN | apply below_drew1) | exact HB.out)) hb); clear HB; have HO270 := n0_; have HB := n1_; clear n0_ n1_; (try clear hb); (try clear hb2); (try clear hk); (try clear hi); (try clear ho0)))
 go_loopg [5, 7] k (fun kq v5 v7 w' => ∃ (x5_1 : ByteArray) (x7_1 : Int), v5 = .string x5_1 ∧ v7 = .int .i64 x7_1 ∧ Aside0 (bindleref39_Text.l0 kq x5_1 t268 x7_1 = some r) ∧ Aside0 (kq ≤ k) ∧ Aside0 (Kd.R k36 36 w' w.heap.size (fun _ => True) v269 t268) ∧ Aside0 (Below w.heap.size w w'))
 case atStart => exact ⟨((⟨#[]⟩ : ByteArray)), (0), (by first | rfl | (simp only [YtkccjohhakljnaaGreatDoorMpHelp.leq_not, YtkccjohhakljnaaGreatDoorMpHelp.gtr_less]; done) | (simp; done) | (simp [*]; done)), (by first | rfl | (simp only [YtkccjohhakljnaaGreatDoorMpHelp.leq_not, YtkccjohhakljnaaGreatDoorMpHelp.gtr_less]; done) | (simp; done) | (simp [*]; done)), H', ⟨Nat.le_refl _⟩, ⟨by (with_reducible repeat (first | apply Kd.R_alloc | apply Kd.R_drewN | apply Kd.R_drew)); exact HO270.out⟩, ⟨by repeat (first | (with_reducible first | exact HB.out | apply below_alloc | apply pw_below_drewN | apply below_drew1) | exact HB.out)⟩⟩
 case round =>
  clear H'
  try clear c1
  try clear p2
  obtain ⟨x5_1, x7_1, rfl, rfl, HA, HK1, HO_6, HB⟩ := hrel
  cases gk with
  | zero => exact absurd HA.out (by simp [bindleref39_Text.l0])
  | succ k1 =>
   have H := HA.out
   clear HA
   simp only [bindleref39_Text.l0] at H
   by_cases c5 : x7_1 < (t268.length : Int)
   ·rw [if_pos c5] at H
    have c5b0 : decide (x7_1 < (t268.length : Int)) = true := decide_eq_true c5
    clear c5
    have H' := Aside0.mk H
    clear H
    obtain ⟨Ao6, co6, eo6⟩ := Kd.R_slice HO_6.out
    subst eo6
    go_wp2
    go_loopg [5, 8] k1 (fun kq v5 v8 w' => ∃ (x5_2 : ByteArray) (x8_2 : Int), v5 = .string x5_2 ∧ v8 = .int .i64 x8_2 ∧ Aside0 (bindleref39_Text.l1 kq x5_2 t268 x7_1 x8_2 = some r) ∧ Aside0 (kq ≤ k1) ∧ Aside0 (Kd.R k36 36 w' w.heap.size (fun _ => True) (.slice Ao6 t268.length co6) t268) ∧ Aside0 (Below w.heap.size w w'))
    case atStart => exact ⟨(x5_1), (0), (by first | rfl | (simp only [YtkccjohhakljnaaGreatDoorMpHelp.leq_not, YtkccjohhakljnaaGreatDoorMpHelp.gtr_less]; done) | (simp; done) | (simp [*]; done)), (by first | rfl | (simp only [YtkccjohhakljnaaGreatDoorMpHelp.leq_not, YtkccjohhakljnaaGreatDoorMpHelp.gtr_less]; done) | (simp; done) | (simp [*]; done)), H', ⟨Nat.le_refl _⟩, ⟨by (with_reducible repeat (first | apply Kd.R_alloc | apply Kd.R_drewN | apply Kd.R_drew)); exact HO_6.out⟩, ⟨by repeat (first | (with_reducible first | exact HB.out | apply below_alloc | apply pw_below_drewN | apply below_drew1) | exact HB.out)⟩⟩
    case round =>
     clear H'
     try clear c1
     try clear p2
     try clear c5
     try clear c5b0
     try clear p2
     obtain ⟨x5_2, x8_2, rfl, rfl, HA, HK2, HO_6, HB⟩ := hrel
     cases gk with
     | zero => exact absurd HA.out (by simp [bindleref39_Text.l1])
     | succ k2 =>
      have H := HA.out
      clear HA
      simp only [bindleref39_Text.l1] at H
      by_cases c7 : 0 ≤ x7_1
      ·rw [if_pos c7] at H
       have c7b0 : decide (0 ≤ x7_1) = true := decide_eq_true c7
       clear c7
       by_cases c8 : x7_1 < (t268.length : Int)
       ·rw [if_pos c8] at H
        have c8b0 : decide (x7_1 < (t268.length : Int)) = true := decide_eq_true c8
        clear c8
        by_cases c9 : x8_2 < ((rd_T36 t268 x7_1).f5)
        ·rw [if_pos c9] at H
         have c9b0 : decide (x8_2 < ((rd_T36 t268 x7_1).f5)) = true := decide_eq_true c9
         clear c9
         by_cases c10 : x5_2.size + 2 ≤ 9223372036854775807
         ·rw [if_pos c10] at H
          have c10b0 := eq_true c10
          have c10b1 : decide (x5_2.size + 2 ≤ 9223372036854775807) = true := decide_eq_true c10
          try have c10b2 : (9223372036854775807 < x5_2.size + 2) = False := eq_false (Nat.not_lt.2 c10)
          have H' := Aside0.mk H
          clear H
          have p271 : 0 ≤ (x7_1 : Int) := of_decide_eq_true (by first | (with_reducible assumption) | assumption)
          have q271 : x7_1 < (t268.length : Int) := of_decide_eq_true (by first | (with_reducible assumption) | assumption)
          obtain ⟨ad271, e271, hx271_0, hx271_1, hx271_2, hx271_3, hx271_4, hx271_5⟩ := at_T36 (Kd.R_reads' HO_6.out).2.2 x7_1 p271 q271
          cases e271
          replace p271 := eq_true p271
          replace q271 := eq_true q271
          go_wp2
          go_roundg k2
          case measure => have := HK1.out; have := HK2.out; omega
          case rel => exact ⟨(x5_2 ++ (⟨#[32, 32]⟩ : ByteArray)), (wrap64 (x8_2 + 1)), (by first | rfl | (simp only [YtkccjohhakljnaaGreatDoorMpHelp.leq_not, YtkccjohhakljnaaGreatDoorMpHelp.gtr_less]; done) | (simp; done) | (simp [*]; done)), (by first | rfl | (simp only [YtkccjohhakljnaaGreatDoorMpHelp.leq_not, YtkccjohhakljnaaGreatDoorMpHelp.gtr_less]; done) | (simp; done) | (simp [*]; done)), H', ⟨by have := HK1.out; have := HK2.out; omega⟩, ⟨by (with_reducible repeat (first | apply Kd.R_alloc | apply Kd.R_drewN | apply Kd.R_drew)); exact HO_6.out⟩, ⟨by repeat (first | (with_reducible first | exact HB.out | apply below_alloc | apply pw_below_drewN | apply below_drew1) | exact HB.out)⟩⟩
         ·rw [if_neg c10] at H
          exact absurd H (by simp)
        ·rw [if_neg c9] at H
         have c9b0 : decide (x8_2 < ((rd_T36 t268 x7_1).f5)) = false := decide_eq_false c9
         clear c9
         by_cases c11 : x5_2.size + ((rd_T36 t268 x7_1).f0).size ≤ 9223372036854775807
         ·rw [if_pos c11] at H
          have c11b0 := eq_true c11
          have c11b1 : decide (x5_2.size + ((rd_T36 t268 x7_1).f0).size ≤ 9223372036854775807) = true := decide_eq_true c11
          try have c11b2 : (9223372036854775807 < x5_2.size + ((rd_T36 t268 x7_1).f0).size) = False := eq_false (Nat.not_lt.2 c11)
          obtain ⟨bq12, hbq12⟩ : ∃ b_ : Bool, b_ = ((rd_T36 t268 x7_1).f3) := ⟨_, rfl⟩
          replace H : (if bq12 = true then (if (x5_2 ++ ((rd_T36 t268 x7_1).f0)).size + 1 ≤ 9223372036854775807 then (if ((x5_2 ++ ((rd_T36 t268 x7_1).f0)) ++ (⟨#[47]⟩ : ByteArray)).size + 1 ≤ 9223372036854775807 then ((bindleref33_Digits.f k2 ((rd_T36 t268 x7_1).f2)).bind fun t275 => (if (((x5_2 ++ ((rd_T36 t268 x7_1).f0)) ++ (⟨#[47]⟩ : ByteArray)) ++ (⟨#[32]⟩ : ByteArray)).size + t275.size ≤ 9223372036854775807 then (if ((((x5_2 ++ ((rd_T36 t268 x7_1).f0)) ++ (⟨#[47]⟩ : ByteArray)) ++ (⟨#[32]⟩ : ByteArray)) ++ t275).size + 1 ≤ 9223372036854775807 then (bindleref39_Text.l0 k2 (((((x5_2 ++ ((rd_T36 t268 x7_1).f0)) ++ (⟨#[47]⟩ : ByteArray)) ++ (⟨#[32]⟩ : ByteArray)) ++ t275) ++ (⟨#[10]⟩ : ByteArray)) t268 (wrap64 (x7_1 + 1))) else (none)) else (none))) else (none)) else (none)) else (if (x5_2 ++ ((rd_T36 t268 x7_1).f0)).size + 1 ≤ 9223372036854775807 then ((bindleref33_Digits.f k2 ((rd_T36 t268 x7_1).f2)).bind fun t277 => (if ((x5_2 ++ ((rd_T36 t268 x7_1).f0)) ++ (⟨#[32]⟩ : ByteArray)).size + t277.size ≤ 9223372036854775807 then (if (((x5_2 ++ ((rd_T36 t268 x7_1).f0)) ++ (⟨#[32]⟩ : ByteArray)) ++ t277).size + 1 ≤ 9223372036854775807 then (bindleref39_Text.l0 k2 ((((x5_2 ++ ((rd_T36 t268 x7_1).f0)) ++ (⟨#[32]⟩ : ByteArray)) ++ t277) ++ (⟨#[10]⟩ : ByteArray)) t268 (wrap64 (x7_1 + 1))) else (none)) else (none))) else (none))) = some r := by rw [← hbq12] at H; exact H
          have Nbq12 := Aside0.mk hbq12
          clear hbq12
          by_cases c13 : bq12 = true
          ·subst c13
           have H1 : (if (x5_2 ++ ((rd_T36 t268 x7_1).f0)).size + 1 ≤ 9223372036854775807 then (if ((x5_2 ++ ((rd_T36 t268 x7_1).f0)) ++ (⟨#[47]⟩ : ByteArray)).size + 1 ≤ 9223372036854775807 then ((bindleref33_Digits.f k2 ((rd_T36 t268 x7_1).f2)).bind fun t275 => (if (((x5_2 ++ ((rd_T36 t268 x7_1).f0)) ++ (⟨#[47]⟩ : ByteArray)) ++ (⟨#[32]⟩ : ByteArray)).size + t275.size ≤ 9223372036854775807 then (if ((((x5_2 ++ ((rd_T36 t268 x7_1).f0)) ++ (⟨#[47]⟩ : ByteArray)) ++ (⟨#[32]⟩ : ByteArray)) ++ t275).size + 1 ≤ 9223372036854775807 then (bindleref39_Text.l0 k2 (((((x5_2 ++ ((rd_T36 t268 x7_1).f0)) ++ (⟨#[47]⟩ : ByteArray)) ++ (⟨#[32]⟩ : ByteArray)) ++ t275) ++ (⟨#[10]⟩ : ByteArray)) t268 (wrap64 (x7_1 + 1))) else (none)) else (none))) else (none)) else (none)) = some r := by rw [if_pos rfl] at H; exact H
           clear H
           have H := H1
           clear H1
           by_cases c14 : (x5_2 ++ ((rd_T36 t268 x7_1).f0)).size + 1 ≤ 9223372036854775807
           ·rw [if_pos c14] at H
            have c14b0 := eq_true c14
            have c14b1 : decide ((x5_2 ++ ((rd_T36 t268 x7_1).f0)).size + 1 ≤ 9223372036854775807) = true := decide_eq_true c14
            try have c14b2 : (9223372036854775807 < (x5_2 ++ ((rd_T36 t268 x7_1).f0)).size + 1) = False := eq_false (Nat.not_lt.2 c14)
            try (have c14b3 := c14; simp only [ByteArray.size_append] at c14b3; have c14b4 := eq_false (Nat.not_lt.2 c14b3))
            by_cases c15 : ((x5_2 ++ ((rd_T36 t268 x7_1).f0)) ++ (⟨#[47]⟩ : ByteArray)).size + 1 ≤ 9223372036854775807
            ·rw [if_pos c15] at H
             have c15b0 := eq_true c15
             have c15b1 : decide (((x5_2 ++ ((rd_T36 t268 x7_1).f0)) ++ (⟨#[47]⟩ : ByteArray)).size + 1 ≤ 9223372036854775807) = true := decide_eq_true c15
             try have c15b2 : (9223372036854775807 < ((x5_2 ++ ((rd_T36 t268 x7_1).f0)) ++ (⟨#[47]⟩ : ByteArray)).size + 1) = False := eq_false (Nat.not_lt.2 c15)
             try (have c15b3 := c15; simp only [ByteArray.size_append, show ((⟨#[47]⟩ : ByteArray)).size = 1 from rfl] at c15b3; have c15b4 := eq_false (Nat.not_lt.2 c15b3))
             replace H := Option.bind_eq_some_iff.mp H
             obtain ⟨t275, A160, H⟩ := H
             replace H : (if (((x5_2 ++ ((rd_T36 t268 x7_1).f0)) ++ (⟨#[47]⟩ : ByteArray)) ++ (⟨#[32]⟩ : ByteArray)).size + t275.size ≤ 9223372036854775807 then (if ((((x5_2 ++ ((rd_T36 t268 x7_1).f0)) ++ (⟨#[47]⟩ : ByteArray)) ++ (⟨#[32]⟩ : ByteArray)) ++ t275).size + 1 ≤ 9223372036854775807 then (bindleref39_Text.l0 k2 (((((x5_2 ++ ((rd_T36 t268 x7_1).f0)) ++ (⟨#[47]⟩ : ByteArray)) ++ (⟨#[32]⟩ : ByteArray)) ++ t275) ++ (⟨#[10]⟩ : ByteArray)) t268 (wrap64 (x7_1 + 1))) else (none)) else (none)) = some r := H
             have A16 := Aside0.mk A160
             clear A160
             by_cases c17 : (((x5_2 ++ ((rd_T36 t268 x7_1).f0)) ++ (⟨#[47]⟩ : ByteArray)) ++ (⟨#[32]⟩ : ByteArray)).size + t275.size ≤ 9223372036854775807
             ·rw [if_pos c17] at H
              have c17b0 := eq_true c17
              have c17b1 : decide ((((x5_2 ++ ((rd_T36 t268 x7_1).f0)) ++ (⟨#[47]⟩ : ByteArray)) ++ (⟨#[32]⟩ : ByteArray)).size + t275.size ≤ 9223372036854775807) = true := decide_eq_true c17
              try have c17b2 : (9223372036854775807 < (((x5_2 ++ ((rd_T36 t268 x7_1).f0)) ++ (⟨#[47]⟩ : ByteArray)) ++ (⟨#[32]⟩ : ByteArray)).size + t275.size) = False := eq_false (Nat.not_lt.2 c17)
              try (have c17b3 := c17; simp only [ByteArray.size_append, show ((⟨#[32]⟩ : ByteArray)).size = 1 from rfl, show ((⟨#[47]⟩ : ByteArray)).size = 1 from rfl] at c17b3; have c17b4 := eq_false (Nat.not_lt.2 c17b3))
              by_cases c18 : ((((x5_2 ++ ((rd_T36 t268 x7_1).f0)) ++ (⟨#[47]⟩ : ByteArray)) ++ (⟨#[32]⟩ : ByteArray)) ++ t275).size + 1 ≤ 9223372036854775807
              ·rw [if_pos c18] at H
               have c18b0 := eq_true c18
               have c18b1 : decide (((((x5_2 ++ ((rd_T36 t268 x7_1).f0)) ++ (⟨#[47]⟩ : ByteArray)) ++ (⟨#[32]⟩ : ByteArray)) ++ t275).size + 1 ≤ 9223372036854775807) = true := decide_eq_true c18
               try have c18b2 : (9223372036854775807 < ((((x5_2 ++ ((rd_T36 t268 x7_1).f0)) ++ (⟨#[47]⟩ : ByteArray)) ++ (⟨#[32]⟩ : ByteArray)) ++ t275).size + 1) = False := eq_false (Nat.not_lt.2 c18)
               try (have c18b3 := c18; simp only [ByteArray.size_append, show ((⟨#[32]⟩ : ByteArray)).size = 1 from rfl, show ((⟨#[47]⟩ : ByteArray)).size = 1 from rfl] at c18b3; have c18b4 := eq_false (Nat.not_lt.2 c18b3))
               have H' := Aside0.mk H
               clear H
               have p271 : 0 ≤ (x7_1 : Int) := of_decide_eq_true (by first | (with_reducible assumption) | assumption)
               have q271 : x7_1 < (t268.length : Int) := of_decide_eq_true (by first | (with_reducible assumption) | assumption)
               obtain ⟨ad271, e271, hx271_0, hx271_1, hx271_2, hx271_3, hx271_4, hx271_5⟩ := at_T36 (Kd.R_reads' HO_6.out).2.2 x7_1 p271 q271
               (try rw [← Nbq12.out] at hx271_3)
               cases e271
               replace p271 := eq_true p271
               replace q271 := eq_true q271
               have p272 : 0 ≤ (x7_1 : Int) := of_decide_eq_true (by first | (with_reducible assumption) | assumption)
               have q272 : x7_1 < (t268.length : Int) := of_decide_eq_true (by first | (with_reducible assumption) | assumption)
               obtain ⟨ad272, e272, hx272_0, hx272_1, hx272_2, hx272_3, hx272_4, hx272_5⟩ := at_T36 (Kd.R_reads' HO_6.out).2.2 x7_1 p272 q272
               (try rw [← Nbq12.out] at hx272_3)
               obtain rfl : ad271 = ad272 := (by injection e272)
               replace p272 := eq_true p272
               replace q272 := eq_true q272
               have p273 : 0 ≤ (x7_1 : Int) := of_decide_eq_true (by first | (with_reducible assumption) | assumption)
               have q273 : x7_1 < (t268.length : Int) := of_decide_eq_true (by first | (with_reducible assumption) | assumption)
               obtain ⟨ad273, e273, hx273_0, hx273_1, hx273_2, hx273_3, hx273_4, hx273_5⟩ := at_T36 (Kd.R_reads' HO_6.out).2.2 x7_1 p273 q273
               (try rw [← Nbq12.out] at hx273_3)
               obtain rfl : ad271 = ad273 := (by injection e273)
               replace p273 := eq_true p273
               replace q273 := eq_true q273
               have p274 : 0 ≤ (x7_1 : Int) := of_decide_eq_true (by first | (with_reducible assumption) | assumption)
               have q274 : x7_1 < (t268.length : Int) := of_decide_eq_true (by first | (with_reducible assumption) | assumption)
               obtain ⟨ad274, e274, hx274_0, hx274_1, hx274_2, hx274_3, hx274_4, hx274_5⟩ := at_T36 (Kd.R_reads' HO_6.out).2.2 x7_1 p274 q274
               (try rw [← Nbq12.out] at hx274_3)
               obtain rfl : ad271 = ad274 := (by injection e274)
               replace p274 := eq_true p274
               replace q274 := eq_true q274
               go_wp2_with (first | ((with_reducible refine gate_callee (f := 36) rfl ?_); refine goesL_ (some 50) rfl rfl Tryz.func36 (by kernel_rfl) rfl #[.int .i64 ((rd_T36 t268 x7_1).f2)] rfl (by (try simp only [List.map_toArray, List.map_cons, List.map_nil]); first | done | rfl | (simp only [List.length_drop, List.length_take]; rfl)) ?_; (with_reducible refine (bindleref33_Digits.calls k2 ((rd_T36 t268 x7_1).f2) t275 _ A16.out).mono ?_); rintro e w19 ⟨rfl, hb⟩; refine ⟨_, rfl, ?_⟩; have n0_ := Aside0.mk (Kd.R_below (by (with_reducible repeat (first | apply Kd.R_alloc | apply Kd.R_drewN | apply Kd.R_drew)); exact HO_6.out) hb); have n1_ := Aside0.mk (below_step (by repeat (first | (with_reducible first | exact HB.out | apply below_alloc | apply pw_below_drewN | apply below_drew1) | exact HB.out)) hb); clear HO_6; clear HB; have HO_6 := n0_; have HB := n1_; clear n0_ n1_; (try clear hb); (try clear hb2); (try clear hk); (try clear hi)))
               go_roundg k2
               case measure => have := HK1.out; have := HK2.out; omega
               case rel => exact ⟨(((((x5_2 ++ ((rd_T36 t268 x7_1).f0)) ++ (⟨#[47]⟩ : ByteArray)) ++ (⟨#[32]⟩ : ByteArray)) ++ t275) ++ (⟨#[10]⟩ : ByteArray)), (wrap64 (x7_1 + 1)), (by first | rfl | (simp only [YtkccjohhakljnaaGreatDoorMpHelp.leq_not, YtkccjohhakljnaaGreatDoorMpHelp.gtr_less]; done) | (simp; done) | (simp [*]; done)), (by first | rfl | (simp only [YtkccjohhakljnaaGreatDoorMpHelp.leq_not, YtkccjohhakljnaaGreatDoorMpHelp.gtr_less]; done) | (simp; done) | (simp [*]; done)), H', ⟨by have := HK1.out; have := HK2.out; omega⟩, ⟨by (with_reducible repeat (first | apply Kd.R_alloc | apply Kd.R_drewN | apply Kd.R_drew)); exact HO_6.out⟩, ⟨by repeat (first | (with_reducible first | exact HB.out | apply below_alloc | apply pw_below_drewN | apply below_drew1) | exact HB.out)⟩⟩
              ·rw [if_neg c18] at H
               exact absurd H (by simp)
             ·rw [if_neg c17] at H
              exact absurd H (by simp)
            ·rw [if_neg c15] at H
             exact absurd H (by simp)
           ·rw [if_neg c14] at H
            exact absurd H (by simp)
          ·replace c13 := Bool.eq_false_iff.mpr c13
           subst c13
           have H1 : (if (x5_2 ++ ((rd_T36 t268 x7_1).f0)).size + 1 ≤ 9223372036854775807 then ((bindleref33_Digits.f k2 ((rd_T36 t268 x7_1).f2)).bind fun t277 => (if ((x5_2 ++ ((rd_T36 t268 x7_1).f0)) ++ (⟨#[32]⟩ : ByteArray)).size + t277.size ≤ 9223372036854775807 then (if (((x5_2 ++ ((rd_T36 t268 x7_1).f0)) ++ (⟨#[32]⟩ : ByteArray)) ++ t277).size + 1 ≤ 9223372036854775807 then (bindleref39_Text.l0 k2 ((((x5_2 ++ ((rd_T36 t268 x7_1).f0)) ++ (⟨#[32]⟩ : ByteArray)) ++ t277) ++ (⟨#[10]⟩ : ByteArray)) t268 (wrap64 (x7_1 + 1))) else (none)) else (none))) else (none)) = some r := by rw [if_neg (show ¬ (false = true) by decide)] at H; exact H
           clear H
           have H := H1
           clear H1
           by_cases c20 : (x5_2 ++ ((rd_T36 t268 x7_1).f0)).size + 1 ≤ 9223372036854775807
           ·rw [if_pos c20] at H
            have c20b0 := eq_true c20
            have c20b1 : decide ((x5_2 ++ ((rd_T36 t268 x7_1).f0)).size + 1 ≤ 9223372036854775807) = true := decide_eq_true c20
            try have c20b2 : (9223372036854775807 < (x5_2 ++ ((rd_T36 t268 x7_1).f0)).size + 1) = False := eq_false (Nat.not_lt.2 c20)
            try (have c20b3 := c20; simp only [ByteArray.size_append] at c20b3; have c20b4 := eq_false (Nat.not_lt.2 c20b3))
            replace H := Option.bind_eq_some_iff.mp H
            obtain ⟨t277, A210, H⟩ := H
            replace H : (if ((x5_2 ++ ((rd_T36 t268 x7_1).f0)) ++ (⟨#[32]⟩ : ByteArray)).size + t277.size ≤ 9223372036854775807 then (if (((x5_2 ++ ((rd_T36 t268 x7_1).f0)) ++ (⟨#[32]⟩ : ByteArray)) ++ t277).size + 1 ≤ 9223372036854775807 then (bindleref39_Text.l0 k2 ((((x5_2 ++ ((rd_T36 t268 x7_1).f0)) ++ (⟨#[32]⟩ : ByteArray)) ++ t277) ++ (⟨#[10]⟩ : ByteArray)) t268 (wrap64 (x7_1 + 1))) else (none)) else (none)) = some r := H
            have A21 := Aside0.mk A210
            clear A210
            by_cases c22 : ((x5_2 ++ ((rd_T36 t268 x7_1).f0)) ++ (⟨#[32]⟩ : ByteArray)).size + t277.size ≤ 9223372036854775807
            ·rw [if_pos c22] at H
             have c22b0 := eq_true c22
             have c22b1 : decide (((x5_2 ++ ((rd_T36 t268 x7_1).f0)) ++ (⟨#[32]⟩ : ByteArray)).size + t277.size ≤ 9223372036854775807) = true := decide_eq_true c22
             try have c22b2 : (9223372036854775807 < ((x5_2 ++ ((rd_T36 t268 x7_1).f0)) ++ (⟨#[32]⟩ : ByteArray)).size + t277.size) = False := eq_false (Nat.not_lt.2 c22)
             try (have c22b3 := c22; simp only [ByteArray.size_append, show ((⟨#[32]⟩ : ByteArray)).size = 1 from rfl] at c22b3; have c22b4 := eq_false (Nat.not_lt.2 c22b3))
             by_cases c23 : (((x5_2 ++ ((rd_T36 t268 x7_1).f0)) ++ (⟨#[32]⟩ : ByteArray)) ++ t277).size + 1 ≤ 9223372036854775807
             ·rw [if_pos c23] at H
              have c23b0 := eq_true c23
              have c23b1 : decide ((((x5_2 ++ ((rd_T36 t268 x7_1).f0)) ++ (⟨#[32]⟩ : ByteArray)) ++ t277).size + 1 ≤ 9223372036854775807) = true := decide_eq_true c23
              try have c23b2 : (9223372036854775807 < (((x5_2 ++ ((rd_T36 t268 x7_1).f0)) ++ (⟨#[32]⟩ : ByteArray)) ++ t277).size + 1) = False := eq_false (Nat.not_lt.2 c23)
              try (have c23b3 := c23; simp only [ByteArray.size_append, show ((⟨#[32]⟩ : ByteArray)).size = 1 from rfl] at c23b3; have c23b4 := eq_false (Nat.not_lt.2 c23b3))
              have H' := Aside0.mk H
              clear H
              have p271 : 0 ≤ (x7_1 : Int) := of_decide_eq_true (by first | (with_reducible assumption) | assumption)
              have q271 : x7_1 < (t268.length : Int) := of_decide_eq_true (by first | (with_reducible assumption) | assumption)
              obtain ⟨ad271, e271, hx271_0, hx271_1, hx271_2, hx271_3, hx271_4, hx271_5⟩ := at_T36 (Kd.R_reads' HO_6.out).2.2 x7_1 p271 q271
              (try rw [← Nbq12.out] at hx271_3)
              cases e271
              replace p271 := eq_true p271
              replace q271 := eq_true q271
              have p272 : 0 ≤ (x7_1 : Int) := of_decide_eq_true (by first | (with_reducible assumption) | assumption)
              have q272 : x7_1 < (t268.length : Int) := of_decide_eq_true (by first | (with_reducible assumption) | assumption)
              obtain ⟨ad272, e272, hx272_0, hx272_1, hx272_2, hx272_3, hx272_4, hx272_5⟩ := at_T36 (Kd.R_reads' HO_6.out).2.2 x7_1 p272 q272
              (try rw [← Nbq12.out] at hx272_3)
              obtain rfl : ad271 = ad272 := (by injection e272)
              replace p272 := eq_true p272
              replace q272 := eq_true q272
              have p273 : 0 ≤ (x7_1 : Int) := of_decide_eq_true (by first | (with_reducible assumption) | assumption)
              have q273 : x7_1 < (t268.length : Int) := of_decide_eq_true (by first | (with_reducible assumption) | assumption)
              obtain ⟨ad273, e273, hx273_0, hx273_1, hx273_2, hx273_3, hx273_4, hx273_5⟩ := at_T36 (Kd.R_reads' HO_6.out).2.2 x7_1 p273 q273
              (try rw [← Nbq12.out] at hx273_3)
              obtain rfl : ad271 = ad273 := (by injection e273)
              replace p273 := eq_true p273
              replace q273 := eq_true q273
              have p276 : 0 ≤ (x7_1 : Int) := of_decide_eq_true (by first | (with_reducible assumption) | assumption)
              have q276 : x7_1 < (t268.length : Int) := of_decide_eq_true (by first | (with_reducible assumption) | assumption)
              obtain ⟨ad276, e276, hx276_0, hx276_1, hx276_2, hx276_3, hx276_4, hx276_5⟩ := at_T36 (Kd.R_reads' HO_6.out).2.2 x7_1 p276 q276
              (try rw [← Nbq12.out] at hx276_3)
              obtain rfl : ad271 = ad276 := (by injection e276)
              replace p276 := eq_true p276
              replace q276 := eq_true q276
              go_wp2_with (first | ((with_reducible refine gate_callee (f := 36) rfl ?_); refine goesL_ (some 50) rfl rfl Tryz.func36 (by kernel_rfl) rfl #[.int .i64 ((rd_T36 t268 x7_1).f2)] rfl (by (try simp only [List.map_toArray, List.map_cons, List.map_nil]); first | done | rfl | (simp only [List.length_drop, List.length_take]; rfl)) ?_; (with_reducible refine (bindleref33_Digits.calls k2 ((rd_T36 t268 x7_1).f2) t277 _ A21.out).mono ?_); rintro e w24 ⟨rfl, hb⟩; refine ⟨_, rfl, ?_⟩; have n0_ := Aside0.mk (Kd.R_below (by (with_reducible repeat (first | apply Kd.R_alloc | apply Kd.R_drewN | apply Kd.R_drew)); exact HO_6.out) hb); have n1_ := Aside0.mk (below_step (by repeat (first | (with_reducible first | exact HB.out | apply below_alloc | apply pw_below_drewN | apply below_drew1) | exact HB.out)) hb); clear HO_6; clear HB; have HO_6 := n0_; have HB := n1_; clear n0_ n1_; (try clear hb); (try clear hb2); (try clear hk); (try clear hi)))
              go_roundg k2
              case measure => have := HK1.out; have := HK2.out; omega
              case rel => exact ⟨((((x5_2 ++ ((rd_T36 t268 x7_1).f0)) ++ (⟨#[32]⟩ : ByteArray)) ++ t277) ++ (⟨#[10]⟩ : ByteArray)), (wrap64 (x7_1 + 1)), (by first | rfl | (simp only [YtkccjohhakljnaaGreatDoorMpHelp.leq_not, YtkccjohhakljnaaGreatDoorMpHelp.gtr_less]; done) | (simp; done) | (simp [*]; done)), (by first | rfl | (simp only [YtkccjohhakljnaaGreatDoorMpHelp.leq_not, YtkccjohhakljnaaGreatDoorMpHelp.gtr_less]; done) | (simp; done) | (simp [*]; done)), H', ⟨by have := HK1.out; have := HK2.out; omega⟩, ⟨by (with_reducible repeat (first | apply Kd.R_alloc | apply Kd.R_drewN | apply Kd.R_drew)); exact HO_6.out⟩, ⟨by repeat (first | (with_reducible first | exact HB.out | apply below_alloc | apply pw_below_drewN | apply below_drew1) | exact HB.out)⟩⟩
             ·rw [if_neg c23] at H
              exact absurd H (by simp)
            ·rw [if_neg c22] at H
             exact absurd H (by simp)
           ·rw [if_neg c20] at H
            exact absurd H (by simp)
         ·rw [if_neg c11] at H
          exact absurd H (by simp)
       ·rw [if_neg c8] at H
        exact absurd H (by simp)
      ·rw [if_neg c7] at H
       exact absurd H (by simp)
   ·rw [if_neg c5] at H
    have c5b0 : decide (x7_1 < (t268.length : Int)) = false := decide_eq_false c5
    clear c5
    obtain rfl := Option.some.inj H
    obtain ⟨Ao25, co25, eo25⟩ := Kd.R_slice HO_6.out
    subst eo25
    go_wp2
    go_ret
    exact ⟨by first | rfl | (simp [errW_none, errW_some] <;> rfl) | (simp [*, errW_none, errW_some] <;> rfl), by repeat (first | (with_reducible first | exact HB.out | apply below_alloc | apply pw_below_drewN | apply below_drew1) | exact HB.out)⟩

end Go.Proofs.YtkccjohhakljnaaGreatDoor.PTreeWalks
