/- The machine side of a law: for each Go function that it uses a Lean function with the same answers, and the proof that the Go code comes to them; or the row of the law over these. Written by a program of this session. -/
import Derived.Test.YtodifojhegbjaaaDoorPReportLinesx0
import Derived.Test.YtodifojhegbjaaaDoorPReportLinesx2
import Derived.Test.YtodifojhegbjaaaDoorPReportLinesx3
import Derived.Test.YtodifojhegbjaaaDoorPReportLinesx5
import Derived.Test.YtodifojhegbjaaaDoorPReportLinesx6
namespace Go.Proofs.YtodifojhegbjaaaDoor.PReportLines
open Go.RowKit Go.Proofs.YtodifojhegbjaaaDoorW.PrintWords Go.Proofs.YtodifojhegbjaaaDoorW.PrintLast Go.Proofs.YtodifojhegbjaaaDoorW.PrintMore
attribute [local go_sem] max2_int min2_int max_two min_two max_three min_three max_four min_four   -- for this text's walks alone
set_option linter.unusedVariables false
set_option linter.unusedSimpArgs false

/-! ### bindlelaw33_ReportLines: function 5 -/
def bindlelaw33_ReportLines.l0 : Nat → List (S66) → List (S47) → List (S51) → List (S53) → Int → Int → ByteArray → List Int → Int → List Bool → Int → Int → Option (Bool)
 | 0, _, _, _, _, _, _, _, _, _, _, _, _ => none
 | k + 1, x0, x5, x6, x7, x8, x165000, x165001, x165002, x165003, x165004, x165005, x165006 => if x8 < (x0.length : Int) then (if 0 ≤ x8 then (if x8 < (x6.length : Int) then (if x7.length < 1466015503701 then ((some (x7 ++ [(⟨(rd_T51 x6 x8).f0, (rd_T51 x6 x8).f1, (rd_T51 x6 x8).f2, (rd_T51 x6 x8).f3, (rd_T51 x6 x8).f4, (rd_T51 x6 x8).f5, (rd_T51 x6 x8).f6⟩ : S53)] : List (S53))).bind fun y174 => (if x8 < (x5.length : Int) then ((report_Line.f k ((rd_T47 x5 x8).f0) ((rd_T47 x5 x8).f1) ((rd_T47 x5 x8).f2) ((rd_T47 x5 x8).f3) ((rd_T47 x5 x8).f4.f0) ((rd_T47 x5 x8).f4.f1) ((rd_T47 x5 x8).f4.f2) ((rd_T51 x6 x8).f0) ((rd_T51 x6 x8).f1) ((rd_T51 x6 x8).f2) ((rd_T51 x6 x8).f3) ((rd_T51 x6 x8).f4) ((rd_T51 x6 x8).f5) ((rd_T51 x6 x8).f6)).bind fun t179 => (if x8 < (y174.length : Int) then ((bindleref33_Line.f k ((rd_T47 x5 x8).f0) ((rd_T47 x5 x8).f1) ((rd_T47 x5 x8).f2) ((rd_T47 x5 x8).f3) ((rd_T47 x5 x8).f4.f0) ((rd_T47 x5 x8).f4.f1) ((rd_T47 x5 x8).f4.f2) ((rd_T53 y174 x8).f0) ((rd_T53 y174 x8).f1) ((rd_T53 y174 x8).f2) ((rd_T53 y174 x8).f3) ((rd_T53 y174 x8).f4) ((rd_T53 y174 x8).f5) ((rd_T53 y174 x8).f6)).bind fun t182 => (if t179.toList = t182.toList then (bindlelaw33_ReportLines.l0 k x0 x5 x6 y174 (wrap64 (x8 + 1)) x165000 x165001 x165002 x165003 x165004 x165005 x165006) else (none))) else (none))) else (none))) else (none)) else (none)) else (none)) else ((report_Text.f k x5 x6).bind fun bt183 => (if x5.length < 1466015503701 then ((report_Text.f k (x5 ++ [(⟨x165000, x165001, x165002, x165003, (⟨x165004, x165005, x165006⟩ : S45)⟩ : S47)]) x6).bind fun bt188 => ((report_Sum.f (x5 ++ [(⟨x165000, x165001, x165002, x165003, (⟨x165004, x165005, x165006⟩ : S45)⟩ : S47)]) x6).bind fun bt193 => ((bindleref33_Text.f k x5 x7).bind fun t235 => (if bt183.1.toList = t235.toList then (if bt183.2 = 0 then (if bt188.1.toList = ([] : List UInt8) then (if bt188.2 = 1 then (if bt193.2.2.2.2.2.2.2.2.2.2.2.2.2.2.2.2.2.2.2.2.2.2.2.2.2.2.2.2.2.2.2.2.2.2.2.2.2.2.2.2 = 1 then ((bindlelaw33_lives.f k).bind fun t236 => (some t236)) else (none)) else (none)) else (none)) else (none)) else (none))))) else (none)))
def bindlelaw33_ReportLines.f (k : Nat) (l0 : List (S66)) (a1_0 : Int) (a1_1 : ByteArray) (l1_2 : List Int) (a1_3 : Int) (l1_4 : List Bool) (a1_5 : Int) (a1_6 : Int) : Option (Bool) := (bindlelaw33_great.f k l0).bind fun t165 => (if t165 = true then ((bindlelaw33_lives.f k).bind fun t166 => (some t166)) else ((bindlelaw33_parts.f k l0).bind fun bt167 => (bindlelaw33_ReportLines.l0 k l0 bt167.1 bt167.2 ([] : List (S53)) 0 a1_0 a1_1 l1_2 a1_3 l1_4 a1_5 a1_6)))
theorem bindlelaw33_ReportLines.mono_l : ∀ k, (∀ y0 y1 y2 y3 y4 y5 y6 y7 y8 y9 y10 y11, LeO (bindlelaw33_ReportLines.l0 k y0 y1 y2 y3 y4 y5 y6 y7 y8 y9 y10 y11) (bindlelaw33_ReportLines.l0 (k + 1) y0 y1 y2 y3 y4 y5 y6 y7 y8 y9 y10 y11))
 | 0 => fun _ _ _ _ _ _ _ _ _ _ _ _ r h => by simp [bindlelaw33_ReportLines.l0] at h
 | k + 1 => by
  have ih0 := bindlelaw33_ReportLines.mono_l k
  ·intro y0 y1 y2 y3 y4 y5 y6 y7 y8 y9 y10 y11
   unfold bindlelaw33_ReportLines.l0
   repeat' first
   | (with_reducible exact ih0 _ _ _ _ _ _ _ _ _ _ _ _)
   | (with_reducible exact bindlelaw33_great.mono _ _)
   | (with_reducible exact bindlelaw33_lives.mono _)
   | (with_reducible exact bindlelaw33_parts.mono _ _)
   | (with_reducible exact bindleref33_Line.mono _ _ _ _ _ _ _ _ _ _ _ _ _ _ _)
   | (with_reducible exact bindleref33_Text.mono _ _ _)
   | (with_reducible exact report_Line.mono _ _ _ _ _ _ _ _ _ _ _ _ _ _ _)
   | (with_reducible exact report_Text.mono _ _ _)
   | (with_reducible exact LeO.refl _)
   | (with_reducible exact LeO.none _)
   | (with_reducible refine LeO.ite ?_ ?_)
   | (with_reducible refine LeO.bind ?_ (fun _ => ?_))
   | exact ih0 _ _ _ _ _ _ _ _ _ _ _ _
   | exact bindlelaw33_great.mono _ _
   | exact bindlelaw33_lives.mono _
   | exact bindlelaw33_parts.mono _ _
   | exact bindleref33_Line.mono _ _ _ _ _ _ _ _ _ _ _ _ _ _ _
   | exact bindleref33_Text.mono _ _ _
   | exact report_Line.mono _ _ _ _ _ _ _ _ _ _ _ _ _ _ _
   | exact report_Text.mono _ _ _
   | exact LeO.none _
   | refine LeO.ite ?_ ?_
   | refine LeO.bind ?_ (fun _ => ?_)
theorem bindlelaw33_ReportLines.mono : ∀ a0 a1 a2 a3 a4 a5 a6 a7 k, LeO (bindlelaw33_ReportLines.f k a0 a1 a2 a3 a4 a5 a6 a7) (bindlelaw33_ReportLines.f (k + 1) a0 a1 a2 a3 a4 a5 a6 a7) := by
 intro a0 a1 a2 a3 a4 a5 a6 a7 k
 have ih0 := bindlelaw33_ReportLines.mono_l k
 unfold bindlelaw33_ReportLines.f
 repeat' first
   | (with_reducible exact ih0 _ _ _ _ _ _ _ _ _ _ _ _)
   | (with_reducible exact bindlelaw33_great.mono _ _)
   | (with_reducible exact bindlelaw33_lives.mono _)
   | (with_reducible exact bindlelaw33_parts.mono _ _)
   | (with_reducible exact bindleref33_Line.mono _ _ _ _ _ _ _ _ _ _ _ _ _ _ _)
   | (with_reducible exact bindleref33_Text.mono _ _ _)
   | (with_reducible exact report_Line.mono _ _ _ _ _ _ _ _ _ _ _ _ _ _ _)
   | (with_reducible exact report_Text.mono _ _ _)
   | (with_reducible exact LeO.refl _)
   | (with_reducible exact LeO.none _)
   | (with_reducible refine LeO.ite ?_ ?_)
   | (with_reducible refine LeO.bind ?_ (fun _ => ?_))
   | exact ih0 _ _ _ _ _ _ _ _ _ _ _ _
   | exact bindlelaw33_great.mono _ _
   | exact bindlelaw33_lives.mono _
   | exact bindlelaw33_parts.mono _ _
   | exact bindleref33_Line.mono _ _ _ _ _ _ _ _ _ _ _ _ _ _ _
   | exact bindleref33_Text.mono _ _ _
   | exact report_Line.mono _ _ _ _ _ _ _ _ _ _ _ _ _ _ _
   | exact report_Text.mono _ _ _
   | exact LeO.none _
   | refine LeO.ite ?_ ?_
   | refine LeO.bind ?_ (fun _ => ?_)
def bindlelaw33_ReportLines.T9 : Bool × List (List Nat × List Nat) := (true, [([], []), ([], []), ([0, 1], [0, 1]), ([2], [2]), ([], []), ([], []), ([4, 5], [4, 5]), ([6], [6]), ([3, 7], [3, 7]), ([], []), ([], []), ([9, 10], [9, 10]), ([11], [11]), ([], []), ([], []), ([13, 14], [13, 14]), ([15], [15]), ([12, 16, 8], [12, 16]), ([8, 17], [8, 17])])
def bindlelaw33_ReportLines.B9 : List Nat := [0, 0, 3, 7, 0, 0, 48, 112, 255, 0, 0, 1536, 3584, 0, 0, 24576, 57344, 131071, 262143]
theorem bindlelaw33_ReportLines.tab9 : rtab .any (opsOf Tryd.f5 9) = bindlelaw33_ReportLines.T9 := by kernel_rfl
theorem bindlelaw33_ReportLines.bits9 : waitsOk bindlelaw33_ReportLines.T9.2 bindlelaw33_ReportLines.B9 = true := by kernel_rfl
set_option maxHeartbeats 8000000 in
set_option maxRecDepth 100000 in
theorem bindlelaw33_ReportLines.calls (k : Nat) (P0_ : Nat → Prop) (A0 : Option Addr) (c0 : Nat) (l0 : List (S66)) (a1_0 : Int) (a1_1 : ByteArray) (P1_2_ : Nat → Prop) (A1_2 : Option Addr) (c1_2 : Nat) (l1_2 : List Int) (a1_3 : Int) (P1_4_ : Nat → Prop) (A1_4 : Option Addr) (c1_4 : Nat) (l1_4 : List Bool) (a1_5 : Int) (a1_6 : Int) (r : Bool) (w : World) (hs0 : Kd.V k66 66 w w.heap.size (fun k_ => P0_ k_) (.slice A0 l0.length c0) l0) (hs1_2 : Kd.V (Kd.int .u8) 5 w w.heap.size (fun k_ => P1_2_ k_) (.slice A1_2 l1_2.length c1_2) l1_2) (hs1_4 : Kd.V Kd.bool 4 w w.heap.size (fun k_ => P1_4_ k_) (.slice A1_4 l1_4.length c1_4) l1_4) (ht_ : YtodifojhegbjaaaDoorTab.TabOK w) (h : bindlelaw33_ReportLines.f k l0 a1_0 a1_1 l1_2 a1_3 l1_4 a1_5 a1_6 = some r) :
  Calls Tryd.prog 5 #[.slice A0 l0.length c0, .agg #[.int .i64 a1_0, .string a1_1, .slice A1_2 l1_2.length c1_2, .int .i64 a1_3, .slice A1_4 l1_4.length c1_4, .int .i64 a1_5, .int .u8 a1_6]] w fun e w' => e = .returned (.bool r) ∧ Below w.heap.size w w' := by
 have HT := Aside0.mk ht_
 clear ht_
 have hu47 := Tryd.underlying47
 have hu51 := Tryd.underlying51
 have hu53 := Tryd.underlying53
 have hu39 := Tryd.underlying39
 have HO0 := Aside0.mk (show Kd.V k66 66 w w.heap.size (fun k_ => ((P0_ k_ ∨ P1_2_ k_ ∨ P1_4_ k_) ∨ w.heap.size ≤ k_)) (.slice A0 l0.length c0) l0 from Kd.V_mono hs0 (fun k_ hk => .inl (.inl hk)))
 have HO1_2 := Aside0.mk (show Kd.V (Kd.int .u8) 5 w w.heap.size (fun k_ => ((P0_ k_ ∨ P1_2_ k_ ∨ P1_4_ k_) ∨ w.heap.size ≤ k_)) (.slice A1_2 l1_2.length c1_2) l1_2 from Kd.V_mono hs1_2 (fun k_ hk => .inl (.inr (.inl hk))))
 have HO1_4 := Aside0.mk (show Kd.V Kd.bool 4 w w.heap.size (fun k_ => ((P0_ k_ ∨ P1_2_ k_ ∨ P1_4_ k_) ∨ w.heap.size ≤ k_)) (.slice A1_4 l1_4.length c1_4) l1_4 from Kd.V_mono hs1_4 (fun k_ hk => .inl (.inr (.inr hk))))
 have HB := Aside0.mk (Below.refl w.heap.size w)
 have H : ((bindlelaw33_great.f k l0).bind fun t165 => (if t165 = true then ((bindlelaw33_lives.f k).bind fun t166 => (some t166)) else ((bindlelaw33_parts.f k l0).bind fun bt167 => (bindlelaw33_ReportLines.l0 k l0 bt167.1 bt167.2 ([] : List (S53)) 0 a1_0 a1_1 l1_2 a1_3 l1_4 a1_5 a1_6)))) = some r := h
 clear h
 replace H := Option.bind_eq_some_iff.mp H
 obtain ⟨t165, A30, H⟩ := H
 replace H : (if t165 = true then ((bindlelaw33_lives.f k).bind fun t166 => (some t166)) else ((bindlelaw33_parts.f k l0).bind fun bt167 => (bindlelaw33_ReportLines.l0 k l0 bt167.1 bt167.2 ([] : List (S53)) 0 a1_0 a1_1 l1_2 a1_3 l1_4 a1_5 a1_6))) = some r := H
 have A3 := Aside0.mk A30
 clear A30
 by_cases c4 : t165 = true
 ·subst c4
  have H1 : ((bindlelaw33_lives.f k).bind fun t166 => (some t166)) = some r := by rw [if_pos rfl] at H; exact H
  clear H
  have H := H1
  clear H1
  replace H := Option.bind_eq_some_iff.mp H
  obtain ⟨t166, A50, H⟩ := H
  replace H : (some t166) = some r := H
  have A5 := Aside0.mk A50
  clear A50
  obtain rfl := Option.some.inj H
  go_enter Tryd.func5, Tryd.ntmps5
  go_wp2_with (first | ((with_reducible refine gate_dst (N := 3) rfl ?_); refine box_event ?hg (N := 3) ?hd (cs := #[.int .i64 a1_0, .string a1_1, .slice A1_2 l1_2.length c1_2, .int .i64 a1_3, .slice A1_4 l1_4.length c1_4, .int .i64 a1_5, .int .u8 a1_6]) (t := 47) ?hr ?_; (case hd => rfl); (case hg => rfl); (case hr => first | (go_simp; done) | (go_simp; rfl)); intro gb164 hg w6 hbox hb; have n0_ := Aside0.mk (Kd.V_below (Kd.V_elderB (by (with_reducible repeat (first | apply Kd.V_alloc | apply Kd.V_drewN | apply Kd.V_drew)); exact HO0.out) gb164 (Nat.le_of_eq hg.symm)) hb); have n1_ := Aside0.mk (Kd.V_below (Kd.V_elderB (by (with_reducible repeat (first | apply Kd.V_alloc | apply Kd.V_drewN | apply Kd.V_drew)); exact HO1_2.out) gb164 (Nat.le_of_eq hg.symm)) hb); have n2_ := Aside0.mk (Kd.V_below (Kd.V_elderB (by (with_reducible repeat (first | apply Kd.V_alloc | apply Kd.V_drewN | apply Kd.V_drew)); exact HO1_4.out) gb164 (Nat.le_of_eq hg.symm)) hb); have n3_ := Aside0.mk (below_step (by repeat (first | (with_reducible first | exact HB.out | apply below_alloc | apply pw_below_drewN | apply below_drew1) | exact HB.out)) hb); have n4_ := Aside0.mk (hbox); have n5_ := Aside0.mk ((by rw [hg]; exact (below_size (by repeat (first | (with_reducible first | exact HB.out | apply below_alloc | apply pw_below_drewN | apply below_drew1) | exact HB.out))) : w.heap.size ≤ gb164)); have n6_ := Aside0.mk ((by rw [hg]; exact (below_size (by repeat (first | (with_reducible first | exact HB.out | apply below_alloc | apply pw_below_drewN | apply below_drew1) | exact HB.out))) : w.heap.size ≤ gb164)); clear HO0; clear HO1_2; clear HO1_4; clear HB; have HO0 := n0_; have HO1_2 := n1_; have HO1_4 := n2_; have HB := n3_; have BK164 := n4_; have GW164 := n5_; have GE164 := n6_; clear n0_ n1_ n2_ n3_ n4_ n5_ n6_; clear hb hbox hg) | ((with_reducible refine gate_callee (f := 14) rfl ?_); refine goesL_ (some 16) rfl rfl Tryd.func14 (by kernel_rfl) rfl #[.slice A0 l0.length c0] rfl (by (try simp only [List.map_toArray, List.map_cons, List.map_nil]); first | done | rfl | (simp only [List.length_drop, List.length_take]; rfl)) ?_; (with_reducible refine (bindlelaw33_great.calls k _ _ l0 true _ ?side1 ?side2 A3.out).mono ?_); (case side1 => repeat (first | exact (Kd.V_reads' HO0.out).2.2 | (with_reducible refine Kd.C_alloc ?_ _) | (with_reducible refine Kd.C_drewN ?_ _) | (with_reducible refine Kd.C_drew ?_))); (case side2 => exact (Kd.V_reads' HO0.out).2.1); rintro e w' ⟨rfl, ⟨nd, rfl⟩⟩; refine ⟨_, rfl, ?_⟩) | ((with_reducible refine gate_callee (f := 13) rfl ?_); refine goesL_ (some 17) rfl rfl Tryd.func13 (by kernel_rfl) rfl #[] rfl (by (try simp only [List.map_toArray, List.map_cons, List.map_nil]); first | done | rfl | (simp only [List.length_drop, List.length_take]; rfl)) ?_; (with_reducible refine (bindlelaw33_lives.calls k  t166 _ ?side1 A5.out).mono ?_); (case side1 => exact YtodifojhegbjaaaDoorTab.tab_below HT.out (by repeat (first | (with_reducible first | exact HB.out | apply below_alloc | apply pw_below_drewN | apply below_drew1 | refine below_set ?_ GE164.out) | exact HB.out))); rintro e w7 ⟨rfl, hb⟩; refine ⟨_, rfl, ?_⟩; have n0_ := Aside0.mk (Kd.V_below (by (with_reducible repeat (first | apply Kd.V_alloc | apply Kd.V_drewN | apply Kd.V_drew)); exact HO0.out) hb); have n1_ := Aside0.mk (Kd.V_below (by (with_reducible repeat (first | apply Kd.V_alloc | apply Kd.V_drewN | apply Kd.V_drew)); exact HO1_2.out) hb); have n2_ := Aside0.mk (Kd.V_below (by (with_reducible repeat (first | apply Kd.V_alloc | apply Kd.V_drewN | apply Kd.V_drew)); exact HO1_4.out) hb); have n3_ := Aside0.mk (blk_below (g := gb164) (o := .cells #[.int .i64 a1_0, .string a1_1, .slice A1_2 l1_2.length c1_2, .int .i64 a1_3, .slice A1_4 l1_4.length c1_4, .int .i64 a1_5, .int .u8 a1_6] 47 (0, 0)) (by (with_reducible repeat (first | refine blk_drewN ?_ _ | refine blk_drew ?_ | refine blk_alloc ?_ _)); exact BK164.out) hb); have n4_ := Aside0.mk (below_step (by repeat (first | (with_reducible first | exact HB.out | apply below_alloc | apply pw_below_drewN | apply below_drew1 | refine below_set ?_ GE164.out) | exact HB.out)) hb); clear HO0; clear HO1_2; clear HO1_4; clear BK164; clear HB; have HO0 := n0_; have HO1_2 := n1_; have HO1_4 := n2_; have BK164 := n3_; have HB := n4_; clear n0_ n1_ n2_ n3_ n4_; (try clear hb); (try clear hb2); (try clear hk); (try clear hi)))
  go_ret
  exact ⟨by first | rfl | (simp [errW_none, errW_some] <;> rfl) | (simp [*, errW_none, errW_some] <;> rfl), by repeat (first | (with_reducible first | exact HB.out | apply below_alloc | apply pw_below_drewN | apply below_drew1 | refine below_set ?_ GE164.out) | exact HB.out)⟩
 ·replace c4 := Bool.eq_false_iff.mpr c4
  subst c4
  have H1 : ((bindlelaw33_parts.f k l0).bind fun bt167 => (bindlelaw33_ReportLines.l0 k l0 bt167.1 bt167.2 ([] : List (S53)) 0 a1_0 a1_1 l1_2 a1_3 l1_4 a1_5 a1_6)) = some r := by rw [if_neg (show ¬ (false = true) by decide)] at H; exact H
  clear H
  have H := H1
  clear H1
  replace H := Option.bind_eq_some_iff.mp H
  obtain ⟨⟨t167, t170⟩, A80, H⟩ := H
  replace H : (bindlelaw33_ReportLines.l0 k l0 t167 t170 ([] : List (S53)) 0 a1_0 a1_1 l1_2 a1_3 l1_4 a1_5 a1_6) = some r := H
  have A8 := Aside0.mk A80
  clear A80
  have H' := Aside0.mk H
  clear H
  go_enter Tryd.func5, Tryd.ntmps5
  go_wp2_with (first | ((with_reducible refine gate_dst (N := 3) rfl ?_); refine box_event ?hg (N := 3) ?hd (cs := #[.int .i64 a1_0, .string a1_1, .slice A1_2 l1_2.length c1_2, .int .i64 a1_3, .slice A1_4 l1_4.length c1_4, .int .i64 a1_5, .int .u8 a1_6]) (t := 47) ?hr ?_; (case hd => rfl); (case hg => rfl); (case hr => first | (go_simp; done) | (go_simp; rfl)); intro gb164 hg w9 hbox hb; have n0_ := Aside0.mk (Kd.V_below (Kd.V_elderB (by (with_reducible repeat (first | apply Kd.V_alloc | apply Kd.V_drewN | apply Kd.V_drew)); exact HO0.out) gb164 (Nat.le_of_eq hg.symm)) hb); have n1_ := Aside0.mk (Kd.V_below (Kd.V_elderB (by (with_reducible repeat (first | apply Kd.V_alloc | apply Kd.V_drewN | apply Kd.V_drew)); exact HO1_2.out) gb164 (Nat.le_of_eq hg.symm)) hb); have n2_ := Aside0.mk (Kd.V_below (Kd.V_elderB (by (with_reducible repeat (first | apply Kd.V_alloc | apply Kd.V_drewN | apply Kd.V_drew)); exact HO1_4.out) gb164 (Nat.le_of_eq hg.symm)) hb); have n3_ := Aside0.mk (below_step (by repeat (first | (with_reducible first | exact HB.out | apply below_alloc | apply pw_below_drewN | apply below_drew1) | exact HB.out)) hb); have n4_ := Aside0.mk (hbox); have n5_ := Aside0.mk ((by rw [hg]; exact (below_size (by repeat (first | (with_reducible first | exact HB.out | apply below_alloc | apply pw_below_drewN | apply below_drew1) | exact HB.out))) : w.heap.size ≤ gb164)); have n6_ := Aside0.mk ((by rw [hg]; exact (below_size (by repeat (first | (with_reducible first | exact HB.out | apply below_alloc | apply pw_below_drewN | apply below_drew1) | exact HB.out))) : w.heap.size ≤ gb164)); clear HO0; clear HO1_2; clear HO1_4; clear HB; have HO0 := n0_; have HO1_2 := n1_; have HO1_4 := n2_; have HB := n3_; have BK164 := n4_; have GW164 := n5_; have GE164 := n6_; clear n0_ n1_ n2_ n3_ n4_ n5_ n6_; clear hb hbox hg) | ((with_reducible refine gate_callee (f := 14) rfl ?_); refine goesL_ (some 16) rfl rfl Tryd.func14 (by kernel_rfl) rfl #[.slice A0 l0.length c0] rfl (by (try simp only [List.map_toArray, List.map_cons, List.map_nil]); first | done | rfl | (simp only [List.length_drop, List.length_take]; rfl)) ?_; (with_reducible refine (bindlelaw33_great.calls k _ _ l0 false _ ?side1 ?side2 A3.out).mono ?_); (case side1 => repeat (first | exact (Kd.V_reads' HO0.out).2.2 | (with_reducible refine Kd.C_alloc ?_ _) | (with_reducible refine Kd.C_drewN ?_ _) | (with_reducible refine Kd.C_drew ?_))); (case side2 => exact (Kd.V_reads' HO0.out).2.1); rintro e w' ⟨rfl, ⟨nd, rfl⟩⟩; refine ⟨_, rfl, ?_⟩) | ((with_reducible refine gate_callee (f := 15) rfl ?_); refine goesL_ (some 20) rfl rfl Tryd.func15 (by kernel_rfl) rfl #[.slice A0 l0.length c0] rfl (by (try simp only [List.map_toArray, List.map_cons, List.map_nil]); first | done | rfl | (simp only [List.length_drop, List.length_take]; rfl)) ?_; (with_reducible refine (bindlelaw33_parts.calls k (fun k_ => (((P0_ k_ ∨ P1_2_ k_ ∨ P1_4_ k_) ∨ w.heap.size ≤ k_) ∧ k_ ≠ gb164)) _ _ l0 t167 t170 _ ?side1 A8.out).mono ?_); (case side1 => exact HO0.out); rintro e w10 ⟨v168, v171, rfl, ho0, ho1, hb⟩; refine ⟨_, rfl, ?_⟩; have n0_ := Aside0.mk (Kd.V_mono (Kd.V_told (Kd.V_told (Kd.V_old (by (with_reducible repeat (first | apply Kd.V_alloc | apply Kd.V_drewN | apply Kd.V_drew)); exact HO0.out) hb) (Kd.N_base ho0)) (Kd.N_base ho1)) (fun _ h_ => h_.1)); have n1_ := Aside0.mk (Kd.V_mono (Kd.V_told (Kd.V_told (Kd.V_old (by (with_reducible repeat (first | apply Kd.V_alloc | apply Kd.V_drewN | apply Kd.V_drew)); exact HO1_2.out) hb) (Kd.N_base ho0)) (Kd.N_base ho1)) (fun _ h_ => h_.1)); have n2_ := Aside0.mk (Kd.V_mono (Kd.V_told (Kd.V_told (Kd.V_old (by (with_reducible repeat (first | apply Kd.V_alloc | apply Kd.V_drewN | apply Kd.V_drew)); exact HO1_4.out) hb) (Kd.N_base ho0)) (Kd.N_base ho1)) (fun _ h_ => h_.1)); have n3_ := Aside0.mk (Kd.N_lower (Kd.N_mono (ok' := fun k_ => ((P0_ k_ ∨ P1_2_ k_ ∨ P1_4_ k_) ∨ w.heap.size ≤ k_) ∧ some k_ ≠ (v171 : Value).ownBlock ∧ k_ ≠ gb164) ho0 (fun k_ hk_ => ⟨Or.elim hk_.1 (fun hs_ => hs_.1) (fun hn_ => (.inr (Nat.le_trans (below_size (by repeat (first | (with_reducible first | exact HB.out | apply below_alloc | apply pw_below_drewN | apply below_drew1 | refine below_set ?_ GE164.out) | exact HB.out))) hn_))), hk_.2, Or.elim hk_.1 (fun hs_ => hs_.2) (fun hn_ => (Kd.freshB (g := gb164) (o := .cells #[.int .i64 a1_0, .string a1_1, .slice A1_2 l1_2.length c1_2, .int .i64 a1_3, .slice A1_4 l1_4.length c1_4, .int .i64 a1_5, .int .u8 a1_6] 47 (0, 0)) (by (with_reducible repeat (first | refine blk_drewN ?_ _ | refine blk_drew ?_ | refine blk_alloc ?_ _)); exact BK164.out) k_ hn_))⟩)) (below_size (by repeat (first | (with_reducible first | exact HB.out | apply below_alloc | apply pw_below_drewN | apply below_drew1 | refine below_set ?_ GE164.out) | exact HB.out)))); have n4_ := Aside0.mk (Kd.N_lower (Kd.N_mono (ok' := fun k_ => ((P0_ k_ ∨ P1_2_ k_ ∨ P1_4_ k_) ∨ w.heap.size ≤ k_) ∧ some k_ ≠ (v168 : Value).ownBlock ∧ k_ ≠ gb164) ho1 (fun k_ hk_ => ⟨Or.elim hk_.1 (fun hs_ => hs_.1) (fun hn_ => (.inr (Nat.le_trans (below_size (by repeat (first | (with_reducible first | exact HB.out | apply below_alloc | apply pw_below_drewN | apply below_drew1 | refine below_set ?_ GE164.out) | exact HB.out))) hn_))), hk_.2, Or.elim hk_.1 (fun hs_ => hs_.2) (fun hn_ => (Kd.freshB (g := gb164) (o := .cells #[.int .i64 a1_0, .string a1_1, .slice A1_2 l1_2.length c1_2, .int .i64 a1_3, .slice A1_4 l1_4.length c1_4, .int .i64 a1_5, .int .u8 a1_6] 47 (0, 0)) (by (with_reducible repeat (first | refine blk_drewN ?_ _ | refine blk_drew ?_ | refine blk_alloc ?_ _)); exact BK164.out) k_ hn_))⟩)) (below_size (by repeat (first | (with_reducible first | exact HB.out | apply below_alloc | apply pw_below_drewN | apply below_drew1 | refine below_set ?_ GE164.out) | exact HB.out)))); have n5_ := Aside0.mk (blk_below (g := gb164) (o := .cells #[.int .i64 a1_0, .string a1_1, .slice A1_2 l1_2.length c1_2, .int .i64 a1_3, .slice A1_4 l1_4.length c1_4, .int .i64 a1_5, .int .u8 a1_6] 47 (0, 0)) (by (with_reducible repeat (first | refine blk_drewN ?_ _ | refine blk_drew ?_ | refine blk_alloc ?_ _)); exact BK164.out) hb); have n6_ := Aside0.mk (below_step (by repeat (first | (with_reducible first | exact HB.out | apply below_alloc | apply pw_below_drewN | apply below_drew1 | refine below_set ?_ GE164.out) | exact HB.out)) hb); clear HO0; clear HO1_2; clear HO1_4; clear BK164; clear HB; have HO0 := n0_; have HO1_2 := n1_; have HO1_4 := n2_; have HO169 := n3_; have HO172 := n4_; have BK164 := n5_; have HB := n6_; clear n0_ n1_ n2_ n3_ n4_ n5_ n6_; (try clear hb); (try clear hb2); (try clear hk); (try clear hi); (try clear ho0); (try clear ho1)))
  go_loopg [7, 8] k (fun kq v7 v8 w' => ∃ (x7_1 : List (S53)) (x8_1 : Int), v8 = .int .i64 x8_1 ∧ Aside0 (bindlelaw33_ReportLines.l0 kq l0 t167 t170 x7_1 x8_1 a1_0 a1_1 l1_2 a1_3 l1_4 a1_5 a1_6 = some r) ∧ Aside0 (kq ≤ k) ∧ Aside0 (Kd.V k66 66 w' w.heap.size (fun k_ => ((P0_ k_ ∨ P1_2_ k_ ∨ P1_4_ k_) ∨ w.heap.size ≤ k_) ∧ some k_ ≠ (v168 : Value).ownBlock ∧ some k_ ≠ (v171 : Value).ownBlock ∧ some k_ ≠ (v7 : Value).ownBlock ∧ k_ ≠ gb164) (.slice A0 l0.length c0) l0) ∧ Aside0 (Kd.N k47 47 w' w.heap.size (fun k_ => ((P0_ k_ ∨ P1_2_ k_ ∨ P1_4_ k_) ∨ w.heap.size ≤ k_) ∧ some k_ ≠ (v171 : Value).ownBlock ∧ some k_ ≠ (v7 : Value).ownBlock ∧ k_ ≠ gb164) v168 t167) ∧ Aside0 (Kd.N k51 51 w' w.heap.size (fun k_ => ((P0_ k_ ∨ P1_2_ k_ ∨ P1_4_ k_) ∨ w.heap.size ≤ k_) ∧ some k_ ≠ (v168 : Value).ownBlock ∧ some k_ ≠ (v7 : Value).ownBlock ∧ k_ ≠ gb164) v171 t170) ∧ Aside0 (Kd.N k53 53 w' w.heap.size (fun k_ => ((P0_ k_ ∨ P1_2_ k_ ∨ P1_4_ k_) ∨ w.heap.size ≤ k_) ∧ some k_ ≠ (v168 : Value).ownBlock ∧ some k_ ≠ (v171 : Value).ownBlock ∧ k_ ≠ gb164) v7 x7_1) ∧ Aside0 (Kd.V (Kd.int .u8) 5 w' w.heap.size (fun k_ => ((P0_ k_ ∨ P1_2_ k_ ∨ P1_4_ k_) ∨ w.heap.size ≤ k_) ∧ some k_ ≠ (v168 : Value).ownBlock ∧ some k_ ≠ (v171 : Value).ownBlock ∧ some k_ ≠ (v7 : Value).ownBlock ∧ k_ ≠ gb164) (.slice A1_2 l1_2.length c1_2) l1_2) ∧ Aside0 (Kd.V Kd.bool 4 w' w.heap.size (fun k_ => ((P0_ k_ ∨ P1_2_ k_ ∨ P1_4_ k_) ∨ w.heap.size ≤ k_) ∧ some k_ ≠ (v168 : Value).ownBlock ∧ some k_ ≠ (v171 : Value).ownBlock ∧ some k_ ≠ (v7 : Value).ownBlock ∧ k_ ≠ gb164) (.slice A1_4 l1_4.length c1_4) l1_4) ∧ Aside0 (w'.heap[gb164]? = some (.cells #[.int .i64 a1_0, .string a1_1, (.slice A1_2 l1_2.length c1_2), .int .i64 a1_3, (.slice A1_4 l1_4.length c1_4), .int .i64 a1_5, .int .u8 a1_6] 47 (0, 0))) ∧ Aside0 (Below w.heap.size w w'))
  case atStart => exact ⟨(([] : List (S53))), (0), (by first | rfl | (simp only [YtodifojhegbjaaaDoorMpHelp.leq_not, YtodifojhegbjaaaDoorMpHelp.gtr_less]; done) | (simp; done) | (simp [*]; done)), H', ⟨Nat.le_refl _⟩, ⟨by (with_reducible repeat (first | apply Kd.V_alloc | apply Kd.V_drewN | apply Kd.V_drew)); exact Kd.V_mono HO0.out (fun _ hk => ⟨hk.1.1.1, ⟨hk.1.2, ⟨hk.2, ⟨(by simp [Value.ownBlock]), hk.1.1.2⟩⟩⟩⟩)⟩, ⟨by (with_reducible repeat (first | apply Kd.N_alloc | apply Kd.N_drewN | apply Kd.N_drew)); exact Kd.N_mono HO169.out (fun _ hk => ⟨hk.1, ⟨hk.2.1, ⟨(by simp [Value.ownBlock]), hk.2.2⟩⟩⟩)⟩, ⟨by (with_reducible repeat (first | apply Kd.N_alloc | apply Kd.N_drewN | apply Kd.N_drew)); exact Kd.N_mono HO172.out (fun _ hk => ⟨hk.1, ⟨hk.2.1, ⟨(by simp [Value.ownBlock]), hk.2.2⟩⟩⟩)⟩, ⟨by first | exact Kd.R_nil _ _ _ _ _ | exact Kd.N_nil _ _ _ _ _ | exact Kd.V_nil _ _ _ _ _ | exact Kd.Q_nil _ _ _ _ _ | exact Kd.S_nil _ _ _ _ _⟩, ⟨by (with_reducible repeat (first | apply Kd.V_alloc | apply Kd.V_drewN | apply Kd.V_drew)); exact Kd.V_mono HO1_2.out (fun _ hk => ⟨hk.1.1.1, ⟨hk.1.2, ⟨hk.2, ⟨(by simp [Value.ownBlock]), hk.1.1.2⟩⟩⟩⟩)⟩, ⟨by (with_reducible repeat (first | apply Kd.V_alloc | apply Kd.V_drewN | apply Kd.V_drew)); exact Kd.V_mono HO1_4.out (fun _ hk => ⟨hk.1.1.1, ⟨hk.1.2, ⟨hk.2, ⟨(by simp [Value.ownBlock]), hk.1.1.2⟩⟩⟩⟩)⟩, ⟨by (with_reducible repeat (first | refine blk_drewN ?_ _ | refine blk_drew ?_ | refine blk_alloc ?_ _)); exact BK164.out⟩, ⟨by repeat (first | (with_reducible first | exact HB.out | apply below_alloc | apply pw_below_drewN | apply below_drew1 | refine below_set ?_ GE164.out) | exact HB.out)⟩⟩
  case round =>
   clear H'
   try clear c1
   try clear p2
   try clear c4
   try clear c5
   obtain ⟨x7_1, x8_1, rfl, HA, HK1, HO_0, HO_5, HO_6, HO_7, HO_165002, HO_165004, BK164, HB⟩ := hrel
   cases gk with
   | zero => exact absurd HA.out (by simp [bindlelaw33_ReportLines.l0])
   | succ k1 =>
    have H := HA.out
    clear HA
    simp only [bindlelaw33_ReportLines.l0] at H
    by_cases c11 : x8_1 < (l0.length : Int)
    ·rw [if_pos c11] at H
     have c11b0 : decide (x8_1 < (l0.length : Int)) = true := decide_eq_true c11
     clear c11
     by_cases c12 : 0 ≤ x8_1
     ·rw [if_pos c12] at H
      have c12b0 : decide (0 ≤ x8_1) = true := decide_eq_true c12
      clear c12
      by_cases c13 : x8_1 < (t170.length : Int)
      ·rw [if_pos c13] at H
       have c13b0 : decide (x8_1 < (t170.length : Int)) = true := decide_eq_true c13
       clear c13
       by_cases c14 : x7_1.length < 1466015503701
       ·rw [if_pos c14] at H
        have LMc14 := Aside0.mk c14
        clear c14
        obtain ⟨y174, hy174⟩ : ∃ y_ : List (S53), y_ = (x7_1 ++ [(⟨(rd_T51 t170 x8_1).f0, (rd_T51 t170 x8_1).f1, (rd_T51 t170 x8_1).f2, (rd_T51 t170 x8_1).f3, (rd_T51 t170 x8_1).f4, (rd_T51 t170 x8_1).f5, (rd_T51 t170 x8_1).f6⟩ : S53)]) := ⟨_, rfl⟩
        replace H : (if x8_1 < (t167.length : Int) then ((report_Line.f k1 ((rd_T47 t167 x8_1).f0) ((rd_T47 t167 x8_1).f1) ((rd_T47 t167 x8_1).f2) ((rd_T47 t167 x8_1).f3) ((rd_T47 t167 x8_1).f4.f0) ((rd_T47 t167 x8_1).f4.f1) ((rd_T47 t167 x8_1).f4.f2) ((rd_T51 t170 x8_1).f0) ((rd_T51 t170 x8_1).f1) ((rd_T51 t170 x8_1).f2) ((rd_T51 t170 x8_1).f3) ((rd_T51 t170 x8_1).f4) ((rd_T51 t170 x8_1).f5) ((rd_T51 t170 x8_1).f6)).bind fun t179 => (if x8_1 < (y174.length : Int) then ((bindleref33_Line.f k1 ((rd_T47 t167 x8_1).f0) ((rd_T47 t167 x8_1).f1) ((rd_T47 t167 x8_1).f2) ((rd_T47 t167 x8_1).f3) ((rd_T47 t167 x8_1).f4.f0) ((rd_T47 t167 x8_1).f4.f1) ((rd_T47 t167 x8_1).f4.f2) ((rd_T53 y174 x8_1).f0) ((rd_T53 y174 x8_1).f1) ((rd_T53 y174 x8_1).f2) ((rd_T53 y174 x8_1).f3) ((rd_T53 y174 x8_1).f4) ((rd_T53 y174 x8_1).f5) ((rd_T53 y174 x8_1).f6)).bind fun t182 => (if t179.toList = t182.toList then (bindlelaw33_ReportLines.l0 k1 l0 t167 t170 y174 (wrap64 (x8_1 + 1)) a1_0 a1_1 l1_2 a1_3 l1_4 a1_5 a1_6) else (none))) else (none))) else (none)) = some r := by first | (rw [hy174]; with_reducible exact H) | (have H2_ := (Option.bind_some _ _).symm.trans H; rw [hy174]; with_reducible exact H2_) | (have H2_ := (Option.bind_some _ _).symm.trans H; with_reducible exact H2_) | with_reducible exact H | (rw [hy174]; exact H) | exact H
        have Ny174 := Aside0.mk hy174
        clear hy174
        by_cases c15 : x8_1 < (t167.length : Int)
        ·rw [if_pos c15] at H
         have c15b0 : decide (x8_1 < (t167.length : Int)) = true := decide_eq_true c15
         clear c15
         replace H := Option.bind_eq_some_iff.mp H
         obtain ⟨t179, A160, H⟩ := H
         replace H : (if x8_1 < (y174.length : Int) then ((bindleref33_Line.f k1 ((rd_T47 t167 x8_1).f0) ((rd_T47 t167 x8_1).f1) ((rd_T47 t167 x8_1).f2) ((rd_T47 t167 x8_1).f3) ((rd_T47 t167 x8_1).f4.f0) ((rd_T47 t167 x8_1).f4.f1) ((rd_T47 t167 x8_1).f4.f2) ((rd_T53 y174 x8_1).f0) ((rd_T53 y174 x8_1).f1) ((rd_T53 y174 x8_1).f2) ((rd_T53 y174 x8_1).f3) ((rd_T53 y174 x8_1).f4) ((rd_T53 y174 x8_1).f5) ((rd_T53 y174 x8_1).f6)).bind fun t182 => (if t179.toList = t182.toList then (bindlelaw33_ReportLines.l0 k1 l0 t167 t170 y174 (wrap64 (x8_1 + 1)) a1_0 a1_1 l1_2 a1_3 l1_4 a1_5 a1_6) else (none))) else (none)) = some r := H
         have A16 := Aside0.mk A160
         clear A160
         by_cases c17 : x8_1 < (y174.length : Int)
         ·rw [if_pos c17] at H
          have c17b0 : decide (x8_1 < (y174.length : Int)) = true := decide_eq_true c17
          clear c17
          replace H := Option.bind_eq_some_iff.mp H
          obtain ⟨t182, A180, H⟩ := H
          replace H : (if t179.toList = t182.toList then (bindlelaw33_ReportLines.l0 k1 l0 t167 t170 y174 (wrap64 (x8_1 + 1)) a1_0 a1_1 l1_2 a1_3 l1_4 a1_5 a1_6) else (none)) = some r := H
          have A18 := Aside0.mk A180
          clear A180
          by_cases c19 : t179.toList = t182.toList
          ·rw [if_pos c19] at H
           have c19b0 : (t179.toList == t182.toList) = true := beq_iff_eq.mpr c19
           have c19b1 : (t179.toList != t182.toList) = false := bne_eq_false_iff_eq.mpr c19
           clear c19
           have H' := Aside0.mk H
           clear H
           obtain ⟨Ao20, co20, eo20⟩ := Kd.N_slice HO_6.out
           subst eo20
           have p173 : 0 ≤ (x8_1 : Int) := of_decide_eq_true (by first | (with_reducible assumption) | assumption)
           have q173 : x8_1 < (t170.length : Int) := of_decide_eq_true (by first | (with_reducible assumption) | assumption)
           obtain ⟨ad173, A173_1, c173_1, A173_3, c173_3, A173_4, c173_4, e173, hx173_0, hx173_1, hx173_2, hx173_3, hx173_4, hx173_5, hx173_6, hl173_1, hi173_1, hl173_3, hi173_3, hl173_4, hi173_4⟩ := at_T51 (Kd.N_reads' HO_6.out).2.2 x8_1 p173 q173
           cases e173
           obtain ⟨ce173, hce173, hMe173, hcc173⟩ := Kd.N_get HO_6.out z51 x8_1 p173 (by first | exact q173 | exact of_decide_eq_true (by first | (with_reducible assumption) | assumption) | (have e_ := (Kd.N_reads' HO_6.out).1; omega))
           obtain ⟨ua173_1, uc173_1, ua173_3, uc173_3, ua173_4, uc173_4, rfl, ul173_1, ge173_1, ul173_3, ge173_3, ul173_4, ge173_4⟩ := k51_openF hMe173
           have hv173_1 := hcc173 1 _ rfl
           rw [add_field _ _ 1 (by omega)] at hv173_1
           replace hv173_1 := Option.some.inj (hv173_1.symm.trans hx173_1)
           injection hv173_1 with hva_ hvn_ hvc_
           rw [hva_] at ge173_1
           rw [hvc_] at ul173_1
           have HL173_1 := Aside0.mk (show Kd.V (Kd.int .u8) 5 _ w.heap.size _ _ ((rd_T51 t170 x8_1).f1) from Kd.V_mk ul173_1 ge173_1)
           clear hva_ hvn_ hvc_ ge173_1 ul173_1
           have hv173_3 := hcc173 3 _ rfl
           rw [add_field _ _ 3 (by omega)] at hv173_3
           replace hv173_3 := Option.some.inj (hv173_3.symm.trans hx173_3)
           injection hv173_3 with hva_ hvn_ hvc_
           rw [hva_] at ge173_3
           rw [hvc_] at ul173_3
           have HL173_3 := Aside0.mk (show Kd.V Kd.string 9 _ w.heap.size _ _ ((rd_T51 t170 x8_1).f3) from Kd.V_mk ul173_3 ge173_3)
           clear hva_ hvn_ hvc_ ge173_3 ul173_3
           have hv173_4 := hcc173 4 _ rfl
           rw [add_field _ _ 4 (by omega)] at hv173_4
           replace hv173_4 := Option.some.inj (hv173_4.symm.trans hx173_4)
           injection hv173_4 with hva_ hvn_ hvc_
           rw [hva_] at ge173_4
           rw [hvc_] at ul173_4
           have HL173_4 := Aside0.mk (show Kd.V k122 122 _ w.heap.size _ _ ((rd_T51 t170 x8_1).f4) from Kd.V_mk ul173_4 ge173_4)
           clear hva_ hvn_ hvc_ ge173_4 ul173_4
           clear hcc173 hce173
           have HR173_1 := Aside0.mk hi173_1
           have HC173_1 := Aside0.mk hl173_1
           clear hi173_1 hl173_1
           have HR173_3 := Aside0.mk hi173_3
           have HC173_3 := Aside0.mk hl173_3
           clear hi173_3 hl173_3
           have HR173_4 := Aside0.mk hi173_4
           have HC173_4 := Aside0.mk hl173_4
           clear hi173_4 hl173_4
           replace p173 := eq_true p173
           replace q173 := eq_true q173
           try go_wp2_with (first | ((with_reducible refine gate_builtin (b := .append) (xs := #[.tmp 29, .tmp 34]) rfl ?_); at_builtin; refine Kd.N_append k53 (w0 := w) w.heap.size rfl (.tmp 29) (.tmp 34) 52 53 (.agg #[(.int .i64 0), (.slice none 0 0), (.int .i64 0), (.slice none 0 0), (.slice none 0 0), (.bool false), (.bool false)]) 96 rfl Tryd.underlying52 info53 rfl (by decide) (by omega) u7 x7_1 (⟨(rd_T51 t170 x8_1).f0, (rd_T51 t170 x8_1).f1, (rd_T51 t170 x8_1).f2, (rd_T51 t170 x8_1).f3, (rd_T51 t170 x8_1).f4, (rd_T51 t170 x8_1).f5, (rd_T51 t170 x8_1).f6⟩ : S53) [.int .i64 ((rd_T51 t170 x8_1).f0), .slice A173_1 ((rd_T51 t170 x8_1).f1).length c173_1, .int .i64 ((rd_T51 t170 x8_1).f2), .slice A173_3 ((rd_T51 t170 x8_1).f3).length c173_3, .slice A173_4 ((rd_T51 t170 x8_1).f4).length c173_4, .bool ((rd_T51 t170 x8_1).f5), .bool ((rd_T51 t170 x8_1).f6)] (fun k_ => ((P0_ k_ ∨ P1_2_ k_ ∨ P1_4_ k_) ∨ w.heap.size ≤ k_) ∧ some k_ ≠ (v168 : Value).ownBlock ∧ some k_ ≠ (.slice (some ad173) t170.length co20 : Value).ownBlock ∧ k_ ≠ gb164) (fun k_ => ((fun k_ => ((P0_ k_ ∨ P1_2_ k_ ∨ P1_4_ k_) ∨ w.heap.size ≤ k_) ∧ some k_ ≠ (v168 : Value).ownBlock ∧ some k_ ≠ (.slice (some ad173) t170.length co20 : Value).ownBlock ∧ k_ ≠ gb164)) k_ ∧ some k_ ≠ (u7 : Value).ownBlock) rfl rfl ?aP (fun _ hk => hk) ?aF ?aO ?aB ?aS ?aL ?_; (case aP => first | exact (k53_mkF _ _ (⟨(rd_T51 t170 x8_1).f0, (rd_T51 t170 x8_1).f1, (rd_T51 t170 x8_1).f2, (rd_T51 t170 x8_1).f3, (rd_T51 t170 x8_1).f4, (rd_T51 t170 x8_1).f5, (rd_T51 t170 x8_1).f6⟩ : S53) (Kd.V_reads' (Kd.V_mono (ok' := (fun k_ => ((fun k_ => ((P0_ k_ ∨ P1_2_ k_ ∨ P1_4_ k_) ∨ w.heap.size ≤ k_) ∧ some k_ ≠ (v168 : Value).ownBlock ∧ some k_ ≠ (.slice (some ad173) t170.length co20 : Value).ownBlock ∧ k_ ≠ gb164)) k_ ∧ some k_ ≠ (u7 : Value).ownBlock)) (HL173_1.out) (fun k_ hk => ⟨⟨hk.1.1, ⟨hk.1.2.1, ⟨hk.2, hk.1.2.2.2⟩⟩⟩, hk.1.2.2.1⟩))).2.1 (Kd.V_F (Kd.V_mono (ok' := (fun k_ => ((fun k_ => ((P0_ k_ ∨ P1_2_ k_ ∨ P1_4_ k_) ∨ w.heap.size ≤ k_) ∧ some k_ ≠ (v168 : Value).ownBlock ∧ some k_ ≠ (.slice (some ad173) t170.length co20 : Value).ownBlock ∧ k_ ≠ gb164)) k_ ∧ some k_ ≠ (u7 : Value).ownBlock)) (HL173_1.out) (fun k_ hk => ⟨⟨hk.1.1, ⟨hk.1.2.1, ⟨hk.2, hk.1.2.2.2⟩⟩⟩, hk.1.2.2.1⟩))) (Kd.V_reads' (Kd.V_mono (ok' := (fun k_ => ((fun k_ => ((P0_ k_ ∨ P1_2_ k_ ∨ P1_4_ k_) ∨ w.heap.size ≤ k_) ∧ some k_ ≠ (v168 : Value).ownBlock ∧ some k_ ≠ (.slice (some ad173) t170.length co20 : Value).ownBlock ∧ k_ ≠ gb164)) k_ ∧ some k_ ≠ (u7 : Value).ownBlock)) (HL173_3.out) (fun k_ hk => ⟨⟨hk.1.1, ⟨hk.1.2.1, ⟨hk.2, hk.1.2.2.2⟩⟩⟩, hk.1.2.2.1⟩))).2.1 (Kd.V_F (Kd.V_mono (ok' := (fun k_ => ((fun k_ => ((P0_ k_ ∨ P1_2_ k_ ∨ P1_4_ k_) ∨ w.heap.size ≤ k_) ∧ some k_ ≠ (v168 : Value).ownBlock ∧ some k_ ≠ (.slice (some ad173) t170.length co20 : Value).ownBlock ∧ k_ ≠ gb164)) k_ ∧ some k_ ≠ (u7 : Value).ownBlock)) (HL173_3.out) (fun k_ hk => ⟨⟨hk.1.1, ⟨hk.1.2.1, ⟨hk.2, hk.1.2.2.2⟩⟩⟩, hk.1.2.2.1⟩))) (Kd.V_reads' (Kd.V_mono (ok' := (fun k_ => ((fun k_ => ((P0_ k_ ∨ P1_2_ k_ ∨ P1_4_ k_) ∨ w.heap.size ≤ k_) ∧ some k_ ≠ (v168 : Value).ownBlock ∧ some k_ ≠ (.slice (some ad173) t170.length co20 : Value).ownBlock ∧ k_ ≠ gb164)) k_ ∧ some k_ ≠ (u7 : Value).ownBlock)) (HL173_4.out) (fun k_ hk => ⟨⟨hk.1.1, ⟨hk.1.2.1, ⟨hk.2, hk.1.2.2.2⟩⟩⟩, hk.1.2.2.1⟩))).2.1 (Kd.V_F (Kd.V_mono (ok' := (fun k_ => ((fun k_ => ((P0_ k_ ∨ P1_2_ k_ ∨ P1_4_ k_) ∨ w.heap.size ≤ k_) ∧ some k_ ≠ (v168 : Value).ownBlock ∧ some k_ ≠ (.slice (some ad173) t170.length co20 : Value).ownBlock ∧ k_ ≠ gb164)) k_ ∧ some k_ ≠ (u7 : Value).ownBlock)) (HL173_4.out) (fun k_ hk => ⟨⟨hk.1.1, ⟨hk.1.2.1, ⟨hk.2, hk.1.2.2.2⟩⟩⟩, hk.1.2.2.1⟩)))) | exact (k53_mkF _ _ (⟨(rd_T51 t170 x8_1).f0, (rd_T51 t170 x8_1).f1, (rd_T51 t170 x8_1).f2, (rd_T51 t170 x8_1).f3, (rd_T51 t170 x8_1).f4, (rd_T51 t170 x8_1).f5, (rd_T51 t170 x8_1).f6⟩ : S53) (Kd.V_reads' (Kd.V_mono (ok' := (fun k_ => ((fun k_ => ((P0_ k_ ∨ P1_2_ k_ ∨ P1_4_ k_) ∨ w.heap.size ≤ k_) ∧ some k_ ≠ (v168 : Value).ownBlock ∧ some k_ ≠ (.slice (some ad173) t170.length co20 : Value).ownBlock ∧ k_ ≠ gb164)) k_ ∧ some k_ ≠ (u7 : Value).ownBlock)) (HL173_1.out) (fun k_ hk => ⟨⟨hk.1.1, ⟨hk.1.2.1, ⟨hk.2, hk.1.2.2.2⟩⟩⟩, hk.1.2.2.1⟩))).2.1 (Kd.V_F (Kd.V_mono (ok' := (fun k_ => ((fun k_ => ((P0_ k_ ∨ P1_2_ k_ ∨ P1_4_ k_) ∨ w.heap.size ≤ k_) ∧ some k_ ≠ (v168 : Value).ownBlock ∧ some k_ ≠ (.slice (some ad173) t170.length co20 : Value).ownBlock ∧ k_ ≠ gb164)) k_ ∧ some k_ ≠ (u7 : Value).ownBlock)) ((Kd.V_drewN (HL173_1.out) _)) (fun k_ hk => ⟨⟨hk.1.1, ⟨hk.1.2.1, ⟨hk.2, hk.1.2.2.2⟩⟩⟩, hk.1.2.2.1⟩))) (Kd.V_reads' (Kd.V_mono (ok' := (fun k_ => ((fun k_ => ((P0_ k_ ∨ P1_2_ k_ ∨ P1_4_ k_) ∨ w.heap.size ≤ k_) ∧ some k_ ≠ (v168 : Value).ownBlock ∧ some k_ ≠ (.slice (some ad173) t170.length co20 : Value).ownBlock ∧ k_ ≠ gb164)) k_ ∧ some k_ ≠ (u7 : Value).ownBlock)) (HL173_3.out) (fun k_ hk => ⟨⟨hk.1.1, ⟨hk.1.2.1, ⟨hk.2, hk.1.2.2.2⟩⟩⟩, hk.1.2.2.1⟩))).2.1 (Kd.V_F (Kd.V_mono (ok' := (fun k_ => ((fun k_ => ((P0_ k_ ∨ P1_2_ k_ ∨ P1_4_ k_) ∨ w.heap.size ≤ k_) ∧ some k_ ≠ (v168 : Value).ownBlock ∧ some k_ ≠ (.slice (some ad173) t170.length co20 : Value).ownBlock ∧ k_ ≠ gb164)) k_ ∧ some k_ ≠ (u7 : Value).ownBlock)) ((Kd.V_drewN (HL173_3.out) _)) (fun k_ hk => ⟨⟨hk.1.1, ⟨hk.1.2.1, ⟨hk.2, hk.1.2.2.2⟩⟩⟩, hk.1.2.2.1⟩))) (Kd.V_reads' (Kd.V_mono (ok' := (fun k_ => ((fun k_ => ((P0_ k_ ∨ P1_2_ k_ ∨ P1_4_ k_) ∨ w.heap.size ≤ k_) ∧ some k_ ≠ (v168 : Value).ownBlock ∧ some k_ ≠ (.slice (some ad173) t170.length co20 : Value).ownBlock ∧ k_ ≠ gb164)) k_ ∧ some k_ ≠ (u7 : Value).ownBlock)) (HL173_4.out) (fun k_ hk => ⟨⟨hk.1.1, ⟨hk.1.2.1, ⟨hk.2, hk.1.2.2.2⟩⟩⟩, hk.1.2.2.1⟩))).2.1 (Kd.V_F (Kd.V_mono (ok' := (fun k_ => ((fun k_ => ((P0_ k_ ∨ P1_2_ k_ ∨ P1_4_ k_) ∨ w.heap.size ≤ k_) ∧ some k_ ≠ (v168 : Value).ownBlock ∧ some k_ ≠ (.slice (some ad173) t170.length co20 : Value).ownBlock ∧ k_ ≠ gb164)) k_ ∧ some k_ ≠ (u7 : Value).ownBlock)) ((Kd.V_drewN (HL173_4.out) _)) (fun k_ hk => ⟨⟨hk.1.1, ⟨hk.1.2.1, ⟨hk.2, hk.1.2.2.2⟩⟩⟩, hk.1.2.2.1⟩)))) | exact (k53_mkF _ _ (⟨(rd_T51 t170 x8_1).f0, (rd_T51 t170 x8_1).f1, (rd_T51 t170 x8_1).f2, (rd_T51 t170 x8_1).f3, (rd_T51 t170 x8_1).f4, (rd_T51 t170 x8_1).f5, (rd_T51 t170 x8_1).f6⟩ : S53) (Kd.V_reads' (Kd.V_mono (ok' := (fun k_ => ((fun k_ => ((P0_ k_ ∨ P1_2_ k_ ∨ P1_4_ k_) ∨ w.heap.size ≤ k_) ∧ some k_ ≠ (v168 : Value).ownBlock ∧ some k_ ≠ (.slice (some ad173) t170.length co20 : Value).ownBlock ∧ k_ ≠ gb164)) k_ ∧ some k_ ≠ (u7 : Value).ownBlock)) (HL173_1.out) (fun k_ hk => ⟨⟨hk.1.1, ⟨hk.1.2.1, ⟨hk.2, hk.1.2.2.2⟩⟩⟩, hk.1.2.2.1⟩))).2.1 (Kd.V_F (Kd.V_mono (ok' := (fun k_ => ((fun k_ => ((P0_ k_ ∨ P1_2_ k_ ∨ P1_4_ k_) ∨ w.heap.size ≤ k_) ∧ some k_ ≠ (v168 : Value).ownBlock ∧ some k_ ≠ (.slice (some ad173) t170.length co20 : Value).ownBlock ∧ k_ ≠ gb164)) k_ ∧ some k_ ≠ (u7 : Value).ownBlock)) ((Kd.V_drewN (Kd.V_drewN (HL173_1.out) _) _)) (fun k_ hk => ⟨⟨hk.1.1, ⟨hk.1.2.1, ⟨hk.2, hk.1.2.2.2⟩⟩⟩, hk.1.2.2.1⟩))) (Kd.V_reads' (Kd.V_mono (ok' := (fun k_ => ((fun k_ => ((P0_ k_ ∨ P1_2_ k_ ∨ P1_4_ k_) ∨ w.heap.size ≤ k_) ∧ some k_ ≠ (v168 : Value).ownBlock ∧ some k_ ≠ (.slice (some ad173) t170.length co20 : Value).ownBlock ∧ k_ ≠ gb164)) k_ ∧ some k_ ≠ (u7 : Value).ownBlock)) (HL173_3.out) (fun k_ hk => ⟨⟨hk.1.1, ⟨hk.1.2.1, ⟨hk.2, hk.1.2.2.2⟩⟩⟩, hk.1.2.2.1⟩))).2.1 (Kd.V_F (Kd.V_mono (ok' := (fun k_ => ((fun k_ => ((P0_ k_ ∨ P1_2_ k_ ∨ P1_4_ k_) ∨ w.heap.size ≤ k_) ∧ some k_ ≠ (v168 : Value).ownBlock ∧ some k_ ≠ (.slice (some ad173) t170.length co20 : Value).ownBlock ∧ k_ ≠ gb164)) k_ ∧ some k_ ≠ (u7 : Value).ownBlock)) ((Kd.V_drewN (Kd.V_drewN (HL173_3.out) _) _)) (fun k_ hk => ⟨⟨hk.1.1, ⟨hk.1.2.1, ⟨hk.2, hk.1.2.2.2⟩⟩⟩, hk.1.2.2.1⟩))) (Kd.V_reads' (Kd.V_mono (ok' := (fun k_ => ((fun k_ => ((P0_ k_ ∨ P1_2_ k_ ∨ P1_4_ k_) ∨ w.heap.size ≤ k_) ∧ some k_ ≠ (v168 : Value).ownBlock ∧ some k_ ≠ (.slice (some ad173) t170.length co20 : Value).ownBlock ∧ k_ ≠ gb164)) k_ ∧ some k_ ≠ (u7 : Value).ownBlock)) (HL173_4.out) (fun k_ hk => ⟨⟨hk.1.1, ⟨hk.1.2.1, ⟨hk.2, hk.1.2.2.2⟩⟩⟩, hk.1.2.2.1⟩))).2.1 (Kd.V_F (Kd.V_mono (ok' := (fun k_ => ((fun k_ => ((P0_ k_ ∨ P1_2_ k_ ∨ P1_4_ k_) ∨ w.heap.size ≤ k_) ∧ some k_ ≠ (v168 : Value).ownBlock ∧ some k_ ≠ (.slice (some ad173) t170.length co20 : Value).ownBlock ∧ k_ ≠ gb164)) k_ ∧ some k_ ≠ (u7 : Value).ownBlock)) ((Kd.V_drewN (Kd.V_drewN (HL173_4.out) _) _)) (fun k_ hk => ⟨⟨hk.1.1, ⟨hk.1.2.1, ⟨hk.2, hk.1.2.2.2⟩⟩⟩, hk.1.2.2.1⟩)))) | exact (k53_mkF _ _ (⟨(rd_T51 t170 x8_1).f0, (rd_T51 t170 x8_1).f1, (rd_T51 t170 x8_1).f2, (rd_T51 t170 x8_1).f3, (rd_T51 t170 x8_1).f4, (rd_T51 t170 x8_1).f5, (rd_T51 t170 x8_1).f6⟩ : S53) (Kd.V_reads' (Kd.V_mono (ok' := (fun k_ => ((fun k_ => ((P0_ k_ ∨ P1_2_ k_ ∨ P1_4_ k_) ∨ w.heap.size ≤ k_) ∧ some k_ ≠ (v168 : Value).ownBlock ∧ some k_ ≠ (.slice (some ad173) t170.length co20 : Value).ownBlock ∧ k_ ≠ gb164)) k_ ∧ some k_ ≠ (u7 : Value).ownBlock)) (HL173_1.out) (fun k_ hk => ⟨⟨hk.1.1, ⟨hk.1.2.1, ⟨hk.2, hk.1.2.2.2⟩⟩⟩, hk.1.2.2.1⟩))).2.1 (Kd.V_F (Kd.V_mono (ok' := (fun k_ => ((fun k_ => ((P0_ k_ ∨ P1_2_ k_ ∨ P1_4_ k_) ∨ w.heap.size ≤ k_) ∧ some k_ ≠ (v168 : Value).ownBlock ∧ some k_ ≠ (.slice (some ad173) t170.length co20 : Value).ownBlock ∧ k_ ≠ gb164)) k_ ∧ some k_ ≠ (u7 : Value).ownBlock)) ((Kd.V_drewN (Kd.V_drewN (Kd.V_drewN (HL173_1.out) _) _) _)) (fun k_ hk => ⟨⟨hk.1.1, ⟨hk.1.2.1, ⟨hk.2, hk.1.2.2.2⟩⟩⟩, hk.1.2.2.1⟩))) (Kd.V_reads' (Kd.V_mono (ok' := (fun k_ => ((fun k_ => ((P0_ k_ ∨ P1_2_ k_ ∨ P1_4_ k_) ∨ w.heap.size ≤ k_) ∧ some k_ ≠ (v168 : Value).ownBlock ∧ some k_ ≠ (.slice (some ad173) t170.length co20 : Value).ownBlock ∧ k_ ≠ gb164)) k_ ∧ some k_ ≠ (u7 : Value).ownBlock)) (HL173_3.out) (fun k_ hk => ⟨⟨hk.1.1, ⟨hk.1.2.1, ⟨hk.2, hk.1.2.2.2⟩⟩⟩, hk.1.2.2.1⟩))).2.1 (Kd.V_F (Kd.V_mono (ok' := (fun k_ => ((fun k_ => ((P0_ k_ ∨ P1_2_ k_ ∨ P1_4_ k_) ∨ w.heap.size ≤ k_) ∧ some k_ ≠ (v168 : Value).ownBlock ∧ some k_ ≠ (.slice (some ad173) t170.length co20 : Value).ownBlock ∧ k_ ≠ gb164)) k_ ∧ some k_ ≠ (u7 : Value).ownBlock)) ((Kd.V_drewN (Kd.V_drewN (Kd.V_drewN (HL173_3.out) _) _) _)) (fun k_ hk => ⟨⟨hk.1.1, ⟨hk.1.2.1, ⟨hk.2, hk.1.2.2.2⟩⟩⟩, hk.1.2.2.1⟩))) (Kd.V_reads' (Kd.V_mono (ok' := (fun k_ => ((fun k_ => ((P0_ k_ ∨ P1_2_ k_ ∨ P1_4_ k_) ∨ w.heap.size ≤ k_) ∧ some k_ ≠ (v168 : Value).ownBlock ∧ some k_ ≠ (.slice (some ad173) t170.length co20 : Value).ownBlock ∧ k_ ≠ gb164)) k_ ∧ some k_ ≠ (u7 : Value).ownBlock)) (HL173_4.out) (fun k_ hk => ⟨⟨hk.1.1, ⟨hk.1.2.1, ⟨hk.2, hk.1.2.2.2⟩⟩⟩, hk.1.2.2.1⟩))).2.1 (Kd.V_F (Kd.V_mono (ok' := (fun k_ => ((fun k_ => ((P0_ k_ ∨ P1_2_ k_ ∨ P1_4_ k_) ∨ w.heap.size ≤ k_) ∧ some k_ ≠ (v168 : Value).ownBlock ∧ some k_ ≠ (.slice (some ad173) t170.length co20 : Value).ownBlock ∧ k_ ≠ gb164)) k_ ∧ some k_ ≠ (u7 : Value).ownBlock)) ((Kd.V_drewN (Kd.V_drewN (Kd.V_drewN (HL173_4.out) _) _) _)) (fun k_ hk => ⟨⟨hk.1.1, ⟨hk.1.2.1, ⟨hk.2, hk.1.2.2.2⟩⟩⟩, hk.1.2.2.1⟩))))); (case aB => exact (by repeat (first | (with_reducible first | exact HB.out | apply below_alloc | apply pw_below_drewN | apply below_drew1 | refine below_set ?_ GE164.out) | exact HB.out))); (case aF => exact (fun k_ hk => ⟨(.inr (Nat.le_trans (below_size (by repeat (first | (with_reducible first | exact HB.out | apply below_alloc | apply pw_below_drewN | apply below_drew1 | refine below_set ?_ GE164.out) | exact HB.out))) hk)), Kd.fresh' (Kd.N_lt (by (with_reducible repeat (first | apply Kd.N_alloc | apply Kd.N_drewN | apply Kd.N_drew)); exact HO_5.out)) k_ hk, Kd.fresh' (Kd.N_lt (by (with_reducible repeat (first | apply Kd.N_alloc | apply Kd.N_drewN | apply Kd.N_drew)); exact HO_6.out)) k_ hk, Kd.freshB (g := gb164) (o := .cells #[.int .i64 a1_0, .string a1_1, .slice A1_2 l1_2.length c1_2, .int .i64 a1_3, .slice A1_4 l1_4.length c1_4, .int .i64 a1_5, .int .u8 a1_6] 47 (0, 0)) (by (with_reducible repeat (first | refine blk_drewN ?_ _ | refine blk_drew ?_ | refine blk_alloc ?_ _)); exact BK164.out) k_ hk⟩)); (case aO => exact (by (with_reducible repeat (first | apply Kd.N_alloc | apply Kd.N_drewN | apply Kd.N_drew)); exact HO_7.out)); (case aS => exact (below_size (by repeat (first | (with_reducible first | exact HB.out | apply below_alloc | apply pw_below_drewN | apply below_drew1 | refine below_set ?_ GE164.out) | exact HB.out)))); (case aL => have := LMc14.out; omega); intro v175 w21 ho hb hg hat; rw [← Ny174.out] at ho; have n0_ := Aside0.mk (Kd.V_afterv (ok := (fun k_ => ((P0_ k_ ∨ P1_2_ k_ ∨ P1_4_ k_) ∨ w.heap.size ≤ k_) ∧ some k_ ≠ (v168 : Value).ownBlock ∧ some k_ ≠ (.slice (some ad173) t170.length co20 : Value).ownBlock ∧ k_ ≠ gb164)) (by (with_reducible repeat (first | apply Kd.V_alloc | apply Kd.V_drewN | apply Kd.V_drew)); exact Kd.V_mono HO_0.out (fun _ hk => ⟨⟨hk.1, ⟨hk.2.1, ⟨hk.2.2.1, hk.2.2.2.2⟩⟩⟩, hk.2.2.2.1⟩)) hg hat); have n1_ := Aside0.mk (Kd.N_afterv (ok := (fun k_ => ((P0_ k_ ∨ P1_2_ k_ ∨ P1_4_ k_) ∨ w.heap.size ≤ k_) ∧ some k_ ≠ (.slice (some ad173) t170.length co20 : Value).ownBlock ∧ k_ ≠ gb164)) (by (with_reducible repeat (first | apply Kd.N_alloc | apply Kd.N_drewN | apply Kd.N_drew)); exact Kd.N_mono HO_5.out (fun _ hk => ⟨⟨hk.1, ⟨hk.2.1, hk.2.2.2⟩⟩, hk.2.2.1⟩)) hg hat); have n2_ := Aside0.mk (Kd.N_afterv (ok := (fun k_ => ((P0_ k_ ∨ P1_2_ k_ ∨ P1_4_ k_) ∨ w.heap.size ≤ k_) ∧ some k_ ≠ (v168 : Value).ownBlock ∧ k_ ≠ gb164)) (by (with_reducible repeat (first | apply Kd.N_alloc | apply Kd.N_drewN | apply Kd.N_drew)); exact Kd.N_mono HO_6.out (fun _ hk => ⟨⟨hk.1, ⟨hk.2.1, hk.2.2.2⟩⟩, hk.2.2.1⟩)) hg hat); have n3_ := Aside0.mk (Kd.V_afterv (ok := (fun k_ => ((P0_ k_ ∨ P1_2_ k_ ∨ P1_4_ k_) ∨ w.heap.size ≤ k_) ∧ some k_ ≠ (v168 : Value).ownBlock ∧ some k_ ≠ (.slice (some ad173) t170.length co20 : Value).ownBlock ∧ k_ ≠ gb164)) (by (with_reducible repeat (first | apply Kd.V_alloc | apply Kd.V_drewN | apply Kd.V_drew)); exact Kd.V_mono HO_165002.out (fun _ hk => ⟨⟨hk.1, ⟨hk.2.1, ⟨hk.2.2.1, hk.2.2.2.2⟩⟩⟩, hk.2.2.2.1⟩)) hg hat); have n4_ := Aside0.mk (Kd.V_afterv (ok := (fun k_ => ((P0_ k_ ∨ P1_2_ k_ ∨ P1_4_ k_) ∨ w.heap.size ≤ k_) ∧ some k_ ≠ (v168 : Value).ownBlock ∧ some k_ ≠ (.slice (some ad173) t170.length co20 : Value).ownBlock ∧ k_ ≠ gb164)) (by (with_reducible repeat (first | apply Kd.V_alloc | apply Kd.V_drewN | apply Kd.V_drew)); exact Kd.V_mono HO_165004.out (fun _ hk => ⟨⟨hk.1, ⟨hk.2.1, ⟨hk.2.2.1, hk.2.2.2.2⟩⟩⟩, hk.2.2.2.1⟩)) hg hat); have n5_ := Aside0.mk (blk_grown (g := gb164) (o := .cells #[.int .i64 a1_0, .string a1_1, .slice A1_2 l1_2.length c1_2, .int .i64 a1_3, .slice A1_4 l1_4.length c1_4, .int .i64 a1_5, .int .u8 a1_6] 47 (0, 0)) (by (with_reducible repeat (first | refine blk_drewN ?_ _ | refine blk_drew ?_ | refine blk_alloc ?_ _)); exact BK164.out) hg (Kd.N_ne HO_7.out BK164.out (by decide))); have n6_ := Aside0.mk (Kd.V_afterv (ok := (fun k_ => ((P0_ k_ ∨ P1_2_ k_ ∨ P1_4_ k_) ∨ w.heap.size ≤ k_) ∧ some k_ ≠ (v168 : Value).ownBlock ∧ some k_ ≠ (.slice (some ad173) t170.length co20 : Value).ownBlock ∧ k_ ≠ gb164)) (by (with_reducible repeat (first | apply Kd.V_alloc | apply Kd.V_drewN | apply Kd.V_drew)); exact Kd.V_mono HL173_1.out (fun _ hk => ⟨⟨hk.1.1, ⟨hk.1.2.1, ⟨hk.2, hk.1.2.2.2⟩⟩⟩, hk.1.2.2.1⟩)) hg hat); have n7_ := Aside0.mk (Kd.V_afterv (ok := (fun k_ => ((P0_ k_ ∨ P1_2_ k_ ∨ P1_4_ k_) ∨ w.heap.size ≤ k_) ∧ some k_ ≠ (v168 : Value).ownBlock ∧ some k_ ≠ (.slice (some ad173) t170.length co20 : Value).ownBlock ∧ k_ ≠ gb164)) (by (with_reducible repeat (first | apply Kd.V_alloc | apply Kd.V_drewN | apply Kd.V_drew)); exact Kd.V_mono HL173_3.out (fun _ hk => ⟨⟨hk.1.1, ⟨hk.1.2.1, ⟨hk.2, hk.1.2.2.2⟩⟩⟩, hk.1.2.2.1⟩)) hg hat); have n8_ := Aside0.mk (Kd.V_afterv (ok := (fun k_ => ((P0_ k_ ∨ P1_2_ k_ ∨ P1_4_ k_) ∨ w.heap.size ≤ k_) ∧ some k_ ≠ (v168 : Value).ownBlock ∧ some k_ ≠ (.slice (some ad173) t170.length co20 : Value).ownBlock ∧ k_ ≠ gb164)) (by (with_reducible repeat (first | apply Kd.V_alloc | apply Kd.V_drewN | apply Kd.V_drew)); exact Kd.V_mono HL173_4.out (fun _ hk => ⟨⟨hk.1.1, ⟨hk.1.2.1, ⟨hk.2, hk.1.2.2.2⟩⟩⟩, hk.1.2.2.1⟩)) hg hat); have n9_ := Aside0.mk (hb); have n10_ := Aside0.mk (ho); clear HO_0; clear HO_5; clear HO_6; clear HO_165002; clear HO_165004; clear BK164; clear HL173_1; clear HL173_3; clear HL173_4; clear HB; clear HO_7; have HO_0 := n0_; have HO_5 := n1_; have HO_6 := n2_; have HO_165002 := n3_; have HO_165004 := n4_; have BK164 := n5_; have HL173_1 := n6_; have HL173_3 := n7_; have HL173_4 := n8_; have HB := n9_; have HO176 := n10_; clear n0_ n1_ n2_ n3_ n4_ n5_ n6_ n7_ n8_ n9_ n10_; clear ho hb hg hat))
           have n0_ := Aside0.mk (Kd.V_drew HO_0.out)
           have n1_ := Aside0.mk (Kd.N_drew HO_5.out)
           have n2_ := Aside0.mk (Kd.N_drew HO_6.out)
           have n3_ := Aside0.mk (Kd.V_drew HO_165002.out)
           have n4_ := Aside0.mk (Kd.V_drew HO_165004.out)
           have n5_ := Aside0.mk (Kd.V_drew HL173_1.out)
           have n6_ := Aside0.mk (Kd.V_drew HL173_3.out)
           have n7_ := Aside0.mk (Kd.V_drew HL173_4.out)
           have n8_ := Aside0.mk (Kd.N_drew HO176.out)
           have n9_ := Aside0.mk (blk_drew BK164.out)
           have n10_ := Aside0.mk (below_drew1 HB.out)
           clear HO_0
           clear HO_5
           clear HO_6
           clear HO_165002
           clear HO_165004
           clear HL173_1
           clear HL173_3
           clear HL173_4
           clear HO176
           clear BK164
           clear HB
           have HO_0 := n0_
           have HO_5 := n1_
           have HO_6 := n2_
           have HO_165002 := n3_
           have HO_165004 := n4_
           have HL173_1 := n5_
           have HL173_3 := n6_
           have HL173_4 := n7_
           have HO176 := n8_
           have BK164 := n9_
           have HB := n10_
           clear n0_ n1_ n2_ n3_ n4_ n5_ n6_ n7_ n8_ n9_ n10_
           obtain ⟨Ao23, co23, eo23⟩ := Kd.N_slice HO_5.out
           (first | subst eo23 | (injection eo23 with f1_ f2_ f3_; have f4_ := f1_.symm; have f5_ := f3_.symm; clear f1_ f2_ f3_; subst f4_; subst f5_))
           have p177 : 0 ≤ (x8_1 : Int) := of_decide_eq_true (by first | (with_reducible assumption) | assumption)
           have q177 : x8_1 < (t167.length : Int) := of_decide_eq_true (by first | (with_reducible assumption) | assumption)
           obtain ⟨ad177, A177_2, c177_2, A177_4, c177_4, e177, hx177_0, hx177_1, hx177_2, hx177_3, hx177_4, hx177_5, hx177_6, hl177_2, hi177_2, hl177_4, hi177_4⟩ := at_T47 (Kd.N_reads' HO_5.out).2.2 x8_1 p177 q177
           cases e177
           obtain ⟨ce177, hce177, hMe177, hcc177⟩ := Kd.N_get HO_5.out z47 x8_1 p177 (by first | exact q177 | exact of_decide_eq_true (by first | (with_reducible assumption) | assumption) | (have e_ := (Kd.N_reads' HO_5.out).1; omega))
           obtain ⟨ua177_2, uc177_2, ua177_4, uc177_4, rfl, ul177_2, ge177_2, ul177_4, ge177_4⟩ := k47_openF hMe177
           have hv177_2 := hcc177 2 _ rfl
           rw [add_field _ _ 2 (by omega)] at hv177_2
           replace hv177_2 := Option.some.inj (hv177_2.symm.trans hx177_2)
           injection hv177_2 with hva_ hvn_ hvc_
           rw [hva_] at ge177_2
           rw [hvc_] at ul177_2
           have HL177_2 := Aside0.mk (show Kd.V (Kd.int .u8) 5 _ w.heap.size _ _ ((rd_T47 t167 x8_1).f2) from Kd.V_mk ul177_2 ge177_2)
           clear hva_ hvn_ hvc_ ge177_2 ul177_2
           have hv177_4 := hcc177 4 _ rfl
           rw [add_field _ _ 4 (by omega)] at hv177_4
           replace hv177_4 := Option.some.inj (hv177_4.symm.trans hx177_4)
           injection hv177_4 with hva_ hvn_ hvc_
           rw [hva_] at ge177_4
           rw [hvc_] at ul177_4
           have HL177_4 := Aside0.mk (show Kd.V Kd.bool 4 _ w.heap.size _ _ ((rd_T47 t167 x8_1).f4.f0) from Kd.V_mk ul177_4 ge177_4)
           clear hva_ hvn_ hvc_ ge177_4 ul177_4
           clear hcc177 hce177
           have HR177_2 := Aside0.mk hi177_2
           have HC177_2 := Aside0.mk hl177_2
           clear hi177_2 hl177_2
           have HR177_4 := Aside0.mk hi177_4
           have HC177_4 := Aside0.mk hl177_4
           clear hi177_4 hl177_4
           replace p177 := eq_true p177
           replace q177 := eq_true q177
           have p178 : 0 ≤ (x8_1 : Int) := of_decide_eq_true (by first | (with_reducible assumption) | assumption)
           have q178 : x8_1 < (t170.length : Int) := of_decide_eq_true (by first | (with_reducible assumption) | assumption)
           obtain ⟨ad178, A178_1, c178_1, A178_3, c178_3, A178_4, c178_4, e178, hx178_0, hx178_1, hx178_2, hx178_3, hx178_4, hx178_5, hx178_6, hl178_1, hi178_1, hl178_3, hi178_3, hl178_4, hi178_4⟩ := at_T51 (Kd.N_reads' HO_6.out).2.2 x8_1 p178 q178
           obtain rfl : ad173 = ad178 := (by injection e178)
           obtain ⟨ce178, hce178, hMe178, hcc178⟩ := Kd.N_get HO_6.out z51 x8_1 p178 (by first | exact q178 | exact of_decide_eq_true (by first | (with_reducible assumption) | assumption) | (have e_ := (Kd.N_reads' HO_6.out).1; omega))
           obtain ⟨ua178_1, uc178_1, ua178_3, uc178_3, ua178_4, uc178_4, rfl, ul178_1, ge178_1, ul178_3, ge178_3, ul178_4, ge178_4⟩ := k51_openF hMe178
           have hv178_1 := hcc178 1 _ rfl
           rw [add_field _ _ 1 (by omega)] at hv178_1
           replace hv178_1 := Option.some.inj (hv178_1.symm.trans hx178_1)
           injection hv178_1 with hva_ hvn_ hvc_
           rw [hva_] at ge178_1
           rw [hvc_] at ul178_1
           have HL178_1 := Aside0.mk (show Kd.V (Kd.int .u8) 5 _ w.heap.size _ _ ((rd_T51 t170 x8_1).f1) from Kd.V_mk ul178_1 ge178_1)
           clear hva_ hvn_ hvc_ ge178_1 ul178_1
           have hv178_3 := hcc178 3 _ rfl
           rw [add_field _ _ 3 (by omega)] at hv178_3
           replace hv178_3 := Option.some.inj (hv178_3.symm.trans hx178_3)
           injection hv178_3 with hva_ hvn_ hvc_
           rw [hva_] at ge178_3
           rw [hvc_] at ul178_3
           have HL178_3 := Aside0.mk (show Kd.V Kd.string 9 _ w.heap.size _ _ ((rd_T51 t170 x8_1).f3) from Kd.V_mk ul178_3 ge178_3)
           clear hva_ hvn_ hvc_ ge178_3 ul178_3
           have hv178_4 := hcc178 4 _ rfl
           rw [add_field _ _ 4 (by omega)] at hv178_4
           replace hv178_4 := Option.some.inj (hv178_4.symm.trans hx178_4)
           injection hv178_4 with hva_ hvn_ hvc_
           rw [hva_] at ge178_4
           rw [hvc_] at ul178_4
           have HL178_4 := Aside0.mk (show Kd.V k122 122 _ w.heap.size _ _ ((rd_T51 t170 x8_1).f4) from Kd.V_mk ul178_4 ge178_4)
           clear hva_ hvn_ hvc_ ge178_4 ul178_4
           clear hcc178 hce178
           have HR178_1 := Aside0.mk hi178_1
           have HC178_1 := Aside0.mk hl178_1
           clear hi178_1 hl178_1
           have HR178_3 := Aside0.mk hi178_3
           have HC178_3 := Aside0.mk hl178_3
           clear hi178_3 hl178_3
           have HR178_4 := Aside0.mk hi178_4
           have HC178_4 := Aside0.mk hl178_4
           clear hi178_4 hl178_4
           replace p178 := eq_true p178
           replace q178 := eq_true q178
           have p180 : 0 ≤ (x8_1 : Int) := of_decide_eq_true (by first | (with_reducible assumption) | assumption)
           have q180 : x8_1 < (t167.length : Int) := of_decide_eq_true (by first | (with_reducible assumption) | assumption)
           obtain ⟨ad180, A180_2, c180_2, A180_4, c180_4, e180, hx180_0, hx180_1, hx180_2, hx180_3, hx180_4, hx180_5, hx180_6, hl180_2, hi180_2, hl180_4, hi180_4⟩ := at_T47 (Kd.N_reads' HO_5.out).2.2 x8_1 p180 q180
           obtain rfl : ad177 = ad180 := (by injection e180)
           obtain ⟨ce180, hce180, hMe180, hcc180⟩ := Kd.N_get HO_5.out z47 x8_1 p180 (by first | exact q180 | exact of_decide_eq_true (by first | (with_reducible assumption) | assumption) | (have e_ := (Kd.N_reads' HO_5.out).1; omega))
           obtain ⟨ua180_2, uc180_2, ua180_4, uc180_4, rfl, ul180_2, ge180_2, ul180_4, ge180_4⟩ := k47_openF hMe180
           have hv180_2 := hcc180 2 _ rfl
           rw [add_field _ _ 2 (by omega)] at hv180_2
           replace hv180_2 := Option.some.inj (hv180_2.symm.trans hx180_2)
           injection hv180_2 with hva_ hvn_ hvc_
           rw [hva_] at ge180_2
           rw [hvc_] at ul180_2
           have HL180_2 := Aside0.mk (show Kd.V (Kd.int .u8) 5 _ w.heap.size _ _ ((rd_T47 t167 x8_1).f2) from Kd.V_mk ul180_2 ge180_2)
           clear hva_ hvn_ hvc_ ge180_2 ul180_2
           have hv180_4 := hcc180 4 _ rfl
           rw [add_field _ _ 4 (by omega)] at hv180_4
           replace hv180_4 := Option.some.inj (hv180_4.symm.trans hx180_4)
           injection hv180_4 with hva_ hvn_ hvc_
           rw [hva_] at ge180_4
           rw [hvc_] at ul180_4
           have HL180_4 := Aside0.mk (show Kd.V Kd.bool 4 _ w.heap.size _ _ ((rd_T47 t167 x8_1).f4.f0) from Kd.V_mk ul180_4 ge180_4)
           clear hva_ hvn_ hvc_ ge180_4 ul180_4
           clear hcc180 hce180
           have HR180_2 := Aside0.mk hi180_2
           have HC180_2 := Aside0.mk hl180_2
           clear hi180_2 hl180_2
           have HR180_4 := Aside0.mk hi180_4
           have HC180_4 := Aside0.mk hl180_4
           clear hi180_4 hl180_4
           replace p180 := eq_true p180
           replace q180 := eq_true q180
           have ea_ := Option.some.inj (hx177_2.symm.trans hx180_2)
           injection ea_ with ea_ en_ ec_
           subst ea_
           subst ec_
           clear en_
           have ea_ := Option.some.inj (hx177_4.symm.trans hx180_4)
           injection ea_ with ea_ en_ ec_
           subst ea_
           subst ec_
           clear en_
           obtain ⟨Ao24, co24, eo24⟩ := Kd.N_slice HO176.out
           (first | subst eo24 | (injection eo24 with f1_ f2_ f3_; have f4_ := f1_.symm; have f5_ := f3_.symm; clear f1_ f2_ f3_; subst f4_; subst f5_))
           have p181 : 0 ≤ (x8_1 : Int) := of_decide_eq_true (by first | (with_reducible assumption) | assumption)
           have q181 : x8_1 < (y174.length : Int) := of_decide_eq_true (by first | (with_reducible assumption) | assumption)
           obtain ⟨ad181, A181_1, c181_1, A181_3, c181_3, A181_4, c181_4, e181, hx181_0, hx181_1, hx181_2, hx181_3, hx181_4, hx181_5, hx181_6, hl181_1, hi181_1, hl181_3, hi181_3, hl181_4, hi181_4⟩ := at_T53 (Kd.N_reads' HO176.out).2.2 x8_1 p181 q181
           cases e181
           obtain ⟨ce181, hce181, hMe181, hcc181⟩ := Kd.N_get HO176.out z53 x8_1 p181 (by first | exact q181 | exact of_decide_eq_true (by first | (with_reducible assumption) | assumption) | (have e_ := (Kd.N_reads' HO176.out).1; omega))
           obtain ⟨ua181_1, uc181_1, ua181_3, uc181_3, ua181_4, uc181_4, rfl, ul181_1, ge181_1, ul181_3, ge181_3, ul181_4, ge181_4⟩ := k53_openF hMe181
           have hv181_1 := hcc181 1 _ rfl
           rw [add_field _ _ 1 (by omega)] at hv181_1
           replace hv181_1 := Option.some.inj (hv181_1.symm.trans hx181_1)
           injection hv181_1 with hva_ hvn_ hvc_
           rw [hva_] at ge181_1
           rw [hvc_] at ul181_1
           have HL181_1 := Aside0.mk (show Kd.V (Kd.int .u8) 5 _ w.heap.size _ _ ((rd_T53 y174 x8_1).f1) from Kd.V_mk ul181_1 ge181_1)
           clear hva_ hvn_ hvc_ ge181_1 ul181_1
           have hv181_3 := hcc181 3 _ rfl
           rw [add_field _ _ 3 (by omega)] at hv181_3
           replace hv181_3 := Option.some.inj (hv181_3.symm.trans hx181_3)
           injection hv181_3 with hva_ hvn_ hvc_
           rw [hva_] at ge181_3
           rw [hvc_] at ul181_3
           have HL181_3 := Aside0.mk (show Kd.V Kd.string 9 _ w.heap.size _ _ ((rd_T53 y174 x8_1).f3) from Kd.V_mk ul181_3 ge181_3)
           clear hva_ hvn_ hvc_ ge181_3 ul181_3
           have hv181_4 := hcc181 4 _ rfl
           rw [add_field _ _ 4 (by omega)] at hv181_4
           replace hv181_4 := Option.some.inj (hv181_4.symm.trans hx181_4)
           injection hv181_4 with hva_ hvn_ hvc_
           rw [hva_] at ge181_4
           rw [hvc_] at ul181_4
           have HL181_4 := Aside0.mk (show Kd.V k122 122 _ w.heap.size _ _ ((rd_T53 y174 x8_1).f4) from Kd.V_mk ul181_4 ge181_4)
           clear hva_ hvn_ hvc_ ge181_4 ul181_4
           clear hcc181 hce181
           have HR181_1 := Aside0.mk hi181_1
           have HC181_1 := Aside0.mk hl181_1
           clear hi181_1 hl181_1
           have HR181_3 := Aside0.mk hi181_3
           have HC181_3 := Aside0.mk hl181_3
           clear hi181_3 hl181_3
           have HR181_4 := Aside0.mk hi181_4
           have HC181_4 := Aside0.mk hl181_4
           clear hi181_4 hl181_4
           replace p181 := eq_true p181
           replace q181 := eq_true q181
           refine start_ (n := 19) (S := fun w' => w'.cell? (ad177.add ((x8_1).toNat * 7)) = some (.int .i64 ((rd_T47 t167 x8_1).f0)) ∧ w'.cell? ⟨(ad177.add ((x8_1).toNat * 7)).block, (ad177.add ((x8_1).toNat * 7)).off + 1, none⟩ = some (.string ((rd_T47 t167 x8_1).f1)) ∧ w'.cell? ⟨(ad177.add ((x8_1).toNat * 7)).block, (ad177.add ((x8_1).toNat * 7)).off + 2, none⟩ = some (.slice A177_2 ((rd_T47 t167 x8_1).f2).length c177_2) ∧ w'.cell? ⟨(ad177.add ((x8_1).toNat * 7)).block, (ad177.add ((x8_1).toNat * 7)).off + 3, none⟩ = some (.int .i64 ((rd_T47 t167 x8_1).f3)) ∧ w'.cell? ⟨(ad177.add ((x8_1).toNat * 7)).block, (ad177.add ((x8_1).toNat * 7)).off + 4, none⟩ = some (.slice A177_4 ((rd_T47 t167 x8_1).f4.f0).length c177_4) ∧ w'.cell? ⟨(ad177.add ((x8_1).toNat * 7)).block, (ad177.add ((x8_1).toNat * 7)).off + 5, none⟩ = some (.int .i64 ((rd_T47 t167 x8_1).f4.f1)) ∧ w'.cell? ⟨(ad177.add ((x8_1).toNat * 7)).block, (ad177.add ((x8_1).toNat * 7)).off + 6, none⟩ = some (.int .u8 ((rd_T47 t167 x8_1).f4.f2)) ∧ w'.cell? (ad173.add ((x8_1).toNat * 7)) = some (.int .i64 ((rd_T51 t170 x8_1).f0)) ∧ w'.cell? ⟨(ad173.add ((x8_1).toNat * 7)).block, (ad173.add ((x8_1).toNat * 7)).off + 1, none⟩ = some (.slice A178_1 ((rd_T51 t170 x8_1).f1).length c178_1) ∧ w'.cell? ⟨(ad173.add ((x8_1).toNat * 7)).block, (ad173.add ((x8_1).toNat * 7)).off + 2, none⟩ = some (.int .i64 ((rd_T51 t170 x8_1).f2)) ∧ w'.cell? ⟨(ad173.add ((x8_1).toNat * 7)).block, (ad173.add ((x8_1).toNat * 7)).off + 3, none⟩ = some (.slice A178_3 ((rd_T51 t170 x8_1).f3).length c178_3) ∧ w'.cell? ⟨(ad173.add ((x8_1).toNat * 7)).block, (ad173.add ((x8_1).toNat * 7)).off + 4, none⟩ = some (.slice A178_4 ((rd_T51 t170 x8_1).f4).length c178_4) ∧ w'.cell? ⟨(ad173.add ((x8_1).toNat * 7)).block, (ad173.add ((x8_1).toNat * 7)).off + 5, none⟩ = some (.bool ((rd_T51 t170 x8_1).f5)) ∧ w'.cell? ⟨(ad173.add ((x8_1).toNat * 7)).block, (ad173.add ((x8_1).toNat * 7)).off + 6, none⟩ = some (.bool ((rd_T51 t170 x8_1).f6)) ∧ w'.cell? (ad177.add ((x8_1).toNat * 7)) = some (.int .i64 ((rd_T47 t167 x8_1).f0)) ∧ w'.cell? ⟨(ad177.add ((x8_1).toNat * 7)).block, (ad177.add ((x8_1).toNat * 7)).off + 1, none⟩ = some (.string ((rd_T47 t167 x8_1).f1)) ∧ w'.cell? ⟨(ad177.add ((x8_1).toNat * 7)).block, (ad177.add ((x8_1).toNat * 7)).off + 2, none⟩ = some (.slice A177_2 ((rd_T47 t167 x8_1).f2).length c177_2) ∧ w'.cell? ⟨(ad177.add ((x8_1).toNat * 7)).block, (ad177.add ((x8_1).toNat * 7)).off + 3, none⟩ = some (.int .i64 ((rd_T47 t167 x8_1).f3)) ∧ w'.cell? ⟨(ad177.add ((x8_1).toNat * 7)).block, (ad177.add ((x8_1).toNat * 7)).off + 4, none⟩ = some (.slice A177_4 ((rd_T47 t167 x8_1).f4.f0).length c177_4) ∧ w'.cell? ⟨(ad177.add ((x8_1).toNat * 7)).block, (ad177.add ((x8_1).toNat * 7)).off + 5, none⟩ = some (.int .i64 ((rd_T47 t167 x8_1).f4.f1)) ∧ w'.cell? ⟨(ad177.add ((x8_1).toNat * 7)).block, (ad177.add ((x8_1).toNat * 7)).off + 6, none⟩ = some (.int .u8 ((rd_T47 t167 x8_1).f4.f2)) ∧ w'.cell? (ad181.add ((x8_1).toNat * 7)) = some (.int .i64 ((rd_T53 y174 x8_1).f0)) ∧ w'.cell? ⟨(ad181.add ((x8_1).toNat * 7)).block, (ad181.add ((x8_1).toNat * 7)).off + 1, none⟩ = some (.slice A181_1 ((rd_T53 y174 x8_1).f1).length c181_1) ∧ w'.cell? ⟨(ad181.add ((x8_1).toNat * 7)).block, (ad181.add ((x8_1).toNat * 7)).off + 2, none⟩ = some (.int .i64 ((rd_T53 y174 x8_1).f2)) ∧ w'.cell? ⟨(ad181.add ((x8_1).toNat * 7)).block, (ad181.add ((x8_1).toNat * 7)).off + 3, none⟩ = some (.slice A181_3 ((rd_T53 y174 x8_1).f3).length c181_3) ∧ w'.cell? ⟨(ad181.add ((x8_1).toNat * 7)).block, (ad181.add ((x8_1).toNat * 7)).off + 4, none⟩ = some (.slice A181_4 ((rd_T53 y174 x8_1).f4).length c181_4) ∧ w'.cell? ⟨(ad181.add ((x8_1).toNat * 7)).block, (ad181.add ((x8_1).toNat * 7)).off + 5, none⟩ = some (.bool ((rd_T53 y174 x8_1).f5)) ∧ w'.cell? ⟨(ad181.add ((x8_1).toNat * 7)).block, (ad181.add ((x8_1).toNat * 7)).off + 6, none⟩ = some (.bool ((rd_T53 y174 x8_1).f6))) (ds := []) #[false, false, false, false, false, false, false, false, false, false, false, false, false, false, false, false, false, false, false] (by kernel_rfl) rfl rfl ⟨hx177_0, hx177_1, hx177_2, hx177_3, hx177_4, hx177_5, hx177_6, hx178_0, hx178_1, hx178_2, hx178_3, hx178_4, hx178_5, hx178_6, hx180_0, hx180_1, hx180_2, hx180_3, hx180_4, hx180_5, hx180_6, hx181_0, hx181_1, hx181_2, hx181_3, hx181_4, hx181_5, hx181_6⟩ (fun hHeld => ?_); refine with_tabW bindlelaw33_ReportLines.tab9 bindlelaw33_ReportLines.bits9 (fun HT_ HW_ => ?_)
           generalize w21.drew = w22 at HO_0 HO_5 HO_6 HO_165002 HO_165004 HL173_1 HL173_3 HL173_4 HO176 BK164 HB HL177_2 HL177_4 HL178_1 HL178_3 HL178_4 HL180_2 HL180_4 HL181_1 HL181_3 HL181_4 HR177_2 HR177_4 HR178_1 HR178_3 HR178_4 HR180_2 HR180_4 HR181_1 HR181_3 HR181_4 hx177_0 hx177_1 hx177_2 hx177_3 hx177_4 hx177_5 hx177_6 hx178_0 hx178_1 hx178_2 hx178_3 hx178_4 hx178_5 hx178_6 hx180_0 hx180_1 hx180_2 hx180_3 hx180_4 hx180_5 hx180_6 hx181_0 hx181_1 hx181_2 hx181_3 hx181_4 hx181_5 hx181_6 hHeld ⊢
           refine pure_ (i := 0) (N := some 36) (v := ?_) (a' := ?_) #[true, false, false, false, false, false, false, false, false, false, false, false, false, false, false, false, false, false, false] rfl rfl (any_of HT_.out (by kernel_rfl)) (fun _ _ _ h => h) (Or.inl ⟨by rfl, ?_⟩) ?_ ?_
           rotate_left
           ·intro w'
            go_simp
            with_reducible rfl
           rotate_left
           ·simp only [Act.put, List.setIfInBounds_toArray, List.set_cons_zero, List.set_cons_succ, i64_w, i32_w]
            rfl
           refine pure_ (i := 1) (N := some 37) (v := ?_) (a' := ?_) #[true, true, false, false, false, false, false, false, false, false, false, false, false, false, false, false, false, false, false] rfl rfl (any_of HT_.out (by kernel_rfl)) (fun _ _ _ h => h) (Or.inl ⟨by rfl, ?_⟩) ?_ ?_
           rotate_left
           ·intro w'
            go_simp
            with_reducible rfl
           rotate_left
           ·simp only [Act.put, List.setIfInBounds_toArray, List.set_cons_zero, List.set_cons_succ, i64_w, i32_w]
            rfl
           refine pure_ (i := 2) (N := some 38) (v := ?_) (a' := ?_) #[true, true, true, false, false, false, false, false, false, false, false, false, false, false, false, false, false, false, false] rfl rfl (any_of HT_.out (by kernel_rfl)) (fun _ _ _ h => h) (Or.inl ⟨by rfl, ?_⟩) ?_ ?_
           rotate_left
           ·intro w'
            go_simp
            with_reducible rfl
           rotate_left
           ·simp only [Act.put, List.setIfInBounds_toArray, List.set_cons_zero, List.set_cons_succ, i64_w, i32_w]
            rfl
           refine pure_ (i := 4) (N := some 40) (v := ?_) (a' := ?_) #[true, true, true, false, true, false, false, false, false, false, false, false, false, false, false, false, false, false, false] rfl rfl (any_of HT_.out (by kernel_rfl)) (fun _ _ _ h => h) (Or.inl ⟨by rfl, ?_⟩) ?_ ?_
           rotate_left
           ·intro w'
            go_simp
            with_reducible rfl
           rotate_left
           ·simp only [Act.put, List.setIfInBounds_toArray, List.set_cons_zero, List.set_cons_succ, i64_w, i32_w]
            rfl
           refine pure_ (i := 5) (N := some 41) (v := ?_) (a' := ?_) #[true, true, true, false, true, true, false, false, false, false, false, false, false, false, false, false, false, false, false] rfl rfl (any_of HT_.out (by kernel_rfl)) (fun _ _ _ h => h) (Or.inl ⟨by rfl, ?_⟩) ?_ ?_
           rotate_left
           ·intro w'
            go_simp
            with_reducible rfl
           rotate_left
           ·simp only [Act.put, List.setIfInBounds_toArray, List.set_cons_zero, List.set_cons_succ, i64_w, i32_w]
            rfl
           refine pure_ (i := 6) (N := some 42) (v := ?_) (a' := ?_) #[true, true, true, false, true, true, true, false, false, false, false, false, false, false, false, false, false, false, false] rfl rfl (any_of HT_.out (by kernel_rfl)) (fun _ _ _ h => h) (Or.inl ⟨by rfl, ?_⟩) ?_ ?_
           rotate_left
           ·intro w'
            go_simp
            with_reducible rfl
           rotate_left
           ·simp only [Act.put, List.setIfInBounds_toArray, List.set_cons_zero, List.set_cons_succ, i64_w, i32_w]
            rfl
           refine pure_ (i := 9) (N := some 45) (v := ?_) (a' := ?_) #[true, true, true, false, true, true, true, false, false, true, false, false, false, false, false, false, false, false, false] rfl rfl (any_of HT_.out (by kernel_rfl)) (fun _ _ _ h => h) (Or.inl ⟨by rfl, ?_⟩) ?_ ?_
           rotate_left
           ·intro w'
            go_simp
            with_reducible rfl
           rotate_left
           ·simp only [Act.put, List.setIfInBounds_toArray, List.set_cons_zero, List.set_cons_succ, i64_w, i32_w]
            rfl
           refine pure_ (i := 10) (N := some 46) (v := ?_) (a' := ?_) #[true, true, true, false, true, true, true, false, false, true, true, false, false, false, false, false, false, false, false] rfl rfl (any_of HT_.out (by kernel_rfl)) (fun _ _ _ h => h) (Or.inl ⟨by rfl, ?_⟩) ?_ ?_
           rotate_left
           ·intro w'
            go_simp
            with_reducible rfl
           rotate_left
           ·simp only [Act.put, List.setIfInBounds_toArray, List.set_cons_zero, List.set_cons_succ, i64_w, i32_w]
            rfl
           refine pure_ (i := 11) (N := some 47) (v := ?_) (a' := ?_) #[true, true, true, false, true, true, true, false, false, true, true, true, false, false, false, false, false, false, false] rfl rfl (any_of HT_.out (by kernel_rfl)) (fun _ _ _ h => h) (Or.inl ⟨by rfl, ?_⟩) ?_ ?_
           rotate_left
           ·intro w'
            go_simp
            with_reducible rfl
           rotate_left
           ·simp only [Act.put, List.setIfInBounds_toArray, List.set_cons_zero, List.set_cons_succ, i64_w, i32_w]
            rfl
           refine pure_ (i := 13) (N := some 49) (v := ?_) (a' := ?_) #[true, true, true, false, true, true, true, false, false, true, true, true, false, true, false, false, false, false, false] rfl rfl (any_of HT_.out (by kernel_rfl)) (fun _ _ _ h => h) (Or.inl ⟨by rfl, ?_⟩) ?_ ?_
           rotate_left
           ·intro w'
            go_simp
            with_reducible rfl
           rotate_left
           ·simp only [Act.put, List.setIfInBounds_toArray, List.set_cons_zero, List.set_cons_succ, i64_w, i32_w]
            rfl
           refine pure_ (i := 14) (N := some 50) (v := ?_) (a' := ?_) #[true, true, true, false, true, true, true, false, false, true, true, true, false, true, true, false, false, false, false] rfl rfl (any_of HT_.out (by kernel_rfl)) (fun _ _ _ h => h) (Or.inl ⟨by rfl, ?_⟩) ?_ ?_
           rotate_left
           ·intro w'
            go_simp
            with_reducible rfl
           rotate_left
           ·simp only [Act.put, List.setIfInBounds_toArray, List.set_cons_zero, List.set_cons_succ, i64_w, i32_w]
            rfl
           refine pure_ (i := 15) (N := some 51) (v := ?_) (a' := ?_) #[true, true, true, false, true, true, true, false, false, true, true, true, false, true, true, true, false, false, false] rfl rfl (any_of HT_.out (by kernel_rfl)) (fun _ _ _ h => h) (Or.inl ⟨by rfl, ?_⟩) ?_ ?_
           rotate_left
           ·intro w'
            go_simp
            with_reducible rfl
           rotate_left
           ·simp only [Act.put, List.setIfInBounds_toArray, List.set_cons_zero, List.set_cons_succ, i64_w, i32_w]
            rfl
           refine take_ (i := 3) (N := some 39) (v := ?_) (a' := ?_) #[true, true, true, true, true, true, true, false, false, true, true, true, false, true, true, true, false, false, false] rfl rfl (take_ofW HT_.out HW_.out (by kernel_rfl)) (fun _ _ _ h => h) (Or.inl ⟨by rfl, ?_⟩) hHeld ?_ ?_
           rotate_left
           ·rintro w' ⟨s0, s1, s2, s3, s4, s5, s6, s7, s8, s9, s10, s11, s12, s13, s14, s15, s16, s17, s18, s19, s20, s21, s22, s23, s24, s25, s26, s27⟩
            go_simp
            with_reducible rfl
           rotate_left
           ·simp only [Act.put, List.setIfInBounds_toArray, List.set_cons_zero, List.set_cons_succ, i64_w, i32_w]
            rfl
           refine take_ (i := 7) (N := some 43) (v := ?_) (a' := ?_) #[true, true, true, true, true, true, true, true, false, true, true, true, false, true, true, true, false, false, false] rfl rfl (take_ofW HT_.out HW_.out (by kernel_rfl)) (fun _ _ _ h => h) (Or.inl ⟨by rfl, ?_⟩) hHeld ?_ ?_
           rotate_left
           ·rintro w' ⟨s0, s1, s2, s3, s4, s5, s6, s7, s8, s9, s10, s11, s12, s13, s14, s15, s16, s17, s18, s19, s20, s21, s22, s23, s24, s25, s26, s27⟩
            go_simp
            with_reducible rfl
           rotate_left
           ·simp only [Act.put, List.setIfInBounds_toArray, List.set_cons_zero, List.set_cons_succ, i64_w, i32_w]
            rfl
           refine take_ (i := 12) (N := some 48) (v := ?_) (a' := ?_) #[true, true, true, true, true, true, true, true, false, true, true, true, true, true, true, true, false, false, false] rfl rfl (take_ofW HT_.out HW_.out (by kernel_rfl)) (fun _ _ _ h => h) (Or.inl ⟨by rfl, ?_⟩) hHeld ?_ ?_
           rotate_left
           ·rintro w' ⟨s0, s1, s2, s3, s4, s5, s6, s7, s8, s9, s10, s11, s12, s13, s14, s15, s16, s17, s18, s19, s20, s21, s22, s23, s24, s25, s26, s27⟩
            go_simp
            with_reducible rfl
           rotate_left
           ·simp only [Act.put, List.setIfInBounds_toArray, List.set_cons_zero, List.set_cons_succ, i64_w, i32_w]
            rfl
           refine take_ (i := 16) (N := some 52) (v := ?_) (a' := ?_) #[true, true, true, true, true, true, true, true, false, true, true, true, true, true, true, true, true, false, false] rfl rfl (take_ofW HT_.out HW_.out (by kernel_rfl)) (fun _ _ _ h => h) (Or.inl ⟨by rfl, ?_⟩) hHeld ?_ ?_
           rotate_left
           ·rintro w' ⟨s0, s1, s2, s3, s4, s5, s6, s7, s8, s9, s10, s11, s12, s13, s14, s15, s16, s17, s18, s19, s20, s21, s22, s23, s24, s25, s26, s27⟩
            go_simp
            with_reducible rfl
           rotate_left
           ·simp only [Act.put, List.setIfInBounds_toArray, List.set_cons_zero, List.set_cons_succ, i64_w, i32_w]
            rfl
           refine one_ (i := 8) (N := some 44) #[true, true, true, true, true, true, true, true, true, true, true, true, true, true, true, true, true, false, false] rfl rfl (one_of HT_.out (by kernel_rfl)) (by decide) (fun K hK => ?_)
           refine goes_ Tryd.func17 (by kernel_rfl) rfl #[.agg #[.int .i64 ((rd_T47 t167 x8_1).f0), .string ((rd_T47 t167 x8_1).f1), .slice A177_2 ((rd_T47 t167 x8_1).f2).length c177_2, .int .i64 ((rd_T47 t167 x8_1).f3), .slice A177_4 ((rd_T47 t167 x8_1).f4.f0).length c177_4, .int .i64 ((rd_T47 t167 x8_1).f4.f1), .int .u8 ((rd_T47 t167 x8_1).f4.f2)], .agg #[.int .i64 ((rd_T51 t170 x8_1).f0), .slice A178_1 ((rd_T51 t170 x8_1).f1).length c178_1, .int .i64 ((rd_T51 t170 x8_1).f2), .slice A178_3 ((rd_T51 t170 x8_1).f3).length c178_3, .slice A178_4 ((rd_T51 t170 x8_1).f4).length c178_4, .bool ((rd_T51 t170 x8_1).f5), .bool ((rd_T51 t170 x8_1).f6)]] (by rfl) rfl rfl (by (try simp only [List.map_toArray, List.map_cons, List.map_nil]); first | done | rfl | (simp only [List.length_drop, List.length_take]; rfl)) ?_
           with_reducible refine (report_Line.calls k1 ((rd_T47 t167 x8_1).f0) ((rd_T47 t167 x8_1).f1) _ _ ((rd_T47 t167 x8_1).f2) ((rd_T47 t167 x8_1).f3) _ _ ((rd_T47 t167 x8_1).f4.f0) ((rd_T47 t167 x8_1).f4.f1) ((rd_T47 t167 x8_1).f4.f2) ((rd_T51 t170 x8_1).f0) _ _ ((rd_T51 t170 x8_1).f1) ((rd_T51 t170 x8_1).f2) _ _ ((rd_T51 t170 x8_1).f3) _ _ ((rd_T51 t170 x8_1).f4) ((rd_T51 t170 x8_1).f5) ((rd_T51 t170 x8_1).f6) t179 _ ?side1 ?side2 ?side3 ?side4 ?side5 ?side6 ?side7 ?side8 ?side9 ?side10 ?side11 A16.out).mono ?_
           (case side1 => repeat (first | exact (by repeat (first | (with_reducible exact HR177_2.out) | (with_reducible refine Kd.C_alloc ?_ _) | (with_reducible refine Kd.C_drewN ?_ _) | (with_reducible refine Kd.C_drew ?_) | exact HR177_2.out)) | (with_reducible refine Kd.C_alloc ?_ _) | (with_reducible refine Kd.C_drewN ?_ _) | (with_reducible refine Kd.C_drew ?_)))
           (case side2 => exact HC177_2.out)
           (case side3 => repeat (first | exact (by repeat (first | (with_reducible exact HR177_4.out) | (with_reducible refine Kd.C_alloc ?_ _) | (with_reducible refine Kd.C_drewN ?_ _) | (with_reducible refine Kd.C_drew ?_) | exact HR177_4.out)) | (with_reducible refine Kd.C_alloc ?_ _) | (with_reducible refine Kd.C_drewN ?_ _) | (with_reducible refine Kd.C_drew ?_)))
           (case side4 => exact HC177_4.out)
           (case side5 => repeat (first | exact (by repeat (first | (with_reducible exact HR178_1.out) | (with_reducible refine Kd.C_alloc ?_ _) | (with_reducible refine Kd.C_drewN ?_ _) | (with_reducible refine Kd.C_drew ?_) | exact HR178_1.out)) | (with_reducible refine Kd.C_alloc ?_ _) | (with_reducible refine Kd.C_drewN ?_ _) | (with_reducible refine Kd.C_drew ?_)))
           (case side6 => exact HC178_1.out)
           (case side7 => repeat (first | exact (by repeat (first | (with_reducible exact HR178_3.out) | (with_reducible refine Kd.C_alloc ?_ _) | (with_reducible refine Kd.C_drewN ?_ _) | (with_reducible refine Kd.C_drew ?_) | exact HR178_3.out)) | (with_reducible refine Kd.C_alloc ?_ _) | (with_reducible refine Kd.C_drewN ?_ _) | (with_reducible refine Kd.C_drew ?_)))
           (case side8 => exact HC178_3.out)
           (case side9 => repeat (first | exact (by repeat (first | (with_reducible exact HR178_4.out) | (with_reducible refine Kd.C_alloc ?_ _) | (with_reducible refine Kd.C_drewN ?_ _) | (with_reducible refine Kd.C_drew ?_) | exact HR178_4.out)) | (with_reducible refine Kd.C_alloc ?_ _) | (with_reducible refine Kd.C_drewN ?_ _) | (with_reducible refine Kd.C_drew ?_)))
           (case side10 => exact HC178_4.out)
           (case side11 => exact YtodifojhegbjaaaDoorTab.tab_below HT.out (by repeat (first | (with_reducible first | exact HB.out | apply below_alloc | apply pw_below_drewN | apply below_drew1 | refine below_set ?_ GE164.out) | exact HB.out)))
           rintro e w25 ⟨rfl, hb⟩
           have HS0_ := (hb.cell (World.block_lt_of_cell? _ _ (hHeld.1))).trans (hHeld.1)
           have HS1_ := (hb.cell (World.block_lt_of_cell? _ _ (hHeld.2.1))).trans (hHeld.2.1)
           have HS2_ := (hb.cell (World.block_lt_of_cell? _ _ (hHeld.2.2.1))).trans (hHeld.2.2.1)
           have HS3_ := (hb.cell (World.block_lt_of_cell? _ _ (hHeld.2.2.2.1))).trans (hHeld.2.2.2.1)
           have HS4_ := (hb.cell (World.block_lt_of_cell? _ _ (hHeld.2.2.2.2.1))).trans (hHeld.2.2.2.2.1)
           have HS5_ := (hb.cell (World.block_lt_of_cell? _ _ (hHeld.2.2.2.2.2.1))).trans (hHeld.2.2.2.2.2.1)
           have HS6_ := (hb.cell (World.block_lt_of_cell? _ _ (hHeld.2.2.2.2.2.2.1))).trans (hHeld.2.2.2.2.2.2.1)
           have HS7_ := (hb.cell (World.block_lt_of_cell? _ _ (hHeld.2.2.2.2.2.2.2.1))).trans (hHeld.2.2.2.2.2.2.2.1)
           have HS8_ := (hb.cell (World.block_lt_of_cell? _ _ (hHeld.2.2.2.2.2.2.2.2.1))).trans (hHeld.2.2.2.2.2.2.2.2.1)
           have HS9_ := (hb.cell (World.block_lt_of_cell? _ _ (hHeld.2.2.2.2.2.2.2.2.2.1))).trans (hHeld.2.2.2.2.2.2.2.2.2.1)
           have HS10_ := (hb.cell (World.block_lt_of_cell? _ _ (hHeld.2.2.2.2.2.2.2.2.2.2.1))).trans (hHeld.2.2.2.2.2.2.2.2.2.2.1)
           have HS11_ := (hb.cell (World.block_lt_of_cell? _ _ (hHeld.2.2.2.2.2.2.2.2.2.2.2.1))).trans (hHeld.2.2.2.2.2.2.2.2.2.2.2.1)
           have HS12_ := (hb.cell (World.block_lt_of_cell? _ _ (hHeld.2.2.2.2.2.2.2.2.2.2.2.2.1))).trans (hHeld.2.2.2.2.2.2.2.2.2.2.2.2.1)
           have HS13_ := (hb.cell (World.block_lt_of_cell? _ _ (hHeld.2.2.2.2.2.2.2.2.2.2.2.2.2.1))).trans (hHeld.2.2.2.2.2.2.2.2.2.2.2.2.2.1)
           have HS14_ := (hb.cell (World.block_lt_of_cell? _ _ (hHeld.2.2.2.2.2.2.2.2.2.2.2.2.2.2.1))).trans (hHeld.2.2.2.2.2.2.2.2.2.2.2.2.2.2.1)
           have HS15_ := (hb.cell (World.block_lt_of_cell? _ _ (hHeld.2.2.2.2.2.2.2.2.2.2.2.2.2.2.2.1))).trans (hHeld.2.2.2.2.2.2.2.2.2.2.2.2.2.2.2.1)
           have HS16_ := (hb.cell (World.block_lt_of_cell? _ _ (hHeld.2.2.2.2.2.2.2.2.2.2.2.2.2.2.2.2.1))).trans (hHeld.2.2.2.2.2.2.2.2.2.2.2.2.2.2.2.2.1)
           have HS17_ := (hb.cell (World.block_lt_of_cell? _ _ (hHeld.2.2.2.2.2.2.2.2.2.2.2.2.2.2.2.2.2.1))).trans (hHeld.2.2.2.2.2.2.2.2.2.2.2.2.2.2.2.2.2.1)
           have HS18_ := (hb.cell (World.block_lt_of_cell? _ _ (hHeld.2.2.2.2.2.2.2.2.2.2.2.2.2.2.2.2.2.2.1))).trans (hHeld.2.2.2.2.2.2.2.2.2.2.2.2.2.2.2.2.2.2.1)
           have HS19_ := (hb.cell (World.block_lt_of_cell? _ _ (hHeld.2.2.2.2.2.2.2.2.2.2.2.2.2.2.2.2.2.2.2.1))).trans (hHeld.2.2.2.2.2.2.2.2.2.2.2.2.2.2.2.2.2.2.2.1)
           have HS20_ := (hb.cell (World.block_lt_of_cell? _ _ (hHeld.2.2.2.2.2.2.2.2.2.2.2.2.2.2.2.2.2.2.2.2.1))).trans (hHeld.2.2.2.2.2.2.2.2.2.2.2.2.2.2.2.2.2.2.2.2.1)
           have HS21_ := (hb.cell (World.block_lt_of_cell? _ _ (hHeld.2.2.2.2.2.2.2.2.2.2.2.2.2.2.2.2.2.2.2.2.2.1))).trans (hHeld.2.2.2.2.2.2.2.2.2.2.2.2.2.2.2.2.2.2.2.2.2.1)
           have HS22_ := (hb.cell (World.block_lt_of_cell? _ _ (hHeld.2.2.2.2.2.2.2.2.2.2.2.2.2.2.2.2.2.2.2.2.2.2.1))).trans (hHeld.2.2.2.2.2.2.2.2.2.2.2.2.2.2.2.2.2.2.2.2.2.2.1)
           have HS23_ := (hb.cell (World.block_lt_of_cell? _ _ (hHeld.2.2.2.2.2.2.2.2.2.2.2.2.2.2.2.2.2.2.2.2.2.2.2.1))).trans (hHeld.2.2.2.2.2.2.2.2.2.2.2.2.2.2.2.2.2.2.2.2.2.2.2.1)
           have HS24_ := (hb.cell (World.block_lt_of_cell? _ _ (hHeld.2.2.2.2.2.2.2.2.2.2.2.2.2.2.2.2.2.2.2.2.2.2.2.2.1))).trans (hHeld.2.2.2.2.2.2.2.2.2.2.2.2.2.2.2.2.2.2.2.2.2.2.2.2.1)
           have HS25_ := (hb.cell (World.block_lt_of_cell? _ _ (hHeld.2.2.2.2.2.2.2.2.2.2.2.2.2.2.2.2.2.2.2.2.2.2.2.2.2.1))).trans (hHeld.2.2.2.2.2.2.2.2.2.2.2.2.2.2.2.2.2.2.2.2.2.2.2.2.2.1)
           have HS26_ := (hb.cell (World.block_lt_of_cell? _ _ (hHeld.2.2.2.2.2.2.2.2.2.2.2.2.2.2.2.2.2.2.2.2.2.2.2.2.2.2.1))).trans (hHeld.2.2.2.2.2.2.2.2.2.2.2.2.2.2.2.2.2.2.2.2.2.2.2.2.2.2.1)
           have HS27_ := (hb.cell (World.block_lt_of_cell? _ _ (hHeld.2.2.2.2.2.2.2.2.2.2.2.2.2.2.2.2.2.2.2.2.2.2.2.2.2.2.2))).trans (hHeld.2.2.2.2.2.2.2.2.2.2.2.2.2.2.2.2.2.2.2.2.2.2.2.2.2.2.2)
           refine ⟨_, rfl, ?_⟩
           have n0_ := Aside0.mk (Kd.V_below (by (with_reducible repeat (first | apply Kd.V_alloc | apply Kd.V_drewN | apply Kd.V_drew)); exact HO_0.out) hb)
           have n1_ := Aside0.mk (Kd.N_below (by (with_reducible repeat (first | apply Kd.N_alloc | apply Kd.N_drewN | apply Kd.N_drew)); exact HO_5.out) hb)
           have n2_ := Aside0.mk (Kd.N_below (by (with_reducible repeat (first | apply Kd.N_alloc | apply Kd.N_drewN | apply Kd.N_drew)); exact HO_6.out) hb)
           have n3_ := Aside0.mk (Kd.V_below (by (with_reducible repeat (first | apply Kd.V_alloc | apply Kd.V_drewN | apply Kd.V_drew)); exact HO_165002.out) hb)
           have n4_ := Aside0.mk (Kd.V_below (by (with_reducible repeat (first | apply Kd.V_alloc | apply Kd.V_drewN | apply Kd.V_drew)); exact HO_165004.out) hb)
           have n5_ := Aside0.mk (Kd.V_below (by (with_reducible repeat (first | apply Kd.V_alloc | apply Kd.V_drewN | apply Kd.V_drew)); exact HL173_1.out) hb)
           have n6_ := Aside0.mk (Kd.V_below (by (with_reducible repeat (first | apply Kd.V_alloc | apply Kd.V_drewN | apply Kd.V_drew)); exact HL173_3.out) hb)
           have n7_ := Aside0.mk (Kd.V_below (by (with_reducible repeat (first | apply Kd.V_alloc | apply Kd.V_drewN | apply Kd.V_drew)); exact HL173_4.out) hb)
           have n8_ := Aside0.mk (Kd.N_below (by (with_reducible repeat (first | apply Kd.N_alloc | apply Kd.N_drewN | apply Kd.N_drew)); exact HO176.out) hb)
           have n9_ := Aside0.mk (Kd.V_below (by (with_reducible repeat (first | apply Kd.V_alloc | apply Kd.V_drewN | apply Kd.V_drew)); exact HL177_2.out) hb)
           have n10_ := Aside0.mk (Kd.V_below (by (with_reducible repeat (first | apply Kd.V_alloc | apply Kd.V_drewN | apply Kd.V_drew)); exact HL177_4.out) hb)
           have n11_ := Aside0.mk (Kd.V_below (by (with_reducible repeat (first | apply Kd.V_alloc | apply Kd.V_drewN | apply Kd.V_drew)); exact HL178_1.out) hb)
           have n12_ := Aside0.mk (Kd.V_below (by (with_reducible repeat (first | apply Kd.V_alloc | apply Kd.V_drewN | apply Kd.V_drew)); exact HL178_3.out) hb)
           have n13_ := Aside0.mk (Kd.V_below (by (with_reducible repeat (first | apply Kd.V_alloc | apply Kd.V_drewN | apply Kd.V_drew)); exact HL178_4.out) hb)
           have n14_ := Aside0.mk (Kd.V_below (by (with_reducible repeat (first | apply Kd.V_alloc | apply Kd.V_drewN | apply Kd.V_drew)); exact HL180_2.out) hb)
           have n15_ := Aside0.mk (Kd.V_below (by (with_reducible repeat (first | apply Kd.V_alloc | apply Kd.V_drewN | apply Kd.V_drew)); exact HL180_4.out) hb)
           have n16_ := Aside0.mk (Kd.V_below (by (with_reducible repeat (first | apply Kd.V_alloc | apply Kd.V_drewN | apply Kd.V_drew)); exact HL181_1.out) hb)
           have n17_ := Aside0.mk (Kd.V_below (by (with_reducible repeat (first | apply Kd.V_alloc | apply Kd.V_drewN | apply Kd.V_drew)); exact HL181_3.out) hb)
           have n18_ := Aside0.mk (Kd.V_below (by (with_reducible repeat (first | apply Kd.V_alloc | apply Kd.V_drewN | apply Kd.V_drew)); exact HL181_4.out) hb)
           have n19_ := Aside0.mk (blk_below (g := gb164) (o := .cells #[.int .i64 a1_0, .string a1_1, .slice A1_2 l1_2.length c1_2, .int .i64 a1_3, .slice A1_4 l1_4.length c1_4, .int .i64 a1_5, .int .u8 a1_6] 47 (0, 0)) (by (with_reducible repeat (first | refine blk_drewN ?_ _ | refine blk_drew ?_ | refine blk_alloc ?_ _)); exact BK164.out) hb)
           have n20_ := Aside0.mk (Kd.C_below (by repeat (first | (with_reducible exact HR177_2.out) | (with_reducible refine Kd.C_alloc ?_ _) | (with_reducible refine Kd.C_drewN ?_ _) | (with_reducible refine Kd.C_drew ?_) | exact HR177_2.out)) hb)
           have n21_ := Aside0.mk (Kd.C_below (by repeat (first | (with_reducible exact HR177_4.out) | (with_reducible refine Kd.C_alloc ?_ _) | (with_reducible refine Kd.C_drewN ?_ _) | (with_reducible refine Kd.C_drew ?_) | exact HR177_4.out)) hb)
           have n22_ := Aside0.mk (Kd.C_below (by repeat (first | (with_reducible exact HR178_1.out) | (with_reducible refine Kd.C_alloc ?_ _) | (with_reducible refine Kd.C_drewN ?_ _) | (with_reducible refine Kd.C_drew ?_) | exact HR178_1.out)) hb)
           have n23_ := Aside0.mk (Kd.C_below (by repeat (first | (with_reducible exact HR178_3.out) | (with_reducible refine Kd.C_alloc ?_ _) | (with_reducible refine Kd.C_drewN ?_ _) | (with_reducible refine Kd.C_drew ?_) | exact HR178_3.out)) hb)
           have n24_ := Aside0.mk (Kd.C_below (by repeat (first | (with_reducible exact HR178_4.out) | (with_reducible refine Kd.C_alloc ?_ _) | (with_reducible refine Kd.C_drewN ?_ _) | (with_reducible refine Kd.C_drew ?_) | exact HR178_4.out)) hb)
           have n25_ := Aside0.mk (Kd.C_below (by repeat (first | (with_reducible exact HR180_2.out) | (with_reducible refine Kd.C_alloc ?_ _) | (with_reducible refine Kd.C_drewN ?_ _) | (with_reducible refine Kd.C_drew ?_) | exact HR180_2.out)) hb)
           have n26_ := Aside0.mk (Kd.C_below (by repeat (first | (with_reducible exact HR180_4.out) | (with_reducible refine Kd.C_alloc ?_ _) | (with_reducible refine Kd.C_drewN ?_ _) | (with_reducible refine Kd.C_drew ?_) | exact HR180_4.out)) hb)
           have n27_ := Aside0.mk (Kd.C_below (by repeat (first | (with_reducible exact HR181_1.out) | (with_reducible refine Kd.C_alloc ?_ _) | (with_reducible refine Kd.C_drewN ?_ _) | (with_reducible refine Kd.C_drew ?_) | exact HR181_1.out)) hb)
           have n28_ := Aside0.mk (Kd.C_below (by repeat (first | (with_reducible exact HR181_3.out) | (with_reducible refine Kd.C_alloc ?_ _) | (with_reducible refine Kd.C_drewN ?_ _) | (with_reducible refine Kd.C_drew ?_) | exact HR181_3.out)) hb)
           have n29_ := Aside0.mk (Kd.C_below (by repeat (first | (with_reducible exact HR181_4.out) | (with_reducible refine Kd.C_alloc ?_ _) | (with_reducible refine Kd.C_drewN ?_ _) | (with_reducible refine Kd.C_drew ?_) | exact HR181_4.out)) hb)
           have n30_ := Aside0.mk (below_step (by repeat (first | (with_reducible first | exact HB.out | apply below_alloc | apply pw_below_drewN | apply below_drew1 | refine below_set ?_ GE164.out) | exact HB.out)) hb)
           clear HO_0
           clear HO_5
           clear HO_6
           clear HO_165002
           clear HO_165004
           clear HL173_1
           clear HL173_3
           clear HL173_4
           clear HO176
           clear HL177_2
           clear HL177_4
           clear HL178_1
           clear HL178_3
           clear HL178_4
           clear HL180_2
           clear HL180_4
           clear HL181_1
           clear HL181_3
           clear HL181_4
           clear BK164
           clear HR177_2
           clear HR177_4
           clear HR178_1
           clear HR178_3
           clear HR178_4
           clear HR180_2
           clear HR180_4
           clear HR181_1
           clear HR181_3
           clear HR181_4
           clear HB
           have HO_0 := n0_
           have HO_5 := n1_
           have HO_6 := n2_
           have HO_165002 := n3_
           have HO_165004 := n4_
           have HL173_1 := n5_
           have HL173_3 := n6_
           have HL173_4 := n7_
           have HO176 := n8_
           have HL177_2 := n9_
           have HL177_4 := n10_
           have HL178_1 := n11_
           have HL178_3 := n12_
           have HL178_4 := n13_
           have HL180_2 := n14_
           have HL180_4 := n15_
           have HL181_1 := n16_
           have HL181_3 := n17_
           have HL181_4 := n18_
           have BK164 := n19_
           have HR177_2 := n20_
           have HR177_4 := n21_
           have HR178_1 := n22_
           have HR178_3 := n23_
           have HR178_4 := n24_
           have HR180_2 := n25_
           have HR180_4 := n26_
           have HR181_1 := n27_
           have HR181_3 := n28_
           have HR181_4 := n29_
           have HB := n30_
           clear n0_ n1_ n2_ n3_ n4_ n5_ n6_ n7_ n8_ n9_ n10_ n11_ n12_ n13_ n14_ n15_ n16_ n17_ n18_ n19_ n20_ n21_ n22_ n23_ n24_ n25_ n26_ n27_ n28_ n29_ n30_
           (try clear hb)
           (try clear hb2)
           (try clear hk)
           (try clear hi)
           refine hK.out _ _ ⟨HS0_, HS1_, HS2_, HS3_, HS4_, HS5_, HS6_, HS7_, HS8_, HS9_, HS10_, HS11_, HS12_, HS13_, HS14_, HS15_, HS16_, HS17_, HS18_, HS19_, HS20_, HS21_, HS22_, HS23_, HS24_, HS25_, HS26_, HS27_⟩ (fun hHeld => ?_)
           clear hK K
           refine norm_ (a' := ?_) ?_ ?_
           rotate_left
           ·show Act.put _ (some 44) _ = _
            simp only [Act.put, List.setIfInBounds_toArray, List.set_cons_zero, List.set_cons_succ, i64_w, i32_w]
            rfl
           refine one_ (i := 17) (N := some 53) #[true, true, true, true, true, true, true, true, true, true, true, true, true, true, true, true, true, true, false] rfl rfl (one_of HT_.out (by kernel_rfl)) (by decide) (fun K hK => ?_)
           refine goes_ Tryd.func18 (by kernel_rfl) rfl #[.agg #[.int .i64 ((rd_T47 t167 x8_1).f0), .string ((rd_T47 t167 x8_1).f1), .slice A177_2 ((rd_T47 t167 x8_1).f2).length c177_2, .int .i64 ((rd_T47 t167 x8_1).f3), .slice A177_4 ((rd_T47 t167 x8_1).f4.f0).length c177_4, .int .i64 ((rd_T47 t167 x8_1).f4.f1), .int .u8 ((rd_T47 t167 x8_1).f4.f2)], .agg #[.int .i64 ((rd_T53 y174 x8_1).f0), .slice A181_1 ((rd_T53 y174 x8_1).f1).length c181_1, .int .i64 ((rd_T53 y174 x8_1).f2), .slice A181_3 ((rd_T53 y174 x8_1).f3).length c181_3, .slice A181_4 ((rd_T53 y174 x8_1).f4).length c181_4, .bool ((rd_T53 y174 x8_1).f5), .bool ((rd_T53 y174 x8_1).f6)]] (by rfl) rfl rfl (by (try simp only [List.map_toArray, List.map_cons, List.map_nil]); first | done | rfl | (simp only [List.length_drop, List.length_take]; rfl)) ?_
           with_reducible refine (bindleref33_Line.calls k1 ((rd_T47 t167 x8_1).f0) ((rd_T47 t167 x8_1).f1) _ _ ((rd_T47 t167 x8_1).f2) ((rd_T47 t167 x8_1).f3) _ _ ((rd_T47 t167 x8_1).f4.f0) ((rd_T47 t167 x8_1).f4.f1) ((rd_T47 t167 x8_1).f4.f2) ((rd_T53 y174 x8_1).f0) _ _ ((rd_T53 y174 x8_1).f1) ((rd_T53 y174 x8_1).f2) _ _ ((rd_T53 y174 x8_1).f3) _ _ ((rd_T53 y174 x8_1).f4) ((rd_T53 y174 x8_1).f5) ((rd_T53 y174 x8_1).f6) t182 _ ?side1 ?side2 ?side3 ?side4 ?side5 ?side6 ?side7 ?side8 ?side9 ?side10 A18.out).mono ?_
           (case side1 => repeat (first | exact (by repeat (first | (with_reducible exact HR180_2.out) | (with_reducible refine Kd.C_alloc ?_ _) | (with_reducible refine Kd.C_drewN ?_ _) | (with_reducible refine Kd.C_drew ?_) | exact HR180_2.out)) | (with_reducible refine Kd.C_alloc ?_ _) | (with_reducible refine Kd.C_drewN ?_ _) | (with_reducible refine Kd.C_drew ?_)))
           (case side2 => exact HC180_2.out)
           (case side3 => repeat (first | exact (by repeat (first | (with_reducible exact HR180_4.out) | (with_reducible refine Kd.C_alloc ?_ _) | (with_reducible refine Kd.C_drewN ?_ _) | (with_reducible refine Kd.C_drew ?_) | exact HR180_4.out)) | (with_reducible refine Kd.C_alloc ?_ _) | (with_reducible refine Kd.C_drewN ?_ _) | (with_reducible refine Kd.C_drew ?_)))
           (case side4 => exact HC180_4.out)
           (case side5 => repeat (first | exact (by repeat (first | (with_reducible exact HR181_1.out) | (with_reducible refine Kd.C_alloc ?_ _) | (with_reducible refine Kd.C_drewN ?_ _) | (with_reducible refine Kd.C_drew ?_) | exact HR181_1.out)) | (with_reducible refine Kd.C_alloc ?_ _) | (with_reducible refine Kd.C_drewN ?_ _) | (with_reducible refine Kd.C_drew ?_)))
           (case side6 => exact HC181_1.out)
           (case side7 => repeat (first | exact (by repeat (first | (with_reducible exact HR181_3.out) | (with_reducible refine Kd.C_alloc ?_ _) | (with_reducible refine Kd.C_drewN ?_ _) | (with_reducible refine Kd.C_drew ?_) | exact HR181_3.out)) | (with_reducible refine Kd.C_alloc ?_ _) | (with_reducible refine Kd.C_drewN ?_ _) | (with_reducible refine Kd.C_drew ?_)))
           (case side8 => exact HC181_3.out)
           (case side9 => repeat (first | exact (by repeat (first | (with_reducible exact HR181_4.out) | (with_reducible refine Kd.C_alloc ?_ _) | (with_reducible refine Kd.C_drewN ?_ _) | (with_reducible refine Kd.C_drew ?_) | exact HR181_4.out)) | (with_reducible refine Kd.C_alloc ?_ _) | (with_reducible refine Kd.C_drewN ?_ _) | (with_reducible refine Kd.C_drew ?_)))
           (case side10 => exact HC181_4.out)
           rintro e w26 ⟨rfl, hb⟩
           have HS0_ := (hb.cell (World.block_lt_of_cell? _ _ (hHeld.1))).trans (hHeld.1)
           have HS1_ := (hb.cell (World.block_lt_of_cell? _ _ (hHeld.2.1))).trans (hHeld.2.1)
           have HS2_ := (hb.cell (World.block_lt_of_cell? _ _ (hHeld.2.2.1))).trans (hHeld.2.2.1)
           have HS3_ := (hb.cell (World.block_lt_of_cell? _ _ (hHeld.2.2.2.1))).trans (hHeld.2.2.2.1)
           have HS4_ := (hb.cell (World.block_lt_of_cell? _ _ (hHeld.2.2.2.2.1))).trans (hHeld.2.2.2.2.1)
           have HS5_ := (hb.cell (World.block_lt_of_cell? _ _ (hHeld.2.2.2.2.2.1))).trans (hHeld.2.2.2.2.2.1)
           have HS6_ := (hb.cell (World.block_lt_of_cell? _ _ (hHeld.2.2.2.2.2.2.1))).trans (hHeld.2.2.2.2.2.2.1)
           have HS7_ := (hb.cell (World.block_lt_of_cell? _ _ (hHeld.2.2.2.2.2.2.2.1))).trans (hHeld.2.2.2.2.2.2.2.1)
           have HS8_ := (hb.cell (World.block_lt_of_cell? _ _ (hHeld.2.2.2.2.2.2.2.2.1))).trans (hHeld.2.2.2.2.2.2.2.2.1)
           have HS9_ := (hb.cell (World.block_lt_of_cell? _ _ (hHeld.2.2.2.2.2.2.2.2.2.1))).trans (hHeld.2.2.2.2.2.2.2.2.2.1)
           have HS10_ := (hb.cell (World.block_lt_of_cell? _ _ (hHeld.2.2.2.2.2.2.2.2.2.2.1))).trans (hHeld.2.2.2.2.2.2.2.2.2.2.1)
           have HS11_ := (hb.cell (World.block_lt_of_cell? _ _ (hHeld.2.2.2.2.2.2.2.2.2.2.2.1))).trans (hHeld.2.2.2.2.2.2.2.2.2.2.2.1)
           have HS12_ := (hb.cell (World.block_lt_of_cell? _ _ (hHeld.2.2.2.2.2.2.2.2.2.2.2.2.1))).trans (hHeld.2.2.2.2.2.2.2.2.2.2.2.2.1)
           have HS13_ := (hb.cell (World.block_lt_of_cell? _ _ (hHeld.2.2.2.2.2.2.2.2.2.2.2.2.2.1))).trans (hHeld.2.2.2.2.2.2.2.2.2.2.2.2.2.1)
           have HS14_ := (hb.cell (World.block_lt_of_cell? _ _ (hHeld.2.2.2.2.2.2.2.2.2.2.2.2.2.2.1))).trans (hHeld.2.2.2.2.2.2.2.2.2.2.2.2.2.2.1)
           have HS15_ := (hb.cell (World.block_lt_of_cell? _ _ (hHeld.2.2.2.2.2.2.2.2.2.2.2.2.2.2.2.1))).trans (hHeld.2.2.2.2.2.2.2.2.2.2.2.2.2.2.2.1)
           have HS16_ := (hb.cell (World.block_lt_of_cell? _ _ (hHeld.2.2.2.2.2.2.2.2.2.2.2.2.2.2.2.2.1))).trans (hHeld.2.2.2.2.2.2.2.2.2.2.2.2.2.2.2.2.1)
           have HS17_ := (hb.cell (World.block_lt_of_cell? _ _ (hHeld.2.2.2.2.2.2.2.2.2.2.2.2.2.2.2.2.2.1))).trans (hHeld.2.2.2.2.2.2.2.2.2.2.2.2.2.2.2.2.2.1)
           have HS18_ := (hb.cell (World.block_lt_of_cell? _ _ (hHeld.2.2.2.2.2.2.2.2.2.2.2.2.2.2.2.2.2.2.1))).trans (hHeld.2.2.2.2.2.2.2.2.2.2.2.2.2.2.2.2.2.2.1)
           have HS19_ := (hb.cell (World.block_lt_of_cell? _ _ (hHeld.2.2.2.2.2.2.2.2.2.2.2.2.2.2.2.2.2.2.2.1))).trans (hHeld.2.2.2.2.2.2.2.2.2.2.2.2.2.2.2.2.2.2.2.1)
           have HS20_ := (hb.cell (World.block_lt_of_cell? _ _ (hHeld.2.2.2.2.2.2.2.2.2.2.2.2.2.2.2.2.2.2.2.2.1))).trans (hHeld.2.2.2.2.2.2.2.2.2.2.2.2.2.2.2.2.2.2.2.2.1)
           have HS21_ := (hb.cell (World.block_lt_of_cell? _ _ (hHeld.2.2.2.2.2.2.2.2.2.2.2.2.2.2.2.2.2.2.2.2.2.1))).trans (hHeld.2.2.2.2.2.2.2.2.2.2.2.2.2.2.2.2.2.2.2.2.2.1)
           have HS22_ := (hb.cell (World.block_lt_of_cell? _ _ (hHeld.2.2.2.2.2.2.2.2.2.2.2.2.2.2.2.2.2.2.2.2.2.2.1))).trans (hHeld.2.2.2.2.2.2.2.2.2.2.2.2.2.2.2.2.2.2.2.2.2.2.1)
           have HS23_ := (hb.cell (World.block_lt_of_cell? _ _ (hHeld.2.2.2.2.2.2.2.2.2.2.2.2.2.2.2.2.2.2.2.2.2.2.2.1))).trans (hHeld.2.2.2.2.2.2.2.2.2.2.2.2.2.2.2.2.2.2.2.2.2.2.2.1)
           have HS24_ := (hb.cell (World.block_lt_of_cell? _ _ (hHeld.2.2.2.2.2.2.2.2.2.2.2.2.2.2.2.2.2.2.2.2.2.2.2.2.1))).trans (hHeld.2.2.2.2.2.2.2.2.2.2.2.2.2.2.2.2.2.2.2.2.2.2.2.2.1)
           have HS25_ := (hb.cell (World.block_lt_of_cell? _ _ (hHeld.2.2.2.2.2.2.2.2.2.2.2.2.2.2.2.2.2.2.2.2.2.2.2.2.2.1))).trans (hHeld.2.2.2.2.2.2.2.2.2.2.2.2.2.2.2.2.2.2.2.2.2.2.2.2.2.1)
           have HS26_ := (hb.cell (World.block_lt_of_cell? _ _ (hHeld.2.2.2.2.2.2.2.2.2.2.2.2.2.2.2.2.2.2.2.2.2.2.2.2.2.2.1))).trans (hHeld.2.2.2.2.2.2.2.2.2.2.2.2.2.2.2.2.2.2.2.2.2.2.2.2.2.2.1)
           have HS27_ := (hb.cell (World.block_lt_of_cell? _ _ (hHeld.2.2.2.2.2.2.2.2.2.2.2.2.2.2.2.2.2.2.2.2.2.2.2.2.2.2.2))).trans (hHeld.2.2.2.2.2.2.2.2.2.2.2.2.2.2.2.2.2.2.2.2.2.2.2.2.2.2.2)
           refine ⟨_, rfl, ?_⟩
           have n0_ := Aside0.mk (Kd.V_below (by (with_reducible repeat (first | apply Kd.V_alloc | apply Kd.V_drewN | apply Kd.V_drew)); exact HO_0.out) hb)
           have n1_ := Aside0.mk (Kd.N_below (by (with_reducible repeat (first | apply Kd.N_alloc | apply Kd.N_drewN | apply Kd.N_drew)); exact HO_5.out) hb)
           have n2_ := Aside0.mk (Kd.N_below (by (with_reducible repeat (first | apply Kd.N_alloc | apply Kd.N_drewN | apply Kd.N_drew)); exact HO_6.out) hb)
           have n3_ := Aside0.mk (Kd.V_below (by (with_reducible repeat (first | apply Kd.V_alloc | apply Kd.V_drewN | apply Kd.V_drew)); exact HO_165002.out) hb)
           have n4_ := Aside0.mk (Kd.V_below (by (with_reducible repeat (first | apply Kd.V_alloc | apply Kd.V_drewN | apply Kd.V_drew)); exact HO_165004.out) hb)
           have n5_ := Aside0.mk (Kd.V_below (by (with_reducible repeat (first | apply Kd.V_alloc | apply Kd.V_drewN | apply Kd.V_drew)); exact HL173_1.out) hb)
           have n6_ := Aside0.mk (Kd.V_below (by (with_reducible repeat (first | apply Kd.V_alloc | apply Kd.V_drewN | apply Kd.V_drew)); exact HL173_3.out) hb)
           have n7_ := Aside0.mk (Kd.V_below (by (with_reducible repeat (first | apply Kd.V_alloc | apply Kd.V_drewN | apply Kd.V_drew)); exact HL173_4.out) hb)
           have n8_ := Aside0.mk (Kd.N_below (by (with_reducible repeat (first | apply Kd.N_alloc | apply Kd.N_drewN | apply Kd.N_drew)); exact HO176.out) hb)
           have n9_ := Aside0.mk (Kd.V_below (by (with_reducible repeat (first | apply Kd.V_alloc | apply Kd.V_drewN | apply Kd.V_drew)); exact HL177_2.out) hb)
           have n10_ := Aside0.mk (Kd.V_below (by (with_reducible repeat (first | apply Kd.V_alloc | apply Kd.V_drewN | apply Kd.V_drew)); exact HL177_4.out) hb)
           have n11_ := Aside0.mk (Kd.V_below (by (with_reducible repeat (first | apply Kd.V_alloc | apply Kd.V_drewN | apply Kd.V_drew)); exact HL178_1.out) hb)
           have n12_ := Aside0.mk (Kd.V_below (by (with_reducible repeat (first | apply Kd.V_alloc | apply Kd.V_drewN | apply Kd.V_drew)); exact HL178_3.out) hb)
           have n13_ := Aside0.mk (Kd.V_below (by (with_reducible repeat (first | apply Kd.V_alloc | apply Kd.V_drewN | apply Kd.V_drew)); exact HL178_4.out) hb)
           have n14_ := Aside0.mk (Kd.V_below (by (with_reducible repeat (first | apply Kd.V_alloc | apply Kd.V_drewN | apply Kd.V_drew)); exact HL180_2.out) hb)
           have n15_ := Aside0.mk (Kd.V_below (by (with_reducible repeat (first | apply Kd.V_alloc | apply Kd.V_drewN | apply Kd.V_drew)); exact HL180_4.out) hb)
           have n16_ := Aside0.mk (Kd.V_below (by (with_reducible repeat (first | apply Kd.V_alloc | apply Kd.V_drewN | apply Kd.V_drew)); exact HL181_1.out) hb)
           have n17_ := Aside0.mk (Kd.V_below (by (with_reducible repeat (first | apply Kd.V_alloc | apply Kd.V_drewN | apply Kd.V_drew)); exact HL181_3.out) hb)
           have n18_ := Aside0.mk (Kd.V_below (by (with_reducible repeat (first | apply Kd.V_alloc | apply Kd.V_drewN | apply Kd.V_drew)); exact HL181_4.out) hb)
           have n19_ := Aside0.mk (blk_below (g := gb164) (o := .cells #[.int .i64 a1_0, .string a1_1, .slice A1_2 l1_2.length c1_2, .int .i64 a1_3, .slice A1_4 l1_4.length c1_4, .int .i64 a1_5, .int .u8 a1_6] 47 (0, 0)) (by (with_reducible repeat (first | refine blk_drewN ?_ _ | refine blk_drew ?_ | refine blk_alloc ?_ _)); exact BK164.out) hb)
           have n20_ := Aside0.mk (Kd.C_below (by repeat (first | (with_reducible exact HR177_2.out) | (with_reducible refine Kd.C_alloc ?_ _) | (with_reducible refine Kd.C_drewN ?_ _) | (with_reducible refine Kd.C_drew ?_) | exact HR177_2.out)) hb)
           have n21_ := Aside0.mk (Kd.C_below (by repeat (first | (with_reducible exact HR177_4.out) | (with_reducible refine Kd.C_alloc ?_ _) | (with_reducible refine Kd.C_drewN ?_ _) | (with_reducible refine Kd.C_drew ?_) | exact HR177_4.out)) hb)
           have n22_ := Aside0.mk (Kd.C_below (by repeat (first | (with_reducible exact HR178_1.out) | (with_reducible refine Kd.C_alloc ?_ _) | (with_reducible refine Kd.C_drewN ?_ _) | (with_reducible refine Kd.C_drew ?_) | exact HR178_1.out)) hb)
           have n23_ := Aside0.mk (Kd.C_below (by repeat (first | (with_reducible exact HR178_3.out) | (with_reducible refine Kd.C_alloc ?_ _) | (with_reducible refine Kd.C_drewN ?_ _) | (with_reducible refine Kd.C_drew ?_) | exact HR178_3.out)) hb)
           have n24_ := Aside0.mk (Kd.C_below (by repeat (first | (with_reducible exact HR178_4.out) | (with_reducible refine Kd.C_alloc ?_ _) | (with_reducible refine Kd.C_drewN ?_ _) | (with_reducible refine Kd.C_drew ?_) | exact HR178_4.out)) hb)
           have n25_ := Aside0.mk (Kd.C_below (by repeat (first | (with_reducible exact HR180_2.out) | (with_reducible refine Kd.C_alloc ?_ _) | (with_reducible refine Kd.C_drewN ?_ _) | (with_reducible refine Kd.C_drew ?_) | exact HR180_2.out)) hb)
           have n26_ := Aside0.mk (Kd.C_below (by repeat (first | (with_reducible exact HR180_4.out) | (with_reducible refine Kd.C_alloc ?_ _) | (with_reducible refine Kd.C_drewN ?_ _) | (with_reducible refine Kd.C_drew ?_) | exact HR180_4.out)) hb)
           have n27_ := Aside0.mk (Kd.C_below (by repeat (first | (with_reducible exact HR181_1.out) | (with_reducible refine Kd.C_alloc ?_ _) | (with_reducible refine Kd.C_drewN ?_ _) | (with_reducible refine Kd.C_drew ?_) | exact HR181_1.out)) hb)
           have n28_ := Aside0.mk (Kd.C_below (by repeat (first | (with_reducible exact HR181_3.out) | (with_reducible refine Kd.C_alloc ?_ _) | (with_reducible refine Kd.C_drewN ?_ _) | (with_reducible refine Kd.C_drew ?_) | exact HR181_3.out)) hb)
           have n29_ := Aside0.mk (Kd.C_below (by repeat (first | (with_reducible exact HR181_4.out) | (with_reducible refine Kd.C_alloc ?_ _) | (with_reducible refine Kd.C_drewN ?_ _) | (with_reducible refine Kd.C_drew ?_) | exact HR181_4.out)) hb)
           have n30_ := Aside0.mk (below_step (by repeat (first | (with_reducible first | exact HB.out | apply below_alloc | apply pw_below_drewN | apply below_drew1 | refine below_set ?_ GE164.out) | exact HB.out)) hb)
           clear HO_0
           clear HO_5
           clear HO_6
           clear HO_165002
           clear HO_165004
           clear HL173_1
           clear HL173_3
           clear HL173_4
           clear HO176
           clear HL177_2
           clear HL177_4
           clear HL178_1
           clear HL178_3
           clear HL178_4
           clear HL180_2
           clear HL180_4
           clear HL181_1
           clear HL181_3
           clear HL181_4
           clear BK164
           clear HR177_2
           clear HR177_4
           clear HR178_1
           clear HR178_3
           clear HR178_4
           clear HR180_2
           clear HR180_4
           clear HR181_1
           clear HR181_3
           clear HR181_4
           clear HB
           have HO_0 := n0_
           have HO_5 := n1_
           have HO_6 := n2_
           have HO_165002 := n3_
           have HO_165004 := n4_
           have HL173_1 := n5_
           have HL173_3 := n6_
           have HL173_4 := n7_
           have HO176 := n8_
           have HL177_2 := n9_
           have HL177_4 := n10_
           have HL178_1 := n11_
           have HL178_3 := n12_
           have HL178_4 := n13_
           have HL180_2 := n14_
           have HL180_4 := n15_
           have HL181_1 := n16_
           have HL181_3 := n17_
           have HL181_4 := n18_
           have BK164 := n19_
           have HR177_2 := n20_
           have HR177_4 := n21_
           have HR178_1 := n22_
           have HR178_3 := n23_
           have HR178_4 := n24_
           have HR180_2 := n25_
           have HR180_4 := n26_
           have HR181_1 := n27_
           have HR181_3 := n28_
           have HR181_4 := n29_
           have HB := n30_
           clear n0_ n1_ n2_ n3_ n4_ n5_ n6_ n7_ n8_ n9_ n10_ n11_ n12_ n13_ n14_ n15_ n16_ n17_ n18_ n19_ n20_ n21_ n22_ n23_ n24_ n25_ n26_ n27_ n28_ n29_ n30_
           (try clear hb)
           (try clear hb2)
           (try clear hk)
           (try clear hi)
           refine hK.out _ _ ⟨HS0_, HS1_, HS2_, HS3_, HS4_, HS5_, HS6_, HS7_, HS8_, HS9_, HS10_, HS11_, HS12_, HS13_, HS14_, HS15_, HS16_, HS17_, HS18_, HS19_, HS20_, HS21_, HS22_, HS23_, HS24_, HS25_, HS26_, HS27_⟩ (fun hHeld => ?_)
           clear hK K
           refine norm_ (a' := ?_) ?_ ?_
           rotate_left
           ·show Act.put _ (some 53) _ = _
            simp only [Act.put, List.setIfInBounds_toArray, List.set_cons_zero, List.set_cons_succ, i64_w, i32_w]
            rfl
           refine pure_ (i := 18) (N := some 54) (v := ?_) (a' := ?_) #[true, true, true, true, true, true, true, true, true, true, true, true, true, true, true, true, true, true, true] rfl rfl (any_of HT_.out (by kernel_rfl)) (fun _ _ _ h => h) (Or.inl ⟨by rfl, ?_⟩) ?_ ?_
           rotate_left
           ·intro w'
            go_simp
            with_reducible rfl
           rotate_left
           ·simp only [Act.put, List.setIfInBounds_toArray, List.set_cons_zero, List.set_cons_succ, i64_w, i32_w]
            rfl
           refine done_ (done_of HT_.out (by kernel_rfl)) ?_
           try go_wp2
           go_roundg k1
           case measure => have := HK1.out; omega
           case rel => exact ⟨(y174), (wrap64 (x8_1 + 1)), (by first | rfl | (simp only [YtodifojhegbjaaaDoorMpHelp.leq_not, YtodifojhegbjaaaDoorMpHelp.gtr_less]; done) | (simp; done) | (simp [*]; done)), H', ⟨by have := HK1.out; omega⟩, ⟨by (with_reducible repeat (first | apply Kd.V_alloc | apply Kd.V_drewN | apply Kd.V_drew)); exact Kd.V_mono HO_0.out (fun _ hk => ⟨hk.1.1, ⟨hk.1.2.1, ⟨hk.1.2.2.1, ⟨hk.2, hk.1.2.2.2⟩⟩⟩⟩)⟩, ⟨by (with_reducible repeat (first | apply Kd.N_alloc | apply Kd.N_drewN | apply Kd.N_drew)); exact Kd.N_mono HO_5.out (fun _ hk => ⟨hk.1.1, ⟨hk.1.2.1, ⟨hk.2, hk.1.2.2⟩⟩⟩)⟩, ⟨by (with_reducible repeat (first | apply Kd.N_alloc | apply Kd.N_drewN | apply Kd.N_drew)); exact Kd.N_mono HO_6.out (fun _ hk => ⟨hk.1.1, ⟨hk.1.2.1, ⟨hk.2, hk.1.2.2⟩⟩⟩)⟩, ⟨by (with_reducible repeat (first | apply Kd.N_alloc | apply Kd.N_drewN | apply Kd.N_drew)); exact HO176.out⟩, ⟨by (with_reducible repeat (first | apply Kd.V_alloc | apply Kd.V_drewN | apply Kd.V_drew)); exact Kd.V_mono HO_165002.out (fun _ hk => ⟨hk.1.1, ⟨hk.1.2.1, ⟨hk.1.2.2.1, ⟨hk.2, hk.1.2.2.2⟩⟩⟩⟩)⟩, ⟨by (with_reducible repeat (first | apply Kd.V_alloc | apply Kd.V_drewN | apply Kd.V_drew)); exact Kd.V_mono HO_165004.out (fun _ hk => ⟨hk.1.1, ⟨hk.1.2.1, ⟨hk.1.2.2.1, ⟨hk.2, hk.1.2.2.2⟩⟩⟩⟩)⟩, ⟨by (with_reducible repeat (first | refine blk_drewN ?_ _ | refine blk_drew ?_ | refine blk_alloc ?_ _)); exact BK164.out⟩, ⟨by repeat (first | (with_reducible first | exact HB.out | apply below_alloc | apply pw_below_drewN | apply below_drew1 | refine below_set ?_ GE164.out) | exact HB.out)⟩⟩
          ·rw [if_neg c19] at H
           exact absurd H (by simp)
         ·rw [if_neg c17] at H
          exact absurd H (by simp)
        ·rw [if_neg c15] at H
         exact absurd H (by simp)
       ·rw [if_neg c14] at H
        exact absurd H (by simp)
      ·rw [if_neg c13] at H
       exact absurd H (by simp)
     ·rw [if_neg c12] at H
      exact absurd H (by simp)
    ·rw [if_neg c11] at H
     have c11b0 : decide (x8_1 < (l0.length : Int)) = false := decide_eq_false c11
     clear c11
     replace H := Option.bind_eq_some_iff.mp H
     obtain ⟨⟨t183, t184⟩, A270, H⟩ := H
     replace H : (if t167.length < 1466015503701 then ((report_Text.f k1 (t167 ++ [(⟨a1_0, a1_1, l1_2, a1_3, (⟨l1_4, a1_5, a1_6⟩ : S45)⟩ : S47)]) t170).bind fun bt188 => ((report_Sum.f (t167 ++ [(⟨a1_0, a1_1, l1_2, a1_3, (⟨l1_4, a1_5, a1_6⟩ : S45)⟩ : S47)]) t170).bind fun bt193 => ((bindleref33_Text.f k1 t167 x7_1).bind fun t235 => (if t183.toList = t235.toList then (if t184 = 0 then (if bt188.1.toList = ([] : List UInt8) then (if bt188.2 = 1 then (if bt193.2.2.2.2.2.2.2.2.2.2.2.2.2.2.2.2.2.2.2.2.2.2.2.2.2.2.2.2.2.2.2.2.2.2.2.2.2.2.2.2 = 1 then ((bindlelaw33_lives.f k1).bind fun t236 => (some t236)) else (none)) else (none)) else (none)) else (none)) else (none))))) else (none)) = some r := H
     have A27 := Aside0.mk A270
     clear A270
     by_cases c28 : t167.length < 1466015503701
     ·rw [if_pos c28] at H
      have LMc28 := Aside0.mk c28
      clear c28
      obtain ⟨y185, hy185⟩ : ∃ y_ : List (S47), y_ = (t167 ++ [(⟨a1_0, a1_1, l1_2, a1_3, (⟨l1_4, a1_5, a1_6⟩ : S45)⟩ : S47)]) := ⟨_, rfl⟩
      replace H : ((report_Text.f k1 y185 t170).bind fun bt188 => ((report_Sum.f (t167 ++ [(⟨a1_0, a1_1, l1_2, a1_3, (⟨l1_4, a1_5, a1_6⟩ : S45)⟩ : S47)]) t170).bind fun bt193 => ((bindleref33_Text.f k1 t167 x7_1).bind fun t235 => (if t183.toList = t235.toList then (if t184 = 0 then (if bt188.1.toList = ([] : List UInt8) then (if bt188.2 = 1 then (if bt193.2.2.2.2.2.2.2.2.2.2.2.2.2.2.2.2.2.2.2.2.2.2.2.2.2.2.2.2.2.2.2.2.2.2.2.2.2.2.2.2 = 1 then ((bindlelaw33_lives.f k1).bind fun t236 => (some t236)) else (none)) else (none)) else (none)) else (none)) else (none))))) = some r := by first | (rw [hy185]; with_reducible exact H) | (have H2_ := (Option.bind_some _ _).symm.trans H; rw [hy185]; with_reducible exact H2_) | (have H2_ := (Option.bind_some _ _).symm.trans H; with_reducible exact H2_) | with_reducible exact H | (rw [hy185]; exact H) | exact H
      have Ny185 := Aside0.mk hy185
      clear hy185
      replace H := Option.bind_eq_some_iff.mp H
      obtain ⟨⟨t188, t189⟩, A290, H⟩ := H
      replace H : ((report_Sum.f (t167 ++ [(⟨a1_0, a1_1, l1_2, a1_3, (⟨l1_4, a1_5, a1_6⟩ : S45)⟩ : S47)]) t170).bind fun bt193 => ((bindleref33_Text.f k1 t167 x7_1).bind fun t235 => (if t183.toList = t235.toList then (if t184 = 0 then (if t188.toList = ([] : List UInt8) then (if t189 = 1 then (if bt193.2.2.2.2.2.2.2.2.2.2.2.2.2.2.2.2.2.2.2.2.2.2.2.2.2.2.2.2.2.2.2.2.2.2.2.2.2.2.2.2 = 1 then ((bindlelaw33_lives.f k1).bind fun t236 => (some t236)) else (none)) else (none)) else (none)) else (none)) else (none)))) = some r := H
      have A29 := Aside0.mk A290
      clear A290
      obtain ⟨y190, hy190⟩ : ∃ y_ : List (S47), y_ = (t167 ++ [(⟨a1_0, a1_1, l1_2, a1_3, (⟨l1_4, a1_5, a1_6⟩ : S45)⟩ : S47)]) := ⟨_, rfl⟩
      replace H : ((report_Sum.f y190 t170).bind fun bt193 => ((bindleref33_Text.f k1 t167 x7_1).bind fun t235 => (if t183.toList = t235.toList then (if t184 = 0 then (if t188.toList = ([] : List UInt8) then (if t189 = 1 then (if bt193.2.2.2.2.2.2.2.2.2.2.2.2.2.2.2.2.2.2.2.2.2.2.2.2.2.2.2.2.2.2.2.2.2.2.2.2.2.2.2.2 = 1 then ((bindlelaw33_lives.f k1).bind fun t236 => (some t236)) else (none)) else (none)) else (none)) else (none)) else (none)))) = some r := by first | (rw [hy190]; with_reducible exact H) | (have H2_ := (Option.bind_some _ _).symm.trans H; rw [hy190]; with_reducible exact H2_) | (have H2_ := (Option.bind_some _ _).symm.trans H; with_reducible exact H2_) | with_reducible exact H | (rw [hy190]; exact H) | exact H
      have Ny190 := Aside0.mk hy190
      clear hy190
      replace H := Option.bind_eq_some_iff.mp H
      obtain ⟨⟨t193, t194, t195, t196, t197, t198, t199, t200, t201, t202, t203, t204, t205, t206, t207, t208, t209, t210, t211, t212, t213, t214, t215, t216, t217, t218, t219, t220, t221, t222, t223, t224, t225, t226, t227, t228, t229, t230, t231, t232, t233⟩, A300, H⟩ := H
      replace H : ((bindleref33_Text.f k1 t167 x7_1).bind fun t235 => (if t183.toList = t235.toList then (if t184 = 0 then (if t188.toList = ([] : List UInt8) then (if t189 = 1 then (if t233 = 1 then ((bindlelaw33_lives.f k1).bind fun t236 => (some t236)) else (none)) else (none)) else (none)) else (none)) else (none))) = some r := H
      have A30 := Aside0.mk A300
      clear A300
      replace H := Option.bind_eq_some_iff.mp H
      obtain ⟨t235, A310, H⟩ := H
      replace H : (if t183.toList = t235.toList then (if t184 = 0 then (if t188.toList = ([] : List UInt8) then (if t189 = 1 then (if t233 = 1 then ((bindlelaw33_lives.f k1).bind fun t236 => (some t236)) else (none)) else (none)) else (none)) else (none)) else (none)) = some r := H
      have A31 := Aside0.mk A310
      clear A310
      by_cases c32 : t183.toList = t235.toList
      ·rw [if_pos c32] at H
       have c32b0 : (t183.toList == t235.toList) = true := beq_iff_eq.mpr c32
       have c32b1 : (t183.toList != t235.toList) = false := bne_eq_false_iff_eq.mpr c32
       clear c32
       by_cases c33 : t184 = 0
       ·rw [if_pos c33] at H
        have c33b0 : (t184 == 0) = true := beq_iff_eq.mpr c33
        have c33b1 : (t184 != 0) = false := bne_eq_false_iff_eq.mpr c33
        clear c33
        by_cases c34 : t188.toList = ([] : List UInt8)
        ·rw [if_pos c34] at H
         have c34b0 : (t188.toList == ([] : List UInt8)) = true := beq_iff_eq.mpr c34
         have c34b1 : (t188.toList != ([] : List UInt8)) = false := bne_eq_false_iff_eq.mpr c34
         clear c34
         by_cases c35 : t189 = 1
         ·rw [if_pos c35] at H
          have c35b0 : (t189 == 1) = true := beq_iff_eq.mpr c35
          have c35b1 : (t189 != 1) = false := bne_eq_false_iff_eq.mpr c35
          clear c35
          by_cases c36 : t233 = 1
          ·rw [if_pos c36] at H
           have c36b0 : (t233 == 1) = true := beq_iff_eq.mpr c36
           have c36b1 : (t233 != 1) = false := bne_eq_false_iff_eq.mpr c36
           clear c36
           replace H := Option.bind_eq_some_iff.mp H
           obtain ⟨t236, A370, H⟩ := H
           replace H : (some t236) = some r := H
           have A37 := Aside0.mk A370
           clear A370
           obtain rfl := Option.some.inj H
           obtain ⟨Ao38, co38, eo38⟩ := Kd.N_slice HO_5.out
           subst eo38
           obtain ⟨Ao39, co39, eo39⟩ := Kd.N_slice HO_6.out
           subst eo39
           have hzz_ := report_Sum.zz
           have hZs_ : (report_Sum.cs report_Sum.zero).size = 40 := rfl
           generalize report_Sum.cs report_Sum.zero = Z_ at hzz_ hZs_
           have HZS_ := Aside0.mk hZs_
           clear hZs_
           have HSI_ := Aside0.mk (show (Tryd.prog.info? 39).map (·.size) = some 40 by kernel_rfl)
           go_wp2_with (first | ((with_reducible refine gate_callee (f := 19) rfl ?_); refine goesL_ (some 58) rfl rfl Tryd.func19 (by kernel_rfl) rfl #[.slice Ao38 t167.length co38, .slice Ao39 t170.length co39] rfl (by (try simp only [List.map_toArray, List.map_cons, List.map_nil]); first | done | rfl | (simp only [List.length_drop, List.length_take]; rfl)) ?_; (with_reducible refine (report_Text.calls k1 _ _ t167 _ _ t170 t183 t184 _ ?side1 ?side2 ?side3 ?side4 ?side5 A27.out).mono ?_); (case side1 => repeat (first | exact (Kd.N_reads' HO_5.out).2.2 | (with_reducible refine Kd.C_alloc ?_ _) | (with_reducible refine Kd.C_drewN ?_ _) | (with_reducible refine Kd.C_drew ?_))); (case side2 => exact (Kd.N_reads' HO_5.out).2.1); (case side3 => repeat (first | exact (Kd.N_reads' HO_6.out).2.2 | (with_reducible refine Kd.C_alloc ?_ _) | (with_reducible refine Kd.C_drewN ?_ _) | (with_reducible refine Kd.C_drew ?_))); (case side4 => exact (Kd.N_reads' HO_6.out).2.1); (case side5 => exact YtodifojhegbjaaaDoorTab.tab_below HT.out (by repeat (first | (with_reducible first | exact HB.out | apply below_alloc | apply pw_below_drewN | apply below_drew1 | refine below_set ?_ GE164.out) | exact HB.out))); rintro e w40 ⟨rfl, hb⟩; refine ⟨_, rfl, ?_⟩; have n0_ := Aside0.mk (Kd.V_below (by (with_reducible repeat (first | apply Kd.V_alloc | apply Kd.V_drewN | apply Kd.V_drew)); exact HO_0.out) hb); have n1_ := Aside0.mk (Kd.N_below (by (with_reducible repeat (first | apply Kd.N_alloc | apply Kd.N_drewN | apply Kd.N_drew)); exact HO_5.out) hb); have n2_ := Aside0.mk (Kd.N_below (by (with_reducible repeat (first | apply Kd.N_alloc | apply Kd.N_drewN | apply Kd.N_drew)); exact HO_6.out) hb); have n3_ := Aside0.mk (Kd.N_below (by (with_reducible repeat (first | apply Kd.N_alloc | apply Kd.N_drewN | apply Kd.N_drew)); exact HO_7.out) hb); have n4_ := Aside0.mk (Kd.V_below (by (with_reducible repeat (first | apply Kd.V_alloc | apply Kd.V_drewN | apply Kd.V_drew)); exact HO_165002.out) hb); have n5_ := Aside0.mk (Kd.V_below (by (with_reducible repeat (first | apply Kd.V_alloc | apply Kd.V_drewN | apply Kd.V_drew)); exact HO_165004.out) hb); have n6_ := Aside0.mk (blk_below (g := gb164) (o := .cells #[.int .i64 a1_0, .string a1_1, .slice A1_2 l1_2.length c1_2, .int .i64 a1_3, .slice A1_4 l1_4.length c1_4, .int .i64 a1_5, .int .u8 a1_6] 47 (0, 0)) (by (with_reducible repeat (first | refine blk_drewN ?_ _ | refine blk_drew ?_ | refine blk_alloc ?_ _)); exact BK164.out) hb); have n7_ := Aside0.mk (below_step (by repeat (first | (with_reducible first | exact HB.out | apply below_alloc | apply pw_below_drewN | apply below_drew1 | refine below_set ?_ GE164.out) | exact HB.out)) hb); clear HO_0; clear HO_5; clear HO_6; clear HO_7; clear HO_165002; clear HO_165004; clear BK164; clear HB; have HO_0 := n0_; have HO_5 := n1_; have HO_6 := n2_; have HO_7 := n3_; have HO_165002 := n4_; have HO_165004 := n5_; have BK164 := n6_; have HB := n7_; clear n0_ n1_ n2_ n3_ n4_ n5_ n6_ n7_; (try clear hb); (try clear hb2); (try clear hk); (try clear hi); have hcz41_0 : w40.cell? ⟨gb164, 0, none⟩ = some (.int .i64 a1_0) := (blk_cell BK164.out 0).trans rfl; have hcz41_1 : w40.cell? ⟨gb164, 1, none⟩ = some (.string a1_1) := (blk_cell BK164.out 1).trans rfl; have hcz41_2 : w40.cell? ⟨gb164, 2, none⟩ = some (.slice A1_2 l1_2.length c1_2) := (blk_cell BK164.out 2).trans rfl; have hcz41_3 : w40.cell? ⟨gb164, 3, none⟩ = some (.int .i64 a1_3) := (blk_cell BK164.out 3).trans rfl; have hcz41_4 : w40.cell? ⟨gb164, 4, none⟩ = some (.slice A1_4 l1_4.length c1_4) := (blk_cell BK164.out 4).trans rfl; have hcz41_5 : w40.cell? ⟨gb164, 5, none⟩ = some (.int .i64 a1_5) := (blk_cell BK164.out 5).trans rfl; have hcz41_6 : w40.cell? ⟨gb164, 6, none⟩ = some (.int .u8 a1_6) := (blk_cell BK164.out 6).trans rfl; have hfz41_0 := blk_frozen BK164.out 0; have hfz41_1 := blk_frozen BK164.out 1; have hfz41_2 := blk_frozen BK164.out 2; have hfz41_3 := blk_frozen BK164.out 3; have hfz41_4 := blk_frozen BK164.out 4; have hfz41_5 := blk_frozen BK164.out 5; have hfz41_6 := blk_frozen BK164.out 6) | ((with_reducible refine gate_builtin (b := .append) (xs := #[.tmp 62, .tmp 64]) rfl ?_); at_builtin; refine YtodifojhegbjaaaDoorMpRows.N_append_keep k47 (w0 := w) w.heap.size rfl (.tmp 62) (.tmp 64) 32 47 (.agg #[(.int .i64 0), (.string ⟨#[]⟩), (.slice none 0 0), (.int .i64 0), (.slice none 0 0), (.int .i64 0), (.int .u8 0)]) 96 rfl Tryd.underlying32 info47 rfl (by decide) (by omega) (.slice Ao38 t167.length co38) t167 (⟨a1_0, a1_1, l1_2, a1_3, (⟨l1_4, a1_5, a1_6⟩ : S45)⟩ : S47) [.int .i64 a1_0, .string a1_1, .slice A1_2 l1_2.length c1_2, .int .i64 a1_3, .slice A1_4 l1_4.length c1_4, .int .i64 a1_5, .int .u8 a1_6] (fun k_ => ((P0_ k_ ∨ P1_2_ k_ ∨ P1_4_ k_) ∨ w.heap.size ≤ k_) ∧ some k_ ≠ (.slice Ao39 t170.length co39 : Value).ownBlock ∧ some k_ ≠ (u7 : Value).ownBlock ∧ k_ ≠ gb164) (fun k_ => ((fun k_ => ((P0_ k_ ∨ P1_2_ k_ ∨ P1_4_ k_) ∨ w.heap.size ≤ k_) ∧ some k_ ≠ (.slice Ao39 t170.length co39 : Value).ownBlock ∧ some k_ ≠ (u7 : Value).ownBlock ∧ k_ ≠ gb164)) k_ ∧ some k_ ≠ (.slice Ao38 t167.length co38 : Value).ownBlock) rfl rfl ?aP (fun _ hk => hk) ?aF ?aO ?aB ?aS ?aL ?_; (case aP => exact (k47_mkF _ _ (⟨a1_0, a1_1, l1_2, a1_3, (⟨l1_4, a1_5, a1_6⟩ : S45)⟩ : S47) (Kd.V_reads' (Kd.V_mono (ok' := (fun k_ => ((fun k_ => ((P0_ k_ ∨ P1_2_ k_ ∨ P1_4_ k_) ∨ w.heap.size ≤ k_) ∧ some k_ ≠ (.slice Ao39 t170.length co39 : Value).ownBlock ∧ some k_ ≠ (u7 : Value).ownBlock ∧ k_ ≠ gb164)) k_ ∧ some k_ ≠ (.slice Ao38 t167.length co38 : Value).ownBlock)) (HO_165002.out) (fun k_ hk => ⟨⟨hk.1, ⟨hk.2.2.1, ⟨hk.2.2.2.1, hk.2.2.2.2⟩⟩⟩, hk.2.1⟩))).2.1 (Kd.V_F (Kd.V_mono (ok' := (fun k_ => ((fun k_ => ((P0_ k_ ∨ P1_2_ k_ ∨ P1_4_ k_) ∨ w.heap.size ≤ k_) ∧ some k_ ≠ (.slice Ao39 t170.length co39 : Value).ownBlock ∧ some k_ ≠ (u7 : Value).ownBlock ∧ k_ ≠ gb164)) k_ ∧ some k_ ≠ (.slice Ao38 t167.length co38 : Value).ownBlock)) (HO_165002.out) (fun k_ hk => ⟨⟨hk.1, ⟨hk.2.2.1, ⟨hk.2.2.2.1, hk.2.2.2.2⟩⟩⟩, hk.2.1⟩))) (Kd.V_reads' (Kd.V_mono (ok' := (fun k_ => ((fun k_ => ((P0_ k_ ∨ P1_2_ k_ ∨ P1_4_ k_) ∨ w.heap.size ≤ k_) ∧ some k_ ≠ (.slice Ao39 t170.length co39 : Value).ownBlock ∧ some k_ ≠ (u7 : Value).ownBlock ∧ k_ ≠ gb164)) k_ ∧ some k_ ≠ (.slice Ao38 t167.length co38 : Value).ownBlock)) (HO_165004.out) (fun k_ hk => ⟨⟨hk.1, ⟨hk.2.2.1, ⟨hk.2.2.2.1, hk.2.2.2.2⟩⟩⟩, hk.2.1⟩))).2.1 (Kd.V_F (Kd.V_mono (ok' := (fun k_ => ((fun k_ => ((P0_ k_ ∨ P1_2_ k_ ∨ P1_4_ k_) ∨ w.heap.size ≤ k_) ∧ some k_ ≠ (.slice Ao39 t170.length co39 : Value).ownBlock ∧ some k_ ≠ (u7 : Value).ownBlock ∧ k_ ≠ gb164)) k_ ∧ some k_ ≠ (.slice Ao38 t167.length co38 : Value).ownBlock)) (HO_165004.out) (fun k_ hk => ⟨⟨hk.1, ⟨hk.2.2.1, ⟨hk.2.2.2.1, hk.2.2.2.2⟩⟩⟩, hk.2.1⟩))))); (case aB => exact (by repeat (first | (with_reducible first | exact HB.out | apply below_alloc | apply pw_below_drewN | apply below_drew1 | refine below_set ?_ GE164.out) | exact HB.out))); (case aF => exact (fun k_ hk => ⟨(.inr (Nat.le_trans (below_size (by repeat (first | (with_reducible first | exact HB.out | apply below_alloc | apply pw_below_drewN | apply below_drew1 | refine below_set ?_ GE164.out) | exact HB.out))) hk)), Kd.fresh' (Kd.N_lt (by (with_reducible repeat (first | apply Kd.N_alloc | apply Kd.N_drewN | apply Kd.N_drew)); exact HO_6.out)) k_ hk, Kd.fresh' (Kd.N_lt (by (with_reducible repeat (first | apply Kd.N_alloc | apply Kd.N_drewN | apply Kd.N_drew)); exact HO_7.out)) k_ hk, Kd.freshB (g := gb164) (o := .cells #[.int .i64 a1_0, .string a1_1, .slice A1_2 l1_2.length c1_2, .int .i64 a1_3, .slice A1_4 l1_4.length c1_4, .int .i64 a1_5, .int .u8 a1_6] 47 (0, 0)) (by (with_reducible repeat (first | refine blk_drewN ?_ _ | refine blk_drew ?_ | refine blk_alloc ?_ _)); exact BK164.out) k_ hk⟩)); (case aO => exact (by (with_reducible repeat (first | apply Kd.N_alloc | apply Kd.N_drewN | apply Kd.N_drew)); exact HO_5.out)); (case aS => exact (below_size (by repeat (first | (with_reducible first | exact HB.out | apply below_alloc | apply pw_below_drewN | apply below_drew1 | refine below_set ?_ GE164.out) | exact HB.out)))); (case aL => have := LMc28.out; omega); intro v186 w42 ho hk_ hb hg hat; rw [← Ny185.out] at ho; have n0_ := Aside0.mk (Kd.V_grown (ok := (fun k_ => ((P0_ k_ ∨ P1_2_ k_ ∨ P1_4_ k_) ∨ w.heap.size ≤ k_) ∧ some k_ ≠ (.slice Ao38 t167.length co38 : Value).ownBlock ∧ some k_ ≠ (.slice Ao39 t170.length co39 : Value).ownBlock ∧ some k_ ≠ (u7 : Value).ownBlock ∧ k_ ≠ gb164)) (by (with_reducible repeat (first | apply Kd.V_alloc | apply Kd.V_drewN | apply Kd.V_drew)); exact HO_0.out) hg (fun _ hk => hk.2.1)); have n1_ := Aside0.mk (hk_); have n2_ := Aside0.mk (Kd.N_grown (ok := (fun k_ => ((P0_ k_ ∨ P1_2_ k_ ∨ P1_4_ k_) ∨ w.heap.size ≤ k_) ∧ some k_ ≠ (.slice Ao38 t167.length co38 : Value).ownBlock ∧ some k_ ≠ (u7 : Value).ownBlock ∧ k_ ≠ gb164)) (by (with_reducible repeat (first | apply Kd.N_alloc | apply Kd.N_drewN | apply Kd.N_drew)); exact HO_6.out) hg (fun _ hk => hk.2.1)); have n3_ := Aside0.mk (Kd.N_grown (ok := (fun k_ => ((P0_ k_ ∨ P1_2_ k_ ∨ P1_4_ k_) ∨ w.heap.size ≤ k_) ∧ some k_ ≠ (.slice Ao38 t167.length co38 : Value).ownBlock ∧ some k_ ≠ (.slice Ao39 t170.length co39 : Value).ownBlock ∧ k_ ≠ gb164)) (by (with_reducible repeat (first | apply Kd.N_alloc | apply Kd.N_drewN | apply Kd.N_drew)); exact HO_7.out) hg (fun _ hk => hk.2.1)); have n4_ := Aside0.mk (Kd.V_grown (ok := (fun k_ => ((P0_ k_ ∨ P1_2_ k_ ∨ P1_4_ k_) ∨ w.heap.size ≤ k_) ∧ some k_ ≠ (.slice Ao38 t167.length co38 : Value).ownBlock ∧ some k_ ≠ (.slice Ao39 t170.length co39 : Value).ownBlock ∧ some k_ ≠ (u7 : Value).ownBlock ∧ k_ ≠ gb164)) (by (with_reducible repeat (first | apply Kd.V_alloc | apply Kd.V_drewN | apply Kd.V_drew)); exact HO_165002.out) hg (fun _ hk => hk.2.1)); have n5_ := Aside0.mk (Kd.V_grown (ok := (fun k_ => ((P0_ k_ ∨ P1_2_ k_ ∨ P1_4_ k_) ∨ w.heap.size ≤ k_) ∧ some k_ ≠ (.slice Ao38 t167.length co38 : Value).ownBlock ∧ some k_ ≠ (.slice Ao39 t170.length co39 : Value).ownBlock ∧ some k_ ≠ (u7 : Value).ownBlock ∧ k_ ≠ gb164)) (by (with_reducible repeat (first | apply Kd.V_alloc | apply Kd.V_drewN | apply Kd.V_drew)); exact HO_165004.out) hg (fun _ hk => hk.2.1)); have n6_ := Aside0.mk (blk_grown (g := gb164) (o := .cells #[.int .i64 a1_0, .string a1_1, .slice A1_2 l1_2.length c1_2, .int .i64 a1_3, .slice A1_4 l1_4.length c1_4, .int .i64 a1_5, .int .u8 a1_6] 47 (0, 0)) (by (with_reducible repeat (first | refine blk_drewN ?_ _ | refine blk_drew ?_ | refine blk_alloc ?_ _)); exact BK164.out) hg (Kd.N_away HO_5.out (fun _ hk => hk.2.2.2))); have n7_ := Aside0.mk (hb); have n8_ := Aside0.mk ((Kd.N_V (base' := w.heap.size) ho)); clear HO_0; clear HO_5; clear HO_6; clear HO_7; clear HO_165002; clear HO_165004; clear BK164; clear HB; have HO_0 := n0_; have HO_5 := n1_; have HO_6 := n2_; have HO_7 := n3_; have HO_165002 := n4_; have HO_165004 := n5_; have BK164 := n6_; have HB := n7_; have HO187 := n8_; clear n0_ n1_ n2_ n3_ n4_ n5_ n6_ n7_ n8_; clear ho hk_ hb hg hat; obtain ⟨Ao43, co43, eo43⟩ := Kd.V_slice HO187.out; subst eo43) | ((with_reducible refine gate_callee (f := 19) rfl ?_); refine goesL_ (some 67) rfl rfl Tryd.func19 (by kernel_rfl) rfl #[.slice Ao43 y185.length co43, .slice Ao39 t170.length co39] rfl (by (try simp only [List.map_toArray, List.map_cons, List.map_nil]); first | done | rfl | (simp only [List.length_drop, List.length_take]; rfl)) ?_; (with_reducible refine (report_Text.calls k1 _ _ y185 _ _ t170 t188 t189 _ ?side1 ?side2 ?side3 ?side4 ?side5 A29.out).mono ?_); (case side1 => repeat (first | exact (Kd.V_reads' HO187.out).2.2 | (with_reducible refine Kd.C_alloc ?_ _) | (with_reducible refine Kd.C_drewN ?_ _) | (with_reducible refine Kd.C_drew ?_))); (case side2 => exact (Kd.V_reads' HO187.out).2.1); (case side3 => repeat (first | exact (Kd.N_reads' HO_6.out).2.2 | (with_reducible refine Kd.C_alloc ?_ _) | (with_reducible refine Kd.C_drewN ?_ _) | (with_reducible refine Kd.C_drew ?_))); (case side4 => exact (Kd.N_reads' HO_6.out).2.1); (case side5 => exact YtodifojhegbjaaaDoorTab.tab_below HT.out (by repeat (first | (with_reducible first | exact HB.out | apply below_alloc | apply pw_below_drewN | apply below_drew1 | refine below_set ?_ GE164.out) | exact HB.out))); rintro e w44 ⟨rfl, hb⟩; refine ⟨_, rfl, ?_⟩; have n0_ := Aside0.mk (Kd.V_below (by (with_reducible repeat (first | apply Kd.V_alloc | apply Kd.V_drewN | apply Kd.V_drew)); exact HO_0.out) hb); have n1_ := Aside0.mk (Kd.N_below (by (with_reducible repeat (first | apply Kd.N_alloc | apply Kd.N_drewN | apply Kd.N_drew)); exact HO_5.out) hb); have n2_ := Aside0.mk (Kd.N_below (by (with_reducible repeat (first | apply Kd.N_alloc | apply Kd.N_drewN | apply Kd.N_drew)); exact HO_6.out) hb); have n3_ := Aside0.mk (Kd.N_below (by (with_reducible repeat (first | apply Kd.N_alloc | apply Kd.N_drewN | apply Kd.N_drew)); exact HO_7.out) hb); have n4_ := Aside0.mk (Kd.V_below (by (with_reducible repeat (first | apply Kd.V_alloc | apply Kd.V_drewN | apply Kd.V_drew)); exact HO_165002.out) hb); have n5_ := Aside0.mk (Kd.V_below (by (with_reducible repeat (first | apply Kd.V_alloc | apply Kd.V_drewN | apply Kd.V_drew)); exact HO_165004.out) hb); have n6_ := Aside0.mk (Kd.V_below (by (with_reducible repeat (first | apply Kd.V_alloc | apply Kd.V_drewN | apply Kd.V_drew)); exact HO187.out) hb); have n7_ := Aside0.mk (blk_below (g := gb164) (o := .cells #[.int .i64 a1_0, .string a1_1, .slice A1_2 l1_2.length c1_2, .int .i64 a1_3, .slice A1_4 l1_4.length c1_4, .int .i64 a1_5, .int .u8 a1_6] 47 (0, 0)) (by (with_reducible repeat (first | refine blk_drewN ?_ _ | refine blk_drew ?_ | refine blk_alloc ?_ _)); exact BK164.out) hb); have n8_ := Aside0.mk (below_step (by repeat (first | (with_reducible first | exact HB.out | apply below_alloc | apply pw_below_drewN | apply below_drew1 | refine below_set ?_ GE164.out) | exact HB.out)) hb); clear HO_0; clear HO_5; clear HO_6; clear HO_7; clear HO_165002; clear HO_165004; clear HO187; clear BK164; clear HB; have HO_0 := n0_; have HO_5 := n1_; have HO_6 := n2_; have HO_7 := n3_; have HO_165002 := n4_; have HO_165004 := n5_; have HO187 := n6_; have BK164 := n7_; have HB := n8_; clear n0_ n1_ n2_ n3_ n4_ n5_ n6_ n7_ n8_; (try clear hb); (try clear hb2); (try clear hk); (try clear hi); have hcz45_0 : w44.cell? ⟨gb164, 0, none⟩ = some (.int .i64 a1_0) := (blk_cell BK164.out 0).trans rfl; have hcz45_1 : w44.cell? ⟨gb164, 1, none⟩ = some (.string a1_1) := (blk_cell BK164.out 1).trans rfl; have hcz45_2 : w44.cell? ⟨gb164, 2, none⟩ = some (.slice A1_2 l1_2.length c1_2) := (blk_cell BK164.out 2).trans rfl; have hcz45_3 : w44.cell? ⟨gb164, 3, none⟩ = some (.int .i64 a1_3) := (blk_cell BK164.out 3).trans rfl; have hcz45_4 : w44.cell? ⟨gb164, 4, none⟩ = some (.slice A1_4 l1_4.length c1_4) := (blk_cell BK164.out 4).trans rfl; have hcz45_5 : w44.cell? ⟨gb164, 5, none⟩ = some (.int .i64 a1_5) := (blk_cell BK164.out 5).trans rfl; have hcz45_6 : w44.cell? ⟨gb164, 6, none⟩ = some (.int .u8 a1_6) := (blk_cell BK164.out 6).trans rfl; have hfz45_0 := blk_frozen BK164.out 0; have hfz45_1 := blk_frozen BK164.out 1; have hfz45_2 := blk_frozen BK164.out 2; have hfz45_3 := blk_frozen BK164.out 3; have hfz45_4 := blk_frozen BK164.out 4; have hfz45_5 := blk_frozen BK164.out 5; have hfz45_6 := blk_frozen BK164.out 6) | ((with_reducible refine gate_builtin (b := .append) (xs := #[.tmp 71, .tmp 73]) rfl ?_); at_builtin; refine YtodifojhegbjaaaDoorMpRows.N_append_keep k47 (w0 := w) w.heap.size rfl (.tmp 71) (.tmp 73) 32 47 (.agg #[(.int .i64 0), (.string ⟨#[]⟩), (.slice none 0 0), (.int .i64 0), (.slice none 0 0), (.int .i64 0), (.int .u8 0)]) 96 rfl Tryd.underlying32 info47 rfl (by decide) (by omega) (.slice Ao38 t167.length co38) t167 (⟨a1_0, a1_1, l1_2, a1_3, (⟨l1_4, a1_5, a1_6⟩ : S45)⟩ : S47) [.int .i64 a1_0, .string a1_1, .slice A1_2 l1_2.length c1_2, .int .i64 a1_3, .slice A1_4 l1_4.length c1_4, .int .i64 a1_5, .int .u8 a1_6] (fun k_ => ((P0_ k_ ∨ P1_2_ k_ ∨ P1_4_ k_) ∨ w.heap.size ≤ k_) ∧ some k_ ≠ (.slice Ao39 t170.length co39 : Value).ownBlock ∧ some k_ ≠ (u7 : Value).ownBlock ∧ k_ ≠ gb164) (fun k_ => ((fun k_ => ((P0_ k_ ∨ P1_2_ k_ ∨ P1_4_ k_) ∨ w.heap.size ≤ k_) ∧ some k_ ≠ (.slice Ao39 t170.length co39 : Value).ownBlock ∧ some k_ ≠ (u7 : Value).ownBlock ∧ k_ ≠ gb164)) k_ ∧ some k_ ≠ (.slice Ao38 t167.length co38 : Value).ownBlock) rfl rfl ?aP (fun _ hk => hk) ?aF ?aO ?aB ?aS ?aL ?_; (case aP => exact (k47_mkF _ _ (⟨a1_0, a1_1, l1_2, a1_3, (⟨l1_4, a1_5, a1_6⟩ : S45)⟩ : S47) (Kd.V_reads' (Kd.V_mono (ok' := (fun k_ => ((fun k_ => ((P0_ k_ ∨ P1_2_ k_ ∨ P1_4_ k_) ∨ w.heap.size ≤ k_) ∧ some k_ ≠ (.slice Ao39 t170.length co39 : Value).ownBlock ∧ some k_ ≠ (u7 : Value).ownBlock ∧ k_ ≠ gb164)) k_ ∧ some k_ ≠ (.slice Ao38 t167.length co38 : Value).ownBlock)) (HO_165002.out) (fun k_ hk => ⟨⟨hk.1, ⟨hk.2.2.1, ⟨hk.2.2.2.1, hk.2.2.2.2⟩⟩⟩, hk.2.1⟩))).2.1 (Kd.V_F (Kd.V_mono (ok' := (fun k_ => ((fun k_ => ((P0_ k_ ∨ P1_2_ k_ ∨ P1_4_ k_) ∨ w.heap.size ≤ k_) ∧ some k_ ≠ (.slice Ao39 t170.length co39 : Value).ownBlock ∧ some k_ ≠ (u7 : Value).ownBlock ∧ k_ ≠ gb164)) k_ ∧ some k_ ≠ (.slice Ao38 t167.length co38 : Value).ownBlock)) (HO_165002.out) (fun k_ hk => ⟨⟨hk.1, ⟨hk.2.2.1, ⟨hk.2.2.2.1, hk.2.2.2.2⟩⟩⟩, hk.2.1⟩))) (Kd.V_reads' (Kd.V_mono (ok' := (fun k_ => ((fun k_ => ((P0_ k_ ∨ P1_2_ k_ ∨ P1_4_ k_) ∨ w.heap.size ≤ k_) ∧ some k_ ≠ (.slice Ao39 t170.length co39 : Value).ownBlock ∧ some k_ ≠ (u7 : Value).ownBlock ∧ k_ ≠ gb164)) k_ ∧ some k_ ≠ (.slice Ao38 t167.length co38 : Value).ownBlock)) (HO_165004.out) (fun k_ hk => ⟨⟨hk.1, ⟨hk.2.2.1, ⟨hk.2.2.2.1, hk.2.2.2.2⟩⟩⟩, hk.2.1⟩))).2.1 (Kd.V_F (Kd.V_mono (ok' := (fun k_ => ((fun k_ => ((P0_ k_ ∨ P1_2_ k_ ∨ P1_4_ k_) ∨ w.heap.size ≤ k_) ∧ some k_ ≠ (.slice Ao39 t170.length co39 : Value).ownBlock ∧ some k_ ≠ (u7 : Value).ownBlock ∧ k_ ≠ gb164)) k_ ∧ some k_ ≠ (.slice Ao38 t167.length co38 : Value).ownBlock)) (HO_165004.out) (fun k_ hk => ⟨⟨hk.1, ⟨hk.2.2.1, ⟨hk.2.2.2.1, hk.2.2.2.2⟩⟩⟩, hk.2.1⟩))))); (case aB => exact (by repeat (first | (with_reducible first | exact HB.out | apply below_alloc | apply pw_below_drewN | apply below_drew1 | refine below_set ?_ GE164.out) | exact HB.out))); (case aF => exact (fun k_ hk => ⟨(.inr (Nat.le_trans (below_size (by repeat (first | (with_reducible first | exact HB.out | apply below_alloc | apply pw_below_drewN | apply below_drew1 | refine below_set ?_ GE164.out) | exact HB.out))) hk)), Kd.fresh' (Kd.N_lt (by (with_reducible repeat (first | apply Kd.N_alloc | apply Kd.N_drewN | apply Kd.N_drew)); exact HO_6.out)) k_ hk, Kd.fresh' (Kd.N_lt (by (with_reducible repeat (first | apply Kd.N_alloc | apply Kd.N_drewN | apply Kd.N_drew)); exact HO_7.out)) k_ hk, Kd.freshB (g := gb164) (o := .cells #[.int .i64 a1_0, .string a1_1, .slice A1_2 l1_2.length c1_2, .int .i64 a1_3, .slice A1_4 l1_4.length c1_4, .int .i64 a1_5, .int .u8 a1_6] 47 (0, 0)) (by (with_reducible repeat (first | refine blk_drewN ?_ _ | refine blk_drew ?_ | refine blk_alloc ?_ _)); exact BK164.out) k_ hk⟩)); (case aO => exact (by (with_reducible repeat (first | apply Kd.N_alloc | apply Kd.N_drewN | apply Kd.N_drew)); exact HO_5.out)); (case aS => exact (below_size (by repeat (first | (with_reducible first | exact HB.out | apply below_alloc | apply pw_below_drewN | apply below_drew1 | refine below_set ?_ GE164.out) | exact HB.out)))); (case aL => have := LMc28.out; omega); intro v191 w46 ho hk_ hb hg hat; rw [← Ny190.out] at ho; have n0_ := Aside0.mk (Kd.V_grown (ok := (fun k_ => ((P0_ k_ ∨ P1_2_ k_ ∨ P1_4_ k_) ∨ w.heap.size ≤ k_) ∧ some k_ ≠ (.slice Ao38 t167.length co38 : Value).ownBlock ∧ some k_ ≠ (.slice Ao39 t170.length co39 : Value).ownBlock ∧ some k_ ≠ (u7 : Value).ownBlock ∧ k_ ≠ gb164)) (by (with_reducible repeat (first | apply Kd.V_alloc | apply Kd.V_drewN | apply Kd.V_drew)); exact HO_0.out) hg (fun _ hk => hk.2.1)); have n1_ := Aside0.mk (hk_); have n2_ := Aside0.mk (Kd.N_grown (ok := (fun k_ => ((P0_ k_ ∨ P1_2_ k_ ∨ P1_4_ k_) ∨ w.heap.size ≤ k_) ∧ some k_ ≠ (.slice Ao38 t167.length co38 : Value).ownBlock ∧ some k_ ≠ (u7 : Value).ownBlock ∧ k_ ≠ gb164)) (by (with_reducible repeat (first | apply Kd.N_alloc | apply Kd.N_drewN | apply Kd.N_drew)); exact HO_6.out) hg (fun _ hk => hk.2.1)); have n3_ := Aside0.mk (Kd.N_grown (ok := (fun k_ => ((P0_ k_ ∨ P1_2_ k_ ∨ P1_4_ k_) ∨ w.heap.size ≤ k_) ∧ some k_ ≠ (.slice Ao38 t167.length co38 : Value).ownBlock ∧ some k_ ≠ (.slice Ao39 t170.length co39 : Value).ownBlock ∧ k_ ≠ gb164)) (by (with_reducible repeat (first | apply Kd.N_alloc | apply Kd.N_drewN | apply Kd.N_drew)); exact HO_7.out) hg (fun _ hk => hk.2.1)); have n4_ := Aside0.mk (Kd.V_grown (ok := (fun k_ => ((P0_ k_ ∨ P1_2_ k_ ∨ P1_4_ k_) ∨ w.heap.size ≤ k_) ∧ some k_ ≠ (.slice Ao38 t167.length co38 : Value).ownBlock ∧ some k_ ≠ (.slice Ao39 t170.length co39 : Value).ownBlock ∧ some k_ ≠ (u7 : Value).ownBlock ∧ k_ ≠ gb164)) (by (with_reducible repeat (first | apply Kd.V_alloc | apply Kd.V_drewN | apply Kd.V_drew)); exact HO_165002.out) hg (fun _ hk => hk.2.1)); have n5_ := Aside0.mk (Kd.V_grown (ok := (fun k_ => ((P0_ k_ ∨ P1_2_ k_ ∨ P1_4_ k_) ∨ w.heap.size ≤ k_) ∧ some k_ ≠ (.slice Ao38 t167.length co38 : Value).ownBlock ∧ some k_ ≠ (.slice Ao39 t170.length co39 : Value).ownBlock ∧ some k_ ≠ (u7 : Value).ownBlock ∧ k_ ≠ gb164)) (by (with_reducible repeat (first | apply Kd.V_alloc | apply Kd.V_drewN | apply Kd.V_drew)); exact HO_165004.out) hg (fun _ hk => hk.2.1)); have n6_ := Aside0.mk (blk_grown (g := gb164) (o := .cells #[.int .i64 a1_0, .string a1_1, .slice A1_2 l1_2.length c1_2, .int .i64 a1_3, .slice A1_4 l1_4.length c1_4, .int .i64 a1_5, .int .u8 a1_6] 47 (0, 0)) (by (with_reducible repeat (first | refine blk_drewN ?_ _ | refine blk_drew ?_ | refine blk_alloc ?_ _)); exact BK164.out) hg (Kd.N_away HO_5.out (fun _ hk => hk.2.2.2))); have n7_ := Aside0.mk (hb); have n8_ := Aside0.mk ((Kd.N_V (base' := w.heap.size) ho)); clear HO_0; clear HO_5; clear HO_6; clear HO_7; clear HO_165002; clear HO_165004; clear BK164; clear HB; have HO_0 := n0_; have HO_5 := n1_; have HO_6 := n2_; have HO_7 := n3_; have HO_165002 := n4_; have HO_165004 := n5_; have BK164 := n6_; have HB := n7_; have HO192 := n8_; clear n0_ n1_ n2_ n3_ n4_ n5_ n6_ n7_ n8_; clear ho hk_ hb hg hat; obtain ⟨Ao47, co47, eo47⟩ := Kd.V_slice HO192.out; subst eo47) | ((with_reducible refine gate_callee (f := 16) rfl ?_); refine goesL_ (some 76) rfl rfl Tryd.func16 (by kernel_rfl) rfl #[.slice Ao47 y190.length co47, .slice Ao39 t170.length co39] rfl (by (try simp only [List.map_toArray, List.map_cons, List.map_nil]); first | done | rfl | (simp only [List.length_drop, List.length_take]; rfl)) ?_; (with_reducible refine (report_Sum.calls _ _ y190 _ _ t170 t193 t194 t195 t196 t197 t198 t199 t200 t201 t202 t203 t204 t205 t206 t207 t208 t209 t210 t211 t212 t213 t214 t215 t216 t217 t218 t219 t220 t221 t222 t223 t224 t225 t226 t227 t228 t229 t230 t231 t232 t233 _ ?side1 ?side2 ?side3 ?side4 A30.out).mono ?_); (case side1 => repeat (first | exact (Kd.V_reads' HO192.out).2.2 | (with_reducible refine Kd.C_alloc ?_ _) | (with_reducible refine Kd.C_drewN ?_ _) | (with_reducible refine Kd.C_drew ?_))); (case side2 => exact (Kd.V_reads' HO192.out).2.1); (case side3 => repeat (first | exact (Kd.N_reads' HO_6.out).2.2 | (with_reducible refine Kd.C_alloc ?_ _) | (with_reducible refine Kd.C_drewN ?_ _) | (with_reducible refine Kd.C_drew ?_))); (case side4 => exact (Kd.N_reads' HO_6.out).2.1); rintro e w48 ⟨he_, hb⟩; have he2_ : e = .returned (.tuple #[.agg (report_Sum.cs [t193, t194, t195, t196, t197, t198, t199, t200, t201, t202, t203, t204, t205, t206, t207, t208, t209, t210, t211, t212, t213, t214, t215, t216, t217, t218, t219, t220, t221, t222, t223, t224, t225, t226, t227, t228, t229, t230, t231, t232]), .int .i64 t233]) := he_; clear he_; have HVS_ := Aside0.mk (show (report_Sum.cs [t193, t194, t195, t196, t197, t198, t199, t200, t201, t202, t203, t204, t205, t206, t207, t208, t209, t210, t211, t212, t213, t214, t215, t216, t217, t218, t219, t220, t221, t222, t223, t224, t225, t226, t227, t228, t229, t230, t231, t232]).size = 40 from rfl); have HVO_ := Aside0.mk (report_Sum.one [t193, t194, t195, t196, t197, t198, t199, t200, t201, t202, t203, t204, t205, t206, t207, t208, t209, t210, t211, t212, t213, t214, t215, t216, t217, t218, t219, t220, t221, t222, t223, t224, t225, t226, t227, t228, t229, t230, t231, t232]); generalize report_Sum.cs [t193, t194, t195, t196, t197, t198, t199, t200, t201, t202, t203, t204, t205, t206, t207, t208, t209, t210, t211, t212, t213, t214, t215, t216, t217, t218, t219, t220, t221, t222, t223, t224, t225, t226, t227, t228, t229, t230, t231, t232] = V_ at he2_ HVS_ HVO_; subst he2_; refine ⟨_, rfl, ?_⟩; have n0_ := Aside0.mk (Kd.V_below (by (with_reducible repeat (first | apply Kd.V_alloc | apply Kd.V_drewN | apply Kd.V_drew)); exact HO_0.out) hb); have n1_ := Aside0.mk (Kd.N_below (by (with_reducible repeat (first | apply Kd.N_alloc | apply Kd.N_drewN | apply Kd.N_drew)); exact HO_5.out) hb); have n2_ := Aside0.mk (Kd.N_below (by (with_reducible repeat (first | apply Kd.N_alloc | apply Kd.N_drewN | apply Kd.N_drew)); exact HO_6.out) hb); have n3_ := Aside0.mk (Kd.N_below (by (with_reducible repeat (first | apply Kd.N_alloc | apply Kd.N_drewN | apply Kd.N_drew)); exact HO_7.out) hb); have n4_ := Aside0.mk (Kd.V_below (by (with_reducible repeat (first | apply Kd.V_alloc | apply Kd.V_drewN | apply Kd.V_drew)); exact HO_165002.out) hb); have n5_ := Aside0.mk (Kd.V_below (by (with_reducible repeat (first | apply Kd.V_alloc | apply Kd.V_drewN | apply Kd.V_drew)); exact HO_165004.out) hb); have n6_ := Aside0.mk (Kd.V_below (by (with_reducible repeat (first | apply Kd.V_alloc | apply Kd.V_drewN | apply Kd.V_drew)); exact HO192.out) hb); have n7_ := Aside0.mk (blk_below (g := gb164) (o := .cells #[.int .i64 a1_0, .string a1_1, .slice A1_2 l1_2.length c1_2, .int .i64 a1_3, .slice A1_4 l1_4.length c1_4, .int .i64 a1_5, .int .u8 a1_6] 47 (0, 0)) (by (with_reducible repeat (first | refine blk_drewN ?_ _ | refine blk_drew ?_ | refine blk_alloc ?_ _)); exact BK164.out) hb); have n8_ := Aside0.mk (below_step (by repeat (first | (with_reducible first | exact HB.out | apply below_alloc | apply pw_below_drewN | apply below_drew1 | refine below_set ?_ GE164.out) | exact HB.out)) hb); clear HO_0; clear HO_5; clear HO_6; clear HO_7; clear HO_165002; clear HO_165004; clear HO192; clear BK164; clear HB; have HO_0 := n0_; have HO_5 := n1_; have HO_6 := n2_; have HO_7 := n3_; have HO_165002 := n4_; have HO_165004 := n5_; have HO192 := n6_; have BK164 := n7_; have HB := n8_; clear n0_ n1_ n2_ n3_ n4_ n5_ n6_ n7_ n8_; (try clear hb); (try clear hb2); (try clear hk); (try clear hi)) | ((with_reducible refine gate_dst (N := 13) rfl ?_); refine box_event ?hg (N := 13) ?hd (cs := Z_) (t := 39) ?hr ?_; (case hd => rfl); (case hg => rfl); (case hr => first | (go_simp; done) | (go_simp; rfl)); intro gs_ hgs_ w49 hbox4 hb4; have HBX4_ := Aside0.mk hbox4; have HB4_ := Aside0.mk hb4; have HGS_ := Aside0.mk hgs_; clear hbox4 hb4 hgs_) | (refine YtodifojhegbjaaaDoorMpHelp.wpList_store_blk (base := w48.heap.size) (w0 := w48) rfl rfl 39 (.tmp 13) (.tmp 77) rfl 39 gs_ _ V_ HBX4_.out rfl rfl (by rw [HVS_.out]; exact HSI_.out) (by rw [HVS_.out, HZS_.out]) HVO_.out HB4_.out (Nat.le_of_eq HGS_.out.symm) ?_; intro w50 hbox5 hb hoth5; clear hbox5 hoth5; clear HBX4_ HB4_; have n0_ := Aside0.mk (Kd.V_below (by (with_reducible repeat (first | apply Kd.V_alloc | apply Kd.V_drewN | apply Kd.V_drew)); exact HO_0.out) hb); have n1_ := Aside0.mk (Kd.N_below (by (with_reducible repeat (first | apply Kd.N_alloc | apply Kd.N_drewN | apply Kd.N_drew)); exact HO_5.out) hb); have n2_ := Aside0.mk (Kd.N_below (by (with_reducible repeat (first | apply Kd.N_alloc | apply Kd.N_drewN | apply Kd.N_drew)); exact HO_6.out) hb); have n3_ := Aside0.mk (Kd.N_below (by (with_reducible repeat (first | apply Kd.N_alloc | apply Kd.N_drewN | apply Kd.N_drew)); exact HO_7.out) hb); have n4_ := Aside0.mk (Kd.V_below (by (with_reducible repeat (first | apply Kd.V_alloc | apply Kd.V_drewN | apply Kd.V_drew)); exact HO_165002.out) hb); have n5_ := Aside0.mk (Kd.V_below (by (with_reducible repeat (first | apply Kd.V_alloc | apply Kd.V_drewN | apply Kd.V_drew)); exact HO_165004.out) hb); have n6_ := Aside0.mk (Kd.V_below (by (with_reducible repeat (first | apply Kd.V_alloc | apply Kd.V_drewN | apply Kd.V_drew)); exact HO192.out) hb); have n7_ := Aside0.mk (blk_below (g := gb164) (o := .cells #[.int .i64 a1_0, .string a1_1, .slice A1_2 l1_2.length c1_2, .int .i64 a1_3, .slice A1_4 l1_4.length c1_4, .int .i64 a1_5, .int .u8 a1_6] 47 (0, 0)) (by (with_reducible repeat (first | refine blk_drewN ?_ _ | refine blk_drew ?_ | refine blk_alloc ?_ _)); exact BK164.out) hb); have n8_ := Aside0.mk (below_step (by repeat (first | (with_reducible first | exact HB.out | apply below_alloc | apply pw_below_drewN | apply below_drew1 | refine below_set ?_ GE164.out) | exact HB.out)) hb); clear HO_0; clear HO_5; clear HO_6; clear HO_7; clear HO_165002; clear HO_165004; clear HO192; clear BK164; clear HB; have HO_0 := n0_; have HO_5 := n1_; have HO_6 := n2_; have HO_7 := n3_; have HO_165002 := n4_; have HO_165004 := n5_; have HO192 := n6_; have BK164 := n7_; have HB := n8_; clear n0_ n1_ n2_ n3_ n4_ n5_ n6_ n7_ n8_; (try clear hb); (try clear hb2); (try clear hk); (try clear hi); obtain ⟨Ao52, co52, eo_⟩ := Kd.N_slice HO_7.out; subst eo_) | ((with_reducible refine gate_callee (f := 20) rfl ?_); refine goesL_ (some 82) rfl rfl Tryd.func20 (by kernel_rfl) rfl #[.slice Ao38 t167.length co38, .slice Ao52 x7_1.length co52] rfl (by (try simp only [List.map_toArray, List.map_cons, List.map_nil]); first | done | rfl | (simp only [List.length_drop, List.length_take]; rfl)) ?_; (with_reducible refine (bindleref33_Text.calls k1 _ _ t167 _ _ x7_1 t235 _ ?side1 ?side2 ?side3 ?side4 A31.out).mono ?_); (case side1 => repeat (first | exact (Kd.N_reads' HO_5.out).2.2 | (with_reducible refine Kd.C_alloc ?_ _) | (with_reducible refine Kd.C_drewN ?_ _) | (with_reducible refine Kd.C_drew ?_))); (case side2 => exact (Kd.N_reads' HO_5.out).2.1); (case side3 => repeat (first | exact (Kd.N_reads' HO_7.out).2.2 | (with_reducible refine Kd.C_alloc ?_ _) | (with_reducible refine Kd.C_drewN ?_ _) | (with_reducible refine Kd.C_drew ?_))); (case side4 => exact (Kd.N_reads' HO_7.out).2.1); rintro e w53 ⟨rfl, hb⟩; refine ⟨_, rfl, ?_⟩; have n0_ := Aside0.mk (Kd.V_below (by (with_reducible repeat (first | apply Kd.V_alloc | apply Kd.V_drewN | apply Kd.V_drew)); exact HO_0.out) hb); have n1_ := Aside0.mk (Kd.N_below (by (with_reducible repeat (first | apply Kd.N_alloc | apply Kd.N_drewN | apply Kd.N_drew)); exact HO_5.out) hb); have n2_ := Aside0.mk (Kd.N_below (by (with_reducible repeat (first | apply Kd.N_alloc | apply Kd.N_drewN | apply Kd.N_drew)); exact HO_6.out) hb); have n3_ := Aside0.mk (Kd.N_below (by (with_reducible repeat (first | apply Kd.N_alloc | apply Kd.N_drewN | apply Kd.N_drew)); exact HO_7.out) hb); have n4_ := Aside0.mk (Kd.V_below (by (with_reducible repeat (first | apply Kd.V_alloc | apply Kd.V_drewN | apply Kd.V_drew)); exact HO_165002.out) hb); have n5_ := Aside0.mk (Kd.V_below (by (with_reducible repeat (first | apply Kd.V_alloc | apply Kd.V_drewN | apply Kd.V_drew)); exact HO_165004.out) hb); have n6_ := Aside0.mk (Kd.V_below (by (with_reducible repeat (first | apply Kd.V_alloc | apply Kd.V_drewN | apply Kd.V_drew)); exact HO192.out) hb); have n7_ := Aside0.mk (blk_below (g := gb164) (o := .cells #[.int .i64 a1_0, .string a1_1, .slice A1_2 l1_2.length c1_2, .int .i64 a1_3, .slice A1_4 l1_4.length c1_4, .int .i64 a1_5, .int .u8 a1_6] 47 (0, 0)) (by (with_reducible repeat (first | refine blk_drewN ?_ _ | refine blk_drew ?_ | refine blk_alloc ?_ _)); exact BK164.out) hb); have n8_ := Aside0.mk (below_step (by repeat (first | (with_reducible first | exact HB.out | apply below_alloc | apply pw_below_drewN | apply below_drew1 | refine below_set ?_ GE164.out) | exact HB.out)) hb); clear HO_0; clear HO_5; clear HO_6; clear HO_7; clear HO_165002; clear HO_165004; clear HO192; clear BK164; clear HB; have HO_0 := n0_; have HO_5 := n1_; have HO_6 := n2_; have HO_7 := n3_; have HO_165002 := n4_; have HO_165004 := n5_; have HO192 := n6_; have BK164 := n7_; have HB := n8_; clear n0_ n1_ n2_ n3_ n4_ n5_ n6_ n7_ n8_; (try clear hb); (try clear hb2); (try clear hk); (try clear hi)) | (go_at_call 13; (with_reducible refine (bindlelaw33_lives.calls k1  t236 _ ?side1 A37.out).mono ?_); (case side1 => exact YtodifojhegbjaaaDoorTab.tab_below HT.out (by repeat (first | (with_reducible first | exact HB.out | apply below_alloc | apply pw_below_drewN | apply below_drew1 | refine below_set ?_ GE164.out) | exact HB.out))); rintro e w54 ⟨rfl, hb⟩; have n0_ := Aside0.mk (Kd.V_below (by (with_reducible repeat (first | apply Kd.V_alloc | apply Kd.V_drewN | apply Kd.V_drew)); exact HO_0.out) hb); have n1_ := Aside0.mk (Kd.N_below (by (with_reducible repeat (first | apply Kd.N_alloc | apply Kd.N_drewN | apply Kd.N_drew)); exact HO_5.out) hb); have n2_ := Aside0.mk (Kd.N_below (by (with_reducible repeat (first | apply Kd.N_alloc | apply Kd.N_drewN | apply Kd.N_drew)); exact HO_6.out) hb); have n3_ := Aside0.mk (Kd.N_below (by (with_reducible repeat (first | apply Kd.N_alloc | apply Kd.N_drewN | apply Kd.N_drew)); exact HO_7.out) hb); have n4_ := Aside0.mk (Kd.V_below (by (with_reducible repeat (first | apply Kd.V_alloc | apply Kd.V_drewN | apply Kd.V_drew)); exact HO_165002.out) hb); have n5_ := Aside0.mk (Kd.V_below (by (with_reducible repeat (first | apply Kd.V_alloc | apply Kd.V_drewN | apply Kd.V_drew)); exact HO_165004.out) hb); have n6_ := Aside0.mk (Kd.V_below (by (with_reducible repeat (first | apply Kd.V_alloc | apply Kd.V_drewN | apply Kd.V_drew)); exact HO192.out) hb); have n7_ := Aside0.mk (blk_below (g := gb164) (o := .cells #[.int .i64 a1_0, .string a1_1, .slice A1_2 l1_2.length c1_2, .int .i64 a1_3, .slice A1_4 l1_4.length c1_4, .int .i64 a1_5, .int .u8 a1_6] 47 (0, 0)) (by (with_reducible repeat (first | refine blk_drewN ?_ _ | refine blk_drew ?_ | refine blk_alloc ?_ _)); exact BK164.out) hb); have n8_ := Aside0.mk (below_step (by repeat (first | (with_reducible first | exact HB.out | apply below_alloc | apply pw_below_drewN | apply below_drew1 | refine below_set ?_ GE164.out) | exact HB.out)) hb); clear HO_0; clear HO_5; clear HO_6; clear HO_7; clear HO_165002; clear HO_165004; clear HO192; clear BK164; clear HB; have HO_0 := n0_; have HO_5 := n1_; have HO_6 := n2_; have HO_7 := n3_; have HO_165002 := n4_; have HO_165004 := n5_; have HO192 := n6_; have BK164 := n7_; have HB := n8_; clear n0_ n1_ n2_ n3_ n4_ n5_ n6_ n7_ n8_; (try clear hb); (try clear hb2); (try clear hk); (try clear hi)))
           go_ret
           exact ⟨by first | rfl | (simp [errW_none, errW_some] <;> rfl) | (simp [*, errW_none, errW_some] <;> rfl), by repeat (first | (with_reducible first | exact HB.out | apply below_alloc | apply pw_below_drewN | apply below_drew1 | refine below_set ?_ GE164.out) | exact HB.out)⟩
          ·rw [if_neg c36] at H
           exact absurd H (by simp)
         ·rw [if_neg c35] at H
          exact absurd H (by simp)
        ·rw [if_neg c34] at H
         exact absurd H (by simp)
       ·rw [if_neg c33] at H
        exact absurd H (by simp)
      ·rw [if_neg c32] at H
       exact absurd H (by simp)
     ·rw [if_neg c28] at H
      exact absurd H (by simp)
/-- What is known of a value of this type that came in. -/
def good45 (x : S45) : Prop := ((x.f0.length ≤ maxLen ∧ x.f0.length * 1 ≤ 140737488351232 ∧ ∀ e1 ∈ x.f0, True)) ∧ ((Lit.int .i64 x.f1).wf = true) ∧ (Lit.int .u8 x.f2).wf = true
/-- What is known of a value of this type that came in. -/
def good47 (x : S47) : Prop := ((Lit.int .i64 x.f0).wf = true) ∧ (x.f1.size ≤ 140737488351232) ∧ ((x.f2.length ≤ maxLen ∧ x.f2.length * 1 ≤ 140737488351232 ∧ ∀ e2 ∈ x.f2, (Lit.int .u8 e2).wf = true)) ∧ ((Lit.int .i64 x.f3).wf = true) ∧ good45 x.f4
/-- What is known of a value of this type that came in. -/
def good122 (x : S122) : Prop := (x.f0.size ≤ 140737488351232) ∧ (x.f1.length ≤ maxLen ∧ x.f1.length * 1 ≤ 140737488351232 ∧ ∀ e3 ∈ x.f1, (Lit.int .u8 e3).wf = true)
/-- What is known of a value of this type that came in. -/
def good51 (x : S51) : Prop := ((Lit.int .i64 x.f0).wf = true) ∧ ((x.f1.length ≤ maxLen ∧ x.f1.length * 1 ≤ 140737488351232 ∧ ∀ e4 ∈ x.f1, (Lit.int .u8 e4).wf = true)) ∧ ((Lit.int .i64 x.f2).wf = true) ∧ ((x.f3.length ≤ maxLen ∧ x.f3.length * 16 ≤ 140737488351232 ∧ ∀ e5 ∈ x.f3, e5.size ≤ 140737488351232)) ∧ ((x.f4.length ≤ maxLen ∧ x.f4.length * 40 ≤ 140737488351232 ∧ ∀ e6 ∈ x.f4, good122 e6)) ∧ (True) ∧ True
/-- What is known of a value of this type that came in. -/
def good66 (x : S66) : Prop := (good47 x.f0) ∧ good51 x.f1

/-- THE ONE PURE STATEMENT of bindlelaw33_ReportLines: ours to prove. -/
def bindlelaw33_ReportLines.Pure : Prop := ∀ (x0 : List (S66)) (x1 : S47), (x0.length ≤ maxLen ∧ x0.length * 192 ≤ 140737488351232 ∧ ∀ e7 ∈ x0, good66 e7) → good47 x1 → ∃ k, bindlelaw33_ReportLines.f k x0 x1.f0 x1.f1 x1.f2 x1.f3 x1.f4.f0 x1.f4.f1 x1.f4.f2 = some true

end Go.Proofs.YtodifojhegbjaaaDoor.PReportLines
