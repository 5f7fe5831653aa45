/- The machine side of a law: for each Go function that it uses a Lean function with the same answers, and the proof that the Go code comes to them; or the row of the law over these. Written by a program of this session. -/
import Derived.Test.YtodifojhegbjaaaDoorPReportCountsx0
import Derived.Test.YtodifojhegbjaaaDoorPReportCountsx1
import Derived.Test.YtodifojhegbjaaaDoorPReportCountsx2
import Derived.Test.YtodifojhegbjaaaDoorPReportCountsx3
namespace Go.Proofs.YtodifojhegbjaaaDoor.PReportCounts
open Go.RowKit Go.Proofs.YtodifojhegbjaaaDoorW.PrintWords Go.Proofs.YtodifojhegbjaaaDoorW.PrintLast Go.Proofs.YtodifojhegbjaaaDoorW.PrintMore
attribute [local go_sem] max2_int min2_int max_two min_two max_three min_three max_four min_four   -- for this text's walks alone
set_option linter.unusedVariables false
set_option linter.unusedSimpArgs false

/-! ### report_Text: function 19 -/
def report_Text.l0 : Nat → List (S51) → ByteArray → List (S47) → Int → Int → Option (ByteArray × Int)
 | 0, _, _, _, _, _ => none
 | k + 1, x1, x6, x14, x15, x16 => if x16 < x15 then (if 0 ≤ x16 then (if x16 < (x14.length : Int) then (if x16 < (x1.length : Int) then ((report_Line.f k ((rd_T47 x14 x16).f0) ((rd_T47 x14 x16).f1) ((rd_T47 x14 x16).f2) ((rd_T47 x14 x16).f3) ((rd_T47 x14 x16).f4.f0) ((rd_T47 x14 x16).f4.f1) ((rd_T47 x14 x16).f4.f2) ((rd_T51 x1 x16).f0) ((rd_T51 x1 x16).f1) ((rd_T51 x1 x16).f2) ((rd_T51 x1 x16).f3) ((rd_T51 x1 x16).f4) ((rd_T51 x1 x16).f5) ((rd_T51 x1 x16).f6)).bind fun t126 => (if t126.size + 1 ≤ 9223372036854775807 then (if x6.size + (t126 ++ (⟨#[10]⟩ : ByteArray)).size ≤ 9223372036854775807 then (report_Text.l0 k x1 (x6 ++ (t126 ++ (⟨#[10]⟩ : ByteArray))) x14 x15 (wrap64 (x16 + 1))) else (none)) else (none))) else (none)) else (none)) else (none)) else (some (x6, 0))
def report_Text.f (k : Nat) (l0 : List (S47)) (l1 : List (S51)) : Option (ByteArray × Int) := if (l0.length : Int) = (l1.length : Int) then (report_Text.l0 k l1 (⟨#[]⟩ : ByteArray) l0 (l0.length : Int) 0) else (some ((⟨#[]⟩ : ByteArray), 1))
theorem report_Text.mono_l : ∀ k, (∀ y0 y1 y2 y3 y4, LeO (report_Text.l0 k y0 y1 y2 y3 y4) (report_Text.l0 (k + 1) y0 y1 y2 y3 y4))
 | 0 => fun _ _ _ _ _ r h => by simp [report_Text.l0] at h
 | k + 1 => by
  have ih0 := report_Text.mono_l k
  ·intro y0 y1 y2 y3 y4
   unfold report_Text.l0
   repeat' first
   | (with_reducible exact ih0 _ _ _ _ _)
   | (with_reducible exact report_Line.mono _ _ _ _ _ _ _ _ _ _ _ _ _ _ _)
   | (with_reducible exact LeO.refl _)
   | (with_reducible exact LeO.none _)
   | (with_reducible refine LeO.ite ?_ ?_)
   | (with_reducible refine LeO.bind ?_ (fun _ => ?_))
   | exact ih0 _ _ _ _ _
   | exact report_Line.mono _ _ _ _ _ _ _ _ _ _ _ _ _ _ _
   | exact LeO.none _
   | refine LeO.ite ?_ ?_
   | refine LeO.bind ?_ (fun _ => ?_)
theorem report_Text.mono : ∀ a0 a1 k, LeO (report_Text.f k a0 a1) (report_Text.f (k + 1) a0 a1) := by
 intro a0 a1 k
 have ih0 := report_Text.mono_l k
 unfold report_Text.f
 repeat' first
   | (with_reducible exact ih0 _ _ _ _ _)
   | (with_reducible exact report_Line.mono _ _ _ _ _ _ _ _ _ _ _ _ _ _ _)
   | (with_reducible exact LeO.refl _)
   | (with_reducible exact LeO.none _)
   | (with_reducible refine LeO.ite ?_ ?_)
   | (with_reducible refine LeO.bind ?_ (fun _ => ?_))
   | exact ih0 _ _ _ _ _
   | exact report_Line.mono _ _ _ _ _ _ _ _ _ _ _ _ _ _ _
   | exact LeO.none _
   | refine LeO.ite ?_ ?_
   | refine LeO.bind ?_ (fun _ => ?_)
def report_Text.T7 : Bool × List (List Nat × List Nat) := (true, [([], []), ([], []), ([], []), ([], []), ([2, 3], [2, 3]), ([4], [4]), ([1, 5], [1, 5]), ([6], [6]), ([0, 7], [0, 7]), ([8, 6, 0, 1, 2, 3, 4, 5, 6, 7, 8], [0, 8])])
def report_Text.B7 : List Nat := [0, 0, 0, 0, 12, 28, 62, 126, 255, 511]
theorem report_Text.tab7 : rtab .any (opsOf Tryd.f19 7) = report_Text.T7 := by kernel_rfl
theorem report_Text.bits7 : waitsOk report_Text.T7.2 report_Text.B7 = true := by kernel_rfl
set_option maxHeartbeats 8000000 in
set_option maxRecDepth 100000 in
theorem report_Text.calls (k : Nat) (A0 : Option Addr) (c0 : Nat) (l0 : List (S47)) (A1 : Option Addr) (c1 : Nat) (l1 : List (S51)) (r1 : ByteArray) (r2 : Int) (w : World) (hr0 : Kd.C k47 w A0 l0.length l0) (hc0 : l0.length ≤ c0) (hr1 : Kd.C k51 w A1 l1.length l1) (hc1 : l1.length ≤ c1) (ht_ : YtodifojhegbjaaaDoorTab.TabOK w) (h : report_Text.f k l0 l1 = some (r1, r2)) :
  Calls Tryd.prog 19 #[.slice A0 l0.length c0, .slice A1 l1.length c1] w fun e w' => e = .returned (.tuple #[.string r1, .int .i64 r2]) ∧ Below w.heap.size w w' := by
 have HT := Aside0.mk ht_
 clear ht_
 have hu47 := Tryd.underlying47
 have hu51 := Tryd.underlying51
 have HR0 := Aside0.mk hr0
 have HC0 := Aside0.mk hc0
 clear hr0 hc0
 have HR1 := Aside0.mk hr1
 have HC1 := Aside0.mk hc1
 clear hr1 hc1
 have HB := Aside0.mk (Below.refl w.heap.size w)
 have H : (if (l0.length : Int) = (l1.length : Int) then (report_Text.l0 k l1 (⟨#[]⟩ : ByteArray) l0 (l0.length : Int) 0) else (some ((⟨#[]⟩ : ByteArray), 1))) = some (r1, r2) := h
 clear h
 by_cases c3 : (l0.length : Int) = (l1.length : Int)
 ·rw [if_pos c3] at H
  have c3b0 : ((l0.length : Int) == (l1.length : Int)) = true := beq_iff_eq.mpr c3
  have c3b1 : ((l0.length : Int) != (l1.length : Int)) = false := bne_eq_false_iff_eq.mpr c3
  have c3b2 : (l0.length == l1.length) = true := by first | simpa using c3 | (simp at c3 ⊢; omega)
  clear c3
  have H' := Aside0.mk H
  clear H
  go_enter Tryd.func19, Tryd.ntmps19
  go_wp2
  go_loopg [6, 16] k (fun kq v6 v16 w' => ∃ (x6_1 : ByteArray) (x16_1 : Int), v6 = .string x6_1 ∧ v16 = .int .i64 x16_1 ∧ Aside0 (report_Text.l0 kq l1 x6_1 l0 (l0.length : Int) x16_1 = some (r1, r2)) ∧ Aside0 (kq ≤ k) ∧ Aside0 (Below w.heap.size w w'))
  case atStart => exact ⟨((⟨#[]⟩ : ByteArray)), (0), (by first | rfl | (simp only [YtodifojhegbjaaaDoorMpHelp.leq_not, YtodifojhegbjaaaDoorMpHelp.gtr_less]; done) | (simp; done) | (simp [*]; done)), (by first | rfl | (simp only [YtodifojhegbjaaaDoorMpHelp.leq_not, YtodifojhegbjaaaDoorMpHelp.gtr_less]; done) | (simp; done) | (simp [*]; done)), H', ⟨Nat.le_refl _⟩, ⟨by repeat (first | (with_reducible first | exact HB.out | apply below_alloc | apply pw_below_drewN | apply below_drew1) | exact HB.out)⟩⟩
  case round =>
   clear H'
   try clear c1
   try clear p2
   try clear c3
   try clear c3b0
   try clear c3b1
   try clear c3b2
   obtain ⟨x6_1, x16_1, rfl, rfl, HA, HK1, HB⟩ := hrel
   cases gk with
   | zero => exact absurd HA.out (by simp [report_Text.l0])
   | succ k1 =>
    have H := HA.out
    clear HA
    simp only [report_Text.l0] at H
    by_cases c4 : x16_1 < (l0.length : Int)
    ·rw [if_pos c4] at H
     have c4b0 : decide (x16_1 < (l0.length : Int)) = true := decide_eq_true c4
     clear c4
     by_cases c5 : 0 ≤ x16_1
     ·rw [if_pos c5] at H
      have c5b0 : decide (0 ≤ x16_1) = true := decide_eq_true c5
      clear c5
      by_cases c6 : x16_1 < (l0.length : Int)
      ·rw [if_pos c6] at H
       have c6b0 : decide (x16_1 < (l0.length : Int)) = true := decide_eq_true c6
       clear c6
       by_cases c7 : x16_1 < (l1.length : Int)
       ·rw [if_pos c7] at H
        have c7b0 : decide (x16_1 < (l1.length : Int)) = true := decide_eq_true c7
        clear c7
        replace H := Option.bind_eq_some_iff.mp H
        obtain ⟨t126, A80, H⟩ := H
        replace H : (if t126.size + 1 ≤ 9223372036854775807 then (if x6_1.size + (t126 ++ (⟨#[10]⟩ : ByteArray)).size ≤ 9223372036854775807 then (report_Text.l0 k1 l1 (x6_1 ++ (t126 ++ (⟨#[10]⟩ : ByteArray))) l0 (l0.length : Int) (wrap64 (x16_1 + 1))) else (none)) else (none)) = some (r1, r2) := H
        have A8 := Aside0.mk A80
        clear A80
        by_cases c9 : t126.size + 1 ≤ 9223372036854775807
        ·rw [if_pos c9] at H
         have c9b0 := eq_true c9
         have c9b1 : decide (t126.size + 1 ≤ 9223372036854775807) = true := decide_eq_true c9
         try have c9b2 : (9223372036854775807 < t126.size + 1) = False := eq_false (Nat.not_lt.2 c9)
         by_cases c10 : x6_1.size + (t126 ++ (⟨#[10]⟩ : ByteArray)).size ≤ 9223372036854775807
         ·rw [if_pos c10] at H
          have c10b0 := eq_true c10
          have c10b1 : decide (x6_1.size + (t126 ++ (⟨#[10]⟩ : ByteArray)).size ≤ 9223372036854775807) = true := decide_eq_true c10
          try have c10b2 : (9223372036854775807 < x6_1.size + (t126 ++ (⟨#[10]⟩ : ByteArray)).size) = False := eq_false (Nat.not_lt.2 c10)
          try (have c10b3 := c10; simp only [ByteArray.size_append, show ((⟨#[10]⟩ : ByteArray)).size = 1 from rfl] at c10b3; have c10b4 := eq_false (Nat.not_lt.2 c10b3))
          have H' := Aside0.mk H
          clear H
          have p123 : 0 ≤ (x16_1 : Int) := of_decide_eq_true (by first | (with_reducible assumption) | assumption)
          have q123 : x16_1 < (l0.length : Int) := of_decide_eq_true (by first | (with_reducible assumption) | assumption)
          obtain ⟨ad123, A123_2, c123_2, A123_4, c123_4, e123, hx123_0, hx123_1, hx123_2, hx123_3, hx123_4, hx123_5, hx123_6, hl123_2, hi123_2, hl123_4, hi123_4⟩ := at_T47 HR0.out x16_1 p123 q123
          cases e123
          replace hx123_0 := (HB.out.cell (World.block_lt_of_cell? w _ hx123_0)).trans hx123_0
          replace hx123_1 := (HB.out.cell (World.block_lt_of_cell? w _ hx123_1)).trans hx123_1
          replace hx123_2 := (HB.out.cell (World.block_lt_of_cell? w _ hx123_2)).trans hx123_2
          replace hx123_3 := (HB.out.cell (World.block_lt_of_cell? w _ hx123_3)).trans hx123_3
          replace hx123_4 := (HB.out.cell (World.block_lt_of_cell? w _ hx123_4)).trans hx123_4
          replace hx123_5 := (HB.out.cell (World.block_lt_of_cell? w _ hx123_5)).trans hx123_5
          replace hx123_6 := (HB.out.cell (World.block_lt_of_cell? w _ hx123_6)).trans hx123_6
          have HR123_2 := Aside0.mk hi123_2
          have HC123_2 := Aside0.mk hl123_2
          clear hi123_2 hl123_2
          have HR123_4 := Aside0.mk hi123_4
          have HC123_4 := Aside0.mk hl123_4
          clear hi123_4 hl123_4
          replace p123 := eq_true p123
          replace q123 := eq_true q123
          try go_wp2_with (first | ((with_reducible refine gate_dst (N := 8) rfl ?_); refine box_event ?hg (N := 8) ?hd (cs := #[.int .i64 0, .string (⟨#[]⟩ : ByteArray), .slice none 0 0, .int .i64 0, .slice none 0 0, .int .i64 0, .int .u8 0]) (t := 47) ?hr ?_; (case hd => rfl); (case hg => rfl); (case hr => first | (go_simp; done) | (go_simp; rfl)); intro gb124 hg w11 hbox hb; have n0_ := Aside0.mk (below_step (by repeat (first | (with_reducible first | exact HB.out | apply below_alloc | apply pw_below_drewN | apply below_drew1) | exact HB.out)) hb); have n1_ := Aside0.mk (hbox); have n2_ := Aside0.mk ((by rw [hg]; exact (below_size (by repeat (first | (with_reducible first | exact HB.out | apply below_alloc | apply pw_below_drewN | apply below_drew1) | exact HB.out))) : w.heap.size ≤ gb124)); have n3_ := Aside0.mk ((by rw [hg]; exact (below_size (by repeat (first | (with_reducible first | exact HB.out | apply below_alloc | apply pw_below_drewN | apply below_drew1) | exact HB.out))) : w.heap.size ≤ gb124)); clear HB; have HB := n0_; have BK124 := n1_; have GW124 := n2_; have GE124 := n3_; clear n0_ n1_ n2_ n3_; clear hb hbox hg; have hcz12_0 : w11.cell? ⟨gb124, 0, none⟩ = some (.int .i64 0) := (blk_cell BK124.out 0).trans rfl; have hcz12_1 : w11.cell? ⟨gb124, 1, none⟩ = some (.string (⟨#[]⟩ : ByteArray)) := (blk_cell BK124.out 1).trans rfl; have hcz12_2 : w11.cell? ⟨gb124, 2, none⟩ = some (.slice none 0 0) := (blk_cell BK124.out 2).trans rfl; have hcz12_3 : w11.cell? ⟨gb124, 3, none⟩ = some (.int .i64 0) := (blk_cell BK124.out 3).trans rfl; have hcz12_4 : w11.cell? ⟨gb124, 4, none⟩ = some (.slice none 0 0) := (blk_cell BK124.out 4).trans rfl; have hcz12_5 : w11.cell? ⟨gb124, 5, none⟩ = some (.int .i64 0) := (blk_cell BK124.out 5).trans rfl; have hcz12_6 : w11.cell? ⟨gb124, 6, none⟩ = some (.int .u8 0) := (blk_cell BK124.out 6).trans rfl; have hfz12_0 := blk_frozen BK124.out 0; have hfz12_1 := blk_frozen BK124.out 1; have hfz12_2 := blk_frozen BK124.out 2; have hfz12_3 := blk_frozen BK124.out 3; have hfz12_4 := blk_frozen BK124.out 4; have hfz12_5 := blk_frozen BK124.out 5; have hfz12_6 := blk_frozen BK124.out 6))
          have n0_ : Aside0 ((((((((w11.setCell ⟨gb124, 0, none⟩ (.int .i64 ((rd_T47 l0 x16_1).f0))).setCell ⟨gb124, 1, none⟩ (.string ((rd_T47 l0 x16_1).f1))).setCell ⟨gb124, 2, none⟩ (.slice A123_2 ((rd_T47 l0 x16_1).f2).length c123_2)).setCell ⟨gb124, 3, none⟩ (.int .i64 ((rd_T47 l0 x16_1).f3))).setCell ⟨gb124, 4, none⟩ (.slice A123_4 ((rd_T47 l0 x16_1).f4.f0).length c123_4)).setCell ⟨gb124, 5, none⟩ (.int .i64 ((rd_T47 l0 x16_1).f4.f1))).setCell ⟨gb124, 6, none⟩ (.int .u8 ((rd_T47 l0 x16_1).f4.f2))).heap[gb124]? = some (.cells #[.int .i64 ((rd_T47 l0 x16_1).f0), .string ((rd_T47 l0 x16_1).f1), .slice A123_2 ((rd_T47 l0 x16_1).f2).length c123_2, .int .i64 ((rd_T47 l0 x16_1).f3), .slice A123_4 ((rd_T47 l0 x16_1).f4.f0).length c123_4, .int .i64 ((rd_T47 l0 x16_1).f4.f1), .int .u8 ((rd_T47 l0 x16_1).f4.f2)] 47 (0, 0))) := ⟨by (with_reducible repeat (first | refine blk_drewN ?_ _ | refine blk_drew ?_ | refine blk_alloc ?_ _)); refine blk_put (cs := #[.int .i64 ((rd_T47 l0 x16_1).f0), .string ((rd_T47 l0 x16_1).f1), .slice A123_2 ((rd_T47 l0 x16_1).f2).length c123_2, .int .i64 ((rd_T47 l0 x16_1).f3), .slice A123_4 ((rd_T47 l0 x16_1).f4.f0).length c123_4, .int .i64 ((rd_T47 l0 x16_1).f4.f1), .int .u8 0]) ?_ 6 _ rfl; (with_reducible repeat (first | refine blk_drewN ?_ _ | refine blk_drew ?_ | refine blk_alloc ?_ _)); refine blk_put (cs := #[.int .i64 ((rd_T47 l0 x16_1).f0), .string ((rd_T47 l0 x16_1).f1), .slice A123_2 ((rd_T47 l0 x16_1).f2).length c123_2, .int .i64 ((rd_T47 l0 x16_1).f3), .slice A123_4 ((rd_T47 l0 x16_1).f4.f0).length c123_4, .int .i64 0, .int .u8 0]) ?_ 5 _ rfl; (with_reducible repeat (first | refine blk_drewN ?_ _ | refine blk_drew ?_ | refine blk_alloc ?_ _)); refine blk_put (cs := #[.int .i64 ((rd_T47 l0 x16_1).f0), .string ((rd_T47 l0 x16_1).f1), .slice A123_2 ((rd_T47 l0 x16_1).f2).length c123_2, .int .i64 ((rd_T47 l0 x16_1).f3), .slice none 0 0, .int .i64 0, .int .u8 0]) ?_ 4 _ rfl; (with_reducible repeat (first | refine blk_drewN ?_ _ | refine blk_drew ?_ | refine blk_alloc ?_ _)); refine blk_put (cs := #[.int .i64 ((rd_T47 l0 x16_1).f0), .string ((rd_T47 l0 x16_1).f1), .slice A123_2 ((rd_T47 l0 x16_1).f2).length c123_2, .int .i64 0, .slice none 0 0, .int .i64 0, .int .u8 0]) ?_ 3 _ rfl; (with_reducible repeat (first | refine blk_drewN ?_ _ | refine blk_drew ?_ | refine blk_alloc ?_ _)); refine blk_put (cs := #[.int .i64 ((rd_T47 l0 x16_1).f0), .string ((rd_T47 l0 x16_1).f1), .slice none 0 0, .int .i64 0, .slice none 0 0, .int .i64 0, .int .u8 0]) ?_ 2 _ rfl; (with_reducible repeat (first | refine blk_drewN ?_ _ | refine blk_drew ?_ | refine blk_alloc ?_ _)); refine blk_put (cs := #[.int .i64 ((rd_T47 l0 x16_1).f0), .string (⟨#[]⟩ : ByteArray), .slice none 0 0, .int .i64 0, .slice none 0 0, .int .i64 0, .int .u8 0]) ?_ 1 _ rfl; (with_reducible repeat (first | refine blk_drewN ?_ _ | refine blk_drew ?_ | refine blk_alloc ?_ _)); refine blk_put (cs := #[.int .i64 0, .string (⟨#[]⟩ : ByteArray), .slice none 0 0, .int .i64 0, .slice none 0 0, .int .i64 0, .int .u8 0]) ?_ 0 _ rfl; (with_reducible repeat (first | refine blk_drewN ?_ _ | refine blk_drew ?_ | refine blk_alloc ?_ _)); exact BK124.out⟩
          have n1_ : Aside0 (Below w.heap.size w (((((((w11.setCell ⟨gb124, 0, none⟩ (.int .i64 ((rd_T47 l0 x16_1).f0))).setCell ⟨gb124, 1, none⟩ (.string ((rd_T47 l0 x16_1).f1))).setCell ⟨gb124, 2, none⟩ (.slice A123_2 ((rd_T47 l0 x16_1).f2).length c123_2)).setCell ⟨gb124, 3, none⟩ (.int .i64 ((rd_T47 l0 x16_1).f3))).setCell ⟨gb124, 4, none⟩ (.slice A123_4 ((rd_T47 l0 x16_1).f4.f0).length c123_4)).setCell ⟨gb124, 5, none⟩ (.int .i64 ((rd_T47 l0 x16_1).f4.f1))).setCell ⟨gb124, 6, none⟩ (.int .u8 ((rd_T47 l0 x16_1).f4.f2)))) := ⟨by repeat (first | (with_reducible first | exact HB.out | apply below_alloc | apply pw_below_drewN | apply below_drew1 | refine below_set ?_ GE124.out) | exact HB.out)⟩
          (try clear BK124)
          (try clear HB)
          generalize (((((((w11.setCell ⟨gb124, 0, none⟩ (.int .i64 ((rd_T47 l0 x16_1).f0))).setCell ⟨gb124, 1, none⟩ (.string ((rd_T47 l0 x16_1).f1))).setCell ⟨gb124, 2, none⟩ (.slice A123_2 ((rd_T47 l0 x16_1).f2).length c123_2)).setCell ⟨gb124, 3, none⟩ (.int .i64 ((rd_T47 l0 x16_1).f3))).setCell ⟨gb124, 4, none⟩ (.slice A123_4 ((rd_T47 l0 x16_1).f4.f0).length c123_4)).setCell ⟨gb124, 5, none⟩ (.int .i64 ((rd_T47 l0 x16_1).f4.f1))).setCell ⟨gb124, 6, none⟩ (.int .u8 ((rd_T47 l0 x16_1).f4.f2))) = w13 at n0_ n1_ ⊢
          have BK124 := n0_
          have HB := n1_
          clear n0_ n1_
          have n0_ := Aside0.mk (blk_drew BK124.out)
          have n1_ := Aside0.mk (below_drew1 HB.out)
          clear BK124
          clear HB
          have BK124 := n0_
          have HB := n1_
          clear n0_ n1_
          have p125 : 0 ≤ (x16_1 : Int) := of_decide_eq_true (by first | (with_reducible assumption) | assumption)
          have q125 : x16_1 < (l1.length : Int) := of_decide_eq_true (by first | (with_reducible assumption) | assumption)
          obtain ⟨ad125, A125_1, c125_1, A125_3, c125_3, A125_4, c125_4, e125, hx125_0, hx125_1, hx125_2, hx125_3, hx125_4, hx125_5, hx125_6, hl125_1, hi125_1, hl125_3, hi125_3, hl125_4, hi125_4⟩ := at_T51 HR1.out x16_1 p125 q125
          have hw125_6 := hx125_6
          have hw125_5 := hx125_5
          have hw125_4 := hx125_4
          have hw125_3 := hx125_3
          have hw125_2 := hx125_2
          have hw125_1 := hx125_1
          have hw125_0 := hx125_0
          cases e125
          replace hx125_0 := (HB.out.cell (World.block_lt_of_cell? w _ hx125_0)).trans hx125_0
          replace hx125_1 := (HB.out.cell (World.block_lt_of_cell? w _ hx125_1)).trans hx125_1
          replace hx125_2 := (HB.out.cell (World.block_lt_of_cell? w _ hx125_2)).trans hx125_2
          replace hx125_3 := (HB.out.cell (World.block_lt_of_cell? w _ hx125_3)).trans hx125_3
          replace hx125_4 := (HB.out.cell (World.block_lt_of_cell? w _ hx125_4)).trans hx125_4
          replace hx125_5 := (HB.out.cell (World.block_lt_of_cell? w _ hx125_5)).trans hx125_5
          replace hx125_6 := (HB.out.cell (World.block_lt_of_cell? w _ hx125_6)).trans hx125_6
          have HR125_1 := Aside0.mk hi125_1
          have HC125_1 := Aside0.mk hl125_1
          clear hi125_1 hl125_1
          have HR125_3 := Aside0.mk hi125_3
          have HC125_3 := Aside0.mk hl125_3
          clear hi125_3 hl125_3
          have HR125_4 := Aside0.mk hi125_4
          have HC125_4 := Aside0.mk hl125_4
          clear hi125_4 hl125_4
          replace p125 := eq_true p125
          replace q125 := eq_true q125
          refine start_ (n := 10) (S := fun w' => w'.cell? ⟨gb124, 0, none⟩ = some (.int .i64 ((rd_T47 l0 x16_1).f0)) ∧ w'.cell? ⟨gb124, 1, none⟩ = some (.string ((rd_T47 l0 x16_1).f1)) ∧ w'.cell? ⟨gb124, 2, none⟩ = some (.slice A123_2 ((rd_T47 l0 x16_1).f2).length c123_2) ∧ w'.cell? ⟨gb124, 3, none⟩ = some (.int .i64 ((rd_T47 l0 x16_1).f3)) ∧ w'.cell? ⟨gb124, 4, none⟩ = some (.slice A123_4 ((rd_T47 l0 x16_1).f4.f0).length c123_4) ∧ w'.cell? ⟨gb124, 5, none⟩ = some (.int .i64 ((rd_T47 l0 x16_1).f4.f1)) ∧ w'.cell? ⟨gb124, 6, none⟩ = some (.int .u8 ((rd_T47 l0 x16_1).f4.f2)) ∧ w'.cell? (ad125.add ((x16_1).toNat * 7)) = some (.int .i64 ((rd_T51 l1 x16_1).f0)) ∧ w'.cell? ⟨(ad125.add ((x16_1).toNat * 7)).block, (ad125.add ((x16_1).toNat * 7)).off + 1, none⟩ = some (.slice A125_1 ((rd_T51 l1 x16_1).f1).length c125_1) ∧ w'.cell? ⟨(ad125.add ((x16_1).toNat * 7)).block, (ad125.add ((x16_1).toNat * 7)).off + 2, none⟩ = some (.int .i64 ((rd_T51 l1 x16_1).f2)) ∧ w'.cell? ⟨(ad125.add ((x16_1).toNat * 7)).block, (ad125.add ((x16_1).toNat * 7)).off + 3, none⟩ = some (.slice A125_3 ((rd_T51 l1 x16_1).f3).length c125_3) ∧ w'.cell? ⟨(ad125.add ((x16_1).toNat * 7)).block, (ad125.add ((x16_1).toNat * 7)).off + 4, none⟩ = some (.slice A125_4 ((rd_T51 l1 x16_1).f4).length c125_4) ∧ w'.cell? ⟨(ad125.add ((x16_1).toNat * 7)).block, (ad125.add ((x16_1).toNat * 7)).off + 5, none⟩ = some (.bool ((rd_T51 l1 x16_1).f5)) ∧ w'.cell? ⟨(ad125.add ((x16_1).toNat * 7)).block, (ad125.add ((x16_1).toNat * 7)).off + 6, none⟩ = some (.bool ((rd_T51 l1 x16_1).f6))) (ds := []) #[false, false, false, false, false, false, false, false, false, false] (by kernel_rfl) rfl rfl ⟨(blk_cell BK124.out 0).trans rfl, (blk_cell BK124.out 1).trans rfl, (blk_cell BK124.out 2).trans rfl, (blk_cell BK124.out 3).trans rfl, (blk_cell BK124.out 4).trans rfl, (blk_cell BK124.out 5).trans rfl, (blk_cell BK124.out 6).trans rfl, ((HB.out.cell (World.block_lt_of_cell? w _ hw125_0)).trans hw125_0), ((HB.out.cell (World.block_lt_of_cell? w _ hw125_1)).trans hw125_1), ((HB.out.cell (World.block_lt_of_cell? w _ hw125_2)).trans hw125_2), ((HB.out.cell (World.block_lt_of_cell? w _ hw125_3)).trans hw125_3), ((HB.out.cell (World.block_lt_of_cell? w _ hw125_4)).trans hw125_4), ((HB.out.cell (World.block_lt_of_cell? w _ hw125_5)).trans hw125_5), ((HB.out.cell (World.block_lt_of_cell? w _ hw125_6)).trans hw125_6)⟩ (fun hHeld => ?_); refine with_tabW report_Text.tab7 report_Text.bits7 (fun HT_ HW_ => ?_)
          generalize w13.drew = w14 at BK124 HB HR125_1 HR125_3 HR125_4 hx125_0 hx125_1 hx125_2 hx125_3 hx125_4 hx125_5 hx125_6 hHeld ⊢
          refine pure_ (i := 0) (N := some 21) (v := ?_) (a' := ?_) #[true, false, false, false, false, false, false, false, false, false] rfl rfl (any_of HT_.out (by kernel_rfl)) (fun _ _ _ h => h) (Or.inl ⟨by rfl, ?_⟩) ?_ ?_
          rotate_left
          ·intro w'
           go_simp
           with_reducible rfl
          rotate_left
          ·simp only [Act.put, List.setIfInBounds_toArray, List.set_cons_zero, List.set_cons_succ, i64_w, i32_w]
           rfl
          refine pure_ (i := 2) (N := some 23) (v := ?_) (a' := ?_) #[true, false, true, false, false, false, false, false, false, false] rfl rfl (any_of HT_.out (by kernel_rfl)) (fun _ _ _ h => h) (Or.inl ⟨by rfl, ?_⟩) ?_ ?_
          rotate_left
          ·intro w'
           go_simp
           with_reducible rfl
          rotate_left
          ·simp only [Act.put, List.setIfInBounds_toArray, List.set_cons_zero, List.set_cons_succ, i64_w, i32_w]
           rfl
          refine pure_ (i := 3) (N := some 24) (v := ?_) (a' := ?_) #[true, false, true, true, false, false, false, false, false, false] rfl rfl (any_of HT_.out (by kernel_rfl)) (fun _ _ _ h => h) (Or.inl ⟨by rfl, ?_⟩) ?_ ?_
          rotate_left
          ·intro w'
           go_simp
           with_reducible rfl
          rotate_left
          ·simp only [Act.put, List.setIfInBounds_toArray, List.set_cons_zero, List.set_cons_succ, i64_w, i32_w]
           rfl
          refine pure_ (i := 4) (N := some 25) (v := ?_) (a' := ?_) #[true, false, true, true, true, false, false, false, false, false] rfl rfl (any_of HT_.out (by kernel_rfl)) (fun _ _ _ h => h) (Or.inl ⟨by rfl, ?_⟩) ?_ ?_
          rotate_left
          ·intro w'
           go_simp
           with_reducible rfl
          rotate_left
          ·simp only [Act.put, List.setIfInBounds_toArray, List.set_cons_zero, List.set_cons_succ, i64_w, i32_w]
           rfl
          refine take_ (i := 1) (N := some 22) (v := ?_) (a' := ?_) #[true, true, true, true, true, false, false, false, false, false] rfl rfl (take_ofW HT_.out HW_.out (by kernel_rfl)) (fun _ _ _ h => h) (Or.inl ⟨by rfl, ?_⟩) hHeld ?_ ?_
          rotate_left
          ·rintro w' ⟨s0, s1, s2, s3, s4, s5, s6, s7, s8, s9, s10, s11, s12, s13⟩
           go_simp
           with_reducible rfl
          rotate_left
          ·simp only [Act.put, List.setIfInBounds_toArray, List.set_cons_zero, List.set_cons_succ, i64_w, i32_w]
           rfl
          refine take_ (i := 5) (N := some 26) (v := ?_) (a' := ?_) #[true, true, true, true, true, true, false, false, false, false] rfl rfl (take_ofW HT_.out HW_.out (by kernel_rfl)) (fun _ _ _ h => h) (Or.inl ⟨by rfl, ?_⟩) hHeld ?_ ?_
          rotate_left
          ·rintro w' ⟨s0, s1, s2, s3, s4, s5, s6, s7, s8, s9, s10, s11, s12, s13⟩
           go_simp
           with_reducible rfl
          rotate_left
          ·simp only [Act.put, List.setIfInBounds_toArray, List.set_cons_zero, List.set_cons_succ, i64_w, i32_w]
           rfl
          refine one_ (i := 6) (N := some 27) #[true, true, true, true, true, true, true, false, false, false] rfl rfl (one_of HT_.out (by kernel_rfl)) (by decide) (fun K hK => ?_)
          refine goes_ Tryd.func17 (by kernel_rfl) rfl #[.agg #[.int .i64 ((rd_T47 l0 x16_1).f0), .string ((rd_T47 l0 x16_1).f1), .slice A123_2 ((rd_T47 l0 x16_1).f2).length c123_2, .int .i64 ((rd_T47 l0 x16_1).f3), .slice A123_4 ((rd_T47 l0 x16_1).f4.f0).length c123_4, .int .i64 ((rd_T47 l0 x16_1).f4.f1), .int .u8 ((rd_T47 l0 x16_1).f4.f2)], .agg #[.int .i64 ((rd_T51 l1 x16_1).f0), .slice A125_1 ((rd_T51 l1 x16_1).f1).length c125_1, .int .i64 ((rd_T51 l1 x16_1).f2), .slice A125_3 ((rd_T51 l1 x16_1).f3).length c125_3, .slice A125_4 ((rd_T51 l1 x16_1).f4).length c125_4, .bool ((rd_T51 l1 x16_1).f5), .bool ((rd_T51 l1 x16_1).f6)]] (by rfl) rfl rfl (by (try simp only [List.map_toArray, List.map_cons, List.map_nil]); first | done | rfl | (simp only [List.length_drop, List.length_take]; rfl)) ?_
          with_reducible refine (report_Line.calls k1 ((rd_T47 l0 x16_1).f0) ((rd_T47 l0 x16_1).f1) _ _ ((rd_T47 l0 x16_1).f2) ((rd_T47 l0 x16_1).f3) _ _ ((rd_T47 l0 x16_1).f4.f0) ((rd_T47 l0 x16_1).f4.f1) ((rd_T47 l0 x16_1).f4.f2) ((rd_T51 l1 x16_1).f0) _ _ ((rd_T51 l1 x16_1).f1) ((rd_T51 l1 x16_1).f2) _ _ ((rd_T51 l1 x16_1).f3) _ _ ((rd_T51 l1 x16_1).f4) ((rd_T51 l1 x16_1).f5) ((rd_T51 l1 x16_1).f6) t126 _ ?side1 ?side2 ?side3 ?side4 ?side5 ?side6 ?side7 ?side8 ?side9 ?side10 ?side11 A8.out).mono ?_
          (case side1 => repeat (first | exact (Kd.C_below HR123_2.out HB.out) | (with_reducible refine Kd.C_alloc ?_ _) | (with_reducible refine Kd.C_drewN ?_ _) | (with_reducible refine Kd.C_drew ?_)))
          (case side2 => exact HC123_2.out)
          (case side3 => repeat (first | exact (Kd.C_below HR123_4.out HB.out) | (with_reducible refine Kd.C_alloc ?_ _) | (with_reducible refine Kd.C_drewN ?_ _) | (with_reducible refine Kd.C_drew ?_)))
          (case side4 => exact HC123_4.out)
          (case side5 => repeat (first | exact (Kd.C_below HR125_1.out HB.out) | (with_reducible refine Kd.C_alloc ?_ _) | (with_reducible refine Kd.C_drewN ?_ _) | (with_reducible refine Kd.C_drew ?_)))
          (case side6 => exact HC125_1.out)
          (case side7 => repeat (first | exact (Kd.C_below HR125_3.out HB.out) | (with_reducible refine Kd.C_alloc ?_ _) | (with_reducible refine Kd.C_drewN ?_ _) | (with_reducible refine Kd.C_drew ?_)))
          (case side8 => exact HC125_3.out)
          (case side9 => repeat (first | exact (Kd.C_below HR125_4.out HB.out) | (with_reducible refine Kd.C_alloc ?_ _) | (with_reducible refine Kd.C_drewN ?_ _) | (with_reducible refine Kd.C_drew ?_)))
          (case side10 => exact HC125_4.out)
          (case side11 => exact YtodifojhegbjaaaDoorTab.tab_below HT.out (by repeat (first | (with_reducible first | exact HB.out | apply below_alloc | apply pw_below_drewN | apply below_drew1 | refine below_set ?_ GE124.out) | exact HB.out)))
          rintro e w15 ⟨rfl, hb⟩
          refine ⟨_, rfl, ?_⟩
          have n0_ := Aside0.mk (blk_below (g := gb124) (o := .cells #[.int .i64 ((rd_T47 l0 x16_1).f0), .string ((rd_T47 l0 x16_1).f1), .slice A123_2 ((rd_T47 l0 x16_1).f2).length c123_2, .int .i64 ((rd_T47 l0 x16_1).f3), .slice A123_4 ((rd_T47 l0 x16_1).f4.f0).length c123_4, .int .i64 ((rd_T47 l0 x16_1).f4.f1), .int .u8 ((rd_T47 l0 x16_1).f4.f2)] 47 (0, 0)) (by (with_reducible repeat (first | refine blk_drewN ?_ _ | refine blk_drew ?_ | refine blk_alloc ?_ _)); exact BK124.out) hb)
          have n1_ := Aside0.mk (below_step (by repeat (first | (with_reducible first | exact HB.out | apply below_alloc | apply pw_below_drewN | apply below_drew1 | refine below_set ?_ GE124.out) | exact HB.out)) hb)
          clear BK124
          clear HB
          have BK124 := n0_
          have HB := n1_
          clear n0_ n1_
          (try clear hb)
          (try clear hb2)
          (try clear hk)
          (try clear hi)
          refine hK.out _ _ ⟨(blk_cell BK124.out 0).trans rfl, (blk_cell BK124.out 1).trans rfl, (blk_cell BK124.out 2).trans rfl, (blk_cell BK124.out 3).trans rfl, (blk_cell BK124.out 4).trans rfl, (blk_cell BK124.out 5).trans rfl, (blk_cell BK124.out 6).trans rfl, ((HB.out.cell (World.block_lt_of_cell? w _ hw125_0)).trans hw125_0), ((HB.out.cell (World.block_lt_of_cell? w _ hw125_1)).trans hw125_1), ((HB.out.cell (World.block_lt_of_cell? w _ hw125_2)).trans hw125_2), ((HB.out.cell (World.block_lt_of_cell? w _ hw125_3)).trans hw125_3), ((HB.out.cell (World.block_lt_of_cell? w _ hw125_4)).trans hw125_4), ((HB.out.cell (World.block_lt_of_cell? w _ hw125_5)).trans hw125_5), ((HB.out.cell (World.block_lt_of_cell? w _ hw125_6)).trans hw125_6)⟩ (fun hHeld => ?_)
          clear hK K
          refine norm_ (a' := ?_) ?_ ?_
          rotate_left
          ·show Act.put _ (some 27) _ = _
           simp only [Act.put, List.setIfInBounds_toArray, List.set_cons_zero, List.set_cons_succ, i64_w, i32_w]
           rfl
          refine pure_ (i := 7) (N := some 28) (v := ?_) (a' := ?_) #[true, true, true, true, true, true, true, true, false, false] rfl rfl (any_of HT_.out (by kernel_rfl)) (fun _ _ _ h => h) (Or.inl ⟨by rfl, ?_⟩) ?_ ?_
          rotate_left
          ·intro w'
           go_simp
           with_reducible rfl
          rotate_left
          ·simp only [Act.put, List.setIfInBounds_toArray, List.set_cons_zero, List.set_cons_succ, i64_w, i32_w]
           rfl
          refine pure_ (i := 8) (N := some 29) (v := ?_) (a' := ?_) #[true, true, true, true, true, true, true, true, true, false] rfl rfl (any_of HT_.out (by kernel_rfl)) (fun _ _ _ h => h) (Or.inl ⟨by rfl, ?_⟩) ?_ ?_
          rotate_left
          ·intro w'
           go_simp
           with_reducible rfl
          rotate_left
          ·simp only [Act.put, List.setIfInBounds_toArray, List.set_cons_zero, List.set_cons_succ, i64_w, i32_w]
           rfl
          refine pure_ (i := 9) (N := some 6) (v := ?_) (a' := ?_) #[true, true, true, true, true, true, true, true, true, true] rfl rfl (any_of HT_.out (by kernel_rfl)) (fun _ _ _ h => h) (Or.inl ⟨by rfl, ?_⟩) ?_ ?_
          rotate_left
          ·intro w'
           go_simp
           with_reducible rfl
          rotate_left
          ·simp only [Act.put, List.setIfInBounds_toArray, List.set_cons_zero, List.set_cons_succ, i64_w, i32_w]
           rfl
          refine done_ (done_of HT_.out (by kernel_rfl)) ?_
          try go_wp2
          go_roundg k1
          case measure => have := HK1.out; omega
          case rel => exact ⟨(x6_1 ++ (t126 ++ (⟨#[10]⟩ : ByteArray))), (wrap64 (x16_1 + 1)), (by first | rfl | (simp only [YtodifojhegbjaaaDoorMpHelp.leq_not, YtodifojhegbjaaaDoorMpHelp.gtr_less]; done) | (simp; done) | (simp [*]; done)), (by first | rfl | (simp only [YtodifojhegbjaaaDoorMpHelp.leq_not, YtodifojhegbjaaaDoorMpHelp.gtr_less]; done) | (simp; done) | (simp [*]; done)), H', ⟨by have := HK1.out; omega⟩, ⟨by repeat (first | (with_reducible first | exact HB.out | apply below_alloc | apply pw_below_drewN | apply below_drew1 | refine below_set ?_ GE124.out) | exact HB.out)⟩⟩
         ·rw [if_neg c10] at H
          exact absurd H (by simp)
        ·rw [if_neg c9] at H
         exact absurd H (by simp)
       ·rw [if_neg c7] at H
        exact absurd H (by simp)
      ·rw [if_neg c6] at H
       exact absurd H (by simp)
     ·rw [if_neg c5] at H
      exact absurd H (by simp)
    ·rw [if_neg c4] at H
     have c4b0 : decide (x16_1 < (l0.length : Int)) = false := decide_eq_false c4
     clear c4
     simp only [Option.some.injEq, Prod.mk.injEq] at H
     obtain ⟨rfl, rfl⟩ := H
     go_wp2
     go_ret2
     exact ⟨by first | rfl | (simp [errW_none, errW_some] <;> rfl) | (simp [*, errW_none, errW_some] <;> rfl), by repeat (first | (with_reducible first | exact HB.out | apply below_alloc | apply pw_below_drewN | apply below_drew1) | exact HB.out)⟩
 ·rw [if_neg c3] at H
  have c3b0 : ((l0.length : Int) == (l1.length : Int)) = false := beq_eq_false_iff_ne.mpr c3
  have c3b1 : ((l0.length : Int) != (l1.length : Int)) = true := bne_iff_ne.mpr c3
  have c3b2 : (l0.length == l1.length) = false := by first | simpa using c3 | (simp at c3 ⊢; omega)
  simp only [Option.some.injEq, Prod.mk.injEq] at H
  obtain ⟨rfl, rfl⟩ := H
  go_enter Tryd.func19, Tryd.ntmps19
  go_wp2
  go_ret2
  exact ⟨by first | rfl | (simp [errW_none, errW_some] <;> rfl) | (simp [*, errW_none, errW_some] <;> rfl), by repeat (first | (with_reducible first | exact HB.out | apply below_alloc | apply pw_below_drewN | apply below_drew1) | exact HB.out)⟩

/-! ### bindlelaw33_ReportCounts: function 6 (told by hand) -/
def bindlelaw33_ReportCounts.W (j : Int) : ByteArray := (report_Word.f j).getD ⟨#[]⟩
def bindlelaw33_ReportCounts.Cd (j : Int) : ByteArray := (report_Code.f j).getD ⟨#[]⟩
/-- The words and codes answer as they should. -/
def bindlelaw33_ReportCounts.WC (j q : Int) : Prop := (1 ≤ j ∧ j ≤ 18 → report_Kind.f (bindlelaw33_ReportCounts.W j) = some j) ∧ (j ≠ q ∧ (bindlelaw33_ReportCounts.W j).toList = (bindlelaw33_ReportCounts.W q).toList → (bindlelaw33_ReportCounts.W j).toList = (bindlelaw33_ReportCounts.W 0).toList) ∧ (0 ≤ j ∧ j ≤ 16 → report_Error.f (bindlelaw33_ReportCounts.Cd j) = some (j, true))
instance (j q : Int) : Decidable (bindlelaw33_ReportCounts.WC j q) := by unfold bindlelaw33_ReportCounts.WC; exact inferInstance
/-- The first n kinds summed up. -/
def bindlelaw33_ReportCounts.sumK (xs : List Int) : Nat → Int
  | 0 => 0
  | i + 1 => wrap64 (bindlelaw33_ReportCounts.sumK xs i + report_Sum.at_ xs (4 + i))
/-- The lines among the first n bytes. -/
def bindlelaw33_ReportCounts.linesTo (t : ByteArray) : Nat → Int
  | 0 => 0
  | i + 1 => if bt t (i : Int) = 10 then wrap64 (bindlelaw33_ReportCounts.linesTo t i + 1) else bindlelaw33_ReportCounts.linesTo t i
def bindlelaw33_ReportCounts.f (k : Nat) (l0 : List S66) (j q : Int) : Option Bool := (bindlelaw33_great.f k l0).bind fun t => if t = true then bindlelaw33_lives.f k else (bindlelaw33_parts.f k l0).bind fun p => (report_Text.f k p.1 p.2).bind fun x => if bindlelaw33_ReportCounts.WC j q ∧ p.1.length = l0.length ∧ p.2.length = l0.length ∧ l0.length ≤ 1000000 ∧ x.1.size ≤ 140737488351232 ∧ x.2 = 0 ∧ bindlelaw33_ReportCounts.sumK (report_Sum.sumTo p.1 p.2 p.1.length) 19 = (l0.length : Int) ∧ report_Sum.at_ (report_Sum.sumTo p.1 p.2 p.1.length) 0 = (l0.length : Int) ∧ bindlelaw33_ReportCounts.linesTo x.1 x.1.size = (l0.length : Int) ∧ (report_Sum.sumTo p.1 p.2 p.1.length).length = 40 then bindlelaw33_lives.f k else none
theorem bindlelaw33_ReportCounts.below2 {b : Nat} {w w1 w2 : World} (h : Below b w w1) (hb : b ≤ w1.heap.size) (h2 : Below w1.heap.size w1 w2) : Below b w w2 := h.trans (h2.mono hb)
set_option maxRecDepth 100000 in
set_option maxHeartbeats 4000000 in
theorem bindlelaw33_ReportCounts.calls (k : Nat) (A0 : Option Addr) (c0 : Nat) (l0 : List S66) (a1 a2 : Int) (r : Bool) (w : World) (hr0 : Kd.C k66 w A0 l0.length l0) (hc0 : l0.length ≤ c0) (ht_ : YtodifojhegbjaaaDoorTab.TabOK w) (h : bindlelaw33_ReportCounts.f k l0 a1 a2 = some r) :
    Calls Tryd.prog 6 #[.slice A0 l0.length c0, .int .i64 a1, .int .i64 a2] w fun e w' => e = .returned (.bool r) ∧ Below w.heap.size w w' := by
  unfold bindlelaw33_ReportCounts.f at h
  cases hg : bindlelaw33_great.f k l0 with
  | none => rw [hg] at h; cases h
  | some t =>
    rw [hg, Option.bind_some] at h
    have HG := Aside0.mk hg
    have HT := Aside0.mk ht_
    have HR0 := Aside0.mk hr0
    have HC0 := Aside0.mk hc0
    clear hg ht_ hr0 hc0
    cases t with
    | true =>
      rw [if_pos rfl] at h
      have HL := Aside0.mk h
      clear h
      go_enter Tryd.func6, Tryd.ntmps6
      go_wp2_with (first | (go_at_call 14; refine (bindlelaw33_great.calls k _ _ l0 true _ HR0.out HC0.out HG.out).mono ?_; rintro e w1 ⟨rfl, hd1⟩; have HB1 := Aside0.mk hd1.below; clear hd1) | (go_at_call 13; refine (bindlelaw33_lives.calls k r _ (YtodifojhegbjaaaDoorTab.tab_below HT.out HB1.out) HL.out).mono ?_; rintro e w2 ⟨rfl, hb2⟩) | fail)
      go_ret
      exact ⟨rfl, HB1.out.trans (hb2.mono HB1.out.size)⟩
    | false =>
      rw [if_neg (by decide)] at h
      cases hp : bindlelaw33_parts.f k l0 with
      | none => rw [hp] at h; cases h
      | some p =>
        obtain ⟨o, a⟩ := p
        rw [hp, Option.bind_some] at h
        dsimp only at h
        cases hx : report_Text.f k o a with
        | none => rw [hx] at h; cases h
        | some x =>
          obtain ⟨tx, te⟩ := x
          rw [hx, Option.bind_some] at h
          dsimp only at h
          by_cases hc : bindlelaw33_ReportCounts.WC a1 a2 ∧ o.length = l0.length ∧ a.length = l0.length ∧ l0.length ≤ 1000000 ∧ tx.size ≤ 140737488351232 ∧ te = 0 ∧ bindlelaw33_ReportCounts.sumK (report_Sum.sumTo o a o.length) 19 = (l0.length : Int) ∧ report_Sum.at_ (report_Sum.sumTo o a o.length) 0 = (l0.length : Int) ∧ bindlelaw33_ReportCounts.linesTo tx tx.size = (l0.length : Int) ∧ (report_Sum.sumTo o a o.length).length = 40
          case neg => rw [if_neg hc] at h; cases h
          rw [if_pos hc] at h
          have HL := Aside0.mk h
          have HP := Aside0.mk hp
          have HTX := Aside0.mk hx
          obtain ⟨⟨hw1, hw2, hw3⟩, ho, ha, hm, hts, rfl, hsk, hs0, hln, hl40⟩ := hc
          have HSUM := Aside0.mk (show report_Sum.f o a = some (.agg (report_Sum.cs (report_Sum.sumTo o a o.length)), 0) by unfold report_Sum.f; rw [if_pos (by omega), if_pos (by omega)])
          have HW1 := Aside0.mk hw1
          have HW2 := Aside0.mk hw2
          have HW3 := Aside0.mk hw3
          have HO := Aside0.mk ho
          have HA := Aside0.mk ha
          have HM := Aside0.mk hm
          have HTS := Aside0.mk hts
          have HSK := Aside0.mk hsk
          have HS0 := Aside0.mk hs0
          have HLN := Aside0.mk hln
          have HL40 := Aside0.mk hl40
          have HWJ := Aside0.mk (show report_Word.f a1 = some (bindlelaw33_ReportCounts.W a1) from rfl)
          have HWQ := Aside0.mk (show report_Word.f a2 = some (bindlelaw33_ReportCounts.W a2) from rfl)
          have HW0 := Aside0.mk (show report_Word.f 0 = some (bindlelaw33_ReportCounts.W 0) from rfl)
          have HCJ := Aside0.mk (show report_Code.f a1 = some (bindlelaw33_ReportCounts.Cd a1) from rfl)
          clear h hp hx hw1 hw2 hw3 ho ha hm hts hsk hs0 hln hl40
          generalize bindlelaw33_ReportCounts.W a1 = wj at HW1 HW2 HWJ
          generalize bindlelaw33_ReportCounts.W a2 = wq at HW2 HWQ
          generalize bindlelaw33_ReportCounts.W 0 = wz at HW2 HW0
          generalize bindlelaw33_ReportCounts.Cd a1 = cj at HW3 HCJ
          go_enter Tryd.func6, Tryd.ntmps6
          go_upto_region 3 with (first | (go_at_call 14; refine (bindlelaw33_great.calls k _ _ l0 false _ HR0.out HC0.out HG.out).mono ?_; rintro e w1 ⟨rfl, hd1⟩; have HX := Aside0.mk hd1.below; clear hd1) | fail)
          go_cut [34] (fun v34 wc => v34 = .bool false ∧ Aside0 (Below w.heap.size w wc))
          case first =>
            by_cases h1 : 1 ≤ a1
            · have d1 : decide (1 ≤ a1) = true := decide_eq_true h1
              by_cases h2 : a1 ≤ 18
              · have d2 : decide (a1 ≤ 18) = true := decide_eq_true h2
                have HK := Aside0.mk (HW1.out ⟨h1, h2⟩)
                go_wp2_with (first
                  | (go_at_call 7; (with_reducible refine (report_Word.calls a1 wj _ HWJ.out).mono ?_); rintro e wa ⟨rfl, hba⟩; replace HX := Aside0.mk (bindlelaw33_ReportCounts.below2 HX.out HX.out.size hba); clear hba)
                  | (go_at_call 12; (with_reducible refine (report_Kind.calls wj a1 _ HK.out).mono ?_); rintro e wb ⟨rfl, hbb⟩; replace HX := Aside0.mk (bindlelaw33_ReportCounts.below2 HX.out HX.out.size hbb); clear hbb)
                  | fail)
                go_meet
                case rel => exact ⟨by simp, HX⟩
              · have d2 : decide (a1 ≤ 18) = false := decide_eq_false h2
                go_wp2_with fail
                go_meet
                case rel => exact ⟨rfl, HX⟩
            · have d1 : decide (1 ≤ a1) = false := decide_eq_false h1
              go_wp2_with fail
              go_meet
              case rel => exact ⟨rfl, HX⟩
          case rest =>
            clear HX
            obtain ⟨rfl, HX⟩ := hcut
            go_upto_region 5 with (fail)
            go_cut [50] (fun v50 wc => v50 = .bool false ∧ Aside0 (Below w.heap.size w wc))
            case first =>
              by_cases h1 : a1 = a2
              · have d1 : (a1 != a2) = false := bne_eq_false_iff_eq.mpr h1
                have d2 : (a1 == a2) = true := beq_iff_eq.mpr h1
                clear h1
                go_wp2_with fail
                go_meet
                case rel => exact ⟨by simp [d1], HX⟩
              · have d1 : (a1 != a2) = true := bne_iff_ne.mpr h1
                have d2 : (a1 == a2) = false := beq_eq_false_iff_ne.mpr h1
                by_cases h2 : wj.toList = wq.toList
                · have e1 : (wj.toList == wq.toList) = true := beq_iff_eq.mpr h2
                  have e2 : (wj.toList != wz.toList) = false := bne_eq_false_iff_eq.mpr (HW2.out ⟨h1, h2⟩)
                  have HE := Aside0.mk (HW2.out ⟨h1, h2⟩)
                  clear h1 h2
                  go_wp2_with (first
                  | (go_at_call 7; (with_reducible refine (report_Word.calls a1 wj _ HWJ.out).mono ?_); rintro e wa ⟨rfl, hba⟩; replace HX := Aside0.mk (bindlelaw33_ReportCounts.below2 HX.out HX.out.size hba); clear hba)
                  | (go_at_call 7; (with_reducible refine (report_Word.calls a2 wq _ HWQ.out).mono ?_); rintro e wb ⟨rfl, hbb⟩; replace HX := Aside0.mk (bindlelaw33_ReportCounts.below2 HX.out HX.out.size hbb); clear hbb)
                  | (go_at_call 7; (with_reducible refine (report_Word.calls 0 wz _ HW0.out).mono ?_); rintro e wc ⟨rfl, hbc⟩; replace HX := Aside0.mk (bindlelaw33_ReportCounts.below2 HX.out HX.out.size hbc); clear hbc)
                  | fail)
                  go_meet
                  case rel => exact ⟨by simp [HE.out], HX⟩
                · have e1 : (wj.toList == wq.toList) = false := beq_eq_false_iff_ne.mpr h2
                  clear h1 h2
                  go_wp2_with (first
                  | (go_at_call 7; (with_reducible refine (report_Word.calls a1 wj _ HWJ.out).mono ?_); rintro e wa ⟨rfl, hba⟩; replace HX := Aside0.mk (bindlelaw33_ReportCounts.below2 HX.out HX.out.size hba); clear hba)
                  | (go_at_call 7; (with_reducible refine (report_Word.calls a2 wq _ HWQ.out).mono ?_); rintro e wb ⟨rfl, hbb⟩; replace HX := Aside0.mk (bindlelaw33_ReportCounts.below2 HX.out HX.out.size hbb); clear hbb)
                  | (go_at_call 7; (with_reducible refine (report_Word.calls 0 wz _ HW0.out).mono ?_); rintro e wc ⟨rfl, hbc⟩; replace HX := Aside0.mk (bindlelaw33_ReportCounts.below2 HX.out HX.out.size hbc); clear hbc)
                  | fail)
                  go_meet
                  case rel => exact ⟨by simp, HX⟩
            case rest =>
              clear HX
              obtain ⟨rfl, HX⟩ := hcut
              go_upto_region 7 with (fail)
              go_cut [56] (fun v56 wc => v56 = .bool (decide (0 ≤ a1 ∧ a1 ≤ 16)) ∧ Aside0 (Below w.heap.size w wc))
              case first =>
                by_cases h1 : 0 ≤ a1
                · have d1 : decide (0 ≤ a1) = true := decide_eq_true h1
                  by_cases h2 : a1 ≤ 16
                  · have d2 : decide (a1 ≤ 16) = true := decide_eq_true h2
                    go_wp2_with fail
                    go_meet
                    case rel => exact ⟨by rw [decide_eq_true ⟨h1, h2⟩], HX⟩
                  · have d2 : decide (a1 ≤ 16) = false := decide_eq_false h2
                    go_wp2_with fail
                    go_meet
                    case rel => exact ⟨by rw [decide_eq_false (by omega)], HX⟩
                · have d1 : decide (0 ≤ a1) = false := decide_eq_false h1
                  go_wp2_with fail
                  go_meet
                  case rel => exact ⟨by rw [decide_eq_false (by omega)], HX⟩
              case rest =>
                clear HX
                obtain ⟨rfl, HX⟩ := hcut
                go_upto_if 56 with (fail)
                go_cut [57] (fun v57 wc => Aside0 (Below w.heap.size w wc))
                case first =>
                  by_cases h : 0 ≤ a1 ∧ a1 ≤ 16
                  · rw [decide_eq_true h]
                    have HER := Aside0.mk (HW3.out h)
                    have d1 : (a1 != a1) = false := bne_eq_false_iff_eq.mpr rfl
                    clear h
                    go_wp2_with (first
                      | (go_at_call 9; (with_reducible refine (report_Code.calls a1 cj _ HCJ.out).mono ?_); rintro e wa ⟨rfl, hba⟩; replace HX := Aside0.mk (bindlelaw33_ReportCounts.below2 HX.out HX.out.size hba); clear hba)
                      | (go_at_call 11; (with_reducible refine (report_Error.calls cj a1 true _ HER.out).mono ?_); rintro e wb ⟨rfl, hbb⟩; replace HX := Aside0.mk (bindlelaw33_ReportCounts.below2 HX.out HX.out.size hbb); clear hbb)
                      | fail)
                    go_meet
                    case rel => exact HX
                  · rw [decide_eq_false h]
                    go_wp2_with fail
                    go_meet
                    case rel => exact HX
                case rest =>
                  clear HX
                  have HB1 := hcut
                  clear hcut
                  have HSI := Aside0.mk (show (Tryd.prog.info? 39).map (·.size) = some 40 by kernel_rfl)
                  have HONE := Aside0.mk (show ∀ xs : List Int, ∀ a2 ∈ (report_Sum.cs xs).toList, a2.oneCell' = true from fun xs a2 hq => by
                    unfold report_Sum.cs at hq
                    simp only [List.mem_map] at hq
                    obtain ⟨x, _, rfl⟩ := hq
                    rfl)
                  have HV := Aside0.mk (show (report_Sum.cs (report_Sum.sumTo o a o.length)).size = 40 by unfold report_Sum.cs; simp [HL40.out])
                  have hzz := report_Sum.zz
                  have hZs : (report_Sum.cs report_Sum.zero).size = 40 := rfl
                  generalize report_Sum.cs report_Sum.zero = Z at hzz hZs
                  have HZS := Aside0.mk hZs
                  clear hZs
                  go_upto_region 12 with (first | (go_at_call 15; refine (bindlelaw33_parts.calls k (fun k_ => k_ < wc.heap.size) _ _ l0 o a wc (Kd.V_mk HC0.out (Kd.C_F k66_heap (Kd.C_below HR0.out HB1.out))) HP.out).mono ?_; rintro e w2 ⟨v0, v1, rfl, hN0, hN1, hb2⟩; obtain ⟨Ao, co, rfl⟩ := Kd.N_slice hN0; obtain ⟨Aa, ca, rfl⟩ := Kd.N_slice hN1; have HRO := Aside0.mk (Kd.N_reads' hN0); have HRA := Aside0.mk (Kd.N_reads' hN1); have HB2 := Aside0.mk (HB1.out.trans (hb2.mono HB1.out.size)); clear hN0 hN1 hb2) | fail)
                  go_upto_region 13 with (first
                    | (go_at_call 16; refine (report_Sum.calls _ _ o _ _ a _ 0 w2 HRO.out.2.2 (by have := HRO.out.1; have := HRO.out.2.1; omega) HRA.out.2.2 (by have := HRA.out.1; have := HRA.out.2.1; omega) HSUM.out).mono ?_; rintro e w3 ⟨rfl, hb3⟩; have HB3 := Aside0.mk hb3; clear hb3)
                    | ((with_reducible refine gate_dst (N := 11) rfl ?_); refine box_event ?hg (N := 11) ?hd (cs := Z) (t := 39) ?hr ?_; (case hd => rfl); (case hg => rfl); (case hr => first | (go_simp; done) | (go_simp; rfl)); intro gs hgs w4 hbox4 hb4; have HBX4 := Aside0.mk hbox4; have HB4 := Aside0.mk hb4; have HGS := Aside0.mk hgs; clear hbox4 hb4 hgs)
                    | (refine YtodifojhegbjaaaDoorMpHelp.wpList_store_blk (base := w3.heap.size) (w0 := w3) rfl rfl 39 (.tmp 11) (.tmp 79) rfl 39 gs _ (report_Sum.cs (report_Sum.sumTo o a o.length)) HBX4.out rfl rfl (by rw [HV.out]; exact HSI.out) (by rw [HV.out, HZS.out]) (HONE.out _) HB4.out (Nat.le_of_eq HGS.out.symm) ?_; intro w5 hbox5 hB5 hoth5; have HBX5 := Aside0.mk hbox5; have HB5 := Aside0.mk hB5; clear hbox5 hB5 hoth5)
                    | fail)
                  obtain ⟨xs, hxs⟩ : ∃ x, x = report_Sum.sumTo o a o.length := ⟨_, rfl⟩
                  have HTB := Aside0.mk (YtodifojhegbjaaaDoorTab.tab_below HT.out (HB2.out.trans ((HB3.out.trans (HB5.out.mono HB3.out.size)).mono HB2.out.size)))
                  go_upto_region 14 with (first
                    | (go_at_call 19; refine (report_Text.calls k _ _ o _ _ a tx 0 w5 (Kd.C_below (Kd.C_below HRO.out.2.2 HB3.out) HB5.out) (by have := HRO.out.1; have := HRO.out.2.1; omega) (Kd.C_below (Kd.C_below HRA.out.2.2 HB3.out) HB5.out) (by have := HRA.out.1; have := HRA.out.2.1; omega) HTB.out HTX.out).mono ?_; rintro e w6 ⟨rfl, hb6⟩; have HB6 := Aside0.mk hb6; clear hb6)
                    | fail)
                  rw [← hxs] at HBX5 HSK HS0 HL40
                  clear hxs HSUM HV
                  have HST := Aside0.mk (show report_Sum.St gs xs w6 from ⟨HL40.out, blk_below HBX5.out HB6.out⟩)
                  have HW6 := Aside0.mk (show Below w.heap.size w w6 from (HB2.out.trans ((HB3.out.trans (HB5.out.mono HB3.out.size)).mono HB2.out.size)).trans (HB6.out.mono (Nat.le_trans HB2.out.size (Nat.le_trans HB3.out.size HB5.out.size))))
                  clear HB1 HB2 HB3 HBX4 HB4 HGS HBX5 HB5 HTB HB6 HRO HRA hzz
                  go_wp2_with fail
                  go_loopw [15, 16] (fun v15 v16 wr => ∃ i : Nat, i ≤ 19 ∧ v15 = .int .i64 (bindlelaw33_ReportCounts.sumK xs i) ∧ v16 = .int .i64 i ∧ Aside0 (report_Sum.St gs xs wr ∧ Below w.heap.size w wr)) (fun _ v16 _ => 19 - (intOf v16).toNat)
                  case atStart => exact ⟨0, Nat.zero_le _, rfl, rfl, ⟨HST.out, HW6.out⟩⟩
                  case round =>
                    clear HST HW6
                    obtain ⟨i, hi, rfl, rfl, HX⟩ := hrel
                    by_cases hlt : (i : Int) < 19
                    · have hk1 : (0 : Int) ≤ (i : Int) := Int.natCast_nonneg _
                      have hc4 := HX.out.1.cell (4 + i) (by omega)
                      have d1 : decide ((i : Int) < 19) = true := decide_eq_true hlt
                      go_wp2_with fail
                      go_roundw
                      case rel => exact ⟨i + 1, by omega, rfl, by go_num, HX⟩
                      case measure => simp [intOf]; omega
                    · have hk3 : i = 19 := by omega
                      subst hk3
                      rw [HSK.out]
                      have hHX := HX
                      go_wp2_with fail
                      go_loopw [17, 18] (fun v17 v18 wr => ∃ i : Nat, i ≤ tx.size ∧ v17 = .int .i64 (bindlelaw33_ReportCounts.linesTo tx i) ∧ v18 = .int .i64 i ∧ Aside0 (report_Sum.St gs xs wr ∧ Below w.heap.size w wr)) (fun _ v18 _ => tx.size - (intOf v18).toNat)
                      case atStart => exact ⟨0, Nat.zero_le _, rfl, rfl, HX⟩
                      case round =>
                        clear HX hHX
                        obtain ⟨i, hi, rfl, rfl, HX⟩ := hrel
                        by_cases hlt : (i : Int) < (tx.size : Int)
                        · have hk1 : (0 : Int) ≤ (i : Int) := Int.natCast_nonneg _
                          have HKB := Aside0.mk (show (i : Int) < 140737488351232 by have := HTS.out; omega)
                          have hix : i < tx.size := by omega
                          have hbe : bt tx (i : Int) = ((tx[i]'hix).toNat : Int) := by unfold bt; rw [dif_pos (by simpa using hix)]; rfl
                          have HWI := Aside0.mk (show wrap64 ((i : Int) + 1) = ((i + 1 : Nat) : Int) by have := HKB.out; unfold wrap64; omega)
                          by_cases hb : bt tx (i : Int) = 10
                          · have e1 : (((tx[i]'hix).toNat : Int) == 10) = true := by rw [← hbe]; exact beq_iff_eq.mpr hb
                            have HLI := Aside0.mk (show bindlelaw33_ReportCounts.linesTo tx (i + 1) = wrap64 (bindlelaw33_ReportCounts.linesTo tx i + 1) from if_pos hb)
                            clear hb hbe
                            go_wp2_with fail
                            go_roundw
                            case rel => exact ⟨i + 1, by omega, by rw [HLI.out], by rw [HWI.out], HX⟩
                            case measure => rw [HWI.out]; simp [intOf]; omega
                          · have e1 : (((tx[i]'hix).toNat : Int) == 10) = false := by rw [← hbe]; exact beq_eq_false_iff_ne.mpr hb
                            have HLI := Aside0.mk (show bindlelaw33_ReportCounts.linesTo tx (i + 1) = bindlelaw33_ReportCounts.linesTo tx i from if_neg hb)
                            clear hb hbe
                            go_wp2_with fail
                            go_roundw
                            case rel => exact ⟨i + 1, by omega, by rw [HLI.out], by rw [HWI.out], HX⟩
                            case measure => rw [HWI.out]; simp [intOf]; omega
                        · have hk3 : i = tx.size := by omega
                          subst hk3
                          rw [HLN.out]
                          have hc0 := HX.out.1.cell 0 (by omega)
                          rw [HS0.out] at hc0
                          have e1 : ((l0.length : Int) == (l0.length : Int)) = true := beq_iff_eq.mpr rfl
                          go_wp2_with (first | (go_at_call 13; refine (bindlelaw33_lives.calls k r _ (YtodifojhegbjaaaDoorTab.tab_below HT.out HX.out.2) HL.out).mono ?_; rintro e w9 ⟨rfl, hb9⟩; have HB9 := Aside0.mk hb9; clear hb9) | fail)
                          go_ret
                          exact ⟨rfl, HX.out.2.trans (HB9.out.mono HX.out.2.size)⟩
/-- What is known of a value of this type that came in. -/
def good45 (x : S45) : Prop := ((x.f0.length ≤ maxLen ∧ x.f0.length * 1 ≤ 140737488351232 ∧ ∀ e1 ∈ x.f0, True)) ∧ ((Lit.int .i64 x.f1).wf = true) ∧ (Lit.int .u8 x.f2).wf = true
/-- What is known of a value of this type that came in. -/
def good47 (x : S47) : Prop := ((Lit.int .i64 x.f0).wf = true) ∧ (x.f1.size ≤ 140737488351232) ∧ ((x.f2.length ≤ maxLen ∧ x.f2.length * 1 ≤ 140737488351232 ∧ ∀ e2 ∈ x.f2, (Lit.int .u8 e2).wf = true)) ∧ ((Lit.int .i64 x.f3).wf = true) ∧ good45 x.f4
/-- What is known of a value of this type that came in. -/
def good122 (x : S122) : Prop := (x.f0.size ≤ 140737488351232) ∧ (x.f1.length ≤ maxLen ∧ x.f1.length * 1 ≤ 140737488351232 ∧ ∀ e3 ∈ x.f1, (Lit.int .u8 e3).wf = true)
/-- What is known of a value of this type that came in. -/
def good51 (x : S51) : Prop := ((Lit.int .i64 x.f0).wf = true) ∧ ((x.f1.length ≤ maxLen ∧ x.f1.length * 1 ≤ 140737488351232 ∧ ∀ e4 ∈ x.f1, (Lit.int .u8 e4).wf = true)) ∧ ((Lit.int .i64 x.f2).wf = true) ∧ ((x.f3.length ≤ maxLen ∧ x.f3.length * 16 ≤ 140737488351232 ∧ ∀ e5 ∈ x.f3, e5.size ≤ 140737488351232)) ∧ ((x.f4.length ≤ maxLen ∧ x.f4.length * 40 ≤ 140737488351232 ∧ ∀ e6 ∈ x.f4, good122 e6)) ∧ (True) ∧ True
/-- What is known of a value of this type that came in. -/
def good66 (x : S66) : Prop := (good47 x.f0) ∧ good51 x.f1

/-- THE ONE PURE STATEMENT of bindlelaw33_ReportCounts: ours to prove. -/
def bindlelaw33_ReportCounts.Pure : Prop := ∀ (x0 : List (S66)) (x1 : Int) (x2 : Int), (x0.length ≤ maxLen ∧ x0.length * 192 ≤ 140737488351232 ∧ ∀ e7 ∈ x0, good66 e7) → (Lit.int .i64 x1).wf = true → (Lit.int .i64 x2).wf = true → ∃ k, bindlelaw33_ReportCounts.f k x0 x1 x2 = some true


end Go.Proofs.YtodifojhegbjaaaDoor.PReportCounts
