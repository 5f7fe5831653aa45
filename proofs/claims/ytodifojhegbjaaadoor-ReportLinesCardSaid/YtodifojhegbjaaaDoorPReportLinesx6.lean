/- The machine side of a law: for each Go function that it uses a Lean function with the same answers, and the proof that the Go code comes to them; or the row of the law over these. Written by a program of this session. -/
import Derived.Test.YtodifojhegbjaaaDoorPReportLinesx0
import Derived.Test.YtodifojhegbjaaaDoorPReportLinesx2
import Derived.Test.YtodifojhegbjaaaDoorPReportLinesx5
namespace Go.Proofs.YtodifojhegbjaaaDoor.PReportLines
open Go.RowKit Go.Proofs.YtodifojhegbjaaaDoorW.PrintWords Go.Proofs.YtodifojhegbjaaaDoorW.PrintLast Go.Proofs.YtodifojhegbjaaaDoorW.PrintMore
attribute [local go_sem] max2_int min2_int max_two min_two max_three min_three max_four min_four   -- for this text's walks alone
set_option linter.unusedVariables false
set_option linter.unusedSimpArgs false

/-! ### report_Text: function 19 -/
def report_Text.l0 : Nat → List (S51) → ByteArray → List (S47) → Int → Int → Option (ByteArray × Int)
 | 0, _, _, _, _, _ => none
 | k + 1, x1, x6, x14, x15, x16 => if x16 < x15 then (if 0 ≤ x16 then (if x16 < (x14.length : Int) then (if x16 < (x1.length : Int) then ((report_Line.f k ((rd_T47 x14 x16).f0) ((rd_T47 x14 x16).f1) ((rd_T47 x14 x16).f2) ((rd_T47 x14 x16).f3) ((rd_T47 x14 x16).f4.f0) ((rd_T47 x14 x16).f4.f1) ((rd_T47 x14 x16).f4.f2) ((rd_T51 x1 x16).f0) ((rd_T51 x1 x16).f1) ((rd_T51 x1 x16).f2) ((rd_T51 x1 x16).f3) ((rd_T51 x1 x16).f4) ((rd_T51 x1 x16).f5) ((rd_T51 x1 x16).f6)).bind fun t160 => (if t160.size + 1 ≤ 9223372036854775807 then (if x6.size + (t160 ++ (⟨#[10]⟩ : ByteArray)).size ≤ 9223372036854775807 then (report_Text.l0 k x1 (x6 ++ (t160 ++ (⟨#[10]⟩ : ByteArray))) x14 x15 (wrap64 (x16 + 1))) else (none)) else (none))) else (none)) else (none)) else (none)) else (some (x6, 0))
def report_Text.f (k : Nat) (l0 : List (S47)) (l1 : List (S51)) : Option (ByteArray × Int) := if (l0.length : Int) = (l1.length : Int) then (report_Text.l0 k l1 (⟨#[]⟩ : ByteArray) l0 (l0.length : Int) 0) else (some ((⟨#[]⟩ : ByteArray), 1))
theorem report_Text.mono_l : ∀ k, (∀ y0 y1 y2 y3 y4, LeO (report_Text.l0 k y0 y1 y2 y3 y4) (report_Text.l0 (k + 1) y0 y1 y2 y3 y4))
 | 0 => fun _ _ _ _ _ r h => by simp [report_Text.l0] at h
 | k + 1 => by
  have ih0 := report_Text.mono_l k
  ·intro y0 y1 y2 y3 y4
   unfold report_Text.l0
   repeat' first
   | (with_reducible exact ih0 _ _ _ _ _)
   | (with_reducible exact report_Line.mono _ _ _ _ _ _ _ _ _ _ _ _ _ _ _)
   | (with_reducible exact LeO.refl _)
   | (with_reducible exact LeO.none _)
   | (with_reducible refine LeO.ite ?_ ?_)
   | (with_reducible refine LeO.bind ?_ (fun _ => ?_))
   | exact ih0 _ _ _ _ _
   | exact report_Line.mono _ _ _ _ _ _ _ _ _ _ _ _ _ _ _
   | exact LeO.none _
   | refine LeO.ite ?_ ?_
   | refine LeO.bind ?_ (fun _ => ?_)
theorem report_Text.mono : ∀ a0 a1 k, LeO (report_Text.f k a0 a1) (report_Text.f (k + 1) a0 a1) := by
 intro a0 a1 k
 have ih0 := report_Text.mono_l k
 unfold report_Text.f
 repeat' first
   | (with_reducible exact ih0 _ _ _ _ _)
   | (with_reducible exact report_Line.mono _ _ _ _ _ _ _ _ _ _ _ _ _ _ _)
   | (with_reducible exact LeO.refl _)
   | (with_reducible exact LeO.none _)
   | (with_reducible refine LeO.ite ?_ ?_)
   | (with_reducible refine LeO.bind ?_ (fun _ => ?_))
   | exact ih0 _ _ _ _ _
   | exact report_Line.mono _ _ _ _ _ _ _ _ _ _ _ _ _ _ _
   | exact LeO.none _
   | refine LeO.ite ?_ ?_
   | refine LeO.bind ?_ (fun _ => ?_)
def report_Text.T7 : Bool × List (List Nat × List Nat) := (true, [([], []), ([], []), ([], []), ([], []), ([2, 3], [2, 3]), ([4], [4]), ([1, 5], [1, 5]), ([6], [6]), ([0, 7], [0, 7]), ([8, 6, 0, 1, 2, 3, 4, 5, 6, 7, 8], [0, 8])])
def report_Text.B7 : List Nat := [0, 0, 0, 0, 12, 28, 62, 126, 255, 511]
theorem report_Text.tab7 : rtab .any (opsOf Tryd.f19 7) = report_Text.T7 := by kernel_rfl
theorem report_Text.bits7 : waitsOk report_Text.T7.2 report_Text.B7 = true := by kernel_rfl
set_option maxHeartbeats 8000000 in
set_option maxRecDepth 100000 in
theorem report_Text.calls (k : Nat) (A0 : Option Addr) (c0 : Nat) (l0 : List (S47)) (A1 : Option Addr) (c1 : Nat) (l1 : List (S51)) (r1 : ByteArray) (r2 : Int) (w : World) (hr0 : Kd.C k47 w A0 l0.length l0) (hc0 : l0.length ≤ c0) (hr1 : Kd.C k51 w A1 l1.length l1) (hc1 : l1.length ≤ c1) (ht_ : YtodifojhegbjaaaDoorTab.TabOK w) (h : report_Text.f k l0 l1 = some (r1, r2)) :
  Calls Tryd.prog 19 #[.slice A0 l0.length c0, .slice A1 l1.length c1] w fun e w' => e = .returned (.tuple #[.string r1, .int .i64 r2]) ∧ Below w.heap.size w w' := by
 have HT := Aside0.mk ht_
 clear ht_
 have hu47 := Tryd.underlying47
 have hu51 := Tryd.underlying51
 have HR0 := Aside0.mk hr0
 have HC0 := Aside0.mk hc0
 clear hr0 hc0
 have HR1 := Aside0.mk hr1
 have HC1 := Aside0.mk hc1
 clear hr1 hc1
 have HB := Aside0.mk (Below.refl w.heap.size w)
 have H : (if (l0.length : Int) = (l1.length : Int) then (report_Text.l0 k l1 (⟨#[]⟩ : ByteArray) l0 (l0.length : Int) 0) else (some ((⟨#[]⟩ : ByteArray), 1))) = some (r1, r2) := h
 clear h
 by_cases c3 : (l0.length : Int) = (l1.length : Int)
 ·rw [if_pos c3] at H
  have c3b0 : ((l0.length : Int) == (l1.length : Int)) = true := beq_iff_eq.mpr c3
  have c3b1 : ((l0.length : Int) != (l1.length : Int)) = false := bne_eq_false_iff_eq.mpr c3
  have c3b2 : (l0.length == l1.length) = true := by first | simpa using c3 | (simp at c3 ⊢; omega)
  clear c3
  have H' := Aside0.mk H
  clear H
  go_enter Tryd.func19, Tryd.ntmps19
  go_wp2
  go_loopg [6, 16] k (fun kq v6 v16 w' => ∃ (x6_1 : ByteArray) (x16_1 : Int), v6 = .string x6_1 ∧ v16 = .int .i64 x16_1 ∧ Aside0 (report_Text.l0 kq l1 x6_1 l0 (l0.length : Int) x16_1 = some (r1, r2)) ∧ Aside0 (kq ≤ k) ∧ Aside0 (Below w.heap.size w w'))
  case atStart => exact ⟨((⟨#[]⟩ : ByteArray)), (0), (by first | rfl | (simp only [YtodifojhegbjaaaDoorMpHelp.leq_not, YtodifojhegbjaaaDoorMpHelp.gtr_less]; done) | (simp; done) | (simp [*]; done)), (by first | rfl | (simp only [YtodifojhegbjaaaDoorMpHelp.leq_not, YtodifojhegbjaaaDoorMpHelp.gtr_less]; done) | (simp; done) | (simp [*]; done)), H', ⟨Nat.le_refl _⟩, ⟨by repeat (first | (with_reducible first | exact HB.out | apply below_alloc | apply pw_below_drewN | apply below_drew1) | exact HB.out)⟩⟩
  case round =>
   clear H'
   try clear c1
   try clear p2
   try clear c3
   try clear c3b0
   try clear c3b1
   try clear c3b2
   obtain ⟨x6_1, x16_1, rfl, rfl, HA, HK1, HB⟩ := hrel
   cases gk with
   | zero => exact absurd HA.out (by simp [report_Text.l0])
   | succ k1 =>
    have H := HA.out
    clear HA
    simp only [report_Text.l0] at H
    by_cases c4 : x16_1 < (l0.length : Int)
    ·rw [if_pos c4] at H
     have c4b0 : decide (x16_1 < (l0.length : Int)) = true := decide_eq_true c4
     clear c4
     by_cases c5 : 0 ≤ x16_1
     ·rw [if_pos c5] at H
      have c5b0 : decide (0 ≤ x16_1) = true := decide_eq_true c5
      clear c5
      by_cases c6 : x16_1 < (l0.length : Int)
      ·rw [if_pos c6] at H
       have c6b0 : decide (x16_1 < (l0.length : Int)) = true := decide_eq_true c6
       clear c6
       by_cases c7 : x16_1 < (l1.length : Int)
       ·rw [if_pos c7] at H
        have c7b0 : decide (x16_1 < (l1.length : Int)) = true := decide_eq_true c7
        clear c7
        replace H := Option.bind_eq_some_iff.mp H
        obtain ⟨t160, A80, H⟩ := H
        replace H : (if t160.size + 1 ≤ 9223372036854775807 then (if x6_1.size + (t160 ++ (⟨#[10]⟩ : ByteArray)).size ≤ 9223372036854775807 then (report_Text.l0 k1 l1 (x6_1 ++ (t160 ++ (⟨#[10]⟩ : ByteArray))) l0 (l0.length : Int) (wrap64 (x16_1 + 1))) else (none)) else (none)) = some (r1, r2) := H
        have A8 := Aside0.mk A80
        clear A80
        by_cases c9 : t160.size + 1 ≤ 9223372036854775807
        ·rw [if_pos c9] at H
         have c9b0 := eq_true c9
         have c9b1 : decide (t160.size + 1 ≤ 9223372036854775807) = true := decide_eq_true c9
         try have c9b2 : (9223372036854775807 < t160.size + 1) = False := eq_false (Nat.not_lt.2 c9)
         by_cases c10 : x6_1.size + (t160 ++ (⟨#[10]⟩ : ByteArray)).size ≤ 9223372036854775807
         ·rw [if_pos c10] at H
          have c10b0 := eq_true c10
          have c10b1 : decide (x6_1.size + (t160 ++ (⟨#[10]⟩ : ByteArray)).size ≤ 9223372036854775807) = true := decide_eq_true c10
          try have c10b2 : (9223372036854775807 < x6_1.size + (t160 ++ (⟨#[10]⟩ : ByteArray)).size) = False := eq_false (Nat.not_lt.2 c10)
          try (have c10b3 := c10; simp only [ByteArray.size_append, show ((⟨#[10]⟩ : ByteArray)).size = 1 from rfl] at c10b3; have c10b4 := eq_false (Nat.not_lt.2 c10b3))
          have H' := Aside0.mk H
          clear H
          have p157 : 0 ≤ (x16_1 : Int) := of_decide_eq_true (by first | (with_reducible assumption) | assumption)
          have q157 : x16_1 < (l0.length : Int) := of_decide_eq_true (by first | (with_reducible assumption) | assumption)
          obtain ⟨ad157, A157_2, c157_2, A157_4, c157_4, e157, hx157_0, hx157_1, hx157_2, hx157_3, hx157_4, hx157_5, hx157_6, hl157_2, hi157_2, hl157_4, hi157_4⟩ := at_T47 HR0.out x16_1 p157 q157
          cases e157
          replace hx157_0 := (HB.out.cell (World.block_lt_of_cell? w _ hx157_0)).trans hx157_0
          replace hx157_1 := (HB.out.cell (World.block_lt_of_cell? w _ hx157_1)).trans hx157_1
          replace hx157_2 := (HB.out.cell (World.block_lt_of_cell? w _ hx157_2)).trans hx157_2
          replace hx157_3 := (HB.out.cell (World.block_lt_of_cell? w _ hx157_3)).trans hx157_3
          replace hx157_4 := (HB.out.cell (World.block_lt_of_cell? w _ hx157_4)).trans hx157_4
          replace hx157_5 := (HB.out.cell (World.block_lt_of_cell? w _ hx157_5)).trans hx157_5
          replace hx157_6 := (HB.out.cell (World.block_lt_of_cell? w _ hx157_6)).trans hx157_6
          have HR157_2 := Aside0.mk hi157_2
          have HC157_2 := Aside0.mk hl157_2
          clear hi157_2 hl157_2
          have HR157_4 := Aside0.mk hi157_4
          have HC157_4 := Aside0.mk hl157_4
          clear hi157_4 hl157_4
          replace p157 := eq_true p157
          replace q157 := eq_true q157
          try go_wp2_with (first | ((with_reducible refine gate_dst (N := 8) rfl ?_); refine box_event ?hg (N := 8) ?hd (cs := #[.int .i64 0, .string (⟨#[]⟩ : ByteArray), .slice none 0 0, .int .i64 0, .slice none 0 0, .int .i64 0, .int .u8 0]) (t := 47) ?hr ?_; (case hd => rfl); (case hg => rfl); (case hr => first | (go_simp; done) | (go_simp; rfl)); intro gb158 hg w11 hbox hb; have n0_ := Aside0.mk (below_step (by repeat (first | (with_reducible first | exact HB.out | apply below_alloc | apply pw_below_drewN | apply below_drew1) | exact HB.out)) hb); have n1_ := Aside0.mk (hbox); have n2_ := Aside0.mk ((by rw [hg]; exact (below_size (by repeat (first | (with_reducible first | exact HB.out | apply below_alloc | apply pw_below_drewN | apply below_drew1) | exact HB.out))) : w.heap.size ≤ gb158)); have n3_ := Aside0.mk ((by rw [hg]; exact (below_size (by repeat (first | (with_reducible first | exact HB.out | apply below_alloc | apply pw_below_drewN | apply below_drew1) | exact HB.out))) : w.heap.size ≤ gb158)); clear HB; have HB := n0_; have BK158 := n1_; have GW158 := n2_; have GE158 := n3_; clear n0_ n1_ n2_ n3_; clear hb hbox hg; have hcz12_0 : w11.cell? ⟨gb158, 0, none⟩ = some (.int .i64 0) := (blk_cell BK158.out 0).trans rfl; have hcz12_1 : w11.cell? ⟨gb158, 1, none⟩ = some (.string (⟨#[]⟩ : ByteArray)) := (blk_cell BK158.out 1).trans rfl; have hcz12_2 : w11.cell? ⟨gb158, 2, none⟩ = some (.slice none 0 0) := (blk_cell BK158.out 2).trans rfl; have hcz12_3 : w11.cell? ⟨gb158, 3, none⟩ = some (.int .i64 0) := (blk_cell BK158.out 3).trans rfl; have hcz12_4 : w11.cell? ⟨gb158, 4, none⟩ = some (.slice none 0 0) := (blk_cell BK158.out 4).trans rfl; have hcz12_5 : w11.cell? ⟨gb158, 5, none⟩ = some (.int .i64 0) := (blk_cell BK158.out 5).trans rfl; have hcz12_6 : w11.cell? ⟨gb158, 6, none⟩ = some (.int .u8 0) := (blk_cell BK158.out 6).trans rfl; have hfz12_0 := blk_frozen BK158.out 0; have hfz12_1 := blk_frozen BK158.out 1; have hfz12_2 := blk_frozen BK158.out 2; have hfz12_3 := blk_frozen BK158.out 3; have hfz12_4 := blk_frozen BK158.out 4; have hfz12_5 := blk_frozen BK158.out 5; have hfz12_6 := blk_frozen BK158.out 6))
          have n0_ : Aside0 ((((((((w11.setCell ⟨gb158, 0, none⟩ (.int .i64 ((rd_T47 l0 x16_1).f0))).setCell ⟨gb158, 1, none⟩ (.string ((rd_T47 l0 x16_1).f1))).setCell ⟨gb158, 2, none⟩ (.slice A157_2 ((rd_T47 l0 x16_1).f2).length c157_2)).setCell ⟨gb158, 3, none⟩ (.int .i64 ((rd_T47 l0 x16_1).f3))).setCell ⟨gb158, 4, none⟩ (.slice A157_4 ((rd_T47 l0 x16_1).f4.f0).length c157_4)).setCell ⟨gb158, 5, none⟩ (.int .i64 ((rd_T47 l0 x16_1).f4.f1))).setCell ⟨gb158, 6, none⟩ (.int .u8 ((rd_T47 l0 x16_1).f4.f2))).heap[gb158]? = some (.cells #[.int .i64 ((rd_T47 l0 x16_1).f0), .string ((rd_T47 l0 x16_1).f1), .slice A157_2 ((rd_T47 l0 x16_1).f2).length c157_2, .int .i64 ((rd_T47 l0 x16_1).f3), .slice A157_4 ((rd_T47 l0 x16_1).f4.f0).length c157_4, .int .i64 ((rd_T47 l0 x16_1).f4.f1), .int .u8 ((rd_T47 l0 x16_1).f4.f2)] 47 (0, 0))) := ⟨by (with_reducible repeat (first | refine blk_drewN ?_ _ | refine blk_drew ?_ | refine blk_alloc ?_ _)); refine blk_put (cs := #[.int .i64 ((rd_T47 l0 x16_1).f0), .string ((rd_T47 l0 x16_1).f1), .slice A157_2 ((rd_T47 l0 x16_1).f2).length c157_2, .int .i64 ((rd_T47 l0 x16_1).f3), .slice A157_4 ((rd_T47 l0 x16_1).f4.f0).length c157_4, .int .i64 ((rd_T47 l0 x16_1).f4.f1), .int .u8 0]) ?_ 6 _ rfl; (with_reducible repeat (first | refine blk_drewN ?_ _ | refine blk_drew ?_ | refine blk_alloc ?_ _)); refine blk_put (cs := #[.int .i64 ((rd_T47 l0 x16_1).f0), .string ((rd_T47 l0 x16_1).f1), .slice A157_2 ((rd_T47 l0 x16_1).f2).length c157_2, .int .i64 ((rd_T47 l0 x16_1).f3), .slice A157_4 ((rd_T47 l0 x16_1).f4.f0).length c157_4, .int .i64 0, .int .u8 0]) ?_ 5 _ rfl; (with_reducible repeat (first | refine blk_drewN ?_ _ | refine blk_drew ?_ | refine blk_alloc ?_ _)); refine blk_put (cs := #[.int .i64 ((rd_T47 l0 x16_1).f0), .string ((rd_T47 l0 x16_1).f1), .slice A157_2 ((rd_T47 l0 x16_1).f2).length c157_2, .int .i64 ((rd_T47 l0 x16_1).f3), .slice none 0 0, .int .i64 0, .int .u8 0]) ?_ 4 _ rfl; (with_reducible repeat (first | refine blk_drewN ?_ _ | refine blk_drew ?_ | refine blk_alloc ?_ _)); refine blk_put (cs := #[.int .i64 ((rd_T47 l0 x16_1).f0), .string ((rd_T47 l0 x16_1).f1), .slice A157_2 ((rd_T47 l0 x16_1).f2).length c157_2, .int .i64 0, .slice none 0 0, .int .i64 0, .int .u8 0]) ?_ 3 _ rfl; (with_reducible repeat (first | refine blk_drewN ?_ _ | refine blk_drew ?_ | refine blk_alloc ?_ _)); refine blk_put (cs := #[.int .i64 ((rd_T47 l0 x16_1).f0), .string ((rd_T47 l0 x16_1).f1), .slice none 0 0, .int .i64 0, .slice none 0 0, .int .i64 0, .int .u8 0]) ?_ 2 _ rfl; (with_reducible repeat (first | refine blk_drewN ?_ _ | refine blk_drew ?_ | refine blk_alloc ?_ _)); refine blk_put (cs := #[.int .i64 ((rd_T47 l0 x16_1).f0), .string (⟨#[]⟩ : ByteArray), .slice none 0 0, .int .i64 0, .slice none 0 0, .int .i64 0, .int .u8 0]) ?_ 1 _ rfl; (with_reducible repeat (first | refine blk_drewN ?_ _ | refine blk_drew ?_ | refine blk_alloc ?_ _)); refine blk_put (cs := #[.int .i64 0, .string (⟨#[]⟩ : ByteArray), .slice none 0 0, .int .i64 0, .slice none 0 0, .int .i64 0, .int .u8 0]) ?_ 0 _ rfl; (with_reducible repeat (first | refine blk_drewN ?_ _ | refine blk_drew ?_ | refine blk_alloc ?_ _)); exact BK158.out⟩
          have n1_ : Aside0 (Below w.heap.size w (((((((w11.setCell ⟨gb158, 0, none⟩ (.int .i64 ((rd_T47 l0 x16_1).f0))).setCell ⟨gb158, 1, none⟩ (.string ((rd_T47 l0 x16_1).f1))).setCell ⟨gb158, 2, none⟩ (.slice A157_2 ((rd_T47 l0 x16_1).f2).length c157_2)).setCell ⟨gb158, 3, none⟩ (.int .i64 ((rd_T47 l0 x16_1).f3))).setCell ⟨gb158, 4, none⟩ (.slice A157_4 ((rd_T47 l0 x16_1).f4.f0).length c157_4)).setCell ⟨gb158, 5, none⟩ (.int .i64 ((rd_T47 l0 x16_1).f4.f1))).setCell ⟨gb158, 6, none⟩ (.int .u8 ((rd_T47 l0 x16_1).f4.f2)))) := ⟨by repeat (first | (with_reducible first | exact HB.out | apply below_alloc | apply pw_below_drewN | apply below_drew1 | refine below_set ?_ GE158.out) | exact HB.out)⟩
          (try clear BK158)
          (try clear HB)
          generalize (((((((w11.setCell ⟨gb158, 0, none⟩ (.int .i64 ((rd_T47 l0 x16_1).f0))).setCell ⟨gb158, 1, none⟩ (.string ((rd_T47 l0 x16_1).f1))).setCell ⟨gb158, 2, none⟩ (.slice A157_2 ((rd_T47 l0 x16_1).f2).length c157_2)).setCell ⟨gb158, 3, none⟩ (.int .i64 ((rd_T47 l0 x16_1).f3))).setCell ⟨gb158, 4, none⟩ (.slice A157_4 ((rd_T47 l0 x16_1).f4.f0).length c157_4)).setCell ⟨gb158, 5, none⟩ (.int .i64 ((rd_T47 l0 x16_1).f4.f1))).setCell ⟨gb158, 6, none⟩ (.int .u8 ((rd_T47 l0 x16_1).f4.f2))) = w13 at n0_ n1_ ⊢
          have BK158 := n0_
          have HB := n1_
          clear n0_ n1_
          have n0_ := Aside0.mk (blk_drew BK158.out)
          have n1_ := Aside0.mk (below_drew1 HB.out)
          clear BK158
          clear HB
          have BK158 := n0_
          have HB := n1_
          clear n0_ n1_
          have p159 : 0 ≤ (x16_1 : Int) := of_decide_eq_true (by first | (with_reducible assumption) | assumption)
          have q159 : x16_1 < (l1.length : Int) := of_decide_eq_true (by first | (with_reducible assumption) | assumption)
          obtain ⟨ad159, A159_1, c159_1, A159_3, c159_3, A159_4, c159_4, e159, hx159_0, hx159_1, hx159_2, hx159_3, hx159_4, hx159_5, hx159_6, hl159_1, hi159_1, hl159_3, hi159_3, hl159_4, hi159_4⟩ := at_T51 HR1.out x16_1 p159 q159
          have hw159_6 := hx159_6
          have hw159_5 := hx159_5
          have hw159_4 := hx159_4
          have hw159_3 := hx159_3
          have hw159_2 := hx159_2
          have hw159_1 := hx159_1
          have hw159_0 := hx159_0
          cases e159
          replace hx159_0 := (HB.out.cell (World.block_lt_of_cell? w _ hx159_0)).trans hx159_0
          replace hx159_1 := (HB.out.cell (World.block_lt_of_cell? w _ hx159_1)).trans hx159_1
          replace hx159_2 := (HB.out.cell (World.block_lt_of_cell? w _ hx159_2)).trans hx159_2
          replace hx159_3 := (HB.out.cell (World.block_lt_of_cell? w _ hx159_3)).trans hx159_3
          replace hx159_4 := (HB.out.cell (World.block_lt_of_cell? w _ hx159_4)).trans hx159_4
          replace hx159_5 := (HB.out.cell (World.block_lt_of_cell? w _ hx159_5)).trans hx159_5
          replace hx159_6 := (HB.out.cell (World.block_lt_of_cell? w _ hx159_6)).trans hx159_6
          have HR159_1 := Aside0.mk hi159_1
          have HC159_1 := Aside0.mk hl159_1
          clear hi159_1 hl159_1
          have HR159_3 := Aside0.mk hi159_3
          have HC159_3 := Aside0.mk hl159_3
          clear hi159_3 hl159_3
          have HR159_4 := Aside0.mk hi159_4
          have HC159_4 := Aside0.mk hl159_4
          clear hi159_4 hl159_4
          replace p159 := eq_true p159
          replace q159 := eq_true q159
          refine start_ (n := 10) (S := fun w' => w'.cell? ⟨gb158, 0, none⟩ = some (.int .i64 ((rd_T47 l0 x16_1).f0)) ∧ w'.cell? ⟨gb158, 1, none⟩ = some (.string ((rd_T47 l0 x16_1).f1)) ∧ w'.cell? ⟨gb158, 2, none⟩ = some (.slice A157_2 ((rd_T47 l0 x16_1).f2).length c157_2) ∧ w'.cell? ⟨gb158, 3, none⟩ = some (.int .i64 ((rd_T47 l0 x16_1).f3)) ∧ w'.cell? ⟨gb158, 4, none⟩ = some (.slice A157_4 ((rd_T47 l0 x16_1).f4.f0).length c157_4) ∧ w'.cell? ⟨gb158, 5, none⟩ = some (.int .i64 ((rd_T47 l0 x16_1).f4.f1)) ∧ w'.cell? ⟨gb158, 6, none⟩ = some (.int .u8 ((rd_T47 l0 x16_1).f4.f2)) ∧ w'.cell? (ad159.add ((x16_1).toNat * 7)) = some (.int .i64 ((rd_T51 l1 x16_1).f0)) ∧ w'.cell? ⟨(ad159.add ((x16_1).toNat * 7)).block, (ad159.add ((x16_1).toNat * 7)).off + 1, none⟩ = some (.slice A159_1 ((rd_T51 l1 x16_1).f1).length c159_1) ∧ w'.cell? ⟨(ad159.add ((x16_1).toNat * 7)).block, (ad159.add ((x16_1).toNat * 7)).off + 2, none⟩ = some (.int .i64 ((rd_T51 l1 x16_1).f2)) ∧ w'.cell? ⟨(ad159.add ((x16_1).toNat * 7)).block, (ad159.add ((x16_1).toNat * 7)).off + 3, none⟩ = some (.slice A159_3 ((rd_T51 l1 x16_1).f3).length c159_3) ∧ w'.cell? ⟨(ad159.add ((x16_1).toNat * 7)).block, (ad159.add ((x16_1).toNat * 7)).off + 4, none⟩ = some (.slice A159_4 ((rd_T51 l1 x16_1).f4).length c159_4) ∧ w'.cell? ⟨(ad159.add ((x16_1).toNat * 7)).block, (ad159.add ((x16_1).toNat * 7)).off + 5, none⟩ = some (.bool ((rd_T51 l1 x16_1).f5)) ∧ w'.cell? ⟨(ad159.add ((x16_1).toNat * 7)).block, (ad159.add ((x16_1).toNat * 7)).off + 6, none⟩ = some (.bool ((rd_T51 l1 x16_1).f6))) (ds := []) #[false, false, false, false, false, false, false, false, false, false] (by kernel_rfl) rfl rfl ⟨(blk_cell BK158.out 0).trans rfl, (blk_cell BK158.out 1).trans rfl, (blk_cell BK158.out 2).trans rfl, (blk_cell BK158.out 3).trans rfl, (blk_cell BK158.out 4).trans rfl, (blk_cell BK158.out 5).trans rfl, (blk_cell BK158.out 6).trans rfl, ((HB.out.cell (World.block_lt_of_cell? w _ hw159_0)).trans hw159_0), ((HB.out.cell (World.block_lt_of_cell? w _ hw159_1)).trans hw159_1), ((HB.out.cell (World.block_lt_of_cell? w _ hw159_2)).trans hw159_2), ((HB.out.cell (World.block_lt_of_cell? w _ hw159_3)).trans hw159_3), ((HB.out.cell (World.block_lt_of_cell? w _ hw159_4)).trans hw159_4), ((HB.out.cell (World.block_lt_of_cell? w _ hw159_5)).trans hw159_5), ((HB.out.cell (World.block_lt_of_cell? w _ hw159_6)).trans hw159_6)⟩ (fun hHeld => ?_); refine with_tabW report_Text.tab7 report_Text.bits7 (fun HT_ HW_ => ?_)
          generalize w13.drew = w14 at BK158 HB HR159_1 HR159_3 HR159_4 hx159_0 hx159_1 hx159_2 hx159_3 hx159_4 hx159_5 hx159_6 hHeld ⊢
          refine pure_ (i := 0) (N := some 21) (v := ?_) (a' := ?_) #[true, false, false, false, false, false, false, false, false, false] rfl rfl (any_of HT_.out (by kernel_rfl)) (fun _ _ _ h => h) (Or.inl ⟨by rfl, ?_⟩) ?_ ?_
          rotate_left
          ·intro w'
           go_simp
           with_reducible rfl
          rotate_left
          ·simp only [Act.put, List.setIfInBounds_toArray, List.set_cons_zero, List.set_cons_succ, i64_w, i32_w]
           rfl
          refine pure_ (i := 2) (N := some 23) (v := ?_) (a' := ?_) #[true, false, true, false, false, false, false, false, false, false] rfl rfl (any_of HT_.out (by kernel_rfl)) (fun _ _ _ h => h) (Or.inl ⟨by rfl, ?_⟩) ?_ ?_
          rotate_left
          ·intro w'
           go_simp
           with_reducible rfl
          rotate_left
          ·simp only [Act.put, List.setIfInBounds_toArray, List.set_cons_zero, List.set_cons_succ, i64_w, i32_w]
           rfl
          refine pure_ (i := 3) (N := some 24) (v := ?_) (a' := ?_) #[true, false, true, true, false, false, false, false, false, false] rfl rfl (any_of HT_.out (by kernel_rfl)) (fun _ _ _ h => h) (Or.inl ⟨by rfl, ?_⟩) ?_ ?_
          rotate_left
          ·intro w'
           go_simp
           with_reducible rfl
          rotate_left
          ·simp only [Act.put, List.setIfInBounds_toArray, List.set_cons_zero, List.set_cons_succ, i64_w, i32_w]
           rfl
          refine pure_ (i := 4) (N := some 25) (v := ?_) (a' := ?_) #[true, false, true, true, true, false, false, false, false, false] rfl rfl (any_of HT_.out (by kernel_rfl)) (fun _ _ _ h => h) (Or.inl ⟨by rfl, ?_⟩) ?_ ?_
          rotate_left
          ·intro w'
           go_simp
           with_reducible rfl
          rotate_left
          ·simp only [Act.put, List.setIfInBounds_toArray, List.set_cons_zero, List.set_cons_succ, i64_w, i32_w]
           rfl
          refine take_ (i := 1) (N := some 22) (v := ?_) (a' := ?_) #[true, true, true, true, true, false, false, false, false, false] rfl rfl (take_ofW HT_.out HW_.out (by kernel_rfl)) (fun _ _ _ h => h) (Or.inl ⟨by rfl, ?_⟩) hHeld ?_ ?_
          rotate_left
          ·rintro w' ⟨s0, s1, s2, s3, s4, s5, s6, s7, s8, s9, s10, s11, s12, s13⟩
           go_simp
           with_reducible rfl
          rotate_left
          ·simp only [Act.put, List.setIfInBounds_toArray, List.set_cons_zero, List.set_cons_succ, i64_w, i32_w]
           rfl
          refine take_ (i := 5) (N := some 26) (v := ?_) (a' := ?_) #[true, true, true, true, true, true, false, false, false, false] rfl rfl (take_ofW HT_.out HW_.out (by kernel_rfl)) (fun _ _ _ h => h) (Or.inl ⟨by rfl, ?_⟩) hHeld ?_ ?_
          rotate_left
          ·rintro w' ⟨s0, s1, s2, s3, s4, s5, s6, s7, s8, s9, s10, s11, s12, s13⟩
           go_simp
           with_reducible rfl
          rotate_left
          ·simp only [Act.put, List.setIfInBounds_toArray, List.set_cons_zero, List.set_cons_succ, i64_w, i32_w]
           rfl
          refine one_ (i := 6) (N := some 27) #[true, true, true, true, true, true, true, false, false, false] rfl rfl (one_of HT_.out (by kernel_rfl)) (by decide) (fun K hK => ?_)
          refine goes_ Tryd.func17 (by kernel_rfl) rfl #[.agg #[.int .i64 ((rd_T47 l0 x16_1).f0), .string ((rd_T47 l0 x16_1).f1), .slice A157_2 ((rd_T47 l0 x16_1).f2).length c157_2, .int .i64 ((rd_T47 l0 x16_1).f3), .slice A157_4 ((rd_T47 l0 x16_1).f4.f0).length c157_4, .int .i64 ((rd_T47 l0 x16_1).f4.f1), .int .u8 ((rd_T47 l0 x16_1).f4.f2)], .agg #[.int .i64 ((rd_T51 l1 x16_1).f0), .slice A159_1 ((rd_T51 l1 x16_1).f1).length c159_1, .int .i64 ((rd_T51 l1 x16_1).f2), .slice A159_3 ((rd_T51 l1 x16_1).f3).length c159_3, .slice A159_4 ((rd_T51 l1 x16_1).f4).length c159_4, .bool ((rd_T51 l1 x16_1).f5), .bool ((rd_T51 l1 x16_1).f6)]] (by rfl) rfl rfl (by (try simp only [List.map_toArray, List.map_cons, List.map_nil]); first | done | rfl | (simp only [List.length_drop, List.length_take]; rfl)) ?_
          with_reducible refine (report_Line.calls k1 ((rd_T47 l0 x16_1).f0) ((rd_T47 l0 x16_1).f1) _ _ ((rd_T47 l0 x16_1).f2) ((rd_T47 l0 x16_1).f3) _ _ ((rd_T47 l0 x16_1).f4.f0) ((rd_T47 l0 x16_1).f4.f1) ((rd_T47 l0 x16_1).f4.f2) ((rd_T51 l1 x16_1).f0) _ _ ((rd_T51 l1 x16_1).f1) ((rd_T51 l1 x16_1).f2) _ _ ((rd_T51 l1 x16_1).f3) _ _ ((rd_T51 l1 x16_1).f4) ((rd_T51 l1 x16_1).f5) ((rd_T51 l1 x16_1).f6) t160 _ ?side1 ?side2 ?side3 ?side4 ?side5 ?side6 ?side7 ?side8 ?side9 ?side10 ?side11 A8.out).mono ?_
          (case side1 => repeat (first | exact (Kd.C_below HR157_2.out HB.out) | (with_reducible refine Kd.C_alloc ?_ _) | (with_reducible refine Kd.C_drewN ?_ _) | (with_reducible refine Kd.C_drew ?_)))
          (case side2 => exact HC157_2.out)
          (case side3 => repeat (first | exact (Kd.C_below HR157_4.out HB.out) | (with_reducible refine Kd.C_alloc ?_ _) | (with_reducible refine Kd.C_drewN ?_ _) | (with_reducible refine Kd.C_drew ?_)))
          (case side4 => exact HC157_4.out)
          (case side5 => repeat (first | exact (Kd.C_below HR159_1.out HB.out) | (with_reducible refine Kd.C_alloc ?_ _) | (with_reducible refine Kd.C_drewN ?_ _) | (with_reducible refine Kd.C_drew ?_)))
          (case side6 => exact HC159_1.out)
          (case side7 => repeat (first | exact (Kd.C_below HR159_3.out HB.out) | (with_reducible refine Kd.C_alloc ?_ _) | (with_reducible refine Kd.C_drewN ?_ _) | (with_reducible refine Kd.C_drew ?_)))
          (case side8 => exact HC159_3.out)
          (case side9 => repeat (first | exact (Kd.C_below HR159_4.out HB.out) | (with_reducible refine Kd.C_alloc ?_ _) | (with_reducible refine Kd.C_drewN ?_ _) | (with_reducible refine Kd.C_drew ?_)))
          (case side10 => exact HC159_4.out)
          (case side11 => exact YtodifojhegbjaaaDoorTab.tab_below HT.out (by repeat (first | (with_reducible first | exact HB.out | apply below_alloc | apply pw_below_drewN | apply below_drew1 | refine below_set ?_ GE158.out) | exact HB.out)))
          rintro e w15 ⟨rfl, hb⟩
          refine ⟨_, rfl, ?_⟩
          have n0_ := Aside0.mk (blk_below (g := gb158) (o := .cells #[.int .i64 ((rd_T47 l0 x16_1).f0), .string ((rd_T47 l0 x16_1).f1), .slice A157_2 ((rd_T47 l0 x16_1).f2).length c157_2, .int .i64 ((rd_T47 l0 x16_1).f3), .slice A157_4 ((rd_T47 l0 x16_1).f4.f0).length c157_4, .int .i64 ((rd_T47 l0 x16_1).f4.f1), .int .u8 ((rd_T47 l0 x16_1).f4.f2)] 47 (0, 0)) (by (with_reducible repeat (first | refine blk_drewN ?_ _ | refine blk_drew ?_ | refine blk_alloc ?_ _)); exact BK158.out) hb)
          have n1_ := Aside0.mk (below_step (by repeat (first | (with_reducible first | exact HB.out | apply below_alloc | apply pw_below_drewN | apply below_drew1 | refine below_set ?_ GE158.out) | exact HB.out)) hb)
          clear BK158
          clear HB
          have BK158 := n0_
          have HB := n1_
          clear n0_ n1_
          (try clear hb)
          (try clear hb2)
          (try clear hk)
          (try clear hi)
          refine hK.out _ _ ⟨(blk_cell BK158.out 0).trans rfl, (blk_cell BK158.out 1).trans rfl, (blk_cell BK158.out 2).trans rfl, (blk_cell BK158.out 3).trans rfl, (blk_cell BK158.out 4).trans rfl, (blk_cell BK158.out 5).trans rfl, (blk_cell BK158.out 6).trans rfl, ((HB.out.cell (World.block_lt_of_cell? w _ hw159_0)).trans hw159_0), ((HB.out.cell (World.block_lt_of_cell? w _ hw159_1)).trans hw159_1), ((HB.out.cell (World.block_lt_of_cell? w _ hw159_2)).trans hw159_2), ((HB.out.cell (World.block_lt_of_cell? w _ hw159_3)).trans hw159_3), ((HB.out.cell (World.block_lt_of_cell? w _ hw159_4)).trans hw159_4), ((HB.out.cell (World.block_lt_of_cell? w _ hw159_5)).trans hw159_5), ((HB.out.cell (World.block_lt_of_cell? w _ hw159_6)).trans hw159_6)⟩ (fun hHeld => ?_)
          clear hK K
          refine norm_ (a' := ?_) ?_ ?_
          rotate_left
          ·show Act.put _ (some 27) _ = _
           simp only [Act.put, List.setIfInBounds_toArray, List.set_cons_zero, List.set_cons_succ, i64_w, i32_w]
           rfl
          refine pure_ (i := 7) (N := some 28) (v := ?_) (a' := ?_) #[true, true, true, true, true, true, true, true, false, false] rfl rfl (any_of HT_.out (by kernel_rfl)) (fun _ _ _ h => h) (Or.inl ⟨by rfl, ?_⟩) ?_ ?_
          rotate_left
          ·intro w'
           go_simp
           with_reducible rfl
          rotate_left
          ·simp only [Act.put, List.setIfInBounds_toArray, List.set_cons_zero, List.set_cons_succ, i64_w, i32_w]
           rfl
          refine pure_ (i := 8) (N := some 29) (v := ?_) (a' := ?_) #[true, true, true, true, true, true, true, true, true, false] rfl rfl (any_of HT_.out (by kernel_rfl)) (fun _ _ _ h => h) (Or.inl ⟨by rfl, ?_⟩) ?_ ?_
          rotate_left
          ·intro w'
           go_simp
           with_reducible rfl
          rotate_left
          ·simp only [Act.put, List.setIfInBounds_toArray, List.set_cons_zero, List.set_cons_succ, i64_w, i32_w]
           rfl
          refine pure_ (i := 9) (N := some 6) (v := ?_) (a' := ?_) #[true, true, true, true, true, true, true, true, true, true] rfl rfl (any_of HT_.out (by kernel_rfl)) (fun _ _ _ h => h) (Or.inl ⟨by rfl, ?_⟩) ?_ ?_
          rotate_left
          ·intro w'
           go_simp
           with_reducible rfl
          rotate_left
          ·simp only [Act.put, List.setIfInBounds_toArray, List.set_cons_zero, List.set_cons_succ, i64_w, i32_w]
           rfl
          refine done_ (done_of HT_.out (by kernel_rfl)) ?_
          try go_wp2
          go_roundg k1
          case measure => have := HK1.out; omega
          case rel => exact ⟨(x6_1 ++ (t160 ++ (⟨#[10]⟩ : ByteArray))), (wrap64 (x16_1 + 1)), (by first | rfl | (simp only [YtodifojhegbjaaaDoorMpHelp.leq_not, YtodifojhegbjaaaDoorMpHelp.gtr_less]; done) | (simp; done) | (simp [*]; done)), (by first | rfl | (simp only [YtodifojhegbjaaaDoorMpHelp.leq_not, YtodifojhegbjaaaDoorMpHelp.gtr_less]; done) | (simp; done) | (simp [*]; done)), H', ⟨by have := HK1.out; omega⟩, ⟨by repeat (first | (with_reducible first | exact HB.out | apply below_alloc | apply pw_below_drewN | apply below_drew1 | refine below_set ?_ GE158.out) | exact HB.out)⟩⟩
         ·rw [if_neg c10] at H
          exact absurd H (by simp)
        ·rw [if_neg c9] at H
         exact absurd H (by simp)
       ·rw [if_neg c7] at H
        exact absurd H (by simp)
      ·rw [if_neg c6] at H
       exact absurd H (by simp)
     ·rw [if_neg c5] at H
      exact absurd H (by simp)
    ·rw [if_neg c4] at H
     have c4b0 : decide (x16_1 < (l0.length : Int)) = false := decide_eq_false c4
     clear c4
     simp only [Option.some.injEq, Prod.mk.injEq] at H
     obtain ⟨rfl, rfl⟩ := H
     go_wp2
     go_ret2
     exact ⟨by first | rfl | (simp [errW_none, errW_some] <;> rfl) | (simp [*, errW_none, errW_some] <;> rfl), by repeat (first | (with_reducible first | exact HB.out | apply below_alloc | apply pw_below_drewN | apply below_drew1) | exact HB.out)⟩
 ·rw [if_neg c3] at H
  have c3b0 : ((l0.length : Int) == (l1.length : Int)) = false := beq_eq_false_iff_ne.mpr c3
  have c3b1 : ((l0.length : Int) != (l1.length : Int)) = true := bne_iff_ne.mpr c3
  have c3b2 : (l0.length == l1.length) = false := by first | simpa using c3 | (simp at c3 ⊢; omega)
  simp only [Option.some.injEq, Prod.mk.injEq] at H
  obtain ⟨rfl, rfl⟩ := H
  go_enter Tryd.func19, Tryd.ntmps19
  go_wp2
  go_ret2
  exact ⟨by first | rfl | (simp [errW_none, errW_some] <;> rfl) | (simp [*, errW_none, errW_some] <;> rfl), by repeat (first | (with_reducible first | exact HB.out | apply below_alloc | apply pw_below_drewN | apply below_drew1) | exact HB.out)⟩

/-! ### bindleref33_Text: function 20 -/
def bindleref33_Text.l0 : Nat → List (S47) → List (S53) → ByteArray → Int → Option (ByteArray)
 | 0, _, _, _, _ => none
 | k + 1, x0, x1, x5, x6 => if x6 < (x0.length : Int) then (if 0 ≤ x6 then (if x6 < (x1.length : Int) then ((bindleref33_Line.f k ((rd_T47 x0 x6).f0) ((rd_T47 x0 x6).f1) ((rd_T47 x0 x6).f2) ((rd_T47 x0 x6).f3) ((rd_T47 x0 x6).f4.f0) ((rd_T47 x0 x6).f4.f1) ((rd_T47 x0 x6).f4.f2) ((rd_T53 x1 x6).f0) ((rd_T53 x1 x6).f1) ((rd_T53 x1 x6).f2) ((rd_T53 x1 x6).f3) ((rd_T53 x1 x6).f4) ((rd_T53 x1 x6).f5) ((rd_T53 x1 x6).f6)).bind fun t163 => (if x5.size + t163.size ≤ 9223372036854775807 then (if (x5 ++ t163).size + 1 ≤ 9223372036854775807 then (bindleref33_Text.l0 k x0 x1 ((x5 ++ t163) ++ (⟨#[10]⟩ : ByteArray)) (wrap64 (x6 + 1))) else (none)) else (none))) else (none)) else (none)) else (some x5)
def bindleref33_Text.f (k : Nat) (l0 : List (S47)) (l1 : List (S53)) : Option (ByteArray) := bindleref33_Text.l0 k l0 l1 (⟨#[]⟩ : ByteArray) 0
theorem bindleref33_Text.mono_l : ∀ k, (∀ y0 y1 y2 y3, LeO (bindleref33_Text.l0 k y0 y1 y2 y3) (bindleref33_Text.l0 (k + 1) y0 y1 y2 y3))
 | 0 => fun _ _ _ _ r h => by simp [bindleref33_Text.l0] at h
 | k + 1 => by
  have ih0 := bindleref33_Text.mono_l k
  ·intro y0 y1 y2 y3
   unfold bindleref33_Text.l0
   repeat' first
   | (with_reducible exact ih0 _ _ _ _)
   | (with_reducible exact bindleref33_Line.mono _ _ _ _ _ _ _ _ _ _ _ _ _ _ _)
   | (with_reducible exact LeO.refl _)
   | (with_reducible exact LeO.none _)
   | (with_reducible refine LeO.ite ?_ ?_)
   | (with_reducible refine LeO.bind ?_ (fun _ => ?_))
   | exact ih0 _ _ _ _
   | exact bindleref33_Line.mono _ _ _ _ _ _ _ _ _ _ _ _ _ _ _
   | exact LeO.none _
   | refine LeO.ite ?_ ?_
   | refine LeO.bind ?_ (fun _ => ?_)
theorem bindleref33_Text.mono : ∀ a0 a1 k, LeO (bindleref33_Text.f k a0 a1) (bindleref33_Text.f (k + 1) a0 a1) := by
 intro a0 a1 k
 have ih0 := bindleref33_Text.mono_l k
 unfold bindleref33_Text.f
 repeat' first
   | (with_reducible exact ih0 _ _ _ _)
   | (with_reducible exact bindleref33_Line.mono _ _ _ _ _ _ _ _ _ _ _ _ _ _ _)
   | (with_reducible exact LeO.refl _)
   | (with_reducible exact LeO.none _)
   | (with_reducible refine LeO.ite ?_ ?_)
   | (with_reducible refine LeO.bind ?_ (fun _ => ?_))
   | exact ih0 _ _ _ _
   | exact bindleref33_Line.mono _ _ _ _ _ _ _ _ _ _ _ _ _ _ _
   | exact LeO.none _
   | refine LeO.ite ?_ ?_
   | refine LeO.bind ?_ (fun _ => ?_)
def bindleref33_Text.T5 : Bool × List (List Nat × List Nat) := (true, [([], []), ([], []), ([], []), ([1, 2], [1, 2]), ([3], [3]), ([], []), ([], []), ([5, 6], [5, 6]), ([7], [7]), ([4, 8], [4, 8]), ([0, 9], [0, 9]), ([10], [10]), ([11, 9, 0, 1, 2, 3, 4, 5, 6, 7, 8, 9, 10, 11], [0, 11])])
def bindleref33_Text.B5 : List Nat := [0, 0, 0, 6, 14, 0, 0, 96, 224, 510, 1023, 2047, 4095]
theorem bindleref33_Text.tab5 : rtab .any (opsOf Tryd.f20 5) = bindleref33_Text.T5 := by kernel_rfl
theorem bindleref33_Text.bits5 : waitsOk bindleref33_Text.T5.2 bindleref33_Text.B5 = true := by kernel_rfl
set_option maxHeartbeats 8000000 in
set_option maxRecDepth 100000 in
theorem bindleref33_Text.calls (k : Nat) (A0 : Option Addr) (c0 : Nat) (l0 : List (S47)) (A1 : Option Addr) (c1 : Nat) (l1 : List (S53)) (r : ByteArray) (w : World) (hr0 : Kd.C k47 w A0 l0.length l0) (hc0 : l0.length ≤ c0) (hr1 : Kd.C k53 w A1 l1.length l1) (hc1 : l1.length ≤ c1) (h : bindleref33_Text.f k l0 l1 = some r) :
  Calls Tryd.prog 20 #[.slice A0 l0.length c0, .slice A1 l1.length c1] w fun e w' => e = .returned (.string r) ∧ Below w.heap.size w w' := by
 have hu47 := Tryd.underlying47
 have hu53 := Tryd.underlying53
 have HR0 := Aside0.mk hr0
 have HC0 := Aside0.mk hc0
 clear hr0 hc0
 have HR1 := Aside0.mk hr1
 have HC1 := Aside0.mk hc1
 clear hr1 hc1
 have HB := Aside0.mk (Below.refl w.heap.size w)
 have H : (bindleref33_Text.l0 k l0 l1 (⟨#[]⟩ : ByteArray) 0) = some r := h
 clear h
 have H' := Aside0.mk H
 clear H
 go_enter Tryd.func20, Tryd.ntmps20
 go_wp2
 go_loopg [5, 6] k (fun kq v5 v6 w' => ∃ (x5_1 : ByteArray) (x6_1 : Int), v5 = .string x5_1 ∧ v6 = .int .i64 x6_1 ∧ Aside0 (bindleref33_Text.l0 kq l0 l1 x5_1 x6_1 = some r) ∧ Aside0 (kq ≤ k) ∧ Aside0 (Below w.heap.size w w'))
 case atStart => exact ⟨((⟨#[]⟩ : ByteArray)), (0), (by first | rfl | (simp only [YtodifojhegbjaaaDoorMpHelp.leq_not, YtodifojhegbjaaaDoorMpHelp.gtr_less]; done) | (simp; done) | (simp [*]; done)), (by first | rfl | (simp only [YtodifojhegbjaaaDoorMpHelp.leq_not, YtodifojhegbjaaaDoorMpHelp.gtr_less]; done) | (simp; done) | (simp [*]; done)), H', ⟨Nat.le_refl _⟩, ⟨by repeat (first | (with_reducible first | exact HB.out | apply below_alloc | apply pw_below_drewN | apply below_drew1) | exact HB.out)⟩⟩
 case round =>
  clear H'
  try clear c1
  try clear c2
  try clear p2
  obtain ⟨x5_1, x6_1, rfl, rfl, HA, HK1, HB⟩ := hrel
  cases gk with
  | zero => exact absurd HA.out (by simp [bindleref33_Text.l0])
  | succ k1 =>
   have H := HA.out
   clear HA
   simp only [bindleref33_Text.l0] at H
   by_cases c3 : x6_1 < (l0.length : Int)
   ·rw [if_pos c3] at H
    have c3b0 : decide (x6_1 < (l0.length : Int)) = true := decide_eq_true c3
    clear c3
    by_cases c4 : 0 ≤ x6_1
    ·rw [if_pos c4] at H
     have c4b0 : decide (0 ≤ x6_1) = true := decide_eq_true c4
     clear c4
     by_cases c5 : x6_1 < (l1.length : Int)
     ·rw [if_pos c5] at H
      have c5b0 : decide (x6_1 < (l1.length : Int)) = true := decide_eq_true c5
      clear c5
      replace H := Option.bind_eq_some_iff.mp H
      obtain ⟨t163, A60, H⟩ := H
      replace H : (if x5_1.size + t163.size ≤ 9223372036854775807 then (if (x5_1 ++ t163).size + 1 ≤ 9223372036854775807 then (bindleref33_Text.l0 k1 l0 l1 ((x5_1 ++ t163) ++ (⟨#[10]⟩ : ByteArray)) (wrap64 (x6_1 + 1))) else (none)) else (none)) = some r := H
      have A6 := Aside0.mk A60
      clear A60
      by_cases c7 : x5_1.size + t163.size ≤ 9223372036854775807
      ·rw [if_pos c7] at H
       have c7b0 := eq_true c7
       have c7b1 : decide (x5_1.size + t163.size ≤ 9223372036854775807) = true := decide_eq_true c7
       try have c7b2 : (9223372036854775807 < x5_1.size + t163.size) = False := eq_false (Nat.not_lt.2 c7)
       by_cases c8 : (x5_1 ++ t163).size + 1 ≤ 9223372036854775807
       ·rw [if_pos c8] at H
        have c8b0 := eq_true c8
        have c8b1 : decide ((x5_1 ++ t163).size + 1 ≤ 9223372036854775807) = true := decide_eq_true c8
        try have c8b2 : (9223372036854775807 < (x5_1 ++ t163).size + 1) = False := eq_false (Nat.not_lt.2 c8)
        try (have c8b3 := c8; simp only [ByteArray.size_append] at c8b3; have c8b4 := eq_false (Nat.not_lt.2 c8b3))
        have H' := Aside0.mk H
        clear H
        try go_wp2
        have n0_ := Aside0.mk (below_drew1 HB.out)
        clear HB
        have HB := n0_
        clear n0_
        have p161 : 0 ≤ (x6_1 : Int) := of_decide_eq_true (by first | (with_reducible assumption) | assumption)
        have q161 : x6_1 < (l0.length : Int) := of_decide_eq_true (by first | (with_reducible assumption) | assumption)
        obtain ⟨ad161, A161_2, c161_2, A161_4, c161_4, e161, hx161_0, hx161_1, hx161_2, hx161_3, hx161_4, hx161_5, hx161_6, hl161_2, hi161_2, hl161_4, hi161_4⟩ := at_T47 HR0.out x6_1 p161 q161
        have hw161_6 := hx161_6
        have hw161_5 := hx161_5
        have hw161_4 := hx161_4
        have hw161_3 := hx161_3
        have hw161_2 := hx161_2
        have hw161_1 := hx161_1
        have hw161_0 := hx161_0
        cases e161
        replace hx161_0 := (HB.out.cell (World.block_lt_of_cell? w _ hx161_0)).trans hx161_0
        replace hx161_1 := (HB.out.cell (World.block_lt_of_cell? w _ hx161_1)).trans hx161_1
        replace hx161_2 := (HB.out.cell (World.block_lt_of_cell? w _ hx161_2)).trans hx161_2
        replace hx161_3 := (HB.out.cell (World.block_lt_of_cell? w _ hx161_3)).trans hx161_3
        replace hx161_4 := (HB.out.cell (World.block_lt_of_cell? w _ hx161_4)).trans hx161_4
        replace hx161_5 := (HB.out.cell (World.block_lt_of_cell? w _ hx161_5)).trans hx161_5
        replace hx161_6 := (HB.out.cell (World.block_lt_of_cell? w _ hx161_6)).trans hx161_6
        have HR161_2 := Aside0.mk hi161_2
        have HC161_2 := Aside0.mk hl161_2
        clear hi161_2 hl161_2
        have HR161_4 := Aside0.mk hi161_4
        have HC161_4 := Aside0.mk hl161_4
        clear hi161_4 hl161_4
        replace p161 := eq_true p161
        replace q161 := eq_true q161
        have p162 : 0 ≤ (x6_1 : Int) := of_decide_eq_true (by first | (with_reducible assumption) | assumption)
        have q162 : x6_1 < (l1.length : Int) := of_decide_eq_true (by first | (with_reducible assumption) | assumption)
        obtain ⟨ad162, A162_1, c162_1, A162_3, c162_3, A162_4, c162_4, e162, hx162_0, hx162_1, hx162_2, hx162_3, hx162_4, hx162_5, hx162_6, hl162_1, hi162_1, hl162_3, hi162_3, hl162_4, hi162_4⟩ := at_T53 HR1.out x6_1 p162 q162
        have hw162_6 := hx162_6
        have hw162_5 := hx162_5
        have hw162_4 := hx162_4
        have hw162_3 := hx162_3
        have hw162_2 := hx162_2
        have hw162_1 := hx162_1
        have hw162_0 := hx162_0
        cases e162
        replace hx162_0 := (HB.out.cell (World.block_lt_of_cell? w _ hx162_0)).trans hx162_0
        replace hx162_1 := (HB.out.cell (World.block_lt_of_cell? w _ hx162_1)).trans hx162_1
        replace hx162_2 := (HB.out.cell (World.block_lt_of_cell? w _ hx162_2)).trans hx162_2
        replace hx162_3 := (HB.out.cell (World.block_lt_of_cell? w _ hx162_3)).trans hx162_3
        replace hx162_4 := (HB.out.cell (World.block_lt_of_cell? w _ hx162_4)).trans hx162_4
        replace hx162_5 := (HB.out.cell (World.block_lt_of_cell? w _ hx162_5)).trans hx162_5
        replace hx162_6 := (HB.out.cell (World.block_lt_of_cell? w _ hx162_6)).trans hx162_6
        have HR162_1 := Aside0.mk hi162_1
        have HC162_1 := Aside0.mk hl162_1
        clear hi162_1 hl162_1
        have HR162_3 := Aside0.mk hi162_3
        have HC162_3 := Aside0.mk hl162_3
        clear hi162_3 hl162_3
        have HR162_4 := Aside0.mk hi162_4
        have HC162_4 := Aside0.mk hl162_4
        clear hi162_4 hl162_4
        replace p162 := eq_true p162
        replace q162 := eq_true q162
        refine start_ (n := 13) (S := fun w' => w'.cell? (ad161.add ((x6_1).toNat * 7)) = some (.int .i64 ((rd_T47 l0 x6_1).f0)) ∧ w'.cell? ⟨(ad161.add ((x6_1).toNat * 7)).block, (ad161.add ((x6_1).toNat * 7)).off + 1, none⟩ = some (.string ((rd_T47 l0 x6_1).f1)) ∧ w'.cell? ⟨(ad161.add ((x6_1).toNat * 7)).block, (ad161.add ((x6_1).toNat * 7)).off + 2, none⟩ = some (.slice A161_2 ((rd_T47 l0 x6_1).f2).length c161_2) ∧ w'.cell? ⟨(ad161.add ((x6_1).toNat * 7)).block, (ad161.add ((x6_1).toNat * 7)).off + 3, none⟩ = some (.int .i64 ((rd_T47 l0 x6_1).f3)) ∧ w'.cell? ⟨(ad161.add ((x6_1).toNat * 7)).block, (ad161.add ((x6_1).toNat * 7)).off + 4, none⟩ = some (.slice A161_4 ((rd_T47 l0 x6_1).f4.f0).length c161_4) ∧ w'.cell? ⟨(ad161.add ((x6_1).toNat * 7)).block, (ad161.add ((x6_1).toNat * 7)).off + 5, none⟩ = some (.int .i64 ((rd_T47 l0 x6_1).f4.f1)) ∧ w'.cell? ⟨(ad161.add ((x6_1).toNat * 7)).block, (ad161.add ((x6_1).toNat * 7)).off + 6, none⟩ = some (.int .u8 ((rd_T47 l0 x6_1).f4.f2)) ∧ w'.cell? (ad162.add ((x6_1).toNat * 7)) = some (.int .i64 ((rd_T53 l1 x6_1).f0)) ∧ w'.cell? ⟨(ad162.add ((x6_1).toNat * 7)).block, (ad162.add ((x6_1).toNat * 7)).off + 1, none⟩ = some (.slice A162_1 ((rd_T53 l1 x6_1).f1).length c162_1) ∧ w'.cell? ⟨(ad162.add ((x6_1).toNat * 7)).block, (ad162.add ((x6_1).toNat * 7)).off + 2, none⟩ = some (.int .i64 ((rd_T53 l1 x6_1).f2)) ∧ w'.cell? ⟨(ad162.add ((x6_1).toNat * 7)).block, (ad162.add ((x6_1).toNat * 7)).off + 3, none⟩ = some (.slice A162_3 ((rd_T53 l1 x6_1).f3).length c162_3) ∧ w'.cell? ⟨(ad162.add ((x6_1).toNat * 7)).block, (ad162.add ((x6_1).toNat * 7)).off + 4, none⟩ = some (.slice A162_4 ((rd_T53 l1 x6_1).f4).length c162_4) ∧ w'.cell? ⟨(ad162.add ((x6_1).toNat * 7)).block, (ad162.add ((x6_1).toNat * 7)).off + 5, none⟩ = some (.bool ((rd_T53 l1 x6_1).f5)) ∧ w'.cell? ⟨(ad162.add ((x6_1).toNat * 7)).block, (ad162.add ((x6_1).toNat * 7)).off + 6, none⟩ = some (.bool ((rd_T53 l1 x6_1).f6))) (ds := []) #[false, false, false, false, false, false, false, false, false, false, false, false, false] (by kernel_rfl) rfl rfl ⟨((HB.out.cell (World.block_lt_of_cell? w _ hw161_0)).trans hw161_0), ((HB.out.cell (World.block_lt_of_cell? w _ hw161_1)).trans hw161_1), ((HB.out.cell (World.block_lt_of_cell? w _ hw161_2)).trans hw161_2), ((HB.out.cell (World.block_lt_of_cell? w _ hw161_3)).trans hw161_3), ((HB.out.cell (World.block_lt_of_cell? w _ hw161_4)).trans hw161_4), ((HB.out.cell (World.block_lt_of_cell? w _ hw161_5)).trans hw161_5), ((HB.out.cell (World.block_lt_of_cell? w _ hw161_6)).trans hw161_6), ((HB.out.cell (World.block_lt_of_cell? w _ hw162_0)).trans hw162_0), ((HB.out.cell (World.block_lt_of_cell? w _ hw162_1)).trans hw162_1), ((HB.out.cell (World.block_lt_of_cell? w _ hw162_2)).trans hw162_2), ((HB.out.cell (World.block_lt_of_cell? w _ hw162_3)).trans hw162_3), ((HB.out.cell (World.block_lt_of_cell? w _ hw162_4)).trans hw162_4), ((HB.out.cell (World.block_lt_of_cell? w _ hw162_5)).trans hw162_5), ((HB.out.cell (World.block_lt_of_cell? w _ hw162_6)).trans hw162_6)⟩ (fun hHeld => ?_); refine with_tabW bindleref33_Text.tab5 bindleref33_Text.bits5 (fun HT_ HW_ => ?_)
        generalize wr.drew = w9 at HB HR161_2 HR161_4 HR162_1 HR162_3 HR162_4 hx161_0 hx161_1 hx161_2 hx161_3 hx161_4 hx161_5 hx161_6 hx162_0 hx162_1 hx162_2 hx162_3 hx162_4 hx162_5 hx162_6 hHeld ⊢
        refine pure_ (i := 0) (N := some 13) (v := ?_) (a' := ?_) #[true, false, false, false, false, false, false, false, false, false, false, false, false] rfl rfl (any_of HT_.out (by kernel_rfl)) (fun _ _ _ h => h) (Or.inl ⟨by rfl, ?_⟩) ?_ ?_
        rotate_left
        ·intro w'
         go_simp
         with_reducible rfl
        rotate_left
        ·simp only [Act.put, List.setIfInBounds_toArray, List.set_cons_zero, List.set_cons_succ, i64_w, i32_w]
         rfl
        refine pure_ (i := 1) (N := some 14) (v := ?_) (a' := ?_) #[true, true, false, false, false, false, false, false, false, false, false, false, false] rfl rfl (any_of HT_.out (by kernel_rfl)) (fun _ _ _ h => h) (Or.inl ⟨by rfl, ?_⟩) ?_ ?_
        rotate_left
        ·intro w'
         go_simp
         with_reducible rfl
        rotate_left
        ·simp only [Act.put, List.setIfInBounds_toArray, List.set_cons_zero, List.set_cons_succ, i64_w, i32_w]
         rfl
        refine pure_ (i := 2) (N := some 15) (v := ?_) (a' := ?_) #[true, true, true, false, false, false, false, false, false, false, false, false, false] rfl rfl (any_of HT_.out (by kernel_rfl)) (fun _ _ _ h => h) (Or.inl ⟨by rfl, ?_⟩) ?_ ?_
        rotate_left
        ·intro w'
         go_simp
         with_reducible rfl
        rotate_left
        ·simp only [Act.put, List.setIfInBounds_toArray, List.set_cons_zero, List.set_cons_succ, i64_w, i32_w]
         rfl
        refine pure_ (i := 3) (N := some 16) (v := ?_) (a' := ?_) #[true, true, true, true, false, false, false, false, false, false, false, false, false] rfl rfl (any_of HT_.out (by kernel_rfl)) (fun _ _ _ h => h) (Or.inl ⟨by rfl, ?_⟩) ?_ ?_
        rotate_left
        ·intro w'
         go_simp
         with_reducible rfl
        rotate_left
        ·simp only [Act.put, List.setIfInBounds_toArray, List.set_cons_zero, List.set_cons_succ, i64_w, i32_w]
         rfl
        refine pure_ (i := 5) (N := some 18) (v := ?_) (a' := ?_) #[true, true, true, true, false, true, false, false, false, false, false, false, false] rfl rfl (any_of HT_.out (by kernel_rfl)) (fun _ _ _ h => h) (Or.inl ⟨by rfl, ?_⟩) ?_ ?_
        rotate_left
        ·intro w'
         go_simp
         with_reducible rfl
        rotate_left
        ·simp only [Act.put, List.setIfInBounds_toArray, List.set_cons_zero, List.set_cons_succ, i64_w, i32_w]
         rfl
        refine pure_ (i := 6) (N := some 19) (v := ?_) (a' := ?_) #[true, true, true, true, false, true, true, false, false, false, false, false, false] rfl rfl (any_of HT_.out (by kernel_rfl)) (fun _ _ _ h => h) (Or.inl ⟨by rfl, ?_⟩) ?_ ?_
        rotate_left
        ·intro w'
         go_simp
         with_reducible rfl
        rotate_left
        ·simp only [Act.put, List.setIfInBounds_toArray, List.set_cons_zero, List.set_cons_succ, i64_w, i32_w]
         rfl
        refine pure_ (i := 7) (N := some 20) (v := ?_) (a' := ?_) #[true, true, true, true, false, true, true, true, false, false, false, false, false] rfl rfl (any_of HT_.out (by kernel_rfl)) (fun _ _ _ h => h) (Or.inl ⟨by rfl, ?_⟩) ?_ ?_
        rotate_left
        ·intro w'
         go_simp
         with_reducible rfl
        rotate_left
        ·simp only [Act.put, List.setIfInBounds_toArray, List.set_cons_zero, List.set_cons_succ, i64_w, i32_w]
         rfl
        refine take_ (i := 4) (N := some 17) (v := ?_) (a' := ?_) #[true, true, true, true, true, true, true, true, false, false, false, false, false] rfl rfl (take_ofW HT_.out HW_.out (by kernel_rfl)) (fun _ _ _ h => h) (Or.inl ⟨by rfl, ?_⟩) hHeld ?_ ?_
        rotate_left
        ·rintro w' ⟨s0, s1, s2, s3, s4, s5, s6, s7, s8, s9, s10, s11, s12, s13⟩
         go_simp
         with_reducible rfl
        rotate_left
        ·simp only [Act.put, List.setIfInBounds_toArray, List.set_cons_zero, List.set_cons_succ, i64_w, i32_w]
         rfl
        refine take_ (i := 8) (N := some 21) (v := ?_) (a' := ?_) #[true, true, true, true, true, true, true, true, true, false, false, false, false] rfl rfl (take_ofW HT_.out HW_.out (by kernel_rfl)) (fun _ _ _ h => h) (Or.inl ⟨by rfl, ?_⟩) hHeld ?_ ?_
        rotate_left
        ·rintro w' ⟨s0, s1, s2, s3, s4, s5, s6, s7, s8, s9, s10, s11, s12, s13⟩
         go_simp
         with_reducible rfl
        rotate_left
        ·simp only [Act.put, List.setIfInBounds_toArray, List.set_cons_zero, List.set_cons_succ, i64_w, i32_w]
         rfl
        refine one_ (i := 9) (N := some 22) #[true, true, true, true, true, true, true, true, true, true, false, false, false] rfl rfl (one_of HT_.out (by kernel_rfl)) (by decide) (fun K hK => ?_)
        refine goes_ Tryd.func18 (by kernel_rfl) rfl #[.agg #[.int .i64 ((rd_T47 l0 x6_1).f0), .string ((rd_T47 l0 x6_1).f1), .slice A161_2 ((rd_T47 l0 x6_1).f2).length c161_2, .int .i64 ((rd_T47 l0 x6_1).f3), .slice A161_4 ((rd_T47 l0 x6_1).f4.f0).length c161_4, .int .i64 ((rd_T47 l0 x6_1).f4.f1), .int .u8 ((rd_T47 l0 x6_1).f4.f2)], .agg #[.int .i64 ((rd_T53 l1 x6_1).f0), .slice A162_1 ((rd_T53 l1 x6_1).f1).length c162_1, .int .i64 ((rd_T53 l1 x6_1).f2), .slice A162_3 ((rd_T53 l1 x6_1).f3).length c162_3, .slice A162_4 ((rd_T53 l1 x6_1).f4).length c162_4, .bool ((rd_T53 l1 x6_1).f5), .bool ((rd_T53 l1 x6_1).f6)]] (by rfl) rfl rfl (by (try simp only [List.map_toArray, List.map_cons, List.map_nil]); first | done | rfl | (simp only [List.length_drop, List.length_take]; rfl)) ?_
        with_reducible refine (bindleref33_Line.calls k1 ((rd_T47 l0 x6_1).f0) ((rd_T47 l0 x6_1).f1) _ _ ((rd_T47 l0 x6_1).f2) ((rd_T47 l0 x6_1).f3) _ _ ((rd_T47 l0 x6_1).f4.f0) ((rd_T47 l0 x6_1).f4.f1) ((rd_T47 l0 x6_1).f4.f2) ((rd_T53 l1 x6_1).f0) _ _ ((rd_T53 l1 x6_1).f1) ((rd_T53 l1 x6_1).f2) _ _ ((rd_T53 l1 x6_1).f3) _ _ ((rd_T53 l1 x6_1).f4) ((rd_T53 l1 x6_1).f5) ((rd_T53 l1 x6_1).f6) t163 _ ?side1 ?side2 ?side3 ?side4 ?side5 ?side6 ?side7 ?side8 ?side9 ?side10 A6.out).mono ?_
        (case side1 => repeat (first | exact (Kd.C_below HR161_2.out HB.out) | (with_reducible refine Kd.C_alloc ?_ _) | (with_reducible refine Kd.C_drewN ?_ _) | (with_reducible refine Kd.C_drew ?_)))
        (case side2 => exact HC161_2.out)
        (case side3 => repeat (first | exact (Kd.C_below HR161_4.out HB.out) | (with_reducible refine Kd.C_alloc ?_ _) | (with_reducible refine Kd.C_drewN ?_ _) | (with_reducible refine Kd.C_drew ?_)))
        (case side4 => exact HC161_4.out)
        (case side5 => repeat (first | exact (Kd.C_below HR162_1.out HB.out) | (with_reducible refine Kd.C_alloc ?_ _) | (with_reducible refine Kd.C_drewN ?_ _) | (with_reducible refine Kd.C_drew ?_)))
        (case side6 => exact HC162_1.out)
        (case side7 => repeat (first | exact (Kd.C_below HR162_3.out HB.out) | (with_reducible refine Kd.C_alloc ?_ _) | (with_reducible refine Kd.C_drewN ?_ _) | (with_reducible refine Kd.C_drew ?_)))
        (case side8 => exact HC162_3.out)
        (case side9 => repeat (first | exact (Kd.C_below HR162_4.out HB.out) | (with_reducible refine Kd.C_alloc ?_ _) | (with_reducible refine Kd.C_drewN ?_ _) | (with_reducible refine Kd.C_drew ?_)))
        (case side10 => exact HC162_4.out)
        rintro e w10 ⟨rfl, hb⟩
        refine ⟨_, rfl, ?_⟩
        have n0_ := Aside0.mk (below_step (by repeat (first | (with_reducible first | exact HB.out | apply below_alloc | apply pw_below_drewN | apply below_drew1) | exact HB.out)) hb)
        clear HB
        have HB := n0_
        clear n0_
        (try clear hb)
        (try clear hb2)
        (try clear hk)
        (try clear hi)
        refine hK.out _ _ ⟨((HB.out.cell (World.block_lt_of_cell? w _ hw161_0)).trans hw161_0), ((HB.out.cell (World.block_lt_of_cell? w _ hw161_1)).trans hw161_1), ((HB.out.cell (World.block_lt_of_cell? w _ hw161_2)).trans hw161_2), ((HB.out.cell (World.block_lt_of_cell? w _ hw161_3)).trans hw161_3), ((HB.out.cell (World.block_lt_of_cell? w _ hw161_4)).trans hw161_4), ((HB.out.cell (World.block_lt_of_cell? w _ hw161_5)).trans hw161_5), ((HB.out.cell (World.block_lt_of_cell? w _ hw161_6)).trans hw161_6), ((HB.out.cell (World.block_lt_of_cell? w _ hw162_0)).trans hw162_0), ((HB.out.cell (World.block_lt_of_cell? w _ hw162_1)).trans hw162_1), ((HB.out.cell (World.block_lt_of_cell? w _ hw162_2)).trans hw162_2), ((HB.out.cell (World.block_lt_of_cell? w _ hw162_3)).trans hw162_3), ((HB.out.cell (World.block_lt_of_cell? w _ hw162_4)).trans hw162_4), ((HB.out.cell (World.block_lt_of_cell? w _ hw162_5)).trans hw162_5), ((HB.out.cell (World.block_lt_of_cell? w _ hw162_6)).trans hw162_6)⟩ (fun hHeld => ?_)
        clear hK K
        refine norm_ (a' := ?_) ?_ ?_
        rotate_left
        ·show Act.put _ (some 22) _ = _
         simp only [Act.put, List.setIfInBounds_toArray, List.set_cons_zero, List.set_cons_succ, i64_w, i32_w]
         rfl
        refine pure_ (i := 10) (N := some 23) (v := ?_) (a' := ?_) #[true, true, true, true, true, true, true, true, true, true, true, false, false] rfl rfl (any_of HT_.out (by kernel_rfl)) (fun _ _ _ h => h) (Or.inl ⟨by rfl, ?_⟩) ?_ ?_
        rotate_left
        ·intro w'
         go_simp
         with_reducible rfl
        rotate_left
        ·simp only [Act.put, List.setIfInBounds_toArray, List.set_cons_zero, List.set_cons_succ, i64_w, i32_w]
         rfl
        refine pure_ (i := 11) (N := some 24) (v := ?_) (a' := ?_) #[true, true, true, true, true, true, true, true, true, true, true, true, false] rfl rfl (any_of HT_.out (by kernel_rfl)) (fun _ _ _ h => h) (Or.inl ⟨by rfl, ?_⟩) ?_ ?_
        rotate_left
        ·intro w'
         go_simp
         with_reducible rfl
        rotate_left
        ·simp only [Act.put, List.setIfInBounds_toArray, List.set_cons_zero, List.set_cons_succ, i64_w, i32_w]
         rfl
        refine pure_ (i := 12) (N := some 5) (v := ?_) (a' := ?_) #[true, true, true, true, true, true, true, true, true, true, true, true, true] rfl rfl (any_of HT_.out (by kernel_rfl)) (fun _ _ _ h => h) (Or.inl ⟨by rfl, ?_⟩) ?_ ?_
        rotate_left
        ·intro w'
         go_simp
         with_reducible rfl
        rotate_left
        ·simp only [Act.put, List.setIfInBounds_toArray, List.set_cons_zero, List.set_cons_succ, i64_w, i32_w]
         rfl
        refine done_ (done_of HT_.out (by kernel_rfl)) ?_
        try go_wp2
        go_roundg k1
        case measure => have := HK1.out; omega
        case rel => exact ⟨((x5_1 ++ t163) ++ (⟨#[10]⟩ : ByteArray)), (wrap64 (x6_1 + 1)), (by first | rfl | (simp only [YtodifojhegbjaaaDoorMpHelp.leq_not, YtodifojhegbjaaaDoorMpHelp.gtr_less]; done) | (simp; done) | (simp [*]; done)), (by first | rfl | (simp only [YtodifojhegbjaaaDoorMpHelp.leq_not, YtodifojhegbjaaaDoorMpHelp.gtr_less]; done) | (simp; done) | (simp [*]; done)), H', ⟨by have := HK1.out; omega⟩, ⟨by repeat (first | (with_reducible first | exact HB.out | apply below_alloc | apply pw_below_drewN | apply below_drew1) | exact HB.out)⟩⟩
       ·rw [if_neg c8] at H
        exact absurd H (by simp)
      ·rw [if_neg c7] at H
       exact absurd H (by simp)
     ·rw [if_neg c5] at H
      exact absurd H (by simp)
    ·rw [if_neg c4] at H
     exact absurd H (by simp)
   ·rw [if_neg c3] at H
    have c3b0 : decide (x6_1 < (l0.length : Int)) = false := decide_eq_false c3
    clear c3
    obtain rfl := Option.some.inj H
    go_wp2
    go_ret
    exact ⟨by first | rfl | (simp [errW_none, errW_some] <;> rfl) | (simp [*, errW_none, errW_some] <;> rfl), by repeat (first | (with_reducible first | exact HB.out | apply below_alloc | apply pw_below_drewN | apply below_drew1) | exact HB.out)⟩

end Go.Proofs.YtodifojhegbjaaaDoor.PReportLines
