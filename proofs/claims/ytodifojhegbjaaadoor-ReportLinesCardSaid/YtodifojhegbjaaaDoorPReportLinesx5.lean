/- The machine side of a law: for each Go function that it uses a Lean function with the same answers, and the proof that the Go code comes to them; or the row of the law over these. Written by a program of this session. -/
import Derived.Test.YtodifojhegbjaaaDoorPReportLinesx0
import Derived.Test.YtodifojhegbjaaaDoorPReportLinesx3
import Derived.Test.YtodifojhegbjaaaDoorPReportLinesx4
namespace Go.Proofs.YtodifojhegbjaaaDoor.PReportLines
open Go.RowKit Go.Proofs.YtodifojhegbjaaaDoorW.PrintWords Go.Proofs.YtodifojhegbjaaaDoorW.PrintLast Go.Proofs.YtodifojhegbjaaaDoorW.PrintMore
attribute [local go_sem] max2_int min2_int max_two min_two max_three min_three max_four min_four   -- for this text's walks alone
set_option linter.unusedVariables false
set_option linter.unusedSimpArgs false

/-! ### bindleref33_Line: function 18 -/
mutual
def bindleref33_Line.j0 : Nat → ByteArray → Int → ByteArray → List Int → Int → List Bool → Int → Int → Int → List Int → Int → List ByteArray → List (S122) → Bool → Bool → Option (ByteArray)
 | 0, _, _, _, _, _, _, _, _, _, _, _, _, _, _, _ => none
 | k + 1, x5, x148000, x148001, x148002, x148003, x148004, x148005, x148006, x149000, x149001, x149002, x149003, x149004, x149005, x149006 => if x5.size + 2 ≤ 9223372036854775807 then ((bindleref33_Code.f x149000).bind fun t151 => (if (x5 ++ (⟨#[58, 32]⟩ : ByteArray)).size + t151.size ≤ 9223372036854775807 then (if x149000 = 0 then (if x148000 = 8 then (if ((x5 ++ (⟨#[58, 32]⟩ : ByteArray)) ++ t151).size + 1 ≤ 9223372036854775807 then ((bindleref33_Digits.f k (x149001.length : Int)).bind fun t152 => (if (((x5 ++ (⟨#[58, 32]⟩ : ByteArray)) ++ t151) ++ (⟨#[32]⟩ : ByteArray)).size + t152.size ≤ 9223372036854775807 then (if ((((x5 ++ (⟨#[58, 32]⟩ : ByteArray)) ++ t151) ++ (⟨#[32]⟩ : ByteArray)) ++ t152).size + 1 ≤ 9223372036854775807 then (bindleref33_Line.j1 k (((((x5 ++ (⟨#[58, 32]⟩ : ByteArray)) ++ t151) ++ (⟨#[32]⟩ : ByteArray)) ++ t152) ++ (⟨#[98]⟩ : ByteArray)) x149000 x149001 x149002 x149003 x149004 x149005 x149006) else (none)) else (none))) else (none)) else (if x148000 = 9 then (if ((x5 ++ (⟨#[58, 32]⟩ : ByteArray)) ++ t151).size + 1 ≤ 9223372036854775807 then ((bindleref33_Digits.f k x149002).bind fun t153 => (if (((x5 ++ (⟨#[58, 32]⟩ : ByteArray)) ++ t151) ++ (⟨#[32]⟩ : ByteArray)).size + t153.size ≤ 9223372036854775807 then (if ((((x5 ++ (⟨#[58, 32]⟩ : ByteArray)) ++ t151) ++ (⟨#[32]⟩ : ByteArray)) ++ t153).size + 1 ≤ 9223372036854775807 then (bindleref33_Line.j1 k (((((x5 ++ (⟨#[58, 32]⟩ : ByteArray)) ++ t151) ++ (⟨#[32]⟩ : ByteArray)) ++ t153) ++ (⟨#[98]⟩ : ByteArray)) x149000 x149001 x149002 x149003 x149004 x149005 x149006) else (none)) else (none))) else (none)) else (if x148000 = 10 then (if ((x5 ++ (⟨#[58, 32]⟩ : ByteArray)) ++ t151).size + 1 ≤ 9223372036854775807 then ((bindleref33_Digits.f k (x149003.length : Int)).bind fun t154 => (if (((x5 ++ (⟨#[58, 32]⟩ : ByteArray)) ++ t151) ++ (⟨#[32]⟩ : ByteArray)).size + t154.size ≤ 9223372036854775807 then (if ((((x5 ++ (⟨#[58, 32]⟩ : ByteArray)) ++ t151) ++ (⟨#[32]⟩ : ByteArray)) ++ t154).size + 1 ≤ 9223372036854775807 then (bindleref33_Line.j1 k (((((x5 ++ (⟨#[58, 32]⟩ : ByteArray)) ++ t151) ++ (⟨#[32]⟩ : ByteArray)) ++ t154) ++ (⟨#[120]⟩ : ByteArray)) x149000 x149001 x149002 x149003 x149004 x149005 x149006) else (none)) else (none))) else (none)) else (if x148000 = 2 then (if ((x5 ++ (⟨#[58, 32]⟩ : ByteArray)) ++ t151).size + 1 ≤ 9223372036854775807 then ((bindleref33_Digits.f k (x149004.length : Int)).bind fun t155 => (if (((x5 ++ (⟨#[58, 32]⟩ : ByteArray)) ++ t151) ++ (⟨#[32]⟩ : ByteArray)).size + t155.size ≤ 9223372036854775807 then (if ((((x5 ++ (⟨#[58, 32]⟩ : ByteArray)) ++ t151) ++ (⟨#[32]⟩ : ByteArray)) ++ t155).size + 1 ≤ 9223372036854775807 then (bindleref33_Line.j1 k (((((x5 ++ (⟨#[58, 32]⟩ : ByteArray)) ++ t151) ++ (⟨#[32]⟩ : ByteArray)) ++ t155) ++ (⟨#[120]⟩ : ByteArray)) x149000 x149001 x149002 x149003 x149004 x149005 x149006) else (none)) else (none))) else (none)) else (if x148000 = 15 then (if ((x5 ++ (⟨#[58, 32]⟩ : ByteArray)) ++ t151).size + 1 ≤ 9223372036854775807 then ((bindleref33_Digits.f k (x149004.length : Int)).bind fun t156 => (if (((x5 ++ (⟨#[58, 32]⟩ : ByteArray)) ++ t151) ++ (⟨#[32]⟩ : ByteArray)).size + t156.size ≤ 9223372036854775807 then (if ((((x5 ++ (⟨#[58, 32]⟩ : ByteArray)) ++ t151) ++ (⟨#[32]⟩ : ByteArray)) ++ t156).size + 1 ≤ 9223372036854775807 then (bindleref33_Line.j1 k (((((x5 ++ (⟨#[58, 32]⟩ : ByteArray)) ++ t151) ++ (⟨#[32]⟩ : ByteArray)) ++ t156) ++ (⟨#[120]⟩ : ByteArray)) x149000 x149001 x149002 x149003 x149004 x149005 x149006) else (none)) else (none))) else (none)) else (bindleref33_Line.j1 k ((x5 ++ (⟨#[58, 32]⟩ : ByteArray)) ++ t151) x149000 x149001 x149002 x149003 x149004 x149005 x149006)))))) else (bindleref33_Line.j1 k ((x5 ++ (⟨#[58, 32]⟩ : ByteArray)) ++ t151) x149000 x149001 x149002 x149003 x149004 x149005 x149006)) else (none))) else (none)
def bindleref33_Line.j1 : Nat → ByteArray → Int → List Int → Int → List ByteArray → List (S122) → Bool → Bool → Option (ByteArray)
 | 0, _, _, _, _, _, _, _, _ => none
 | k + 1, x5, x149000, x149001, x149002, x149003, x149004, x149005, x149006 => if x149005 = true then (if x5.size + 8 ≤ 9223372036854775807 then (if x149006 = true then (if (x5 ++ (⟨#[32, 114, 101, 102, 117, 115, 101, 100]⟩ : ByteArray)).size + 9 ≤ 9223372036854775807 then (some ((x5 ++ (⟨#[32, 114, 101, 102, 117, 115, 101, 100]⟩ : ByteArray)) ++ (⟨#[32, 112, 111, 105, 115, 111, 110, 101, 100]⟩ : ByteArray))) else (none)) else (some (x5 ++ (⟨#[32, 114, 101, 102, 117, 115, 101, 100]⟩ : ByteArray)))) else (none)) else (if x149006 = true then (if x5.size + 9 ≤ 9223372036854775807 then (some (x5 ++ (⟨#[32, 112, 111, 105, 115, 111, 110, 101, 100]⟩ : ByteArray))) else (none)) else (some x5))
end
def bindleref33_Line.f (k : Nat) (a0_0 : Int) (a0_1 : ByteArray) (l0_2 : List Int) (a0_3 : Int) (l0_4 : List Bool) (a0_5 : Int) (a0_6 : Int) (a1_0 : Int) (l1_1 : List Int) (a1_2 : Int) (l1_3 : List ByteArray) (l1_4 : List (S122)) (a1_5 : Bool) (a1_6 : Bool) : Option (ByteArray) := (bindleref33_Word.f a0_0).bind fun t149 => ((bindleref15_Right.f k a0_1).bind fun t150 => (if t150 = true then (if t149.size + 1 ≤ 9223372036854775807 then (if (t149 ++ (⟨#[32]⟩ : ByteArray)).size + a0_1.size ≤ 9223372036854775807 then (bindleref33_Line.j0 k ((t149 ++ (⟨#[32]⟩ : ByteArray)) ++ a0_1) a0_0 a0_1 l0_2 a0_3 l0_4 a0_5 a0_6 a1_0 l1_1 a1_2 l1_3 l1_4 a1_5 a1_6) else (none)) else (none)) else (bindleref33_Line.j0 k t149 a0_0 a0_1 l0_2 a0_3 l0_4 a0_5 a0_6 a1_0 l1_1 a1_2 l1_3 l1_4 a1_5 a1_6)))
theorem bindleref33_Line.mono_l : ∀ k, (∀ y0 y1 y2 y3 y4 y5 y6 y7 y8 y9 y10 y11 y12 y13 y14, LeO (bindleref33_Line.j0 k y0 y1 y2 y3 y4 y5 y6 y7 y8 y9 y10 y11 y12 y13 y14) (bindleref33_Line.j0 (k + 1) y0 y1 y2 y3 y4 y5 y6 y7 y8 y9 y10 y11 y12 y13 y14)) ∧ (∀ y0 y1 y2 y3 y4 y5 y6 y7, LeO (bindleref33_Line.j1 k y0 y1 y2 y3 y4 y5 y6 y7) (bindleref33_Line.j1 (k + 1) y0 y1 y2 y3 y4 y5 y6 y7))
 | 0 => ⟨fun _ _ _ _ _ _ _ _ _ _ _ _ _ _ _ r h => by simp [bindleref33_Line.j0] at h, fun _ _ _ _ _ _ _ _ r h => by simp [bindleref33_Line.j1] at h⟩
 | k + 1 => by
  obtain ⟨ih0, ih1⟩ := bindleref33_Line.mono_l k
  refine ⟨?_, ?_⟩
  ·intro y0 y1 y2 y3 y4 y5 y6 y7 y8 y9 y10 y11 y12 y13 y14
   unfold bindleref33_Line.j0
   repeat' first
   | (with_reducible exact ih0 _ _ _ _ _ _ _ _ _ _ _ _ _ _ _)
   | (with_reducible exact ih1 _ _ _ _ _ _ _ _)
   | (with_reducible exact bindleref15_Right.mono _ _)
   | (with_reducible exact bindleref33_Digits.mono _ _)
   | (with_reducible exact LeO.refl _)
   | (with_reducible exact LeO.none _)
   | (with_reducible refine LeO.ite ?_ ?_)
   | (with_reducible refine LeO.bind ?_ (fun _ => ?_))
   | exact ih0 _ _ _ _ _ _ _ _ _ _ _ _ _ _ _
   | exact ih1 _ _ _ _ _ _ _ _
   | exact bindleref15_Right.mono _ _
   | exact bindleref33_Digits.mono _ _
   | exact LeO.none _
   | refine LeO.ite ?_ ?_
   | refine LeO.bind ?_ (fun _ => ?_)
  ·intro y0 y1 y2 y3 y4 y5 y6 y7
   unfold bindleref33_Line.j1
   repeat' first
   | (with_reducible exact ih0 _ _ _ _ _ _ _ _ _ _ _ _ _ _ _)
   | (with_reducible exact ih1 _ _ _ _ _ _ _ _)
   | (with_reducible exact bindleref15_Right.mono _ _)
   | (with_reducible exact bindleref33_Digits.mono _ _)
   | (with_reducible exact LeO.refl _)
   | (with_reducible exact LeO.none _)
   | (with_reducible refine LeO.ite ?_ ?_)
   | (with_reducible refine LeO.bind ?_ (fun _ => ?_))
   | exact ih0 _ _ _ _ _ _ _ _ _ _ _ _ _ _ _
   | exact ih1 _ _ _ _ _ _ _ _
   | exact bindleref15_Right.mono _ _
   | exact bindleref33_Digits.mono _ _
   | exact LeO.none _
   | refine LeO.ite ?_ ?_
   | refine LeO.bind ?_ (fun _ => ?_)
theorem bindleref33_Line.mono : ∀ a0 a1 a2 a3 a4 a5 a6 a7 a8 a9 a10 a11 a12 a13 k, LeO (bindleref33_Line.f k a0 a1 a2 a3 a4 a5 a6 a7 a8 a9 a10 a11 a12 a13) (bindleref33_Line.f (k + 1) a0 a1 a2 a3 a4 a5 a6 a7 a8 a9 a10 a11 a12 a13) := by
 intro a0 a1 a2 a3 a4 a5 a6 a7 a8 a9 a10 a11 a12 a13 k
 obtain ⟨ih0, ih1⟩ := bindleref33_Line.mono_l k
 unfold bindleref33_Line.f
 repeat' first
   | (with_reducible exact ih0 _ _ _ _ _ _ _ _ _ _ _ _ _ _ _)
   | (with_reducible exact ih1 _ _ _ _ _ _ _ _)
   | (with_reducible exact bindleref15_Right.mono _ _)
   | (with_reducible exact bindleref33_Digits.mono _ _)
   | (with_reducible exact LeO.refl _)
   | (with_reducible exact LeO.none _)
   | (with_reducible refine LeO.ite ?_ ?_)
   | (with_reducible refine LeO.bind ?_ (fun _ => ?_))
   | exact ih0 _ _ _ _ _ _ _ _ _ _ _ _ _ _ _
   | exact ih1 _ _ _ _ _ _ _ _
   | exact bindleref15_Right.mono _ _
   | exact bindleref33_Digits.mono _ _
   | exact LeO.none _
   | refine LeO.ite ?_ ?_
   | refine LeO.bind ?_ (fun _ => ?_)
set_option maxHeartbeats 8000000 in
set_option maxRecDepth 100000 in
theorem bindleref33_Line.calls (k : Nat) (a0_0 : Int) (a0_1 : ByteArray) (A0_2 : Option Addr) (c0_2 : Nat) (l0_2 : List Int) (a0_3 : Int) (A0_4 : Option Addr) (c0_4 : Nat) (l0_4 : List Bool) (a0_5 : Int) (a0_6 : Int) (a1_0 : Int) (A1_1 : Option Addr) (c1_1 : Nat) (l1_1 : List Int) (a1_2 : Int) (A1_3 : Option Addr) (c1_3 : Nat) (l1_3 : List ByteArray) (A1_4 : Option Addr) (c1_4 : Nat) (l1_4 : List (S122)) (a1_5 : Bool) (a1_6 : Bool) (r : ByteArray) (w : World) (hr0_2 : Kd.C (Kd.int .u8) w A0_2 l0_2.length l0_2) (hc0_2 : l0_2.length ≤ c0_2) (hr0_4 : Kd.C Kd.bool w A0_4 l0_4.length l0_4) (hc0_4 : l0_4.length ≤ c0_4) (hr1_1 : Kd.C (Kd.int .u8) w A1_1 l1_1.length l1_1) (hc1_1 : l1_1.length ≤ c1_1) (hr1_3 : Kd.C Kd.string w A1_3 l1_3.length l1_3) (hc1_3 : l1_3.length ≤ c1_3) (hr1_4 : Kd.C k122 w A1_4 l1_4.length l1_4) (hc1_4 : l1_4.length ≤ c1_4) (h : bindleref33_Line.f k a0_0 a0_1 l0_2 a0_3 l0_4 a0_5 a0_6 a1_0 l1_1 a1_2 l1_3 l1_4 a1_5 a1_6 = some r) :
  Calls Tryd.prog 18 #[.agg #[.int .i64 a0_0, .string a0_1, .slice A0_2 l0_2.length c0_2, .int .i64 a0_3, .slice A0_4 l0_4.length c0_4, .int .i64 a0_5, .int .u8 a0_6], .agg #[.int .i64 a1_0, .slice A1_1 l1_1.length c1_1, .int .i64 a1_2, .slice A1_3 l1_3.length c1_3, .slice A1_4 l1_4.length c1_4, .bool a1_5, .bool a1_6]] w fun e w' => e = .returned (.string r) ∧ Below w.heap.size w w' := by
 have hu47 := Tryd.underlying47
 have hu53 := Tryd.underlying53
 have HR0_2 := Aside0.mk hr0_2
 have HC0_2 := Aside0.mk hc0_2
 clear hr0_2 hc0_2
 have HR0_4 := Aside0.mk hr0_4
 have HC0_4 := Aside0.mk hc0_4
 clear hr0_4 hc0_4
 have HR1_1 := Aside0.mk hr1_1
 have HC1_1 := Aside0.mk hc1_1
 clear hr1_1 hc1_1
 have HR1_3 := Aside0.mk hr1_3
 have HC1_3 := Aside0.mk hc1_3
 clear hr1_3 hc1_3
 have HR1_4 := Aside0.mk hr1_4
 have HC1_4 := Aside0.mk hc1_4
 clear hr1_4 hc1_4
 have HB := Aside0.mk (Below.refl w.heap.size w)
 have H : ((bindleref33_Word.f a0_0).bind fun t149 => ((bindleref15_Right.f k a0_1).bind fun t150 => (if t150 = true then (if t149.size + 1 ≤ 9223372036854775807 then (if (t149 ++ (⟨#[32]⟩ : ByteArray)).size + a0_1.size ≤ 9223372036854775807 then (bindleref33_Line.j0 k ((t149 ++ (⟨#[32]⟩ : ByteArray)) ++ a0_1) a0_0 a0_1 l0_2 a0_3 l0_4 a0_5 a0_6 a1_0 l1_1 a1_2 l1_3 l1_4 a1_5 a1_6) else (none)) else (none)) else (bindleref33_Line.j0 k t149 a0_0 a0_1 l0_2 a0_3 l0_4 a0_5 a0_6 a1_0 l1_1 a1_2 l1_3 l1_4 a1_5 a1_6)))) = some r := h
 clear h
 replace H := Option.bind_eq_some_iff.mp H
 obtain ⟨t149, A30, H⟩ := H
 replace H : ((bindleref15_Right.f k a0_1).bind fun t150 => (if t150 = true then (if t149.size + 1 ≤ 9223372036854775807 then (if (t149 ++ (⟨#[32]⟩ : ByteArray)).size + a0_1.size ≤ 9223372036854775807 then (bindleref33_Line.j0 k ((t149 ++ (⟨#[32]⟩ : ByteArray)) ++ a0_1) a0_0 a0_1 l0_2 a0_3 l0_4 a0_5 a0_6 a1_0 l1_1 a1_2 l1_3 l1_4 a1_5 a1_6) else (none)) else (none)) else (bindleref33_Line.j0 k t149 a0_0 a0_1 l0_2 a0_3 l0_4 a0_5 a0_6 a1_0 l1_1 a1_2 l1_3 l1_4 a1_5 a1_6))) = some r := H
 have A3 := Aside0.mk A30
 clear A30
 replace H := Option.bind_eq_some_iff.mp H
 obtain ⟨t150, A40, H⟩ := H
 replace H : (if t150 = true then (if t149.size + 1 ≤ 9223372036854775807 then (if (t149 ++ (⟨#[32]⟩ : ByteArray)).size + a0_1.size ≤ 9223372036854775807 then (bindleref33_Line.j0 k ((t149 ++ (⟨#[32]⟩ : ByteArray)) ++ a0_1) a0_0 a0_1 l0_2 a0_3 l0_4 a0_5 a0_6 a1_0 l1_1 a1_2 l1_3 l1_4 a1_5 a1_6) else (none)) else (none)) else (bindleref33_Line.j0 k t149 a0_0 a0_1 l0_2 a0_3 l0_4 a0_5 a0_6 a1_0 l1_1 a1_2 l1_3 l1_4 a1_5 a1_6)) = some r := H
 have A4 := Aside0.mk A40
 clear A40
 have HC5 := Aside0.mk H
 clear H
 go_enter Tryd.func18, Tryd.ntmps18
 go_upto_if 11 with (first | ((with_reducible refine gate_dst (N := 2) rfl ?_); refine box_event ?hg (N := 2) ?hd (cs := #[.int .i64 a0_0, .string a0_1, .slice A0_2 l0_2.length c0_2, .int .i64 a0_3, .slice A0_4 l0_4.length c0_4, .int .i64 a0_5, .int .u8 a0_6]) (t := 47) ?hr ?_; (case hd => rfl); (case hg => rfl); (case hr => first | (go_simp; done) | (go_simp; rfl)); intro gb147 hg w6 hbox hb; have n0_ := Aside0.mk (below_step (by repeat (first | (with_reducible first | exact HB.out | apply below_alloc | apply pw_below_drewN | apply below_drew1) | exact HB.out)) hb); have n1_ := Aside0.mk (hbox); have n2_ := Aside0.mk ((by rw [hg]; exact (below_size (by repeat (first | (with_reducible first | exact HB.out | apply below_alloc | apply pw_below_drewN | apply below_drew1) | exact HB.out))) : w.heap.size ≤ gb147)); have n3_ := Aside0.mk ((by rw [hg]; exact (below_size (by repeat (first | (with_reducible first | exact HB.out | apply below_alloc | apply pw_below_drewN | apply below_drew1) | exact HB.out))) : w.heap.size ≤ gb147)); clear HB; have HB := n0_; have BK147 := n1_; have GW147 := n2_; have GE147 := n3_; clear n0_ n1_ n2_ n3_; clear hb hbox hg) | ((with_reducible refine gate_dst (N := 3) rfl ?_); refine box_event ?hg (N := 3) ?hd (cs := #[.int .i64 a1_0, .slice A1_1 l1_1.length c1_1, .int .i64 a1_2, .slice A1_3 l1_3.length c1_3, .slice A1_4 l1_4.length c1_4, .bool a1_5, .bool a1_6]) (t := 53) ?hr ?_; (case hd => rfl); (case hg => rfl); (case hr => first | (go_simp; done) | (go_simp; rfl)); intro gb148 hg w7 hbox hb; have n0_ := Aside0.mk (blk_below (g := gb147) (o := .cells #[.int .i64 a0_0, .string a0_1, .slice A0_2 l0_2.length c0_2, .int .i64 a0_3, .slice A0_4 l0_4.length c0_4, .int .i64 a0_5, .int .u8 a0_6] 47 (0, 0)) (by (with_reducible repeat (first | refine blk_drewN ?_ _ | refine blk_drew ?_ | refine blk_alloc ?_ _)); exact BK147.out) hb); have n1_ := Aside0.mk (below_step (by repeat (first | (with_reducible first | exact HB.out | apply below_alloc | apply pw_below_drewN | apply below_drew1 | refine below_set ?_ GE147.out) | exact HB.out)) hb); have n2_ := Aside0.mk (hbox); have n3_ := Aside0.mk ((by rw [hg]; exact (below_size (by repeat (first | (with_reducible first | exact HB.out | apply below_alloc | apply pw_below_drewN | apply below_drew1 | refine below_set ?_ GE147.out) | exact HB.out))) : w.heap.size ≤ gb148)); have n4_ := Aside0.mk ((by rw [hg]; exact (below_size (by repeat (first | (with_reducible first | exact HB.out | apply below_alloc | apply pw_below_drewN | apply below_drew1 | refine below_set ?_ GE147.out) | exact HB.out))) : w.heap.size ≤ gb148)); have n5_ := Aside0.mk ((by rw [hg]; exact Nat.ne_of_lt (blk_lt (g := gb147) (o := .cells #[.int .i64 a0_0, .string a0_1, .slice A0_2 l0_2.length c0_2, .int .i64 a0_3, .slice A0_4 l0_4.length c0_4, .int .i64 a0_5, .int .u8 a0_6] 47 (0, 0)) (by (with_reducible repeat (first | refine blk_drewN ?_ _ | refine blk_drew ?_ | refine blk_alloc ?_ _)); exact BK147.out)) : gb147 ≠ gb148)); have n6_ := Aside0.mk ((by rw [hg]; exact Nat.ne_of_gt (blk_lt (g := gb147) (o := .cells #[.int .i64 a0_0, .string a0_1, .slice A0_2 l0_2.length c0_2, .int .i64 a0_3, .slice A0_4 l0_4.length c0_4, .int .i64 a0_5, .int .u8 a0_6] 47 (0, 0)) (by (with_reducible repeat (first | refine blk_drewN ?_ _ | refine blk_drew ?_ | refine blk_alloc ?_ _)); exact BK147.out)) : gb148 ≠ gb147)); clear BK147; clear HB; have BK147 := n0_; have HB := n1_; have BK148 := n2_; have GW148 := n3_; have GE148 := n4_; have NB147_148 := n5_; have NB148_147 := n6_; clear n0_ n1_ n2_ n3_ n4_ n5_ n6_; clear hb hbox hg; have hnb8 := NB147_148.out; have hnc8 := NB148_147.out; have hcz9_0 : w7.cell? ⟨gb147, 0, none⟩ = some (.int .i64 a0_0) := (blk_cell BK147.out 0).trans rfl; have hcz9_1 : w7.cell? ⟨gb147, 1, none⟩ = some (.string a0_1) := (blk_cell BK147.out 1).trans rfl; have hcz9_2 : w7.cell? ⟨gb147, 2, none⟩ = some (.slice A0_2 l0_2.length c0_2) := (blk_cell BK147.out 2).trans rfl; have hcz9_3 : w7.cell? ⟨gb147, 3, none⟩ = some (.int .i64 a0_3) := (blk_cell BK147.out 3).trans rfl; have hcz9_4 : w7.cell? ⟨gb147, 4, none⟩ = some (.slice A0_4 l0_4.length c0_4) := (blk_cell BK147.out 4).trans rfl; have hcz9_5 : w7.cell? ⟨gb147, 5, none⟩ = some (.int .i64 a0_5) := (blk_cell BK147.out 5).trans rfl; have hcz9_6 : w7.cell? ⟨gb147, 6, none⟩ = some (.int .u8 a0_6) := (blk_cell BK147.out 6).trans rfl; have hfz9_0 := blk_frozen BK147.out 0; have hfz9_1 := blk_frozen BK147.out 1; have hfz9_2 := blk_frozen BK147.out 2; have hfz9_3 := blk_frozen BK147.out 3; have hfz9_4 := blk_frozen BK147.out 4; have hfz9_5 := blk_frozen BK147.out 5; have hfz9_6 := blk_frozen BK147.out 6) | ((with_reducible refine gate_callee (f := 8) rfl ?_); refine goesL_ (some 8) rfl rfl Tryd.func8 (by kernel_rfl) rfl #[.int .i64 a0_0] rfl (by (try simp only [List.map_toArray, List.map_cons, List.map_nil]); first | done | rfl | (simp only [List.length_drop, List.length_take]; rfl)) ?_; (with_reducible refine (bindleref33_Word.calls a0_0 t149 _ A3.out).mono ?_); rintro e w' ⟨rfl, ⟨nd, rfl⟩⟩; refine ⟨_, rfl, ?_⟩) | ((with_reducible refine gate_callee (f := 26) rfl ?_); refine goesL_ (some 11) rfl rfl Tryd.func26 (by kernel_rfl) rfl #[.string a0_1] rfl (by (try simp only [List.map_toArray, List.map_cons, List.map_nil]); first | done | rfl | (simp only [List.length_drop, List.length_take]; rfl)) ?_; (with_reducible refine (bindleref15_Right.calls k a0_1 t150 _ A4.out).mono ?_); rintro e w10 ⟨rfl, hb⟩; refine ⟨_, rfl, ?_⟩; have n0_ := Aside0.mk (blk_below (g := gb147) (o := .cells #[.int .i64 a0_0, .string a0_1, .slice A0_2 l0_2.length c0_2, .int .i64 a0_3, .slice A0_4 l0_4.length c0_4, .int .i64 a0_5, .int .u8 a0_6] 47 (0, 0)) (by (with_reducible repeat (first | refine blk_drewN ?_ _ | refine blk_drew ?_ | refine blk_alloc ?_ _)); exact BK147.out) hb); have n1_ := Aside0.mk (blk_below (g := gb148) (o := .cells #[.int .i64 a1_0, .slice A1_1 l1_1.length c1_1, .int .i64 a1_2, .slice A1_3 l1_3.length c1_3, .slice A1_4 l1_4.length c1_4, .bool a1_5, .bool a1_6] 53 (0, 0)) (by (with_reducible repeat (first | refine blk_drewN ?_ _ | refine blk_drew ?_ | refine blk_alloc ?_ _)); exact BK148.out) hb); have n2_ := Aside0.mk (below_step (by repeat (first | (with_reducible first | exact HB.out | apply below_alloc | apply pw_below_drewN | apply below_drew1 | refine below_set ?_ GE147.out | refine below_set ?_ GE148.out) | exact HB.out)) hb); clear BK147; clear BK148; clear HB; have BK147 := n0_; have BK148 := n1_; have HB := n2_; clear n0_ n1_ n2_; (try clear hb); (try clear hb2); (try clear hk); (try clear hi)))
 (try simp only [Act.put, List.setIfInBounds_toArray, List.set_cons_zero, List.set_cons_succ])
 go_cut [5] (fun v5 wc => ∃ (kq : Nat) (x5_4 : ByteArray), v5 = .string x5_4 ∧ Aside0 (bindleref33_Line.j0 kq x5_4 a0_0 a0_1 l0_2 a0_3 l0_4 a0_5 a0_6 a1_0 l1_1 a1_2 l1_3 l1_4 a1_5 a1_6 = some r) ∧ Aside0 (kq ≤ k) ∧ Aside0 (wc.heap[gb147]? = some (.cells #[.int .i64 a0_0, .string a0_1, (.slice A0_2 l0_2.length c0_2), .int .i64 a0_3, (.slice A0_4 l0_4.length c0_4), .int .i64 a0_5, .int .u8 a0_6] 47 (0, 0))) ∧ Aside0 (wc.heap[gb148]? = some (.cells #[.int .i64 a1_0, (.slice A1_1 l1_1.length c1_1), .int .i64 a1_2, (.slice A1_3 l1_3.length c1_3), (.slice A1_4 l1_4.length c1_4), .bool a1_5, .bool a1_6] 53 (0, 0))) ∧ Aside0 (Below w.heap.size w wc))
 case first =>
  have H := HC5.out
  clear HC5
  by_cases c11 : t150 = true
  ·subst c11
   have H1 : (if t149.size + 1 ≤ 9223372036854775807 then (if (t149 ++ (⟨#[32]⟩ : ByteArray)).size + a0_1.size ≤ 9223372036854775807 then (bindleref33_Line.j0 k ((t149 ++ (⟨#[32]⟩ : ByteArray)) ++ a0_1) a0_0 a0_1 l0_2 a0_3 l0_4 a0_5 a0_6 a1_0 l1_1 a1_2 l1_3 l1_4 a1_5 a1_6) else (none)) else (none)) = some r := by rw [if_pos rfl] at H; exact H
   clear H
   have H := H1
   clear H1
   by_cases c12 : t149.size + 1 ≤ 9223372036854775807
   ·rw [if_pos c12] at H
    have c12b0 := eq_true c12
    have c12b1 : decide (t149.size + 1 ≤ 9223372036854775807) = true := decide_eq_true c12
    try have c12b2 : (9223372036854775807 < t149.size + 1) = False := eq_false (Nat.not_lt.2 c12)
    by_cases c13 : (t149 ++ (⟨#[32]⟩ : ByteArray)).size + a0_1.size ≤ 9223372036854775807
    ·rw [if_pos c13] at H
     have c13b0 := eq_true c13
     have c13b1 : decide ((t149 ++ (⟨#[32]⟩ : ByteArray)).size + a0_1.size ≤ 9223372036854775807) = true := decide_eq_true c13
     try have c13b2 : (9223372036854775807 < (t149 ++ (⟨#[32]⟩ : ByteArray)).size + a0_1.size) = False := eq_false (Nat.not_lt.2 c13)
     try (have c13b3 := c13; simp only [ByteArray.size_append, show ((⟨#[32]⟩ : ByteArray)).size = 1 from rfl] at c13b3; have c13b4 := eq_false (Nat.not_lt.2 c13b3))
     have H' := Aside0.mk H
     clear H
     have hnb14 := NB147_148.out
     have hnc14 := NB148_147.out
     have hcz15_0 : w10.cell? ⟨gb147, 0, none⟩ = some (.int .i64 a0_0) := (blk_cell BK147.out 0).trans rfl
     have hcz15_1 : w10.cell? ⟨gb147, 1, none⟩ = some (.string a0_1) := (blk_cell BK147.out 1).trans rfl
     have hcz15_2 : w10.cell? ⟨gb147, 2, none⟩ = some (.slice A0_2 l0_2.length c0_2) := (blk_cell BK147.out 2).trans rfl
     have hcz15_3 : w10.cell? ⟨gb147, 3, none⟩ = some (.int .i64 a0_3) := (blk_cell BK147.out 3).trans rfl
     have hcz15_4 : w10.cell? ⟨gb147, 4, none⟩ = some (.slice A0_4 l0_4.length c0_4) := (blk_cell BK147.out 4).trans rfl
     have hcz15_5 : w10.cell? ⟨gb147, 5, none⟩ = some (.int .i64 a0_5) := (blk_cell BK147.out 5).trans rfl
     have hcz15_6 : w10.cell? ⟨gb147, 6, none⟩ = some (.int .u8 a0_6) := (blk_cell BK147.out 6).trans rfl
     have hfz15_0 := blk_frozen BK147.out 0
     have hfz15_1 := blk_frozen BK147.out 1
     have hfz15_2 := blk_frozen BK147.out 2
     have hfz15_3 := blk_frozen BK147.out 3
     have hfz15_4 := blk_frozen BK147.out 4
     have hfz15_5 := blk_frozen BK147.out 5
     have hfz15_6 := blk_frozen BK147.out 6
     go_wp2
     go_meet
     case rel => exact ⟨_, ((t149 ++ (⟨#[32]⟩ : ByteArray)) ++ a0_1), (by first | rfl | (simp only [YtodifojhegbjaaaDoorMpHelp.leq_not, YtodifojhegbjaaaDoorMpHelp.gtr_less]; done) | (simp; done) | (simp [*]; done)), H', ⟨by first | omega | exact Nat.le_refl _⟩, ⟨by (with_reducible repeat (first | refine blk_drewN ?_ _ | refine blk_drew ?_ | refine blk_alloc ?_ _)); exact BK147.out⟩, ⟨by (with_reducible repeat (first | refine blk_drewN ?_ _ | refine blk_drew ?_ | refine blk_alloc ?_ _)); exact BK148.out⟩, ⟨by repeat (first | (with_reducible first | exact HB.out | apply below_alloc | apply pw_below_drewN | apply below_drew1 | refine below_set ?_ GE147.out | refine below_set ?_ GE148.out) | exact HB.out)⟩⟩
    ·rw [if_neg c13] at H
     exact absurd H (by simp)
   ·rw [if_neg c12] at H
    exact absurd H (by simp)
  ·replace c11 := Bool.eq_false_iff.mpr c11
   subst c11
   have H1 : (bindleref33_Line.j0 k t149 a0_0 a0_1 l0_2 a0_3 l0_4 a0_5 a0_6 a1_0 l1_1 a1_2 l1_3 l1_4 a1_5 a1_6) = some r := by rw [if_neg (show ¬ (false = true) by decide)] at H; exact H
   clear H
   have H := H1
   clear H1
   have H' := Aside0.mk H
   clear H
   go_wp2
   go_meet
   case rel => exact ⟨_, (t149), (by first | rfl | (simp only [YtodifojhegbjaaaDoorMpHelp.leq_not, YtodifojhegbjaaaDoorMpHelp.gtr_less]; done) | (simp; done) | (simp [*]; done)), H', ⟨by first | omega | exact Nat.le_refl _⟩, ⟨by (with_reducible repeat (first | refine blk_drewN ?_ _ | refine blk_drew ?_ | refine blk_alloc ?_ _)); exact BK147.out⟩, ⟨by (with_reducible repeat (first | refine blk_drewN ?_ _ | refine blk_drew ?_ | refine blk_alloc ?_ _)); exact BK148.out⟩, ⟨by repeat (first | (with_reducible first | exact HB.out | apply below_alloc | apply pw_below_drewN | apply below_drew1 | refine below_set ?_ GE147.out | refine below_set ?_ GE148.out) | exact HB.out)⟩⟩
 case rest =>
  clear HC5
  try clear c1
  try clear c2
  try clear p2
  try clear c8
  try clear c11
  try clear c12
  try clear c12b0
  try clear c12b1
  try clear c12b2
  try clear c13
  try clear c13b0
  try clear c13b1
  try clear c13b2
  try clear c13b3
  try clear c13b4
  try clear c14
  try clear hcz15_0
  try clear hcz15_1
  try clear hcz15_2
  try clear hcz15_3
  try clear hcz15_4
  try clear hcz15_5
  try clear hcz15_6
  try clear hcz9_0
  try clear hcz9_1
  try clear hcz9_2
  try clear hcz9_3
  try clear hcz9_4
  try clear hcz9_5
  try clear hcz9_6
  try clear hfz15_0
  try clear hfz15_1
  try clear hfz15_2
  try clear hfz15_3
  try clear hfz15_4
  try clear hfz15_5
  try clear hfz15_6
  try clear hfz9_0
  try clear hfz9_1
  try clear hfz9_2
  try clear hfz9_3
  try clear hfz9_4
  try clear hfz9_5
  try clear hfz9_6
  obtain ⟨kq, x5_4, rfl, HA, HJ4, BK147, BK148, HB⟩ := hcut
  cases kq with
  | zero => exact absurd HA.out (by simp [bindleref33_Line.j0])
  | succ kj4 =>
   have H := HA.out
   clear HA
   simp only [bindleref33_Line.j0] at H
   by_cases c16 : x5_4.size + 2 ≤ 9223372036854775807
   ·rw [if_pos c16] at H
    have c16b0 := eq_true c16
    have c16b1 : decide (x5_4.size + 2 ≤ 9223372036854775807) = true := decide_eq_true c16
    try have c16b2 : (9223372036854775807 < x5_4.size + 2) = False := eq_false (Nat.not_lt.2 c16)
    replace H := Option.bind_eq_some_iff.mp H
    obtain ⟨t151, A170, H⟩ := H
    replace H : (if (x5_4 ++ (⟨#[58, 32]⟩ : ByteArray)).size + t151.size ≤ 9223372036854775807 then (if a1_0 = 0 then (if a0_0 = 8 then (if ((x5_4 ++ (⟨#[58, 32]⟩ : ByteArray)) ++ t151).size + 1 ≤ 9223372036854775807 then ((bindleref33_Digits.f kj4 (l1_1.length : Int)).bind fun t152 => (if (((x5_4 ++ (⟨#[58, 32]⟩ : ByteArray)) ++ t151) ++ (⟨#[32]⟩ : ByteArray)).size + t152.size ≤ 9223372036854775807 then (if ((((x5_4 ++ (⟨#[58, 32]⟩ : ByteArray)) ++ t151) ++ (⟨#[32]⟩ : ByteArray)) ++ t152).size + 1 ≤ 9223372036854775807 then (bindleref33_Line.j1 kj4 (((((x5_4 ++ (⟨#[58, 32]⟩ : ByteArray)) ++ t151) ++ (⟨#[32]⟩ : ByteArray)) ++ t152) ++ (⟨#[98]⟩ : ByteArray)) a1_0 l1_1 a1_2 l1_3 l1_4 a1_5 a1_6) else (none)) else (none))) else (none)) else (if a0_0 = 9 then (if ((x5_4 ++ (⟨#[58, 32]⟩ : ByteArray)) ++ t151).size + 1 ≤ 9223372036854775807 then ((bindleref33_Digits.f kj4 a1_2).bind fun t153 => (if (((x5_4 ++ (⟨#[58, 32]⟩ : ByteArray)) ++ t151) ++ (⟨#[32]⟩ : ByteArray)).size + t153.size ≤ 9223372036854775807 then (if ((((x5_4 ++ (⟨#[58, 32]⟩ : ByteArray)) ++ t151) ++ (⟨#[32]⟩ : ByteArray)) ++ t153).size + 1 ≤ 9223372036854775807 then (bindleref33_Line.j1 kj4 (((((x5_4 ++ (⟨#[58, 32]⟩ : ByteArray)) ++ t151) ++ (⟨#[32]⟩ : ByteArray)) ++ t153) ++ (⟨#[98]⟩ : ByteArray)) a1_0 l1_1 a1_2 l1_3 l1_4 a1_5 a1_6) else (none)) else (none))) else (none)) else (if a0_0 = 10 then (if ((x5_4 ++ (⟨#[58, 32]⟩ : ByteArray)) ++ t151).size + 1 ≤ 9223372036854775807 then ((bindleref33_Digits.f kj4 (l1_3.length : Int)).bind fun t154 => (if (((x5_4 ++ (⟨#[58, 32]⟩ : ByteArray)) ++ t151) ++ (⟨#[32]⟩ : ByteArray)).size + t154.size ≤ 9223372036854775807 then (if ((((x5_4 ++ (⟨#[58, 32]⟩ : ByteArray)) ++ t151) ++ (⟨#[32]⟩ : ByteArray)) ++ t154).size + 1 ≤ 9223372036854775807 then (bindleref33_Line.j1 kj4 (((((x5_4 ++ (⟨#[58, 32]⟩ : ByteArray)) ++ t151) ++ (⟨#[32]⟩ : ByteArray)) ++ t154) ++ (⟨#[120]⟩ : ByteArray)) a1_0 l1_1 a1_2 l1_3 l1_4 a1_5 a1_6) else (none)) else (none))) else (none)) else (if a0_0 = 2 then (if ((x5_4 ++ (⟨#[58, 32]⟩ : ByteArray)) ++ t151).size + 1 ≤ 9223372036854775807 then ((bindleref33_Digits.f kj4 (l1_4.length : Int)).bind fun t155 => (if (((x5_4 ++ (⟨#[58, 32]⟩ : ByteArray)) ++ t151) ++ (⟨#[32]⟩ : ByteArray)).size + t155.size ≤ 9223372036854775807 then (if ((((x5_4 ++ (⟨#[58, 32]⟩ : ByteArray)) ++ t151) ++ (⟨#[32]⟩ : ByteArray)) ++ t155).size + 1 ≤ 9223372036854775807 then (bindleref33_Line.j1 kj4 (((((x5_4 ++ (⟨#[58, 32]⟩ : ByteArray)) ++ t151) ++ (⟨#[32]⟩ : ByteArray)) ++ t155) ++ (⟨#[120]⟩ : ByteArray)) a1_0 l1_1 a1_2 l1_3 l1_4 a1_5 a1_6) else (none)) else (none))) else (none)) else (if a0_0 = 15 then (if ((x5_4 ++ (⟨#[58, 32]⟩ : ByteArray)) ++ t151).size + 1 ≤ 9223372036854775807 then ((bindleref33_Digits.f kj4 (l1_4.length : Int)).bind fun t156 => (if (((x5_4 ++ (⟨#[58, 32]⟩ : ByteArray)) ++ t151) ++ (⟨#[32]⟩ : ByteArray)).size + t156.size ≤ 9223372036854775807 then (if ((((x5_4 ++ (⟨#[58, 32]⟩ : ByteArray)) ++ t151) ++ (⟨#[32]⟩ : ByteArray)) ++ t156).size + 1 ≤ 9223372036854775807 then (bindleref33_Line.j1 kj4 (((((x5_4 ++ (⟨#[58, 32]⟩ : ByteArray)) ++ t151) ++ (⟨#[32]⟩ : ByteArray)) ++ t156) ++ (⟨#[120]⟩ : ByteArray)) a1_0 l1_1 a1_2 l1_3 l1_4 a1_5 a1_6) else (none)) else (none))) else (none)) else (bindleref33_Line.j1 kj4 ((x5_4 ++ (⟨#[58, 32]⟩ : ByteArray)) ++ t151) a1_0 l1_1 a1_2 l1_3 l1_4 a1_5 a1_6)))))) else (bindleref33_Line.j1 kj4 ((x5_4 ++ (⟨#[58, 32]⟩ : ByteArray)) ++ t151) a1_0 l1_1 a1_2 l1_3 l1_4 a1_5 a1_6)) else (none)) = some r := H
    have A17 := Aside0.mk A170
    clear A170
    by_cases c18 : (x5_4 ++ (⟨#[58, 32]⟩ : ByteArray)).size + t151.size ≤ 9223372036854775807
    ·rw [if_pos c18] at H
     have c18b0 := eq_true c18
     have c18b1 : decide ((x5_4 ++ (⟨#[58, 32]⟩ : ByteArray)).size + t151.size ≤ 9223372036854775807) = true := decide_eq_true c18
     try have c18b2 : (9223372036854775807 < (x5_4 ++ (⟨#[58, 32]⟩ : ByteArray)).size + t151.size) = False := eq_false (Nat.not_lt.2 c18)
     try (have c18b3 := c18; simp only [ByteArray.size_append, show ((⟨#[58, 32]⟩ : ByteArray)).size = 2 from rfl] at c18b3; have c18b4 := eq_false (Nat.not_lt.2 c18b3))
     have HC19 := Aside0.mk H
     clear H
     have hnb20 := NB148_147.out
     have hnc20 := NB147_148.out
     have hcz21_0 : wc.cell? ⟨gb148, 0, none⟩ = some (.int .i64 a1_0) := (blk_cell BK148.out 0).trans rfl
     have hcz21_1 : wc.cell? ⟨gb148, 1, none⟩ = some (.slice A1_1 l1_1.length c1_1) := (blk_cell BK148.out 1).trans rfl
     have hcz21_2 : wc.cell? ⟨gb148, 2, none⟩ = some (.int .i64 a1_2) := (blk_cell BK148.out 2).trans rfl
     have hcz21_3 : wc.cell? ⟨gb148, 3, none⟩ = some (.slice A1_3 l1_3.length c1_3) := (blk_cell BK148.out 3).trans rfl
     have hcz21_4 : wc.cell? ⟨gb148, 4, none⟩ = some (.slice A1_4 l1_4.length c1_4) := (blk_cell BK148.out 4).trans rfl
     have hcz21_5 : wc.cell? ⟨gb148, 5, none⟩ = some (.bool a1_5) := (blk_cell BK148.out 5).trans rfl
     have hcz21_6 : wc.cell? ⟨gb148, 6, none⟩ = some (.bool a1_6) := (blk_cell BK148.out 6).trans rfl
     have hfz21_0 := blk_frozen BK148.out 0
     have hfz21_1 := blk_frozen BK148.out 1
     have hfz21_2 := blk_frozen BK148.out 2
     have hfz21_3 := blk_frozen BK148.out 3
     have hfz21_4 := blk_frozen BK148.out 4
     have hfz21_5 := blk_frozen BK148.out 5
     have hfz21_6 := blk_frozen BK148.out 6
     go_upto_if 25 with (first | ((with_reducible refine gate_callee (f := 10) rfl ?_); refine goesL_ (some 21) rfl rfl Tryd.func10 (by kernel_rfl) rfl #[.int .i64 a1_0] rfl (by (try simp only [List.map_toArray, List.map_cons, List.map_nil]); first | done | rfl | (simp only [List.length_drop, List.length_take]; rfl)) ?_; (with_reducible refine (bindleref33_Code.calls a1_0 t151 _ A17.out).mono ?_); rintro e w22 ⟨rfl, hb⟩; refine ⟨_, rfl, ?_⟩; have n0_ := Aside0.mk (blk_below (g := gb147) (o := .cells #[.int .i64 a0_0, .string a0_1, .slice A0_2 l0_2.length c0_2, .int .i64 a0_3, .slice A0_4 l0_4.length c0_4, .int .i64 a0_5, .int .u8 a0_6] 47 (0, 0)) (by (with_reducible repeat (first | refine blk_drewN ?_ _ | refine blk_drew ?_ | refine blk_alloc ?_ _)); exact BK147.out) hb); have n1_ := Aside0.mk (blk_below (g := gb148) (o := .cells #[.int .i64 a1_0, .slice A1_1 l1_1.length c1_1, .int .i64 a1_2, .slice A1_3 l1_3.length c1_3, .slice A1_4 l1_4.length c1_4, .bool a1_5, .bool a1_6] 53 (0, 0)) (by (with_reducible repeat (first | refine blk_drewN ?_ _ | refine blk_drew ?_ | refine blk_alloc ?_ _)); exact BK148.out) hb); have n2_ := Aside0.mk (below_step (by repeat (first | (with_reducible first | exact HB.out | apply below_alloc | apply pw_below_drewN | apply below_drew1 | refine below_set ?_ GE147.out | refine below_set ?_ GE148.out) | exact HB.out)) hb); clear BK147; clear BK148; clear HB; have BK147 := n0_; have BK148 := n1_; have HB := n2_; clear n0_ n1_ n2_; (try clear hb); (try clear hb2); (try clear hk); (try clear hi); have hcz23_0 : w22.cell? ⟨gb148, 0, none⟩ = some (.int .i64 a1_0) := (blk_cell BK148.out 0).trans rfl; have hcz23_1 : w22.cell? ⟨gb148, 1, none⟩ = some (.slice A1_1 l1_1.length c1_1) := (blk_cell BK148.out 1).trans rfl; have hcz23_2 : w22.cell? ⟨gb148, 2, none⟩ = some (.int .i64 a1_2) := (blk_cell BK148.out 2).trans rfl; have hcz23_3 : w22.cell? ⟨gb148, 3, none⟩ = some (.slice A1_3 l1_3.length c1_3) := (blk_cell BK148.out 3).trans rfl; have hcz23_4 : w22.cell? ⟨gb148, 4, none⟩ = some (.slice A1_4 l1_4.length c1_4) := (blk_cell BK148.out 4).trans rfl; have hcz23_5 : w22.cell? ⟨gb148, 5, none⟩ = some (.bool a1_5) := (blk_cell BK148.out 5).trans rfl; have hcz23_6 : w22.cell? ⟨gb148, 6, none⟩ = some (.bool a1_6) := (blk_cell BK148.out 6).trans rfl; have hfz23_0 := blk_frozen BK148.out 0; have hfz23_1 := blk_frozen BK148.out 1; have hfz23_2 := blk_frozen BK148.out 2; have hfz23_3 := blk_frozen BK148.out 3; have hfz23_4 := blk_frozen BK148.out 4; have hfz23_5 := blk_frozen BK148.out 5; have hfz23_6 := blk_frozen BK148.out 6))
     (try simp only [Act.put, List.setIfInBounds_toArray, List.set_cons_zero, List.set_cons_succ])
     go_cut [5] (fun v5 wc => ∃ (kq : Nat) (x5_18 : ByteArray), v5 = .string x5_18 ∧ Aside0 (bindleref33_Line.j1 kq x5_18 a1_0 l1_1 a1_2 l1_3 l1_4 a1_5 a1_6 = some r) ∧ Aside0 (kq ≤ kj4) ∧ Aside0 (wc.heap[gb147]? = some (.cells #[.int .i64 a0_0, .string a0_1, (.slice A0_2 l0_2.length c0_2), .int .i64 a0_3, (.slice A0_4 l0_4.length c0_4), .int .i64 a0_5, .int .u8 a0_6] 47 (0, 0))) ∧ Aside0 (wc.heap[gb148]? = some (.cells #[.int .i64 a1_0, (.slice A1_1 l1_1.length c1_1), .int .i64 a1_2, (.slice A1_3 l1_3.length c1_3), (.slice A1_4 l1_4.length c1_4), .bool a1_5, .bool a1_6] 53 (0, 0))) ∧ Aside0 (Below w.heap.size w wc))
     case first =>
      have H := HC19.out
      clear HC19
      by_cases c24 : a1_0 = 0
      ·rw [if_pos c24] at H
       have c24b0 : (a1_0 == 0) = true := beq_iff_eq.mpr c24
       have c24b1 : (a1_0 != 0) = false := bne_eq_false_iff_eq.mpr c24
       clear c24
       (first | rw [c24b0] | (simp only [i64_w, i32_w]; rw [c24b0]) | rw [c24b1] | skip)
       by_cases c25 : a0_0 = 8
       ·rw [if_pos c25] at H
        have c25b0 : (a0_0 == 8) = true := beq_iff_eq.mpr c25
        have c25b1 : (a0_0 != 8) = false := bne_eq_false_iff_eq.mpr c25
        clear c25
        by_cases c26 : ((x5_4 ++ (⟨#[58, 32]⟩ : ByteArray)) ++ t151).size + 1 ≤ 9223372036854775807
        ·rw [if_pos c26] at H
         have c26b0 := eq_true c26
         have c26b1 : decide (((x5_4 ++ (⟨#[58, 32]⟩ : ByteArray)) ++ t151).size + 1 ≤ 9223372036854775807) = true := decide_eq_true c26
         try have c26b2 : (9223372036854775807 < ((x5_4 ++ (⟨#[58, 32]⟩ : ByteArray)) ++ t151).size + 1) = False := eq_false (Nat.not_lt.2 c26)
         try (have c26b3 := c26; simp only [ByteArray.size_append, show ((⟨#[58, 32]⟩ : ByteArray)).size = 2 from rfl] at c26b3; have c26b4 := eq_false (Nat.not_lt.2 c26b3))
         replace H := Option.bind_eq_some_iff.mp H
         obtain ⟨t152, A270, H⟩ := H
         replace H : (if (((x5_4 ++ (⟨#[58, 32]⟩ : ByteArray)) ++ t151) ++ (⟨#[32]⟩ : ByteArray)).size + t152.size ≤ 9223372036854775807 then (if ((((x5_4 ++ (⟨#[58, 32]⟩ : ByteArray)) ++ t151) ++ (⟨#[32]⟩ : ByteArray)) ++ t152).size + 1 ≤ 9223372036854775807 then (bindleref33_Line.j1 kj4 (((((x5_4 ++ (⟨#[58, 32]⟩ : ByteArray)) ++ t151) ++ (⟨#[32]⟩ : ByteArray)) ++ t152) ++ (⟨#[98]⟩ : ByteArray)) a1_0 l1_1 a1_2 l1_3 l1_4 a1_5 a1_6) else (none)) else (none)) = some r := H
         have A27 := Aside0.mk A270
         clear A270
         by_cases c28 : (((x5_4 ++ (⟨#[58, 32]⟩ : ByteArray)) ++ t151) ++ (⟨#[32]⟩ : ByteArray)).size + t152.size ≤ 9223372036854775807
         ·rw [if_pos c28] at H
          have c28b0 := eq_true c28
          have c28b1 : decide ((((x5_4 ++ (⟨#[58, 32]⟩ : ByteArray)) ++ t151) ++ (⟨#[32]⟩ : ByteArray)).size + t152.size ≤ 9223372036854775807) = true := decide_eq_true c28
          try have c28b2 : (9223372036854775807 < (((x5_4 ++ (⟨#[58, 32]⟩ : ByteArray)) ++ t151) ++ (⟨#[32]⟩ : ByteArray)).size + t152.size) = False := eq_false (Nat.not_lt.2 c28)
          try (have c28b3 := c28; simp only [ByteArray.size_append, show ((⟨#[32]⟩ : ByteArray)).size = 1 from rfl, show ((⟨#[58, 32]⟩ : ByteArray)).size = 2 from rfl] at c28b3; have c28b4 := eq_false (Nat.not_lt.2 c28b3))
          by_cases c29 : ((((x5_4 ++ (⟨#[58, 32]⟩ : ByteArray)) ++ t151) ++ (⟨#[32]⟩ : ByteArray)) ++ t152).size + 1 ≤ 9223372036854775807
          ·rw [if_pos c29] at H
           have c29b0 := eq_true c29
           have c29b1 : decide (((((x5_4 ++ (⟨#[58, 32]⟩ : ByteArray)) ++ t151) ++ (⟨#[32]⟩ : ByteArray)) ++ t152).size + 1 ≤ 9223372036854775807) = true := decide_eq_true c29
           try have c29b2 : (9223372036854775807 < ((((x5_4 ++ (⟨#[58, 32]⟩ : ByteArray)) ++ t151) ++ (⟨#[32]⟩ : ByteArray)) ++ t152).size + 1) = False := eq_false (Nat.not_lt.2 c29)
           try (have c29b3 := c29; simp only [ByteArray.size_append, show ((⟨#[32]⟩ : ByteArray)).size = 1 from rfl, show ((⟨#[58, 32]⟩ : ByteArray)).size = 2 from rfl] at c29b3; have c29b4 := eq_false (Nat.not_lt.2 c29b3))
           have H' := Aside0.mk H
           clear H
           have hnb30 := NB147_148.out
           have hnc30 := NB148_147.out
           have hcz31_0 : w22.cell? ⟨gb147, 0, none⟩ = some (.int .i64 a0_0) := (blk_cell BK147.out 0).trans rfl
           have hcz31_1 : w22.cell? ⟨gb147, 1, none⟩ = some (.string a0_1) := (blk_cell BK147.out 1).trans rfl
           have hcz31_2 : w22.cell? ⟨gb147, 2, none⟩ = some (.slice A0_2 l0_2.length c0_2) := (blk_cell BK147.out 2).trans rfl
           have hcz31_3 : w22.cell? ⟨gb147, 3, none⟩ = some (.int .i64 a0_3) := (blk_cell BK147.out 3).trans rfl
           have hcz31_4 : w22.cell? ⟨gb147, 4, none⟩ = some (.slice A0_4 l0_4.length c0_4) := (blk_cell BK147.out 4).trans rfl
           have hcz31_5 : w22.cell? ⟨gb147, 5, none⟩ = some (.int .i64 a0_5) := (blk_cell BK147.out 5).trans rfl
           have hcz31_6 : w22.cell? ⟨gb147, 6, none⟩ = some (.int .u8 a0_6) := (blk_cell BK147.out 6).trans rfl
           have hfz31_0 := blk_frozen BK147.out 0
           have hfz31_1 := blk_frozen BK147.out 1
           have hfz31_2 := blk_frozen BK147.out 2
           have hfz31_3 := blk_frozen BK147.out 3
           have hfz31_4 := blk_frozen BK147.out 4
           have hfz31_5 := blk_frozen BK147.out 5
           have hfz31_6 := blk_frozen BK147.out 6
           have hcz32_0 : w22.cell? ⟨gb148, 0, none⟩ = some (.int .i64 a1_0) := (blk_cell BK148.out 0).trans rfl
           have hcz32_1 : w22.cell? ⟨gb148, 1, none⟩ = some (.slice A1_1 l1_1.length c1_1) := (blk_cell BK148.out 1).trans rfl
           have hcz32_2 : w22.cell? ⟨gb148, 2, none⟩ = some (.int .i64 a1_2) := (blk_cell BK148.out 2).trans rfl
           have hcz32_3 : w22.cell? ⟨gb148, 3, none⟩ = some (.slice A1_3 l1_3.length c1_3) := (blk_cell BK148.out 3).trans rfl
           have hcz32_4 : w22.cell? ⟨gb148, 4, none⟩ = some (.slice A1_4 l1_4.length c1_4) := (blk_cell BK148.out 4).trans rfl
           have hcz32_5 : w22.cell? ⟨gb148, 5, none⟩ = some (.bool a1_5) := (blk_cell BK148.out 5).trans rfl
           have hcz32_6 : w22.cell? ⟨gb148, 6, none⟩ = some (.bool a1_6) := (blk_cell BK148.out 6).trans rfl
           have hfz32_0 := blk_frozen BK148.out 0
           have hfz32_1 := blk_frozen BK148.out 1
           have hfz32_2 := blk_frozen BK148.out 2
           have hfz32_3 := blk_frozen BK148.out 3
           have hfz32_4 := blk_frozen BK148.out 4
           have hfz32_5 := blk_frozen BK148.out 5
           have hfz32_6 := blk_frozen BK148.out 6
           go_wp2_with (first | ((with_reducible refine gate_callee (f := 27) rfl ?_); refine goesL_ (some 35) rfl rfl Tryd.func27 (by kernel_rfl) rfl #[.int .i64 (l1_1.length : Int)] rfl (by (try simp only [List.map_toArray, List.map_cons, List.map_nil]); first | done | rfl | (simp only [List.length_drop, List.length_take]; rfl)) ?_; (with_reducible refine (bindleref33_Digits.calls kj4 (l1_1.length : Int) t152 _ A27.out).mono ?_); rintro e w33 ⟨rfl, hb⟩; refine ⟨_, rfl, ?_⟩; have n0_ := Aside0.mk (blk_below (g := gb147) (o := .cells #[.int .i64 a0_0, .string a0_1, .slice A0_2 l0_2.length c0_2, .int .i64 a0_3, .slice A0_4 l0_4.length c0_4, .int .i64 a0_5, .int .u8 a0_6] 47 (0, 0)) (by (with_reducible repeat (first | refine blk_drewN ?_ _ | refine blk_drew ?_ | refine blk_alloc ?_ _)); exact BK147.out) hb); have n1_ := Aside0.mk (blk_below (g := gb148) (o := .cells #[.int .i64 a1_0, .slice A1_1 l1_1.length c1_1, .int .i64 a1_2, .slice A1_3 l1_3.length c1_3, .slice A1_4 l1_4.length c1_4, .bool a1_5, .bool a1_6] 53 (0, 0)) (by (with_reducible repeat (first | refine blk_drewN ?_ _ | refine blk_drew ?_ | refine blk_alloc ?_ _)); exact BK148.out) hb); have n2_ := Aside0.mk (below_step (by repeat (first | (with_reducible first | exact HB.out | apply below_alloc | apply pw_below_drewN | apply below_drew1 | refine below_set ?_ GE147.out | refine below_set ?_ GE148.out) | exact HB.out)) hb); clear BK147; clear BK148; clear HB; have BK147 := n0_; have BK148 := n1_; have HB := n2_; clear n0_ n1_ n2_; (try clear hb); (try clear hb2); (try clear hk); (try clear hi)))
           go_meet
           case rel => exact ⟨_, (((((x5_4 ++ (⟨#[58, 32]⟩ : ByteArray)) ++ t151) ++ (⟨#[32]⟩ : ByteArray)) ++ t152) ++ (⟨#[98]⟩ : ByteArray)), (by first | rfl | (simp only [YtodifojhegbjaaaDoorMpHelp.leq_not, YtodifojhegbjaaaDoorMpHelp.gtr_less]; done) | (simp; done) | (simp [*]; done)), H', ⟨by have := HJ4.out; first | omega | exact Nat.le_refl _⟩, ⟨by (with_reducible repeat (first | refine blk_drewN ?_ _ | refine blk_drew ?_ | refine blk_alloc ?_ _)); exact BK147.out⟩, ⟨by (with_reducible repeat (first | refine blk_drewN ?_ _ | refine blk_drew ?_ | refine blk_alloc ?_ _)); exact BK148.out⟩, ⟨by repeat (first | (with_reducible first | exact HB.out | apply below_alloc | apply pw_below_drewN | apply below_drew1 | refine below_set ?_ GE147.out | refine below_set ?_ GE148.out) | exact HB.out)⟩⟩
          ·rw [if_neg c29] at H
           exact absurd H (by simp)
         ·rw [if_neg c28] at H
          exact absurd H (by simp)
        ·rw [if_neg c26] at H
         exact absurd H (by simp)
       ·rw [if_neg c25] at H
        have c25b0 : (a0_0 == 8) = false := beq_eq_false_iff_ne.mpr c25
        have c25b1 : (a0_0 != 8) = true := bne_iff_ne.mpr c25
        by_cases c34 : a0_0 = 9
        ·rw [if_pos c34] at H
         have c34b0 : (a0_0 == 9) = true := beq_iff_eq.mpr c34
         have c34b1 : (a0_0 != 9) = false := bne_eq_false_iff_eq.mpr c34
         clear c34
         by_cases c35 : ((x5_4 ++ (⟨#[58, 32]⟩ : ByteArray)) ++ t151).size + 1 ≤ 9223372036854775807
         ·rw [if_pos c35] at H
          have c35b0 := eq_true c35
          have c35b1 : decide (((x5_4 ++ (⟨#[58, 32]⟩ : ByteArray)) ++ t151).size + 1 ≤ 9223372036854775807) = true := decide_eq_true c35
          try have c35b2 : (9223372036854775807 < ((x5_4 ++ (⟨#[58, 32]⟩ : ByteArray)) ++ t151).size + 1) = False := eq_false (Nat.not_lt.2 c35)
          try (have c35b3 := c35; simp only [ByteArray.size_append, show ((⟨#[58, 32]⟩ : ByteArray)).size = 2 from rfl] at c35b3; have c35b4 := eq_false (Nat.not_lt.2 c35b3))
          replace H := Option.bind_eq_some_iff.mp H
          obtain ⟨t153, A360, H⟩ := H
          replace H : (if (((x5_4 ++ (⟨#[58, 32]⟩ : ByteArray)) ++ t151) ++ (⟨#[32]⟩ : ByteArray)).size + t153.size ≤ 9223372036854775807 then (if ((((x5_4 ++ (⟨#[58, 32]⟩ : ByteArray)) ++ t151) ++ (⟨#[32]⟩ : ByteArray)) ++ t153).size + 1 ≤ 9223372036854775807 then (bindleref33_Line.j1 kj4 (((((x5_4 ++ (⟨#[58, 32]⟩ : ByteArray)) ++ t151) ++ (⟨#[32]⟩ : ByteArray)) ++ t153) ++ (⟨#[98]⟩ : ByteArray)) a1_0 l1_1 a1_2 l1_3 l1_4 a1_5 a1_6) else (none)) else (none)) = some r := H
          have A36 := Aside0.mk A360
          clear A360
          by_cases c37 : (((x5_4 ++ (⟨#[58, 32]⟩ : ByteArray)) ++ t151) ++ (⟨#[32]⟩ : ByteArray)).size + t153.size ≤ 9223372036854775807
          ·rw [if_pos c37] at H
           have c37b0 := eq_true c37
           have c37b1 : decide ((((x5_4 ++ (⟨#[58, 32]⟩ : ByteArray)) ++ t151) ++ (⟨#[32]⟩ : ByteArray)).size + t153.size ≤ 9223372036854775807) = true := decide_eq_true c37
           try have c37b2 : (9223372036854775807 < (((x5_4 ++ (⟨#[58, 32]⟩ : ByteArray)) ++ t151) ++ (⟨#[32]⟩ : ByteArray)).size + t153.size) = False := eq_false (Nat.not_lt.2 c37)
           try (have c37b3 := c37; simp only [ByteArray.size_append, show ((⟨#[32]⟩ : ByteArray)).size = 1 from rfl, show ((⟨#[58, 32]⟩ : ByteArray)).size = 2 from rfl] at c37b3; have c37b4 := eq_false (Nat.not_lt.2 c37b3))
           by_cases c38 : ((((x5_4 ++ (⟨#[58, 32]⟩ : ByteArray)) ++ t151) ++ (⟨#[32]⟩ : ByteArray)) ++ t153).size + 1 ≤ 9223372036854775807
           ·rw [if_pos c38] at H
            have c38b0 := eq_true c38
            have c38b1 : decide (((((x5_4 ++ (⟨#[58, 32]⟩ : ByteArray)) ++ t151) ++ (⟨#[32]⟩ : ByteArray)) ++ t153).size + 1 ≤ 9223372036854775807) = true := decide_eq_true c38
            try have c38b2 : (9223372036854775807 < ((((x5_4 ++ (⟨#[58, 32]⟩ : ByteArray)) ++ t151) ++ (⟨#[32]⟩ : ByteArray)) ++ t153).size + 1) = False := eq_false (Nat.not_lt.2 c38)
            try (have c38b3 := c38; simp only [ByteArray.size_append, show ((⟨#[32]⟩ : ByteArray)).size = 1 from rfl, show ((⟨#[58, 32]⟩ : ByteArray)).size = 2 from rfl] at c38b3; have c38b4 := eq_false (Nat.not_lt.2 c38b3))
            have H' := Aside0.mk H
            clear H
            have hnb39 := NB147_148.out
            have hnc39 := NB148_147.out
            have hcz40_0 : w22.cell? ⟨gb147, 0, none⟩ = some (.int .i64 a0_0) := (blk_cell BK147.out 0).trans rfl
            have hcz40_1 : w22.cell? ⟨gb147, 1, none⟩ = some (.string a0_1) := (blk_cell BK147.out 1).trans rfl
            have hcz40_2 : w22.cell? ⟨gb147, 2, none⟩ = some (.slice A0_2 l0_2.length c0_2) := (blk_cell BK147.out 2).trans rfl
            have hcz40_3 : w22.cell? ⟨gb147, 3, none⟩ = some (.int .i64 a0_3) := (blk_cell BK147.out 3).trans rfl
            have hcz40_4 : w22.cell? ⟨gb147, 4, none⟩ = some (.slice A0_4 l0_4.length c0_4) := (blk_cell BK147.out 4).trans rfl
            have hcz40_5 : w22.cell? ⟨gb147, 5, none⟩ = some (.int .i64 a0_5) := (blk_cell BK147.out 5).trans rfl
            have hcz40_6 : w22.cell? ⟨gb147, 6, none⟩ = some (.int .u8 a0_6) := (blk_cell BK147.out 6).trans rfl
            have hfz40_0 := blk_frozen BK147.out 0
            have hfz40_1 := blk_frozen BK147.out 1
            have hfz40_2 := blk_frozen BK147.out 2
            have hfz40_3 := blk_frozen BK147.out 3
            have hfz40_4 := blk_frozen BK147.out 4
            have hfz40_5 := blk_frozen BK147.out 5
            have hfz40_6 := blk_frozen BK147.out 6
            have hcz41_0 : w22.cell? ⟨gb148, 0, none⟩ = some (.int .i64 a1_0) := (blk_cell BK148.out 0).trans rfl
            have hcz41_1 : w22.cell? ⟨gb148, 1, none⟩ = some (.slice A1_1 l1_1.length c1_1) := (blk_cell BK148.out 1).trans rfl
            have hcz41_2 : w22.cell? ⟨gb148, 2, none⟩ = some (.int .i64 a1_2) := (blk_cell BK148.out 2).trans rfl
            have hcz41_3 : w22.cell? ⟨gb148, 3, none⟩ = some (.slice A1_3 l1_3.length c1_3) := (blk_cell BK148.out 3).trans rfl
            have hcz41_4 : w22.cell? ⟨gb148, 4, none⟩ = some (.slice A1_4 l1_4.length c1_4) := (blk_cell BK148.out 4).trans rfl
            have hcz41_5 : w22.cell? ⟨gb148, 5, none⟩ = some (.bool a1_5) := (blk_cell BK148.out 5).trans rfl
            have hcz41_6 : w22.cell? ⟨gb148, 6, none⟩ = some (.bool a1_6) := (blk_cell BK148.out 6).trans rfl
            have hfz41_0 := blk_frozen BK148.out 0
            have hfz41_1 := blk_frozen BK148.out 1
            have hfz41_2 := blk_frozen BK148.out 2
            have hfz41_3 := blk_frozen BK148.out 3
            have hfz41_4 := blk_frozen BK148.out 4
            have hfz41_5 := blk_frozen BK148.out 5
            have hfz41_6 := blk_frozen BK148.out 6
            go_wp2_with (first | ((with_reducible refine gate_callee (f := 27) rfl ?_); refine goesL_ (some 44) rfl rfl Tryd.func27 (by kernel_rfl) rfl #[.int .i64 a1_2] rfl (by (try simp only [List.map_toArray, List.map_cons, List.map_nil]); first | done | rfl | (simp only [List.length_drop, List.length_take]; rfl)) ?_; (with_reducible refine (bindleref33_Digits.calls kj4 a1_2 t153 _ A36.out).mono ?_); rintro e w42 ⟨rfl, hb⟩; refine ⟨_, rfl, ?_⟩; have n0_ := Aside0.mk (blk_below (g := gb147) (o := .cells #[.int .i64 a0_0, .string a0_1, .slice A0_2 l0_2.length c0_2, .int .i64 a0_3, .slice A0_4 l0_4.length c0_4, .int .i64 a0_5, .int .u8 a0_6] 47 (0, 0)) (by (with_reducible repeat (first | refine blk_drewN ?_ _ | refine blk_drew ?_ | refine blk_alloc ?_ _)); exact BK147.out) hb); have n1_ := Aside0.mk (blk_below (g := gb148) (o := .cells #[.int .i64 a1_0, .slice A1_1 l1_1.length c1_1, .int .i64 a1_2, .slice A1_3 l1_3.length c1_3, .slice A1_4 l1_4.length c1_4, .bool a1_5, .bool a1_6] 53 (0, 0)) (by (with_reducible repeat (first | refine blk_drewN ?_ _ | refine blk_drew ?_ | refine blk_alloc ?_ _)); exact BK148.out) hb); have n2_ := Aside0.mk (below_step (by repeat (first | (with_reducible first | exact HB.out | apply below_alloc | apply pw_below_drewN | apply below_drew1 | refine below_set ?_ GE147.out | refine below_set ?_ GE148.out) | exact HB.out)) hb); clear BK147; clear BK148; clear HB; have BK147 := n0_; have BK148 := n1_; have HB := n2_; clear n0_ n1_ n2_; (try clear hb); (try clear hb2); (try clear hk); (try clear hi)))
            go_meet
            case rel => exact ⟨_, (((((x5_4 ++ (⟨#[58, 32]⟩ : ByteArray)) ++ t151) ++ (⟨#[32]⟩ : ByteArray)) ++ t153) ++ (⟨#[98]⟩ : ByteArray)), (by first | rfl | (simp only [YtodifojhegbjaaaDoorMpHelp.leq_not, YtodifojhegbjaaaDoorMpHelp.gtr_less]; done) | (simp; done) | (simp [*]; done)), H', ⟨by have := HJ4.out; first | omega | exact Nat.le_refl _⟩, ⟨by (with_reducible repeat (first | refine blk_drewN ?_ _ | refine blk_drew ?_ | refine blk_alloc ?_ _)); exact BK147.out⟩, ⟨by (with_reducible repeat (first | refine blk_drewN ?_ _ | refine blk_drew ?_ | refine blk_alloc ?_ _)); exact BK148.out⟩, ⟨by repeat (first | (with_reducible first | exact HB.out | apply below_alloc | apply pw_below_drewN | apply below_drew1 | refine below_set ?_ GE147.out | refine below_set ?_ GE148.out) | exact HB.out)⟩⟩
           ·rw [if_neg c38] at H
            exact absurd H (by simp)
          ·rw [if_neg c37] at H
           exact absurd H (by simp)
         ·rw [if_neg c35] at H
          exact absurd H (by simp)
        ·rw [if_neg c34] at H
         have c34b0 : (a0_0 == 9) = false := beq_eq_false_iff_ne.mpr c34
         have c34b1 : (a0_0 != 9) = true := bne_iff_ne.mpr c34
         by_cases c43 : a0_0 = 10
         ·rw [if_pos c43] at H
          have c43b0 : (a0_0 == 10) = true := beq_iff_eq.mpr c43
          have c43b1 : (a0_0 != 10) = false := bne_eq_false_iff_eq.mpr c43
          clear c43
          by_cases c44 : ((x5_4 ++ (⟨#[58, 32]⟩ : ByteArray)) ++ t151).size + 1 ≤ 9223372036854775807
          ·rw [if_pos c44] at H
           have c44b0 := eq_true c44
           have c44b1 : decide (((x5_4 ++ (⟨#[58, 32]⟩ : ByteArray)) ++ t151).size + 1 ≤ 9223372036854775807) = true := decide_eq_true c44
           try have c44b2 : (9223372036854775807 < ((x5_4 ++ (⟨#[58, 32]⟩ : ByteArray)) ++ t151).size + 1) = False := eq_false (Nat.not_lt.2 c44)
           try (have c44b3 := c44; simp only [ByteArray.size_append, show ((⟨#[58, 32]⟩ : ByteArray)).size = 2 from rfl] at c44b3; have c44b4 := eq_false (Nat.not_lt.2 c44b3))
           replace H := Option.bind_eq_some_iff.mp H
           obtain ⟨t154, A450, H⟩ := H
           replace H : (if (((x5_4 ++ (⟨#[58, 32]⟩ : ByteArray)) ++ t151) ++ (⟨#[32]⟩ : ByteArray)).size + t154.size ≤ 9223372036854775807 then (if ((((x5_4 ++ (⟨#[58, 32]⟩ : ByteArray)) ++ t151) ++ (⟨#[32]⟩ : ByteArray)) ++ t154).size + 1 ≤ 9223372036854775807 then (bindleref33_Line.j1 kj4 (((((x5_4 ++ (⟨#[58, 32]⟩ : ByteArray)) ++ t151) ++ (⟨#[32]⟩ : ByteArray)) ++ t154) ++ (⟨#[120]⟩ : ByteArray)) a1_0 l1_1 a1_2 l1_3 l1_4 a1_5 a1_6) else (none)) else (none)) = some r := H
           have A45 := Aside0.mk A450
           clear A450
           by_cases c46 : (((x5_4 ++ (⟨#[58, 32]⟩ : ByteArray)) ++ t151) ++ (⟨#[32]⟩ : ByteArray)).size + t154.size ≤ 9223372036854775807
           ·rw [if_pos c46] at H
            have c46b0 := eq_true c46
            have c46b1 : decide ((((x5_4 ++ (⟨#[58, 32]⟩ : ByteArray)) ++ t151) ++ (⟨#[32]⟩ : ByteArray)).size + t154.size ≤ 9223372036854775807) = true := decide_eq_true c46
            try have c46b2 : (9223372036854775807 < (((x5_4 ++ (⟨#[58, 32]⟩ : ByteArray)) ++ t151) ++ (⟨#[32]⟩ : ByteArray)).size + t154.size) = False := eq_false (Nat.not_lt.2 c46)
            try (have c46b3 := c46; simp only [ByteArray.size_append, show ((⟨#[32]⟩ : ByteArray)).size = 1 from rfl, show ((⟨#[58, 32]⟩ : ByteArray)).size = 2 from rfl] at c46b3; have c46b4 := eq_false (Nat.not_lt.2 c46b3))
            by_cases c47 : ((((x5_4 ++ (⟨#[58, 32]⟩ : ByteArray)) ++ t151) ++ (⟨#[32]⟩ : ByteArray)) ++ t154).size + 1 ≤ 9223372036854775807
            ·rw [if_pos c47] at H
             have c47b0 := eq_true c47
             have c47b1 : decide (((((x5_4 ++ (⟨#[58, 32]⟩ : ByteArray)) ++ t151) ++ (⟨#[32]⟩ : ByteArray)) ++ t154).size + 1 ≤ 9223372036854775807) = true := decide_eq_true c47
             try have c47b2 : (9223372036854775807 < ((((x5_4 ++ (⟨#[58, 32]⟩ : ByteArray)) ++ t151) ++ (⟨#[32]⟩ : ByteArray)) ++ t154).size + 1) = False := eq_false (Nat.not_lt.2 c47)
             try (have c47b3 := c47; simp only [ByteArray.size_append, show ((⟨#[32]⟩ : ByteArray)).size = 1 from rfl, show ((⟨#[58, 32]⟩ : ByteArray)).size = 2 from rfl] at c47b3; have c47b4 := eq_false (Nat.not_lt.2 c47b3))
             have H' := Aside0.mk H
             clear H
             have hnb48 := NB147_148.out
             have hnc48 := NB148_147.out
             have hcz49_0 : w22.cell? ⟨gb147, 0, none⟩ = some (.int .i64 a0_0) := (blk_cell BK147.out 0).trans rfl
             have hcz49_1 : w22.cell? ⟨gb147, 1, none⟩ = some (.string a0_1) := (blk_cell BK147.out 1).trans rfl
             have hcz49_2 : w22.cell? ⟨gb147, 2, none⟩ = some (.slice A0_2 l0_2.length c0_2) := (blk_cell BK147.out 2).trans rfl
             have hcz49_3 : w22.cell? ⟨gb147, 3, none⟩ = some (.int .i64 a0_3) := (blk_cell BK147.out 3).trans rfl
             have hcz49_4 : w22.cell? ⟨gb147, 4, none⟩ = some (.slice A0_4 l0_4.length c0_4) := (blk_cell BK147.out 4).trans rfl
             have hcz49_5 : w22.cell? ⟨gb147, 5, none⟩ = some (.int .i64 a0_5) := (blk_cell BK147.out 5).trans rfl
             have hcz49_6 : w22.cell? ⟨gb147, 6, none⟩ = some (.int .u8 a0_6) := (blk_cell BK147.out 6).trans rfl
             have hfz49_0 := blk_frozen BK147.out 0
             have hfz49_1 := blk_frozen BK147.out 1
             have hfz49_2 := blk_frozen BK147.out 2
             have hfz49_3 := blk_frozen BK147.out 3
             have hfz49_4 := blk_frozen BK147.out 4
             have hfz49_5 := blk_frozen BK147.out 5
             have hfz49_6 := blk_frozen BK147.out 6
             have hcz50_0 : w22.cell? ⟨gb148, 0, none⟩ = some (.int .i64 a1_0) := (blk_cell BK148.out 0).trans rfl
             have hcz50_1 : w22.cell? ⟨gb148, 1, none⟩ = some (.slice A1_1 l1_1.length c1_1) := (blk_cell BK148.out 1).trans rfl
             have hcz50_2 : w22.cell? ⟨gb148, 2, none⟩ = some (.int .i64 a1_2) := (blk_cell BK148.out 2).trans rfl
             have hcz50_3 : w22.cell? ⟨gb148, 3, none⟩ = some (.slice A1_3 l1_3.length c1_3) := (blk_cell BK148.out 3).trans rfl
             have hcz50_4 : w22.cell? ⟨gb148, 4, none⟩ = some (.slice A1_4 l1_4.length c1_4) := (blk_cell BK148.out 4).trans rfl
             have hcz50_5 : w22.cell? ⟨gb148, 5, none⟩ = some (.bool a1_5) := (blk_cell BK148.out 5).trans rfl
             have hcz50_6 : w22.cell? ⟨gb148, 6, none⟩ = some (.bool a1_6) := (blk_cell BK148.out 6).trans rfl
             have hfz50_0 := blk_frozen BK148.out 0
             have hfz50_1 := blk_frozen BK148.out 1
             have hfz50_2 := blk_frozen BK148.out 2
             have hfz50_3 := blk_frozen BK148.out 3
             have hfz50_4 := blk_frozen BK148.out 4
             have hfz50_5 := blk_frozen BK148.out 5
             have hfz50_6 := blk_frozen BK148.out 6
             go_wp2_with (first | ((with_reducible refine gate_callee (f := 27) rfl ?_); refine goesL_ (some 54) rfl rfl Tryd.func27 (by kernel_rfl) rfl #[.int .i64 (l1_3.length : Int)] rfl (by (try simp only [List.map_toArray, List.map_cons, List.map_nil]); first | done | rfl | (simp only [List.length_drop, List.length_take]; rfl)) ?_; (with_reducible refine (bindleref33_Digits.calls kj4 (l1_3.length : Int) t154 _ A45.out).mono ?_); rintro e w51 ⟨rfl, hb⟩; refine ⟨_, rfl, ?_⟩; have n0_ := Aside0.mk (blk_below (g := gb147) (o := .cells #[.int .i64 a0_0, .string a0_1, .slice A0_2 l0_2.length c0_2, .int .i64 a0_3, .slice A0_4 l0_4.length c0_4, .int .i64 a0_5, .int .u8 a0_6] 47 (0, 0)) (by (with_reducible repeat (first | refine blk_drewN ?_ _ | refine blk_drew ?_ | refine blk_alloc ?_ _)); exact BK147.out) hb); have n1_ := Aside0.mk (blk_below (g := gb148) (o := .cells #[.int .i64 a1_0, .slice A1_1 l1_1.length c1_1, .int .i64 a1_2, .slice A1_3 l1_3.length c1_3, .slice A1_4 l1_4.length c1_4, .bool a1_5, .bool a1_6] 53 (0, 0)) (by (with_reducible repeat (first | refine blk_drewN ?_ _ | refine blk_drew ?_ | refine blk_alloc ?_ _)); exact BK148.out) hb); have n2_ := Aside0.mk (below_step (by repeat (first | (with_reducible first | exact HB.out | apply below_alloc | apply pw_below_drewN | apply below_drew1 | refine below_set ?_ GE147.out | refine below_set ?_ GE148.out) | exact HB.out)) hb); clear BK147; clear BK148; clear HB; have BK147 := n0_; have BK148 := n1_; have HB := n2_; clear n0_ n1_ n2_; (try clear hb); (try clear hb2); (try clear hk); (try clear hi)))
             go_meet
             case rel => exact ⟨_, (((((x5_4 ++ (⟨#[58, 32]⟩ : ByteArray)) ++ t151) ++ (⟨#[32]⟩ : ByteArray)) ++ t154) ++ (⟨#[120]⟩ : ByteArray)), (by first | rfl | (simp only [YtodifojhegbjaaaDoorMpHelp.leq_not, YtodifojhegbjaaaDoorMpHelp.gtr_less]; done) | (simp; done) | (simp [*]; done)), H', ⟨by have := HJ4.out; first | omega | exact Nat.le_refl _⟩, ⟨by (with_reducible repeat (first | refine blk_drewN ?_ _ | refine blk_drew ?_ | refine blk_alloc ?_ _)); exact BK147.out⟩, ⟨by (with_reducible repeat (first | refine blk_drewN ?_ _ | refine blk_drew ?_ | refine blk_alloc ?_ _)); exact BK148.out⟩, ⟨by repeat (first | (with_reducible first | exact HB.out | apply below_alloc | apply pw_below_drewN | apply below_drew1 | refine below_set ?_ GE147.out | refine below_set ?_ GE148.out) | exact HB.out)⟩⟩
            ·rw [if_neg c47] at H
             exact absurd H (by simp)
           ·rw [if_neg c46] at H
            exact absurd H (by simp)
          ·rw [if_neg c44] at H
           exact absurd H (by simp)
         ·rw [if_neg c43] at H
          have c43b0 : (a0_0 == 10) = false := beq_eq_false_iff_ne.mpr c43
          have c43b1 : (a0_0 != 10) = true := bne_iff_ne.mpr c43
          by_cases c52 : a0_0 = 2
          ·rw [if_pos c52] at H
           have c52b0 : (a0_0 == 2) = true := beq_iff_eq.mpr c52
           have c52b1 : (a0_0 != 2) = false := bne_eq_false_iff_eq.mpr c52
           clear c52
           by_cases c53 : ((x5_4 ++ (⟨#[58, 32]⟩ : ByteArray)) ++ t151).size + 1 ≤ 9223372036854775807
           ·rw [if_pos c53] at H
            have c53b0 := eq_true c53
            have c53b1 : decide (((x5_4 ++ (⟨#[58, 32]⟩ : ByteArray)) ++ t151).size + 1 ≤ 9223372036854775807) = true := decide_eq_true c53
            try have c53b2 : (9223372036854775807 < ((x5_4 ++ (⟨#[58, 32]⟩ : ByteArray)) ++ t151).size + 1) = False := eq_false (Nat.not_lt.2 c53)
            try (have c53b3 := c53; simp only [ByteArray.size_append, show ((⟨#[58, 32]⟩ : ByteArray)).size = 2 from rfl] at c53b3; have c53b4 := eq_false (Nat.not_lt.2 c53b3))
            replace H := Option.bind_eq_some_iff.mp H
            obtain ⟨t155, A540, H⟩ := H
            replace H : (if (((x5_4 ++ (⟨#[58, 32]⟩ : ByteArray)) ++ t151) ++ (⟨#[32]⟩ : ByteArray)).size + t155.size ≤ 9223372036854775807 then (if ((((x5_4 ++ (⟨#[58, 32]⟩ : ByteArray)) ++ t151) ++ (⟨#[32]⟩ : ByteArray)) ++ t155).size + 1 ≤ 9223372036854775807 then (bindleref33_Line.j1 kj4 (((((x5_4 ++ (⟨#[58, 32]⟩ : ByteArray)) ++ t151) ++ (⟨#[32]⟩ : ByteArray)) ++ t155) ++ (⟨#[120]⟩ : ByteArray)) a1_0 l1_1 a1_2 l1_3 l1_4 a1_5 a1_6) else (none)) else (none)) = some r := H
            have A54 := Aside0.mk A540
            clear A540
            by_cases c55 : (((x5_4 ++ (⟨#[58, 32]⟩ : ByteArray)) ++ t151) ++ (⟨#[32]⟩ : ByteArray)).size + t155.size ≤ 9223372036854775807
            ·rw [if_pos c55] at H
             have c55b0 := eq_true c55
             have c55b1 : decide ((((x5_4 ++ (⟨#[58, 32]⟩ : ByteArray)) ++ t151) ++ (⟨#[32]⟩ : ByteArray)).size + t155.size ≤ 9223372036854775807) = true := decide_eq_true c55
             try have c55b2 : (9223372036854775807 < (((x5_4 ++ (⟨#[58, 32]⟩ : ByteArray)) ++ t151) ++ (⟨#[32]⟩ : ByteArray)).size + t155.size) = False := eq_false (Nat.not_lt.2 c55)
             try (have c55b3 := c55; simp only [ByteArray.size_append, show ((⟨#[32]⟩ : ByteArray)).size = 1 from rfl, show ((⟨#[58, 32]⟩ : ByteArray)).size = 2 from rfl] at c55b3; have c55b4 := eq_false (Nat.not_lt.2 c55b3))
             by_cases c56 : ((((x5_4 ++ (⟨#[58, 32]⟩ : ByteArray)) ++ t151) ++ (⟨#[32]⟩ : ByteArray)) ++ t155).size + 1 ≤ 9223372036854775807
             ·rw [if_pos c56] at H
              have c56b0 := eq_true c56
              have c56b1 : decide (((((x5_4 ++ (⟨#[58, 32]⟩ : ByteArray)) ++ t151) ++ (⟨#[32]⟩ : ByteArray)) ++ t155).size + 1 ≤ 9223372036854775807) = true := decide_eq_true c56
              try have c56b2 : (9223372036854775807 < ((((x5_4 ++ (⟨#[58, 32]⟩ : ByteArray)) ++ t151) ++ (⟨#[32]⟩ : ByteArray)) ++ t155).size + 1) = False := eq_false (Nat.not_lt.2 c56)
              try (have c56b3 := c56; simp only [ByteArray.size_append, show ((⟨#[32]⟩ : ByteArray)).size = 1 from rfl, show ((⟨#[58, 32]⟩ : ByteArray)).size = 2 from rfl] at c56b3; have c56b4 := eq_false (Nat.not_lt.2 c56b3))
              have H' := Aside0.mk H
              clear H
              have hnb57 := NB147_148.out
              have hnc57 := NB148_147.out
              have hcz58_0 : w22.cell? ⟨gb147, 0, none⟩ = some (.int .i64 a0_0) := (blk_cell BK147.out 0).trans rfl
              have hcz58_1 : w22.cell? ⟨gb147, 1, none⟩ = some (.string a0_1) := (blk_cell BK147.out 1).trans rfl
              have hcz58_2 : w22.cell? ⟨gb147, 2, none⟩ = some (.slice A0_2 l0_2.length c0_2) := (blk_cell BK147.out 2).trans rfl
              have hcz58_3 : w22.cell? ⟨gb147, 3, none⟩ = some (.int .i64 a0_3) := (blk_cell BK147.out 3).trans rfl
              have hcz58_4 : w22.cell? ⟨gb147, 4, none⟩ = some (.slice A0_4 l0_4.length c0_4) := (blk_cell BK147.out 4).trans rfl
              have hcz58_5 : w22.cell? ⟨gb147, 5, none⟩ = some (.int .i64 a0_5) := (blk_cell BK147.out 5).trans rfl
              have hcz58_6 : w22.cell? ⟨gb147, 6, none⟩ = some (.int .u8 a0_6) := (blk_cell BK147.out 6).trans rfl
              have hfz58_0 := blk_frozen BK147.out 0
              have hfz58_1 := blk_frozen BK147.out 1
              have hfz58_2 := blk_frozen BK147.out 2
              have hfz58_3 := blk_frozen BK147.out 3
              have hfz58_4 := blk_frozen BK147.out 4
              have hfz58_5 := blk_frozen BK147.out 5
              have hfz58_6 := blk_frozen BK147.out 6
              have hcz59_0 : w22.cell? ⟨gb148, 0, none⟩ = some (.int .i64 a1_0) := (blk_cell BK148.out 0).trans rfl
              have hcz59_1 : w22.cell? ⟨gb148, 1, none⟩ = some (.slice A1_1 l1_1.length c1_1) := (blk_cell BK148.out 1).trans rfl
              have hcz59_2 : w22.cell? ⟨gb148, 2, none⟩ = some (.int .i64 a1_2) := (blk_cell BK148.out 2).trans rfl
              have hcz59_3 : w22.cell? ⟨gb148, 3, none⟩ = some (.slice A1_3 l1_3.length c1_3) := (blk_cell BK148.out 3).trans rfl
              have hcz59_4 : w22.cell? ⟨gb148, 4, none⟩ = some (.slice A1_4 l1_4.length c1_4) := (blk_cell BK148.out 4).trans rfl
              have hcz59_5 : w22.cell? ⟨gb148, 5, none⟩ = some (.bool a1_5) := (blk_cell BK148.out 5).trans rfl
              have hcz59_6 : w22.cell? ⟨gb148, 6, none⟩ = some (.bool a1_6) := (blk_cell BK148.out 6).trans rfl
              have hfz59_0 := blk_frozen BK148.out 0
              have hfz59_1 := blk_frozen BK148.out 1
              have hfz59_2 := blk_frozen BK148.out 2
              have hfz59_3 := blk_frozen BK148.out 3
              have hfz59_4 := blk_frozen BK148.out 4
              have hfz59_5 := blk_frozen BK148.out 5
              have hfz59_6 := blk_frozen BK148.out 6
              go_wp2_with (first | ((with_reducible refine gate_callee (f := 27) rfl ?_); refine goesL_ (some 65) rfl rfl Tryd.func27 (by kernel_rfl) rfl #[.int .i64 (l1_4.length : Int)] rfl (by (try simp only [List.map_toArray, List.map_cons, List.map_nil]); first | done | rfl | (simp only [List.length_drop, List.length_take]; rfl)) ?_; (with_reducible refine (bindleref33_Digits.calls kj4 (l1_4.length : Int) t155 _ A54.out).mono ?_); rintro e w60 ⟨rfl, hb⟩; refine ⟨_, rfl, ?_⟩; have n0_ := Aside0.mk (blk_below (g := gb147) (o := .cells #[.int .i64 a0_0, .string a0_1, .slice A0_2 l0_2.length c0_2, .int .i64 a0_3, .slice A0_4 l0_4.length c0_4, .int .i64 a0_5, .int .u8 a0_6] 47 (0, 0)) (by (with_reducible repeat (first | refine blk_drewN ?_ _ | refine blk_drew ?_ | refine blk_alloc ?_ _)); exact BK147.out) hb); have n1_ := Aside0.mk (blk_below (g := gb148) (o := .cells #[.int .i64 a1_0, .slice A1_1 l1_1.length c1_1, .int .i64 a1_2, .slice A1_3 l1_3.length c1_3, .slice A1_4 l1_4.length c1_4, .bool a1_5, .bool a1_6] 53 (0, 0)) (by (with_reducible repeat (first | refine blk_drewN ?_ _ | refine blk_drew ?_ | refine blk_alloc ?_ _)); exact BK148.out) hb); have n2_ := Aside0.mk (below_step (by repeat (first | (with_reducible first | exact HB.out | apply below_alloc | apply pw_below_drewN | apply below_drew1 | refine below_set ?_ GE147.out | refine below_set ?_ GE148.out) | exact HB.out)) hb); clear BK147; clear BK148; clear HB; have BK147 := n0_; have BK148 := n1_; have HB := n2_; clear n0_ n1_ n2_; (try clear hb); (try clear hb2); (try clear hk); (try clear hi)))
              go_meet
              case rel => exact ⟨_, (((((x5_4 ++ (⟨#[58, 32]⟩ : ByteArray)) ++ t151) ++ (⟨#[32]⟩ : ByteArray)) ++ t155) ++ (⟨#[120]⟩ : ByteArray)), (by first | rfl | (simp only [YtodifojhegbjaaaDoorMpHelp.leq_not, YtodifojhegbjaaaDoorMpHelp.gtr_less]; done) | (simp; done) | (simp [*]; done)), H', ⟨by have := HJ4.out; first | omega | exact Nat.le_refl _⟩, ⟨by (with_reducible repeat (first | refine blk_drewN ?_ _ | refine blk_drew ?_ | refine blk_alloc ?_ _)); exact BK147.out⟩, ⟨by (with_reducible repeat (first | refine blk_drewN ?_ _ | refine blk_drew ?_ | refine blk_alloc ?_ _)); exact BK148.out⟩, ⟨by repeat (first | (with_reducible first | exact HB.out | apply below_alloc | apply pw_below_drewN | apply below_drew1 | refine below_set ?_ GE147.out | refine below_set ?_ GE148.out) | exact HB.out)⟩⟩
             ·rw [if_neg c56] at H
              exact absurd H (by simp)
            ·rw [if_neg c55] at H
             exact absurd H (by simp)
           ·rw [if_neg c53] at H
            exact absurd H (by simp)
          ·rw [if_neg c52] at H
           have c52b0 : (a0_0 == 2) = false := beq_eq_false_iff_ne.mpr c52
           have c52b1 : (a0_0 != 2) = true := bne_iff_ne.mpr c52
           by_cases c61 : a0_0 = 15
           ·rw [if_pos c61] at H
            have c61b0 : (a0_0 == 15) = true := beq_iff_eq.mpr c61
            have c61b1 : (a0_0 != 15) = false := bne_eq_false_iff_eq.mpr c61
            clear c61
            by_cases c62 : ((x5_4 ++ (⟨#[58, 32]⟩ : ByteArray)) ++ t151).size + 1 ≤ 9223372036854775807
            ·rw [if_pos c62] at H
             have c62b0 := eq_true c62
             have c62b1 : decide (((x5_4 ++ (⟨#[58, 32]⟩ : ByteArray)) ++ t151).size + 1 ≤ 9223372036854775807) = true := decide_eq_true c62
             try have c62b2 : (9223372036854775807 < ((x5_4 ++ (⟨#[58, 32]⟩ : ByteArray)) ++ t151).size + 1) = False := eq_false (Nat.not_lt.2 c62)
             try (have c62b3 := c62; simp only [ByteArray.size_append, show ((⟨#[58, 32]⟩ : ByteArray)).size = 2 from rfl] at c62b3; have c62b4 := eq_false (Nat.not_lt.2 c62b3))
             replace H := Option.bind_eq_some_iff.mp H
             obtain ⟨t156, A630, H⟩ := H
             replace H : (if (((x5_4 ++ (⟨#[58, 32]⟩ : ByteArray)) ++ t151) ++ (⟨#[32]⟩ : ByteArray)).size + t156.size ≤ 9223372036854775807 then (if ((((x5_4 ++ (⟨#[58, 32]⟩ : ByteArray)) ++ t151) ++ (⟨#[32]⟩ : ByteArray)) ++ t156).size + 1 ≤ 9223372036854775807 then (bindleref33_Line.j1 kj4 (((((x5_4 ++ (⟨#[58, 32]⟩ : ByteArray)) ++ t151) ++ (⟨#[32]⟩ : ByteArray)) ++ t156) ++ (⟨#[120]⟩ : ByteArray)) a1_0 l1_1 a1_2 l1_3 l1_4 a1_5 a1_6) else (none)) else (none)) = some r := H
             have A63 := Aside0.mk A630
             clear A630
             by_cases c64 : (((x5_4 ++ (⟨#[58, 32]⟩ : ByteArray)) ++ t151) ++ (⟨#[32]⟩ : ByteArray)).size + t156.size ≤ 9223372036854775807
             ·rw [if_pos c64] at H
              have c64b0 := eq_true c64
              have c64b1 : decide ((((x5_4 ++ (⟨#[58, 32]⟩ : ByteArray)) ++ t151) ++ (⟨#[32]⟩ : ByteArray)).size + t156.size ≤ 9223372036854775807) = true := decide_eq_true c64
              try have c64b2 : (9223372036854775807 < (((x5_4 ++ (⟨#[58, 32]⟩ : ByteArray)) ++ t151) ++ (⟨#[32]⟩ : ByteArray)).size + t156.size) = False := eq_false (Nat.not_lt.2 c64)
              try (have c64b3 := c64; simp only [ByteArray.size_append, show ((⟨#[32]⟩ : ByteArray)).size = 1 from rfl, show ((⟨#[58, 32]⟩ : ByteArray)).size = 2 from rfl] at c64b3; have c64b4 := eq_false (Nat.not_lt.2 c64b3))
              by_cases c65 : ((((x5_4 ++ (⟨#[58, 32]⟩ : ByteArray)) ++ t151) ++ (⟨#[32]⟩ : ByteArray)) ++ t156).size + 1 ≤ 9223372036854775807
              ·rw [if_pos c65] at H
               have c65b0 := eq_true c65
               have c65b1 : decide (((((x5_4 ++ (⟨#[58, 32]⟩ : ByteArray)) ++ t151) ++ (⟨#[32]⟩ : ByteArray)) ++ t156).size + 1 ≤ 9223372036854775807) = true := decide_eq_true c65
               try have c65b2 : (9223372036854775807 < ((((x5_4 ++ (⟨#[58, 32]⟩ : ByteArray)) ++ t151) ++ (⟨#[32]⟩ : ByteArray)) ++ t156).size + 1) = False := eq_false (Nat.not_lt.2 c65)
               try (have c65b3 := c65; simp only [ByteArray.size_append, show ((⟨#[32]⟩ : ByteArray)).size = 1 from rfl, show ((⟨#[58, 32]⟩ : ByteArray)).size = 2 from rfl] at c65b3; have c65b4 := eq_false (Nat.not_lt.2 c65b3))
               have H' := Aside0.mk H
               clear H
               have hnb66 := NB147_148.out
               have hnc66 := NB148_147.out
               have hcz67_0 : w22.cell? ⟨gb147, 0, none⟩ = some (.int .i64 a0_0) := (blk_cell BK147.out 0).trans rfl
               have hcz67_1 : w22.cell? ⟨gb147, 1, none⟩ = some (.string a0_1) := (blk_cell BK147.out 1).trans rfl
               have hcz67_2 : w22.cell? ⟨gb147, 2, none⟩ = some (.slice A0_2 l0_2.length c0_2) := (blk_cell BK147.out 2).trans rfl
               have hcz67_3 : w22.cell? ⟨gb147, 3, none⟩ = some (.int .i64 a0_3) := (blk_cell BK147.out 3).trans rfl
               have hcz67_4 : w22.cell? ⟨gb147, 4, none⟩ = some (.slice A0_4 l0_4.length c0_4) := (blk_cell BK147.out 4).trans rfl
               have hcz67_5 : w22.cell? ⟨gb147, 5, none⟩ = some (.int .i64 a0_5) := (blk_cell BK147.out 5).trans rfl
               have hcz67_6 : w22.cell? ⟨gb147, 6, none⟩ = some (.int .u8 a0_6) := (blk_cell BK147.out 6).trans rfl
               have hfz67_0 := blk_frozen BK147.out 0
               have hfz67_1 := blk_frozen BK147.out 1
               have hfz67_2 := blk_frozen BK147.out 2
               have hfz67_3 := blk_frozen BK147.out 3
               have hfz67_4 := blk_frozen BK147.out 4
               have hfz67_5 := blk_frozen BK147.out 5
               have hfz67_6 := blk_frozen BK147.out 6
               have hcz68_0 : w22.cell? ⟨gb148, 0, none⟩ = some (.int .i64 a1_0) := (blk_cell BK148.out 0).trans rfl
               have hcz68_1 : w22.cell? ⟨gb148, 1, none⟩ = some (.slice A1_1 l1_1.length c1_1) := (blk_cell BK148.out 1).trans rfl
               have hcz68_2 : w22.cell? ⟨gb148, 2, none⟩ = some (.int .i64 a1_2) := (blk_cell BK148.out 2).trans rfl
               have hcz68_3 : w22.cell? ⟨gb148, 3, none⟩ = some (.slice A1_3 l1_3.length c1_3) := (blk_cell BK148.out 3).trans rfl
               have hcz68_4 : w22.cell? ⟨gb148, 4, none⟩ = some (.slice A1_4 l1_4.length c1_4) := (blk_cell BK148.out 4).trans rfl
               have hcz68_5 : w22.cell? ⟨gb148, 5, none⟩ = some (.bool a1_5) := (blk_cell BK148.out 5).trans rfl
               have hcz68_6 : w22.cell? ⟨gb148, 6, none⟩ = some (.bool a1_6) := (blk_cell BK148.out 6).trans rfl
               have hfz68_0 := blk_frozen BK148.out 0
               have hfz68_1 := blk_frozen BK148.out 1
               have hfz68_2 := blk_frozen BK148.out 2
               have hfz68_3 := blk_frozen BK148.out 3
               have hfz68_4 := blk_frozen BK148.out 4
               have hfz68_5 := blk_frozen BK148.out 5
               have hfz68_6 := blk_frozen BK148.out 6
               go_wp2_with (first | ((with_reducible refine gate_callee (f := 27) rfl ?_); refine goesL_ (some 65) rfl rfl Tryd.func27 (by kernel_rfl) rfl #[.int .i64 (l1_4.length : Int)] rfl (by (try simp only [List.map_toArray, List.map_cons, List.map_nil]); first | done | rfl | (simp only [List.length_drop, List.length_take]; rfl)) ?_; (with_reducible refine (bindleref33_Digits.calls kj4 (l1_4.length : Int) t156 _ A63.out).mono ?_); rintro e w69 ⟨rfl, hb⟩; refine ⟨_, rfl, ?_⟩; have n0_ := Aside0.mk (blk_below (g := gb147) (o := .cells #[.int .i64 a0_0, .string a0_1, .slice A0_2 l0_2.length c0_2, .int .i64 a0_3, .slice A0_4 l0_4.length c0_4, .int .i64 a0_5, .int .u8 a0_6] 47 (0, 0)) (by (with_reducible repeat (first | refine blk_drewN ?_ _ | refine blk_drew ?_ | refine blk_alloc ?_ _)); exact BK147.out) hb); have n1_ := Aside0.mk (blk_below (g := gb148) (o := .cells #[.int .i64 a1_0, .slice A1_1 l1_1.length c1_1, .int .i64 a1_2, .slice A1_3 l1_3.length c1_3, .slice A1_4 l1_4.length c1_4, .bool a1_5, .bool a1_6] 53 (0, 0)) (by (with_reducible repeat (first | refine blk_drewN ?_ _ | refine blk_drew ?_ | refine blk_alloc ?_ _)); exact BK148.out) hb); have n2_ := Aside0.mk (below_step (by repeat (first | (with_reducible first | exact HB.out | apply below_alloc | apply pw_below_drewN | apply below_drew1 | refine below_set ?_ GE147.out | refine below_set ?_ GE148.out) | exact HB.out)) hb); clear BK147; clear BK148; clear HB; have BK147 := n0_; have BK148 := n1_; have HB := n2_; clear n0_ n1_ n2_; (try clear hb); (try clear hb2); (try clear hk); (try clear hi)))
               go_meet
               case rel => exact ⟨_, (((((x5_4 ++ (⟨#[58, 32]⟩ : ByteArray)) ++ t151) ++ (⟨#[32]⟩ : ByteArray)) ++ t156) ++ (⟨#[120]⟩ : ByteArray)), (by first | rfl | (simp only [YtodifojhegbjaaaDoorMpHelp.leq_not, YtodifojhegbjaaaDoorMpHelp.gtr_less]; done) | (simp; done) | (simp [*]; done)), H', ⟨by have := HJ4.out; first | omega | exact Nat.le_refl _⟩, ⟨by (with_reducible repeat (first | refine blk_drewN ?_ _ | refine blk_drew ?_ | refine blk_alloc ?_ _)); exact BK147.out⟩, ⟨by (with_reducible repeat (first | refine blk_drewN ?_ _ | refine blk_drew ?_ | refine blk_alloc ?_ _)); exact BK148.out⟩, ⟨by repeat (first | (with_reducible first | exact HB.out | apply below_alloc | apply pw_below_drewN | apply below_drew1 | refine below_set ?_ GE147.out | refine below_set ?_ GE148.out) | exact HB.out)⟩⟩
              ·rw [if_neg c65] at H
               exact absurd H (by simp)
             ·rw [if_neg c64] at H
              exact absurd H (by simp)
            ·rw [if_neg c62] at H
             exact absurd H (by simp)
           ·rw [if_neg c61] at H
            have c61b0 : (a0_0 == 15) = false := beq_eq_false_iff_ne.mpr c61
            have c61b1 : (a0_0 != 15) = true := bne_iff_ne.mpr c61
            have H' := Aside0.mk H
            clear H
            have hnb70 := NB147_148.out
            have hnc70 := NB148_147.out
            have hcz71_0 : w22.cell? ⟨gb147, 0, none⟩ = some (.int .i64 a0_0) := (blk_cell BK147.out 0).trans rfl
            have hcz71_1 : w22.cell? ⟨gb147, 1, none⟩ = some (.string a0_1) := (blk_cell BK147.out 1).trans rfl
            have hcz71_2 : w22.cell? ⟨gb147, 2, none⟩ = some (.slice A0_2 l0_2.length c0_2) := (blk_cell BK147.out 2).trans rfl
            have hcz71_3 : w22.cell? ⟨gb147, 3, none⟩ = some (.int .i64 a0_3) := (blk_cell BK147.out 3).trans rfl
            have hcz71_4 : w22.cell? ⟨gb147, 4, none⟩ = some (.slice A0_4 l0_4.length c0_4) := (blk_cell BK147.out 4).trans rfl
            have hcz71_5 : w22.cell? ⟨gb147, 5, none⟩ = some (.int .i64 a0_5) := (blk_cell BK147.out 5).trans rfl
            have hcz71_6 : w22.cell? ⟨gb147, 6, none⟩ = some (.int .u8 a0_6) := (blk_cell BK147.out 6).trans rfl
            have hfz71_0 := blk_frozen BK147.out 0
            have hfz71_1 := blk_frozen BK147.out 1
            have hfz71_2 := blk_frozen BK147.out 2
            have hfz71_3 := blk_frozen BK147.out 3
            have hfz71_4 := blk_frozen BK147.out 4
            have hfz71_5 := blk_frozen BK147.out 5
            have hfz71_6 := blk_frozen BK147.out 6
            go_wp2
            go_meet
            case rel => exact ⟨_, ((x5_4 ++ (⟨#[58, 32]⟩ : ByteArray)) ++ t151), (by first | rfl | (simp only [YtodifojhegbjaaaDoorMpHelp.leq_not, YtodifojhegbjaaaDoorMpHelp.gtr_less]; done) | (simp; done) | (simp [*]; done)), H', ⟨by have := HJ4.out; first | omega | exact Nat.le_refl _⟩, ⟨by (with_reducible repeat (first | refine blk_drewN ?_ _ | refine blk_drew ?_ | refine blk_alloc ?_ _)); exact BK147.out⟩, ⟨by (with_reducible repeat (first | refine blk_drewN ?_ _ | refine blk_drew ?_ | refine blk_alloc ?_ _)); exact BK148.out⟩, ⟨by repeat (first | (with_reducible first | exact HB.out | apply below_alloc | apply pw_below_drewN | apply below_drew1 | refine below_set ?_ GE147.out | refine below_set ?_ GE148.out) | exact HB.out)⟩⟩
      ·rw [if_neg c24] at H
       have c24b0 : (a1_0 == 0) = false := beq_eq_false_iff_ne.mpr c24
       have c24b1 : (a1_0 != 0) = true := bne_iff_ne.mpr c24
       (first | rw [c24b0] | (simp only [i64_w, i32_w]; rw [c24b0]) | rw [c24b1] | skip)
       have H' := Aside0.mk H
       clear H
       go_wp2
       go_meet
       case rel => exact ⟨_, ((x5_4 ++ (⟨#[58, 32]⟩ : ByteArray)) ++ t151), (by first | rfl | (simp only [YtodifojhegbjaaaDoorMpHelp.leq_not, YtodifojhegbjaaaDoorMpHelp.gtr_less]; done) | (simp; done) | (simp [*]; done)), H', ⟨by have := HJ4.out; first | omega | exact Nat.le_refl _⟩, ⟨by (with_reducible repeat (first | refine blk_drewN ?_ _ | refine blk_drew ?_ | refine blk_alloc ?_ _)); exact BK147.out⟩, ⟨by (with_reducible repeat (first | refine blk_drewN ?_ _ | refine blk_drew ?_ | refine blk_alloc ?_ _)); exact BK148.out⟩, ⟨by repeat (first | (with_reducible first | exact HB.out | apply below_alloc | apply pw_below_drewN | apply below_drew1 | refine below_set ?_ GE147.out | refine below_set ?_ GE148.out) | exact HB.out)⟩⟩
     case rest =>
      clear HC19
      try clear c1
      try clear c2
      try clear p2
      try clear c3
      try clear c4
      try clear c5
      try clear c6
      try clear c7
      try clear c8
      try clear c10
      try clear c11
      try clear c12
      try clear c12b0
      try clear c12b1
      try clear c12b2
      try clear c13
      try clear c13b0
      try clear c13b1
      try clear c13b2
      try clear c13b3
      try clear c13b4
      try clear c14
      try clear c16
      try clear c16b0
      try clear c16b1
      try clear c16b2
      try clear c18
      try clear c18b0
      try clear c18b1
      try clear c18b2
      try clear c18b3
      try clear c18b4
      try clear c20
      try clear c24
      try clear c24b0
      try clear c24b1
      try clear c25
      try clear c25b0
      try clear c25b1
      try clear c26
      try clear c26b0
      try clear c26b1
      try clear c26b2
      try clear c26b3
      try clear c26b4
      try clear c27
      try clear c28
      try clear c28b0
      try clear c28b1
      try clear c28b2
      try clear c28b3
      try clear c28b4
      try clear c29
      try clear c29b0
      try clear c29b1
      try clear c29b2
      try clear c29b3
      try clear c29b4
      try clear c30
      try clear c34
      try clear c34b0
      try clear c34b1
      try clear c35
      try clear c35b0
      try clear c35b1
      try clear c35b2
      try clear c35b3
      try clear c35b4
      try clear c37
      try clear c37b0
      try clear c37b1
      try clear c37b2
      try clear c37b3
      try clear c37b4
      try clear c38
      try clear c38b0
      try clear c38b1
      try clear c38b2
      try clear c38b3
      try clear c38b4
      try clear c39
      try clear c43
      try clear c43b0
      try clear c43b1
      try clear c44
      try clear c44b0
      try clear c44b1
      try clear c44b2
      try clear c44b3
      try clear c44b4
      try clear c46
      try clear c46b0
      try clear c46b1
      try clear c46b2
      try clear c46b3
      try clear c46b4
      try clear c47
      try clear c47b0
      try clear c47b1
      try clear c47b2
      try clear c47b3
      try clear c47b4
      try clear c48
      try clear c52
      try clear c52b0
      try clear c52b1
      try clear c53
      try clear c53b0
      try clear c53b1
      try clear c53b2
      try clear c53b3
      try clear c53b4
      try clear c55
      try clear c55b0
      try clear c55b1
      try clear c55b2
      try clear c55b3
      try clear c55b4
      try clear c56
      try clear c56b0
      try clear c56b1
      try clear c56b2
      try clear c56b3
      try clear c56b4
      try clear c57
      try clear c61
      try clear c61b0
      try clear c61b1
      try clear c62
      try clear c62b0
      try clear c62b1
      try clear c62b2
      try clear c62b3
      try clear c62b4
      try clear c64
      try clear c64b0
      try clear c64b1
      try clear c64b2
      try clear c64b3
      try clear c64b4
      try clear c65
      try clear c65b0
      try clear c65b1
      try clear c65b2
      try clear c65b3
      try clear c65b4
      try clear c66
      try clear c70
      try clear hcz15_0
      try clear hcz15_1
      try clear hcz15_2
      try clear hcz15_3
      try clear hcz15_4
      try clear hcz15_5
      try clear hcz15_6
      try clear hcz21_0
      try clear hcz21_1
      try clear hcz21_2
      try clear hcz21_3
      try clear hcz21_4
      try clear hcz21_5
      try clear hcz21_6
      try clear hcz23_0
      try clear hcz23_1
      try clear hcz23_2
      try clear hcz23_3
      try clear hcz23_4
      try clear hcz23_5
      try clear hcz23_6
      try clear hcz31_0
      try clear hcz31_1
      try clear hcz31_2
      try clear hcz31_3
      try clear hcz31_4
      try clear hcz31_5
      try clear hcz31_6
      try clear hcz32_0
      try clear hcz32_1
      try clear hcz32_2
      try clear hcz32_3
      try clear hcz32_4
      try clear hcz32_5
      try clear hcz32_6
      try clear hcz40_0
      try clear hcz40_1
      try clear hcz40_2
      try clear hcz40_3
      try clear hcz40_4
      try clear hcz40_5
      try clear hcz40_6
      try clear hcz41_0
      try clear hcz41_1
      try clear hcz41_2
      try clear hcz41_3
      try clear hcz41_4
      try clear hcz41_5
      try clear hcz41_6
      try clear hcz49_0
      try clear hcz49_1
      try clear hcz49_2
      try clear hcz49_3
      try clear hcz49_4
      try clear hcz49_5
      try clear hcz49_6
      try clear hcz50_0
      try clear hcz50_1
      try clear hcz50_2
      try clear hcz50_3
      try clear hcz50_4
      try clear hcz50_5
      try clear hcz50_6
      try clear hcz58_0
      try clear hcz58_1
      try clear hcz58_2
      try clear hcz58_3
      try clear hcz58_4
      try clear hcz58_5
      try clear hcz58_6
      try clear hcz59_0
      try clear hcz59_1
      try clear hcz59_2
      try clear hcz59_3
      try clear hcz59_4
      try clear hcz59_5
      try clear hcz59_6
      try clear hcz67_0
      try clear hcz67_1
      try clear hcz67_2
      try clear hcz67_3
      try clear hcz67_4
      try clear hcz67_5
      try clear hcz67_6
      try clear hcz68_0
      try clear hcz68_1
      try clear hcz68_2
      try clear hcz68_3
      try clear hcz68_4
      try clear hcz68_5
      try clear hcz68_6
      try clear hcz71_0
      try clear hcz71_1
      try clear hcz71_2
      try clear hcz71_3
      try clear hcz71_4
      try clear hcz71_5
      try clear hcz71_6
      try clear hcz9_0
      try clear hcz9_1
      try clear hcz9_2
      try clear hcz9_3
      try clear hcz9_4
      try clear hcz9_5
      try clear hcz9_6
      try clear hfz15_0
      try clear hfz15_1
      try clear hfz15_2
      try clear hfz15_3
      try clear hfz15_4
      try clear hfz15_5
      try clear hfz15_6
      try clear hfz21_0
      try clear hfz21_1
      try clear hfz21_2
      try clear hfz21_3
      try clear hfz21_4
      try clear hfz21_5
      try clear hfz21_6
      try clear hfz23_0
      try clear hfz23_1
      try clear hfz23_2
      try clear hfz23_3
      try clear hfz23_4
      try clear hfz23_5
      try clear hfz23_6
      try clear hfz31_0
      try clear hfz31_1
      try clear hfz31_2
      try clear hfz31_3
      try clear hfz31_4
      try clear hfz31_5
      try clear hfz31_6
      try clear hfz32_0
      try clear hfz32_1
      try clear hfz32_2
      try clear hfz32_3
      try clear hfz32_4
      try clear hfz32_5
      try clear hfz32_6
      try clear hfz40_0
      try clear hfz40_1
      try clear hfz40_2
      try clear hfz40_3
      try clear hfz40_4
      try clear hfz40_5
      try clear hfz40_6
      try clear hfz41_0
      try clear hfz41_1
      try clear hfz41_2
      try clear hfz41_3
      try clear hfz41_4
      try clear hfz41_5
      try clear hfz41_6
      try clear hfz49_0
      try clear hfz49_1
      try clear hfz49_2
      try clear hfz49_3
      try clear hfz49_4
      try clear hfz49_5
      try clear hfz49_6
      try clear hfz50_0
      try clear hfz50_1
      try clear hfz50_2
      try clear hfz50_3
      try clear hfz50_4
      try clear hfz50_5
      try clear hfz50_6
      try clear hfz58_0
      try clear hfz58_1
      try clear hfz58_2
      try clear hfz58_3
      try clear hfz58_4
      try clear hfz58_5
      try clear hfz58_6
      try clear hfz59_0
      try clear hfz59_1
      try clear hfz59_2
      try clear hfz59_3
      try clear hfz59_4
      try clear hfz59_5
      try clear hfz59_6
      try clear hfz67_0
      try clear hfz67_1
      try clear hfz67_2
      try clear hfz67_3
      try clear hfz67_4
      try clear hfz67_5
      try clear hfz67_6
      try clear hfz68_0
      try clear hfz68_1
      try clear hfz68_2
      try clear hfz68_3
      try clear hfz68_4
      try clear hfz68_5
      try clear hfz68_6
      try clear hfz71_0
      try clear hfz71_1
      try clear hfz71_2
      try clear hfz71_3
      try clear hfz71_4
      try clear hfz71_5
      try clear hfz71_6
      try clear hfz9_0
      try clear hfz9_1
      try clear hfz9_2
      try clear hfz9_3
      try clear hfz9_4
      try clear hfz9_5
      try clear hfz9_6
      try clear p2
      obtain ⟨kq, x5_18, rfl, HA, HJ18, BK147, BK148, HB⟩ := hcut
      cases kq with
      | zero => exact absurd HA.out (by simp [bindleref33_Line.j1])
      | succ kj18 =>
       have H := HA.out
       clear HA
       simp only [bindleref33_Line.j1] at H
       by_cases c72 : a1_5 = true
       ·subst c72
        have H1 : (if x5_18.size + 8 ≤ 9223372036854775807 then (if a1_6 = true then (if (x5_18 ++ (⟨#[32, 114, 101, 102, 117, 115, 101, 100]⟩ : ByteArray)).size + 9 ≤ 9223372036854775807 then (some ((x5_18 ++ (⟨#[32, 114, 101, 102, 117, 115, 101, 100]⟩ : ByteArray)) ++ (⟨#[32, 112, 111, 105, 115, 111, 110, 101, 100]⟩ : ByteArray))) else (none)) else (some (x5_18 ++ (⟨#[32, 114, 101, 102, 117, 115, 101, 100]⟩ : ByteArray)))) else (none)) = some r := by rw [if_pos rfl] at H; exact H
        clear H
        have H := H1
        clear H1
        by_cases c73 : x5_18.size + 8 ≤ 9223372036854775807
        ·rw [if_pos c73] at H
         have c73b0 := eq_true c73
         have c73b1 : decide (x5_18.size + 8 ≤ 9223372036854775807) = true := decide_eq_true c73
         try have c73b2 : (9223372036854775807 < x5_18.size + 8) = False := eq_false (Nat.not_lt.2 c73)
         by_cases c74 : a1_6 = true
         ·subst c74
          have H1 : (if (x5_18 ++ (⟨#[32, 114, 101, 102, 117, 115, 101, 100]⟩ : ByteArray)).size + 9 ≤ 9223372036854775807 then (some ((x5_18 ++ (⟨#[32, 114, 101, 102, 117, 115, 101, 100]⟩ : ByteArray)) ++ (⟨#[32, 112, 111, 105, 115, 111, 110, 101, 100]⟩ : ByteArray))) else (none)) = some r := by rw [if_pos rfl] at H; exact H
          clear H
          have H := H1
          clear H1
          by_cases c75 : (x5_18 ++ (⟨#[32, 114, 101, 102, 117, 115, 101, 100]⟩ : ByteArray)).size + 9 ≤ 9223372036854775807
          ·rw [if_pos c75] at H
           have c75b0 := eq_true c75
           have c75b1 : decide ((x5_18 ++ (⟨#[32, 114, 101, 102, 117, 115, 101, 100]⟩ : ByteArray)).size + 9 ≤ 9223372036854775807) = true := decide_eq_true c75
           try have c75b2 : (9223372036854775807 < (x5_18 ++ (⟨#[32, 114, 101, 102, 117, 115, 101, 100]⟩ : ByteArray)).size + 9) = False := eq_false (Nat.not_lt.2 c75)
           try (have c75b3 := c75; simp only [ByteArray.size_append, show ((⟨#[32, 114, 101, 102, 117, 115, 101, 100]⟩ : ByteArray)).size = 8 from rfl] at c75b3; have c75b4 := eq_false (Nat.not_lt.2 c75b3))
           obtain rfl := Option.some.inj H
           have hnb76 := NB148_147.out
           have hnc76 := NB147_148.out
           have hcz77_0 : wc.cell? ⟨gb148, 0, none⟩ = some (.int .i64 a1_0) := (blk_cell BK148.out 0).trans rfl
           have hcz77_1 : wc.cell? ⟨gb148, 1, none⟩ = some (.slice A1_1 l1_1.length c1_1) := (blk_cell BK148.out 1).trans rfl
           have hcz77_2 : wc.cell? ⟨gb148, 2, none⟩ = some (.int .i64 a1_2) := (blk_cell BK148.out 2).trans rfl
           have hcz77_3 : wc.cell? ⟨gb148, 3, none⟩ = some (.slice A1_3 l1_3.length c1_3) := (blk_cell BK148.out 3).trans rfl
           have hcz77_4 : wc.cell? ⟨gb148, 4, none⟩ = some (.slice A1_4 l1_4.length c1_4) := (blk_cell BK148.out 4).trans rfl
           have hcz77_5 : wc.cell? ⟨gb148, 5, none⟩ = some (.bool true) := (blk_cell BK148.out 5).trans rfl
           have hcz77_6 : wc.cell? ⟨gb148, 6, none⟩ = some (.bool true) := (blk_cell BK148.out 6).trans rfl
           have hfz77_0 := blk_frozen BK148.out 0
           have hfz77_1 := blk_frozen BK148.out 1
           have hfz77_2 := blk_frozen BK148.out 2
           have hfz77_3 := blk_frozen BK148.out 3
           have hfz77_4 := blk_frozen BK148.out 4
           have hfz77_5 := blk_frozen BK148.out 5
           have hfz77_6 := blk_frozen BK148.out 6
           go_wp2
           go_ret
           exact ⟨by first | rfl | (simp [errW_none, errW_some] <;> rfl) | (simp [*, errW_none, errW_some] <;> rfl), by repeat (first | (with_reducible first | exact HB.out | apply below_alloc | apply pw_below_drewN | apply below_drew1 | refine below_set ?_ GE147.out | refine below_set ?_ GE148.out) | exact HB.out)⟩
          ·rw [if_neg c75] at H
           exact absurd H (by simp)
         ·replace c74 := Bool.eq_false_iff.mpr c74
          subst c74
          have H1 : (some (x5_18 ++ (⟨#[32, 114, 101, 102, 117, 115, 101, 100]⟩ : ByteArray))) = some r := by rw [if_neg (show ¬ (false = true) by decide)] at H; exact H
          clear H
          have H := H1
          clear H1
          obtain rfl := Option.some.inj H
          have hnb78 := NB148_147.out
          have hnc78 := NB147_148.out
          have hcz79_0 : wc.cell? ⟨gb148, 0, none⟩ = some (.int .i64 a1_0) := (blk_cell BK148.out 0).trans rfl
          have hcz79_1 : wc.cell? ⟨gb148, 1, none⟩ = some (.slice A1_1 l1_1.length c1_1) := (blk_cell BK148.out 1).trans rfl
          have hcz79_2 : wc.cell? ⟨gb148, 2, none⟩ = some (.int .i64 a1_2) := (blk_cell BK148.out 2).trans rfl
          have hcz79_3 : wc.cell? ⟨gb148, 3, none⟩ = some (.slice A1_3 l1_3.length c1_3) := (blk_cell BK148.out 3).trans rfl
          have hcz79_4 : wc.cell? ⟨gb148, 4, none⟩ = some (.slice A1_4 l1_4.length c1_4) := (blk_cell BK148.out 4).trans rfl
          have hcz79_5 : wc.cell? ⟨gb148, 5, none⟩ = some (.bool true) := (blk_cell BK148.out 5).trans rfl
          have hcz79_6 : wc.cell? ⟨gb148, 6, none⟩ = some (.bool false) := (blk_cell BK148.out 6).trans rfl
          have hfz79_0 := blk_frozen BK148.out 0
          have hfz79_1 := blk_frozen BK148.out 1
          have hfz79_2 := blk_frozen BK148.out 2
          have hfz79_3 := blk_frozen BK148.out 3
          have hfz79_4 := blk_frozen BK148.out 4
          have hfz79_5 := blk_frozen BK148.out 5
          have hfz79_6 := blk_frozen BK148.out 6
          go_wp2
          go_ret
          exact ⟨by first | rfl | (simp [errW_none, errW_some] <;> rfl) | (simp [*, errW_none, errW_some] <;> rfl), by repeat (first | (with_reducible first | exact HB.out | apply below_alloc | apply pw_below_drewN | apply below_drew1 | refine below_set ?_ GE147.out | refine below_set ?_ GE148.out) | exact HB.out)⟩
        ·rw [if_neg c73] at H
         exact absurd H (by simp)
       ·replace c72 := Bool.eq_false_iff.mpr c72
        subst c72
        have H1 : (if a1_6 = true then (if x5_18.size + 9 ≤ 9223372036854775807 then (some (x5_18 ++ (⟨#[32, 112, 111, 105, 115, 111, 110, 101, 100]⟩ : ByteArray))) else (none)) else (some x5_18)) = some r := by rw [if_neg (show ¬ (false = true) by decide)] at H; exact H
        clear H
        have H := H1
        clear H1
        by_cases c80 : a1_6 = true
        ·subst c80
         have H1 : (if x5_18.size + 9 ≤ 9223372036854775807 then (some (x5_18 ++ (⟨#[32, 112, 111, 105, 115, 111, 110, 101, 100]⟩ : ByteArray))) else (none)) = some r := by rw [if_pos rfl] at H; exact H
         clear H
         have H := H1
         clear H1
         by_cases c81 : x5_18.size + 9 ≤ 9223372036854775807
         ·rw [if_pos c81] at H
          have c81b0 := eq_true c81
          have c81b1 : decide (x5_18.size + 9 ≤ 9223372036854775807) = true := decide_eq_true c81
          try have c81b2 : (9223372036854775807 < x5_18.size + 9) = False := eq_false (Nat.not_lt.2 c81)
          obtain rfl := Option.some.inj H
          have hnb82 := NB148_147.out
          have hnc82 := NB147_148.out
          have hcz83_0 : wc.cell? ⟨gb148, 0, none⟩ = some (.int .i64 a1_0) := (blk_cell BK148.out 0).trans rfl
          have hcz83_1 : wc.cell? ⟨gb148, 1, none⟩ = some (.slice A1_1 l1_1.length c1_1) := (blk_cell BK148.out 1).trans rfl
          have hcz83_2 : wc.cell? ⟨gb148, 2, none⟩ = some (.int .i64 a1_2) := (blk_cell BK148.out 2).trans rfl
          have hcz83_3 : wc.cell? ⟨gb148, 3, none⟩ = some (.slice A1_3 l1_3.length c1_3) := (blk_cell BK148.out 3).trans rfl
          have hcz83_4 : wc.cell? ⟨gb148, 4, none⟩ = some (.slice A1_4 l1_4.length c1_4) := (blk_cell BK148.out 4).trans rfl
          have hcz83_5 : wc.cell? ⟨gb148, 5, none⟩ = some (.bool false) := (blk_cell BK148.out 5).trans rfl
          have hcz83_6 : wc.cell? ⟨gb148, 6, none⟩ = some (.bool true) := (blk_cell BK148.out 6).trans rfl
          have hfz83_0 := blk_frozen BK148.out 0
          have hfz83_1 := blk_frozen BK148.out 1
          have hfz83_2 := blk_frozen BK148.out 2
          have hfz83_3 := blk_frozen BK148.out 3
          have hfz83_4 := blk_frozen BK148.out 4
          have hfz83_5 := blk_frozen BK148.out 5
          have hfz83_6 := blk_frozen BK148.out 6
          go_wp2
          go_ret
          exact ⟨by first | rfl | (simp [errW_none, errW_some] <;> rfl) | (simp [*, errW_none, errW_some] <;> rfl), by repeat (first | (with_reducible first | exact HB.out | apply below_alloc | apply pw_below_drewN | apply below_drew1 | refine below_set ?_ GE147.out | refine below_set ?_ GE148.out) | exact HB.out)⟩
         ·rw [if_neg c81] at H
          exact absurd H (by simp)
        ·replace c80 := Bool.eq_false_iff.mpr c80
         subst c80
         have H1 : (some x5_18) = some r := by rw [if_neg (show ¬ (false = true) by decide)] at H; exact H
         clear H
         have H := H1
         clear H1
         obtain rfl := Option.some.inj H
         have hnb84 := NB148_147.out
         have hnc84 := NB147_148.out
         have hcz85_0 : wc.cell? ⟨gb148, 0, none⟩ = some (.int .i64 a1_0) := (blk_cell BK148.out 0).trans rfl
         have hcz85_1 : wc.cell? ⟨gb148, 1, none⟩ = some (.slice A1_1 l1_1.length c1_1) := (blk_cell BK148.out 1).trans rfl
         have hcz85_2 : wc.cell? ⟨gb148, 2, none⟩ = some (.int .i64 a1_2) := (blk_cell BK148.out 2).trans rfl
         have hcz85_3 : wc.cell? ⟨gb148, 3, none⟩ = some (.slice A1_3 l1_3.length c1_3) := (blk_cell BK148.out 3).trans rfl
         have hcz85_4 : wc.cell? ⟨gb148, 4, none⟩ = some (.slice A1_4 l1_4.length c1_4) := (blk_cell BK148.out 4).trans rfl
         have hcz85_5 : wc.cell? ⟨gb148, 5, none⟩ = some (.bool false) := (blk_cell BK148.out 5).trans rfl
         have hcz85_6 : wc.cell? ⟨gb148, 6, none⟩ = some (.bool false) := (blk_cell BK148.out 6).trans rfl
         have hfz85_0 := blk_frozen BK148.out 0
         have hfz85_1 := blk_frozen BK148.out 1
         have hfz85_2 := blk_frozen BK148.out 2
         have hfz85_3 := blk_frozen BK148.out 3
         have hfz85_4 := blk_frozen BK148.out 4
         have hfz85_5 := blk_frozen BK148.out 5
         have hfz85_6 := blk_frozen BK148.out 6
         go_wp2
         go_ret
         exact ⟨by first | rfl | (simp [errW_none, errW_some] <;> rfl) | (simp [*, errW_none, errW_some] <;> rfl), by repeat (first | (with_reducible first | exact HB.out | apply below_alloc | apply pw_below_drewN | apply below_drew1 | refine below_set ?_ GE147.out | refine below_set ?_ GE148.out) | exact HB.out)⟩
    ·rw [if_neg c18] at H
     exact absurd H (by simp)
   ·rw [if_neg c16] at H
    exact absurd H (by simp)

end Go.Proofs.YtodifojhegbjaaaDoor.PReportLines
