/- The machine side of a law: for each Go function that it uses a Lean function with the same answers, and the proof that the Go code comes to them; or the row of the law over these. Written by a program of this session. -/
import Derived.Test.YtkccjohhakljnaaGreatDoorPTreeWalksx0
import Derived.Test.YtkccjohhakljnaaGreatDoorPTreeWalksx1
namespace Go.Proofs.YtkccjohhakljnaaGreatDoor.PTreeWalks
open Go.RowKit Go.Proofs.YtkccjohhakljnaaGreatDoorW.PrintWords Go.Proofs.YtkccjohhakljnaaGreatDoorW.PrintLast Go.Proofs.YtkccjohhakljnaaGreatDoorW.PrintMore
attribute [local go_sem] max2_int min2_int max_two min_two max_three min_three max_four min_four   -- for this text's walks alone
set_option linter.unusedVariables false
set_option linter.unusedSimpArgs false

/-! ### bindlelaw39_great: function 6 -/
mutual
def bindlelaw39_great.l0 : Nat → List (S49) → Int → Option (Bool)
 | 0, _, _ => none
 | k + 1, x0, x3 => if x3 < (x0.length : Int) then (bindlelaw39_great.j1 k x0 x3 (decide (x3 < 100))) else (bindlelaw39_great.j1 k x0 x3 false)
def bindlelaw39_great.j1 : Nat → List (S49) → Int → Bool → Option (Bool)
 | 0, _, _, _ => none
 | k + 1, x0, x3, x11 => if x11 = true then (if 0 ≤ x3 then (if x3 < (x0.length : Int) then (if (((rd_T49 x0 x3).f0).size : Int) > 64 then (some true) else (if (((rd_T49 x0 x3).f1).length : Int) > 70000 then (some true) else (bindlelaw39_great.l0 k x0 (wrap64 (x3 + 1))))) else (none)) else (none)) else (if (x0.length : Int) > 60 then (some true) else ((bindleref39_Named.f k x0).bind fun t120 => (some (!t120))))
end
def bindlelaw39_great.f (k : Nat) (l0 : List (S49)) : Option (Bool) := bindlelaw39_great.l0 k l0 0
theorem bindlelaw39_great.mono_l : ∀ k, (∀ y0 y1, LeO (bindlelaw39_great.l0 k y0 y1) (bindlelaw39_great.l0 (k + 1) y0 y1)) ∧ (∀ y0 y1 y2, LeO (bindlelaw39_great.j1 k y0 y1 y2) (bindlelaw39_great.j1 (k + 1) y0 y1 y2))
 | 0 => ⟨fun _ _ r h => by simp [bindlelaw39_great.l0] at h, fun _ _ _ r h => by simp [bindlelaw39_great.j1] at h⟩
 | k + 1 => by
  obtain ⟨ih0, ih1⟩ := bindlelaw39_great.mono_l k
  refine ⟨?_, ?_⟩
  ·intro y0 y1
   unfold bindlelaw39_great.l0
   repeat' first
   | (with_reducible exact ih0 _ _)
   | (with_reducible exact ih1 _ _ _)
   | (with_reducible exact bindleref39_Named.mono _ _)
   | (with_reducible exact LeO.refl _)
   | (with_reducible exact LeO.none _)
   | (with_reducible refine LeO.ite ?_ ?_)
   | (with_reducible refine LeO.bind ?_ (fun _ => ?_))
   | exact ih0 _ _
   | exact ih1 _ _ _
   | exact bindleref39_Named.mono _ _
   | exact LeO.none _
   | refine LeO.ite ?_ ?_
   | refine LeO.bind ?_ (fun _ => ?_)
  ·intro y0 y1 y2
   unfold bindlelaw39_great.j1
   repeat' first
   | (with_reducible exact ih0 _ _)
   | (with_reducible exact ih1 _ _ _)
   | (with_reducible exact bindleref39_Named.mono _ _)
   | (with_reducible exact LeO.refl _)
   | (with_reducible exact LeO.none _)
   | (with_reducible refine LeO.ite ?_ ?_)
   | (with_reducible refine LeO.bind ?_ (fun _ => ?_))
   | exact ih0 _ _
   | exact ih1 _ _ _
   | exact bindleref39_Named.mono _ _
   | exact LeO.none _
   | refine LeO.ite ?_ ?_
   | refine LeO.bind ?_ (fun _ => ?_)
theorem bindlelaw39_great.mono : ∀ a0 k, LeO (bindlelaw39_great.f k a0) (bindlelaw39_great.f (k + 1) a0) := by
 intro a0 k
 obtain ⟨ih0, ih1⟩ := bindlelaw39_great.mono_l k
 unfold bindlelaw39_great.f
 repeat' first
   | (with_reducible exact ih0 _ _)
   | (with_reducible exact ih1 _ _ _)
   | (with_reducible exact bindleref39_Named.mono _ _)
   | (with_reducible exact LeO.refl _)
   | (with_reducible exact LeO.none _)
   | (with_reducible refine LeO.ite ?_ ?_)
   | (with_reducible refine LeO.bind ?_ (fun _ => ?_))
   | exact ih0 _ _
   | exact ih1 _ _ _
   | exact bindleref39_Named.mono _ _
   | exact LeO.none _
   | refine LeO.ite ?_ ?_
   | refine LeO.bind ?_ (fun _ => ?_)
set_option maxHeartbeats 8000000 in
set_option maxRecDepth 100000 in
theorem bindlelaw39_great.calls (k : Nat) (A0 : Option Addr) (c0 : Nat) (l0 : List (S49)) (r : Bool) (w : World) (hr0 : Kd.C k49 w A0 l0.length l0) (hc0 : l0.length ≤ c0) (h : bindlelaw39_great.f k l0 = some r) :
  Calls Tryz.prog 6 #[.slice A0 l0.length c0] w fun e w' => e = .returned (.bool r) ∧ Below w.heap.size w w' := by
 have HR0 := Aside0.mk hr0
 have HC0 := Aside0.mk hc0
 clear hr0 hc0
 have HB := Aside0.mk (Below.refl w.heap.size w)
 have H : (bindlelaw39_great.l0 k l0 0) = some r := h
 clear h
 have H' := Aside0.mk H
 clear H
 go_enter Tryz.func6, Tryz.ntmps6
 go_wp2
 go_loopg [3] k (fun kq v3 w' => ∃ (x3_1 : Int), v3 = .int .i64 x3_1 ∧ Aside0 (bindlelaw39_great.l0 kq l0 x3_1 = some r) ∧ Aside0 (kq ≤ k) ∧ Aside0 (Below w.heap.size w w'))
 case atStart => exact ⟨(0), (by first | rfl | (simp only [YtkccjohhakljnaaGreatDoorMpHelp.leq_not, YtkccjohhakljnaaGreatDoorMpHelp.gtr_less]; done) | (simp; done) | (simp [*]; done)), H', ⟨Nat.le_refl _⟩, ⟨by repeat (first | (with_reducible first | exact HB.out | apply below_alloc | apply pw_below_drewN | apply below_drew1) | exact HB.out)⟩⟩
 case round =>
  clear H'
  obtain ⟨x3_1, rfl, HA, HK1, HB⟩ := hrel
  cases gk with
  | zero => exact absurd HA.out (by simp [bindlelaw39_great.l0])
  | succ k1 =>
   have H := HA.out
   clear HA
   simp only [bindlelaw39_great.l0] at H
   have HC2 := Aside0.mk H
   clear H
   go_upto_region 2 with (fail)
   go_cut [11] (fun v11 wc => ∃ (kq : Nat) (x11_1 : Bool), v11 = .bool x11_1 ∧ Aside0 (bindlelaw39_great.j1 kq l0 x3_1 x11_1 = some r) ∧ Aside0 (kq ≤ k1) ∧ Aside0 (Below w.heap.size w wc))
   case first =>
    have H := HC2.out
    clear HC2
    by_cases c3 : x3_1 < (l0.length : Int)
    ·rw [if_pos c3] at H
     have c3b0 : decide (x3_1 < (l0.length : Int)) = true := decide_eq_true c3
     clear c3
     (first | rw [c3b0] | (simp only [i64_w, i32_w]; rw [c3b0]) | rw [c3b1] | skip)
     have H' := Aside0.mk H
     clear H
     go_wp2
     go_meet
     case rel => exact ⟨_, (decide (x3_1 < 100)), (by first | rfl | (simp only [YtkccjohhakljnaaGreatDoorMpHelp.leq_not, YtkccjohhakljnaaGreatDoorMpHelp.gtr_less]; done) | (simp; done) | (simp [*]; done)), H', ⟨by have := HK1.out; first | omega | exact Nat.le_refl _⟩, ⟨by repeat (first | (with_reducible first | exact HB.out | apply below_alloc | apply pw_below_drewN | apply below_drew1) | exact HB.out)⟩⟩
    ·rw [if_neg c3] at H
     have c3b0 : decide (x3_1 < (l0.length : Int)) = false := decide_eq_false c3
     clear c3
     (first | rw [c3b0] | (simp only [i64_w, i32_w]; rw [c3b0]) | rw [c3b1] | skip)
     have H' := Aside0.mk H
     clear H
     go_wp2
     go_meet
     case rel => exact ⟨_, (false), (by first | rfl | (simp only [YtkccjohhakljnaaGreatDoorMpHelp.leq_not, YtkccjohhakljnaaGreatDoorMpHelp.gtr_less]; done) | (simp; done) | (simp [*]; done)), H', ⟨by have := HK1.out; first | omega | exact Nat.le_refl _⟩, ⟨by repeat (first | (with_reducible first | exact HB.out | apply below_alloc | apply pw_below_drewN | apply below_drew1) | exact HB.out)⟩⟩
   case rest =>
    clear HC2
    try clear p2
    try clear c3
    try clear c3b0
    try clear c3b1
    obtain ⟨kq, x11_1, rfl, HA, HJ1, HB⟩ := hcut
    cases kq with
    | zero => exact absurd HA.out (by simp [bindlelaw39_great.j1])
    | succ kj1 =>
     have H := HA.out
     clear HA
     simp only [bindlelaw39_great.j1] at H
     by_cases c4 : x11_1 = true
     ·subst c4
      have H1 : (if 0 ≤ x3_1 then (if x3_1 < (l0.length : Int) then (if (((rd_T49 l0 x3_1).f0).size : Int) > 64 then (some true) else (if (((rd_T49 l0 x3_1).f1).length : Int) > 70000 then (some true) else (bindlelaw39_great.l0 kj1 l0 (wrap64 (x3_1 + 1))))) else (none)) else (none)) = some r := by rw [if_pos rfl] at H; exact H
      clear H
      have H := H1
      clear H1
      by_cases c5 : 0 ≤ x3_1
      ·rw [if_pos c5] at H
       have c5b0 : decide (0 ≤ x3_1) = true := decide_eq_true c5
       clear c5
       by_cases c6 : x3_1 < (l0.length : Int)
       ·rw [if_pos c6] at H
        have c6b0 : decide (x3_1 < (l0.length : Int)) = true := decide_eq_true c6
        clear c6
        by_cases c7 : (((rd_T49 l0 x3_1).f0).size : Int) > 64
        ·rw [if_pos c7] at H
         have c7b0 : decide (64 < (((rd_T49 l0 x3_1).f0).size : Int)) = true := decide_eq_true c7
         have c7b1 : decide (64 < ((rd_T49 l0 x3_1).f0).size) = true := decide_eq_true (by omega)
         clear c7
         obtain rfl := Option.some.inj H
         have p118 : 0 ≤ (x3_1 : Int) := of_decide_eq_true (by first | (with_reducible assumption) | assumption)
         have q118 : x3_1 < (l0.length : Int) := of_decide_eq_true (by first | (with_reducible assumption) | assumption)
         obtain ⟨ad118, A118_1, c118_1, e118, hx118_0, hx118_1, hl118_1, hi118_1⟩ := at_T49 HR0.out x3_1 p118 q118
         cases e118
         replace hx118_0 := (HB.out.cell (World.block_lt_of_cell? w _ hx118_0)).trans hx118_0
         replace hx118_1 := (HB.out.cell (World.block_lt_of_cell? w _ hx118_1)).trans hx118_1
         have HR118_1 := Aside0.mk hi118_1
         have HC118_1 := Aside0.mk hl118_1
         clear hi118_1 hl118_1
         replace p118 := eq_true p118
         replace q118 := eq_true q118
         go_wp2
         go_ret
         exact ⟨by first | rfl | (simp [errW_none, errW_some] <;> rfl) | (simp [*, errW_none, errW_some] <;> rfl), by repeat (first | (with_reducible first | exact HB.out | apply below_alloc | apply pw_below_drewN | apply below_drew1) | exact HB.out)⟩
        ·rw [if_neg c7] at H
         have c7b0 : decide (64 < (((rd_T49 l0 x3_1).f0).size : Int)) = false := decide_eq_false c7
         have c7b1 : decide (64 < ((rd_T49 l0 x3_1).f0).size) = false := decide_eq_false (by omega)
         clear c7
         by_cases c8 : (((rd_T49 l0 x3_1).f1).length : Int) > 70000
         ·rw [if_pos c8] at H
          have c8b0 : decide (70000 < (((rd_T49 l0 x3_1).f1).length : Int)) = true := decide_eq_true c8
          have c8b1 : decide (70000 < ((rd_T49 l0 x3_1).f1).length) = true := decide_eq_true (by omega)
          clear c8
          obtain rfl := Option.some.inj H
          have p118 : 0 ≤ (x3_1 : Int) := of_decide_eq_true (by first | (with_reducible assumption) | assumption)
          have q118 : x3_1 < (l0.length : Int) := of_decide_eq_true (by first | (with_reducible assumption) | assumption)
          obtain ⟨ad118, A118_1, c118_1, e118, hx118_0, hx118_1, hl118_1, hi118_1⟩ := at_T49 HR0.out x3_1 p118 q118
          cases e118
          replace hx118_0 := (HB.out.cell (World.block_lt_of_cell? w _ hx118_0)).trans hx118_0
          replace hx118_1 := (HB.out.cell (World.block_lt_of_cell? w _ hx118_1)).trans hx118_1
          have HR118_1 := Aside0.mk hi118_1
          have HC118_1 := Aside0.mk hl118_1
          clear hi118_1 hl118_1
          replace p118 := eq_true p118
          replace q118 := eq_true q118
          have p119 : 0 ≤ (x3_1 : Int) := of_decide_eq_true (by first | (with_reducible assumption) | assumption)
          have q119 : x3_1 < (l0.length : Int) := of_decide_eq_true (by first | (with_reducible assumption) | assumption)
          obtain ⟨ad119, A119_1, c119_1, e119, hx119_0, hx119_1, hl119_1, hi119_1⟩ := at_T49 HR0.out x3_1 p119 q119
          obtain rfl : ad118 = ad119 := (by injection e119)
          replace hx119_0 := (HB.out.cell (World.block_lt_of_cell? w _ hx119_0)).trans hx119_0
          replace hx119_1 := (HB.out.cell (World.block_lt_of_cell? w _ hx119_1)).trans hx119_1
          have HR119_1 := Aside0.mk hi119_1
          have HC119_1 := Aside0.mk hl119_1
          clear hi119_1 hl119_1
          replace p119 := eq_true p119
          replace q119 := eq_true q119
          have ea_ := Option.some.inj (hx118_1.symm.trans hx119_1)
          injection ea_ with ea_ en_ ec_
          subst ea_
          subst ec_
          clear en_
          go_wp2
          go_ret
          exact ⟨by first | rfl | (simp [errW_none, errW_some] <;> rfl) | (simp [*, errW_none, errW_some] <;> rfl), by repeat (first | (with_reducible first | exact HB.out | apply below_alloc | apply pw_below_drewN | apply below_drew1) | exact HB.out)⟩
         ·rw [if_neg c8] at H
          have c8b0 : decide (70000 < (((rd_T49 l0 x3_1).f1).length : Int)) = false := decide_eq_false c8
          have c8b1 : decide (70000 < ((rd_T49 l0 x3_1).f1).length) = false := decide_eq_false (by omega)
          clear c8
          have H' := Aside0.mk H
          clear H
          have p118 : 0 ≤ (x3_1 : Int) := of_decide_eq_true (by first | (with_reducible assumption) | assumption)
          have q118 : x3_1 < (l0.length : Int) := of_decide_eq_true (by first | (with_reducible assumption) | assumption)
          obtain ⟨ad118, A118_1, c118_1, e118, hx118_0, hx118_1, hl118_1, hi118_1⟩ := at_T49 HR0.out x3_1 p118 q118
          cases e118
          replace hx118_0 := (HB.out.cell (World.block_lt_of_cell? w _ hx118_0)).trans hx118_0
          replace hx118_1 := (HB.out.cell (World.block_lt_of_cell? w _ hx118_1)).trans hx118_1
          have HR118_1 := Aside0.mk hi118_1
          have HC118_1 := Aside0.mk hl118_1
          clear hi118_1 hl118_1
          replace p118 := eq_true p118
          replace q118 := eq_true q118
          have p119 : 0 ≤ (x3_1 : Int) := of_decide_eq_true (by first | (with_reducible assumption) | assumption)
          have q119 : x3_1 < (l0.length : Int) := of_decide_eq_true (by first | (with_reducible assumption) | assumption)
          obtain ⟨ad119, A119_1, c119_1, e119, hx119_0, hx119_1, hl119_1, hi119_1⟩ := at_T49 HR0.out x3_1 p119 q119
          obtain rfl : ad118 = ad119 := (by injection e119)
          replace hx119_0 := (HB.out.cell (World.block_lt_of_cell? w _ hx119_0)).trans hx119_0
          replace hx119_1 := (HB.out.cell (World.block_lt_of_cell? w _ hx119_1)).trans hx119_1
          have HR119_1 := Aside0.mk hi119_1
          have HC119_1 := Aside0.mk hl119_1
          clear hi119_1 hl119_1
          replace p119 := eq_true p119
          replace q119 := eq_true q119
          have ea_ := Option.some.inj (hx118_1.symm.trans hx119_1)
          injection ea_ with ea_ en_ ec_
          subst ea_
          subst ec_
          clear en_
          go_wp2
          go_roundg kj1
          case measure => have := HK1.out; have := HJ1.out; omega
          case rel => exact ⟨(wrap64 (x3_1 + 1)), (by first | rfl | (simp only [YtkccjohhakljnaaGreatDoorMpHelp.leq_not, YtkccjohhakljnaaGreatDoorMpHelp.gtr_less]; done) | (simp; done) | (simp [*]; done)), H', ⟨by have := HK1.out; have := HJ1.out; omega⟩, ⟨by repeat (first | (with_reducible first | exact HB.out | apply below_alloc | apply pw_below_drewN | apply below_drew1) | exact HB.out)⟩⟩
       ·rw [if_neg c6] at H
        exact absurd H (by simp)
      ·rw [if_neg c5] at H
       exact absurd H (by simp)
     ·replace c4 := Bool.eq_false_iff.mpr c4
      subst c4
      have H1 : (if (l0.length : Int) > 60 then (some true) else ((bindleref39_Named.f kj1 l0).bind fun t120 => (some (!t120)))) = some r := by rw [if_neg (show ¬ (false = true) by decide)] at H; exact H
      clear H
      have H := H1
      clear H1
      by_cases c9 : (l0.length : Int) > 60
      ·rw [if_pos c9] at H
       have c9b0 : decide (60 < (l0.length : Int)) = true := decide_eq_true c9
       have c9b1 : decide (60 < l0.length) = true := decide_eq_true (by omega)
       clear c9
       obtain rfl := Option.some.inj H
       go_wp2
       go_ret
       exact ⟨by first | rfl | (simp [errW_none, errW_some] <;> rfl) | (simp [*, errW_none, errW_some] <;> rfl), by repeat (first | (with_reducible first | exact HB.out | apply below_alloc | apply pw_below_drewN | apply below_drew1) | exact HB.out)⟩
      ·rw [if_neg c9] at H
       have c9b0 : decide (60 < (l0.length : Int)) = false := decide_eq_false c9
       have c9b1 : decide (60 < l0.length) = false := decide_eq_false (by omega)
       clear c9
       replace H := Option.bind_eq_some_iff.mp H
       obtain ⟨t120, A100, H⟩ := H
       replace H : (some (!t120)) = some r := H
       have A10 := Aside0.mk A100
       clear A100
       obtain rfl := Option.some.inj H
       go_wp2_with (first | (go_at_call 21; (with_reducible refine (bindleref39_Named.calls kj1 _ _ l0 t120 _ ?side1 ?side2 A10.out).mono ?_); (case side1 => repeat (first | exact (Kd.C_below HR0.out HB.out) | (with_reducible refine Kd.C_alloc ?_ _) | (with_reducible refine Kd.C_drewN ?_ _) | (with_reducible refine Kd.C_drew ?_))); (case side2 => exact HC0.out); rintro e w11 ⟨rfl, hb⟩; have n0_ := Aside0.mk (below_step (by repeat (first | (with_reducible first | exact HB.out | apply below_alloc | apply pw_below_drewN | apply below_drew1) | exact HB.out)) hb); clear HB; have HB := n0_; clear n0_; (try clear hb); (try clear hb2); (try clear hk); (try clear hi)))
       go_ret
       exact ⟨by first | rfl | (simp [errW_none, errW_some] <;> rfl) | (simp [*, errW_none, errW_some] <;> rfl), by repeat (first | (with_reducible first | exact HB.out | apply below_alloc | apply pw_below_drewN | apply below_drew1) | exact HB.out)⟩

/-! ### strings_Count: function 46 (told by hand) -/
def strings_Count.f (a0 a1 : ByteArray) : Option Int := match a1.data.toList with
  | [c] => some ((Lib.countByte a0.data.toList c : Nat) : Int)
  | _ => none
theorem strings_Count.calls (a0 a1 : ByteArray) (r : Int) (w : World) (h : strings_Count.f a0 a1 = some r) : Calls Tryz.prog 46 #[.string a0, .string a1] w fun e w' => e = .returned (.int .i64 r) ∧ Drawn0 w w' := by
  obtain ⟨⟨l⟩⟩ := a1
  match l, h with
  | [c], h =>
    obtain rfl := Option.some.inj h
    refine (Tryz.strings_Count_one a0 c w).mono ?_
    rintro e w' ⟨rfl, rfl⟩
    exact ⟨rfl, Drawn0.refl _⟩


/-! ### strings_Index: function 60 (told by hand) -/
def strings_Index.f (a0 a1 : ByteArray) : Option Int := match a1.data.toList with
  | [c] => some (Lib.indexByte a0.data.toList c)
  | _ => none
theorem strings_Index.calls (a0 a1 : ByteArray) (r : Int) (w : World) (h : strings_Index.f a0 a1 = some r) : Calls Tryz.prog 60 #[.string a0, .string a1] w fun e w' => e = .returned (.int .i64 r) ∧ Drawn0 w w' := by
  obtain ⟨⟨l⟩⟩ := a1
  match l, h with
  | [c], h =>
    obtain rfl := Option.some.inj h
    refine (Tryz.strings_Index_one a0 c w).mono ?_
    rintro e w' ⟨rfl, rfl⟩
    exact ⟨rfl, Drawn0.refl _⟩


/-! ### strings_Split: function 64 (told by hand) -/
def strings_Split.f (a0 a1 : ByteArray) : Option (List ByteArray) := match a1.data.toList with
  | [c] => if a0.size ≤ 1000000 then some ((YtkccjohhakljnaaGreatDoorMpHelp.splitL c a0.data.toList).map fun l => ⟨l.toArray⟩) else none
  | _ => none
theorem strings_Split.gen (a0 : ByteArray) (c : UInt8) (w : World) (hs : a0.size ≤ 1000000) : Calls Tryz.prog 81 #[.string a0, .string ⟨#[c]⟩, .int .i64 0, .int .i64 (-1)] w fun e w' =>
    e = .returned (.slice (some ⟨w.heap.size, 0, none⟩) (YtkccjohhakljnaaGreatDoorMpHelp.splitL c a0.data.toList).length (YtkccjohhakljnaaGreatDoorMpHelp.splitL c a0.data.toList).length) ∧ w' = w.alloc (.cells (((YtkccjohhakljnaaGreatDoorMpHelp.splitL c a0.data.toList).map fun l => Value.string ⟨l.toArray⟩)).toArray 9) := by
  have hcb : Lib.countB a0 ⟨#[c]⟩ = a0.data.toList.count c := by
    exact Lib.count_one c a0.data.toList
  have hle : a0.data.toList.count c ≤ a0.size := by
    have h1 := List.count_le_length (a := c) (l := a0.data.toList)
    rw [Array.length_toList] at h1
    exact h1
  have hlen := Lib.splitB_all ⟨#[c]⟩ (Nat.le_refl 1) 0 _ a0 rfl
  rw [hcb, YtkccjohhakljnaaGreatDoorMpHelp.splitB_one, List.length_map] at hlen
  refine (Any.strings_genSplit_core Tryz.lays221 (by kernel_rfl) a0 ⟨#[c]⟩ 0 (-1) (a0.data.toList.count c + 1) w (by omega) (Nat.le_refl 1) (Nat.zero_le _) (fun x cs _ => ?_) ?_ (by decide) (by decide) (by rw [hcb, if_pos (by decide), Int.min_eq_left (by omega)]; rfl)).mono ?_
  · refine (Tryz.strings_Index_one x c _).mono ?_
    rintro e w' ⟨rfl, rfl⟩
    exact ⟨by rw [show Lib.indexB x ⟨#[c]⟩ = Lib.index x.data.toList [c] from rfl, Lib.index_one], rfl⟩
  · refine (Tryz.strings_Count_one a0 c _).mono ?_
    rintro e w' ⟨rfl, rfl⟩
    exact ⟨by rw [hcb]; rfl, rfl⟩
  · rintro e w' ⟨rfl, rfl⟩
    rw [Nat.add_sub_cancel, YtkccjohhakljnaaGreatDoorMpHelp.splitB_one, List.length_map, ← hlen]
    refine ⟨rfl, ?_⟩
    have hcl : Lib.cellsOf ((YtkccjohhakljnaaGreatDoorMpHelp.splitL c a0.data.toList).map fun l => (⟨l.toArray⟩ : ByteArray)) (YtkccjohhakljnaaGreatDoorMpHelp.splitL c a0.data.toList).length = ((YtkccjohhakljnaaGreatDoorMpHelp.splitL c a0.data.toList).map fun l => Value.string ⟨l.toArray⟩).toArray := by
      have := Lib.cellsOf_full ((YtkccjohhakljnaaGreatDoorMpHelp.splitL c a0.data.toList).map fun l => (⟨l.toArray⟩ : ByteArray))
      rw [List.length_map] at this
      rw [this, List.map_map]
      rfl
    rw [hcl]
    rfl
theorem strings_Split.calls_at (a0 : ByteArray) (c : UInt8) (w : World) (hs : a0.size ≤ 1000000) : Calls Tryz.prog 64 #[.string a0, .string ⟨#[c]⟩] w fun e w' =>
    e = .returned (.slice (some ⟨w.heap.size, 0, none⟩) (YtkccjohhakljnaaGreatDoorMpHelp.splitL c a0.data.toList).length (YtkccjohhakljnaaGreatDoorMpHelp.splitL c a0.data.toList).length) ∧ w' = w.alloc (.cells (((YtkccjohhakljnaaGreatDoorMpHelp.splitL c a0.data.toList).map fun l => Value.string ⟨l.toArray⟩)).toArray 9) := by
  generalize hL : YtkccjohhakljnaaGreatDoorMpHelp.splitL c a0.data.toList = L
  have HL := Aside0.mk hL
  clear hL
  go_enter Tryz.func64, Tryz.ntmps64
  go_wp2_with fail
  refine (strings_Split.gen a0 c w hs).mono ?_
  rw [HL.out]
  rintro e w' ⟨rfl, rfl⟩
  go_wp2
  go_ret
  exact ⟨rfl, rfl⟩
theorem strings_Split.calls (a0 a1 : ByteArray) (r : List ByteArray) (w : World) (h : strings_Split.f a0 a1 = some r) : Calls Tryz.prog 64 #[.string a0, .string a1] w fun e w' => ∃ v0_ : Value, e = .returned (v0_) ∧ Kd.R Kd.string 9 w' w.heap.size (fun _ => True) v0_ r ∧ Below w.heap.size w w' := by
  obtain ⟨⟨l⟩⟩ := a1
  match l, h with
  | [c], h =>
    simp only [strings_Split.f] at h
    by_cases hs : a0.size ≤ 1000000
    · rw [if_pos hs] at h
      obtain rfl := Option.some.inj h
      refine (strings_Split.calls_at a0 c w hs).mono ?_
      rintro e w' ⟨rfl, rfl⟩
      refine ⟨_, rfl, ⟨fun _ _ => trivial, (YtkccjohhakljnaaGreatDoorMpHelp.splitL c a0.data.toList).map fun l => Value.string ⟨l.toArray⟩, ⟨by simp [Kd.string, Kd.scalar], .inr ⟨w.heap.size, (YtkccjohhakljnaaGreatDoorMpHelp.splitL c a0.data.toList).length, _, by simp, Nat.le_refl _, YtkccjohhakljnaaGreatDoorMpHelp.heap_new _ _, by simp, ?_, by simp [Kd.string, Kd.scalar], by simp [Kd.string, Kd.scalar, List.take_of_length_le]⟩⟩, ?_⟩, below_alloc (Below.refl _ _) _⟩
      · have h1 : (YtkccjohhakljnaaGreatDoorMpHelp.splitL c a0.data.toList).length ≤ a0.size + 1 := by
          have hlen := Lib.splitB_all ⟨#[c]⟩ (Nat.le_refl 1) 0 _ a0 rfl
          have hcb : Lib.countB a0 ⟨#[c]⟩ = a0.data.toList.count c := by
            exact Lib.count_one c a0.data.toList
          rw [hcb, YtkccjohhakljnaaGreatDoorMpHelp.splitB_one, List.length_map] at hlen
          have h1 := List.count_le_length (a := c) (l := a0.data.toList)
          rw [Array.length_toList] at h1
          have : a0.data.size = a0.size := rfl
          omega
        refine Nat.le_trans h1 (Nat.le_trans (Nat.succ_le_succ hs) (by decide))
      · refine ⟨by simp [Kd.string, Kd.scalar], fun j p hj => ?_⟩
        rw [List.getElem?_map] at hj
        obtain ⟨q, hq, rfl⟩ := Option.map_eq_some_iff.1 hj
        show List.take 1 (List.drop (j * 1) ((YtkccjohhakljnaaGreatDoorMpHelp.splitL c a0.data.toList).map fun l => Value.string ⟨l.toArray⟩)) = [Value.string ⟨q.toArray⟩]
        obtain ⟨hlt, hget⟩ := List.getElem?_eq_some_iff.1 hq
        rw [Nat.mul_one, List.drop_eq_getElem_cons (by rw [List.length_map]; exact hlt), List.getElem_map, hget]
        rfl
    · rw [if_neg hs] at h
      cases h


/-! ### member_part: function 66 (told by hand) -/
def member_part.f (a0 : ByteArray) : Option Bool := some (YtkccjohhakljnaaGreatDoorMpHelp.partB a0.data.toList)
def member_part.fine (c : Nat) : Bool := decide (33 ≤ c) && decide (c ≤ 126)
theorem member_part.all_of (s : ByteArray) (h : ∀ j (hj : j < s.size), member_part.fine (s[j]'hj).toNat = true) : s.data.toList.all (fun c => decide (33 ≤ c.toNat) && decide (c.toNat ≤ 126)) = true := by
  rw [List.all_eq_true]
  intro c hc
  obtain ⟨j, hj, rfl⟩ := List.getElem_of_mem hc
  have hj' : j < s.size := by
    rw [Array.length_toList] at hj
    exact hj
  exact h j hj'
theorem member_part.not_all (s : ByteArray) (j : Nat) (hj : j < s.size) (h : member_part.fine (s[j]'hj).toNat = false) : YtkccjohhakljnaaGreatDoorMpHelp.partB s.data.toList = false := by
  unfold YtkccjohhakljnaaGreatDoorMpHelp.partB
  have hm : s[j]'hj ∈ s.data.toList := by
    have : s[j]'hj = s.data.toList[j]'(by rw [Array.length_toList]; exact hj) := rfl
    rw [this]
    exact List.getElem_mem _
  have : s.data.toList.all (fun c => decide (33 ≤ c.toNat) && decide (c.toNat ≤ 126)) = false := by
    rw [List.all_eq_false]
    refine ⟨_, hm, ?_⟩
    show ¬ (member_part.fine (s[j]'hj).toNat = true)
    rw [h]
    decide
  rw [this]
  rfl
set_option maxRecDepth 1000000 in
set_option maxHeartbeats 4000000 in
theorem member_part.calls (a0 : ByteArray) (r : Bool) (w : World) (h : member_part.f a0 = some r) : Calls Tryz.prog 66 #[.string a0] w fun e w' => e = .returned (.bool r) ∧ Below w.heap.size w w' := by
  have HR := Aside0.mk (Option.some.inj h)
  clear h
  go_enter Tryz.func66, Tryz.ntmps66
  go_wp2
  go_loopw [] (fun w' => ∃ (pos : Nat), w' = w.iter a0 pos ∧ Aside0 (∀ j (hj : j < a0.size), j < pos → member_part.fine (a0[j]'hj).toNat = true)) (fun w' => a0.size - w'.iterPos w.heap.size)
  case atStart => exact ⟨0, rfl, ⟨fun j _ hj => absurd hj (Nat.not_lt_zero _)⟩⟩
  case round =>
    obtain ⟨pos, rfl, HA⟩ := hrel
    by_cases hp : pos < a0.size
    · have hnx : ∀ ty, (Instr.next (.pointer (some ⟨w.heap.size, 0, none⟩)) true ty).run Tryz.prog (w.iter a0 pos) = _ := fun ty => run_next_any w a0 pos ty hp
      obtain ⟨rn, hrn⟩ : ∃ rn, rn = (Utf8.decode a0 pos).1 := ⟨_, rfl⟩
      obtain ⟨wd, hwd⟩ : ∃ wd, wd = (Utf8.decode a0 pos).2 := ⟨_, rfl⟩
      rw [← hrn, ← hwd] at hnx
      by_cases hf : member_part.fine (a0[pos]'hp).toNat = true
      · have ha : (a0[pos]'hp).toNat < 128 := by
          simp [member_part.fine] at hf
          omega
        have hd := decode_ascii a0 pos hp ha
        rw [hd] at hrn hwd
        dsimp only at hrn hwd
        subst hwd
        have h33 : 33 ≤ rn := by
          simp [member_part.fine] at hf
          omega
        have h126 : rn ≤ 126 := by
          simp [member_part.fine] at hf
          omega
        have HA2 : Aside0 (∀ j (hj : j < a0.size), j < pos + 1 → member_part.fine (a0[j]'hj).toNat = true) := ⟨fun j hj hlt => by
          by_cases e : j = pos
          · subst e
            exact hf
          · exact HA.out j hj (by omega)⟩
        clear hf HA hrn ha hd HR
        have b1 : decide ((rn : Int) < 33) = false := decide_eq_false (by omega)
        have b2 : decide (126 < (rn : Int)) = false := decide_eq_false (by omega)
        clear h33 h126
        go_wp2
        go_roundw
        case rel => exact ⟨pos + 1, rfl, HA2⟩
        case measure =>
          simp
          omega
      · have hf' : member_part.fine (a0[pos]'hp).toNat = false := by simpa using hf
        have hr := member_part.not_all a0 pos hp hf'
        have HF := Aside0.mk (HR.out.symm.trans hr)
        have hlo : rn < 33 ∨ 126 < rn := by
          by_cases ha : (a0[pos]'hp).toNat < 128
          · have hd := decode_ascii a0 pos hp ha
            rw [hd] at hrn
            dsimp only at hrn
            simp [member_part.fine] at hf'
            omega
          · have hh := decode_high a0 pos hp (by omega)
            omega
        clear hr hf hf' HA HR hrn hwd
        rcases hlo with hlo | hlo
        · have b1 : decide ((rn : Int) < 33) = true := decide_eq_true (by omega)
          clear hlo
          go_wp2
          go_ret
          exact ⟨by rw [HF.out]; rfl, below_alloc (Below.refl _ _) _⟩
        · have b1 : decide ((rn : Int) < 33) = false := decide_eq_false (by omega)
          have b2 : decide (126 < (rn : Int)) = true := decide_eq_true (by omega)
          clear hlo
          go_wp2
          go_ret
          exact ⟨by rw [HF.out]; rfl, below_alloc (Below.refl _ _) _⟩
    · have hnx : ∀ ty, (Instr.next (.pointer (some ⟨w.heap.size, 0, none⟩)) true ty).run Tryz.prog (w.iter a0 pos) = _ := fun ty => run_next_end w a0 pos ty hp
      have hall := member_part.all_of a0 (fun j hj => HA.out j hj (by omega))
      have hr := HR.out
      unfold YtkccjohhakljnaaGreatDoorMpHelp.partB at hr
      rw [hall] at hr
      rw [← Lib.toList_data] at hr
      have HF := Aside0.mk hr
      clear hr hall HR HA
      go_wp2
      all_goals
        go_ret
        refine ⟨?_, below_alloc (Below.refl _ _) _⟩
        rw [← HF.out]
        first
        | rfl
        | (simp only [*]; rfl)
        | (simp [*]; done)


/-! ### member_Right: function 49 (told by hand) -/
def member_Right.f (a0 : ByteArray) : Option Bool := some (YtkccjohhakljnaaGreatDoorMpHelp.rightB a0.data.toList)
theorem member_Right.clo (s : ByteArray) (w : World) : Calls Tryz.prog 65 #[.string s] w fun e w' => e = .returned (.bool (!YtkccjohhakljnaaGreatDoorMpHelp.partB s.data.toList)) ∧ Below w.heap.size w w' := by
  generalize hb : YtkccjohhakljnaaGreatDoorMpHelp.partB s.data.toList = b
  have HB := Aside0.mk hb
  clear hb
  go_enter Tryz.func65, Tryz.ntmps65
  go_wp2_with fail
  refine (member_part.calls s b _ (by unfold member_part.f; rw [HB.out])).mono ?_
  rintro e w1 ⟨rfl, hb⟩
  have HW := Aside0.mk hb
  clear hb HB
  go_wp2
  go_ret
  exact ⟨rfl, HW.out⟩
/-- Where the first part stands that may not be. -/
def member_Right.bad (L : List (List UInt8)) : Int := if L.all YtkccjohhakljnaaGreatDoorMpHelp.partB = true then -1 else 0
set_option maxRecDepth 100000 in
set_option maxHeartbeats 4000000 in
theorem member_Right.idx (b : Nat) (L : List (List UInt8)) (n : Nat) (w : World) (hL : L.length ≤ 1000000) (hb : w.heap[b]? = some (.cells (L.map fun l => Value.string ⟨l.toArray⟩).toArray 9 (0, 0))) :
    Calls Tryz.prog 80 #[.slice (some ⟨b, 0, none⟩) L.length n, .func (.func 65) #[] #[]] w fun e w' => (∃ r : Int, e = .returned (.int .i64 r) ∧ decide (r ≥ 0) = !(L.all YtkccjohhakljnaaGreatDoorMpHelp.partB)) ∧ Below w.heap.size w w' := by
  have HBL := Aside0.mk hb
  clear hb
  go_enter Tryz.func80, Tryz.ntmps80
  go_wp2_with fail
  go_loopw [8] (fun i w' => ∃ k : Nat, k ≤ L.length ∧ i = .int .i64 k ∧ Aside0 ((L.take k).all YtkccjohhakljnaaGreatDoorMpHelp.partB = true) ∧ Aside0 (Below w.heap.size w w')) (fun i _ => L.length - (intOf i).toNat)
  case atStart => exact ⟨0, Nat.zero_le _, rfl, ⟨by simp⟩, ⟨Below.refl _ _⟩⟩
  case round =>
    obtain ⟨k, hk, rfl, HA, HB⟩ := hrel
    by_cases hlt : k < L.length
    · have hcell := cell_of_row _ b k _ _ _ (blk_below HBL.out HB.out)
      rw [List.getElem?_toArray, List.getElem?_map, List.getElem?_eq_getElem hlt, Option.map_some] at hcell
      generalize hq : L[k]'hlt = q at hcell
      have hfr := blk_frozen (blk_below HBL.out HB.out) k
      cases hp : YtkccjohhakljnaaGreatDoorMpHelp.partB q with
      | true =>
        have HA2 : Aside0 ((L.take (k + 1)).all YtkccjohhakljnaaGreatDoorMpHelp.partB = true) := ⟨by
          rw [List.take_succ_eq_append_getElem hlt, List.all_append, HA.out, hq]
          simp [hp]⟩
        have HP := Aside0.mk hp
        have HW0 := Aside0.mk HB.out.size
        clear hp HA hq
        go_wp2_with fail
        refine (member_Right.clo ⟨q.toArray⟩ _).mono ?_
        rw [show (⟨q.toArray⟩ : ByteArray).data.toList = q from rfl, HP.out]
        rintro e w1 ⟨rfl, hb⟩
        have HB2 := Aside0.mk (below_step HB.out hb)
        clear hb HB HP hcell
        go_wp2
        go_roundw
        case rel => exact ⟨k + 1, by omega, by go_num, HA2, HB2⟩
        case measure => simp [intOf]; omega
      | false =>
        have HR : Aside0 (L.all YtkccjohhakljnaaGreatDoorMpHelp.partB = false) := ⟨by
          rw [List.all_eq_false]
          exact ⟨q, hq ▸ List.getElem_mem hlt, by rw [hp]; decide⟩⟩
        have HP := Aside0.mk hp
        clear hp HA hq
        go_wp2_with fail
        refine (member_Right.clo ⟨q.toArray⟩ _).mono ?_
        rw [show (⟨q.toArray⟩ : ByteArray).data.toList = q from rfl, HP.out]
        rintro e w1 ⟨rfl, hb⟩
        have HB2 := Aside0.mk (below_step HB.out hb)
        clear hb HB HP hcell
        go_wp2
        go_ret
        exact ⟨⟨_, rfl, by rw [HR.out]; simp⟩, HB2.out⟩
    · have hk' : k = L.length := by omega
      subst hk'
      have HR : Aside0 (L.all YtkccjohhakljnaaGreatDoorMpHelp.partB = true) := ⟨by
        have := HA.out
        rwa [List.take_length] at this⟩
      clear HA
      go_wp2
      go_ret
      exact ⟨⟨_, rfl, by rw [HR.out]; simp⟩, HB.out⟩
set_option maxRecDepth 100000 in
theorem member_Right.con (b : Nat) (L : List (List UInt8)) (n : Nat) (w : World) (hL : L.length ≤ 1000000) (hb : w.heap[b]? = some (.cells (L.map fun l => Value.string ⟨l.toArray⟩).toArray 9 (0, 0))) :
    Calls Tryz.prog 63 #[.slice (some ⟨b, 0, none⟩) L.length n, .func (.func 65) #[] #[]] w fun e w' => e = .returned (.bool (!(L.all YtkccjohhakljnaaGreatDoorMpHelp.partB))) ∧ Below w.heap.size w w' := by
  generalize hx : (!(L.all YtkccjohhakljnaaGreatDoorMpHelp.partB)) = x
  have HX := Aside0.mk hx
  clear hx
  have HBL := Aside0.mk hb
  clear hb
  go_enter Tryz.func63, Tryz.ntmps63
  go_wp2_with fail
  refine (member_Right.idx b L n _ hL HBL.out).mono ?_
  rintro e w1 ⟨⟨r, rfl, hr⟩, hb⟩
  rw [HX.out] at hr
  have HW := Aside0.mk hb
  have HR := Aside0.mk hr
  clear hb HX HBL hr
  go_wp2
  go_ret
  exact ⟨by rw [← HR.out]; rfl, HW.out⟩
set_option maxRecDepth 100000 in
theorem member_Right.calls (a0 : ByteArray) (r : Bool) (w : World) (h : member_Right.f a0 = some r) : Calls Tryz.prog 49 #[.string a0] w fun e w' => e = .returned (.bool r) ∧ Below w.heap.size w w' := by
  have hr := Option.some.inj h
  unfold YtkccjohhakljnaaGreatDoorMpHelp.rightB at hr
  rw [show a0.data.toList.length = a0.size from by rw [Array.length_toList]; rfl] at hr
  clear h
  by_cases hs : a0.size ≤ 64
  · rw [decide_eq_true hs, Bool.true_and] at hr
    have HR := Aside0.mk hr
    clear hr
    have hlen : (YtkccjohhakljnaaGreatDoorMpHelp.splitL 47 a0.data.toList).length ≤ 1000000 := by
      have hlen := Lib.splitB_all ⟨#[47]⟩ (Nat.le_refl 1) 0 _ a0 rfl
      have hcb : Lib.countB a0 ⟨#[47]⟩ = a0.data.toList.count 47 := Lib.count_one 47 a0.data.toList
      rw [hcb, YtkccjohhakljnaaGreatDoorMpHelp.splitB_one, List.length_map] at hlen
      have h1 := List.count_le_length (a := (47 : UInt8)) (l := a0.data.toList)
      rw [Array.length_toList] at h1
      have : a0.data.size = a0.size := rfl
      omega
    have h64 : decide ((a0.size : Int) ≤ 64) = true := decide_eq_true (by omega)
    have HS := Aside0.mk hs
    have HL := Aside0.mk hlen
    clear hs hlen
    go_enter Tryz.func49, Tryz.ntmps49
    go_wp2_with fail
    have hs := HS.out
    refine (strings_Split.calls_at a0 47 w (by omega)).mono ?_
    clear hs
    generalize YtkccjohhakljnaaGreatDoorMpHelp.splitL 47 a0.data.toList = L at HR HL ⊢
    rintro e w1 ⟨rfl, rfl⟩
    go_wp2_with fail
    refine (member_Right.con w.heap.size L _ _ HL.out (YtkccjohhakljnaaGreatDoorMpHelp.heap_new _ _)).mono ?_
    rw [HR.out]
    rintro e w2 ⟨rfl, hb⟩
    have HW := Aside0.mk (below_step (below_alloc (Below.refl w.heap.size w) _) hb)
    clear hb HR HL
    go_wp2
    go_ret
    exact ⟨by simp, HW.out⟩
  · rw [decide_eq_false hs, Bool.false_and] at hr
    subst hr
    have h64 : decide ((a0.size : Int) ≤ 64) = false := decide_eq_false (by omega)
    clear hs
    go_enter Tryz.func49, Tryz.ntmps49
    go_wp2
    go_ret
    exact ⟨rfl, Below.refl _ _⟩


/-! ### stringslite_HasPrefix: function 75 -/
def stringslite_HasPrefix.f (a0 : ByteArray) (a1 : ByteArray) : Option (Bool) := if (a0.size : Int) ≥ (a1.size : Int) then (if 0 ≤ (a1.size : Int) then (if (a1.size : Int) ≤ (a0.size : Int) then (some ((a0.extract 0 ((a1.size : Int) : Int).toNat).toList == a1.toList)) else (none)) else (none)) else (some false)
set_option maxHeartbeats 8000000 in
set_option maxRecDepth 100000 in
theorem stringslite_HasPrefix.calls (a0 : ByteArray) (a1 : ByteArray) (r : Bool) (w : World) (h : stringslite_HasPrefix.f a0 a1 = some r) :
  Calls Tryz.prog 75 #[.string a0, .string a1] w fun e w' => e = .returned (.bool r) ∧ Drawn0 w w' := by
 have H : (if (a0.size : Int) ≥ (a1.size : Int) then (if 0 ≤ (a1.size : Int) then (if (a1.size : Int) ≤ (a0.size : Int) then (some ((a0.extract 0 ((a1.size : Int) : Int).toNat).toList == a1.toList)) else (none)) else (none)) else (some false)) = some r := h
 clear h
 by_cases c3 : (a0.size : Int) ≥ (a1.size : Int)
 ·rw [if_pos c3] at H
  have c3b0 : decide ((a1.size : Int) ≤ (a0.size : Int)) = true := decide_eq_true c3
  have c3b1 : decide (a1.size ≤ a0.size) = true := decide_eq_true (Int.ofNat_le.mp c3)
  clear c3
  by_cases c4 : 0 ≤ (a1.size : Int)
  ·rw [if_pos c4] at H
   have c4b0 := eq_true c4
   have c4b1 : decide (0 ≤ (a1.size : Int)) = true := decide_eq_true c4
   clear c4
   by_cases c5 : (a1.size : Int) ≤ (a0.size : Int)
   ·rw [if_pos c5] at H
    have c5b0 := eq_true c5
    have c5b1 : decide ((a1.size : Int) ≤ (a0.size : Int)) = true := decide_eq_true c5
    clear c5
    obtain rfl := Option.some.inj H
    go_enter Tryz.func75, Tryz.ntmps75
    go_wp2
    go_ret
    exact ⟨by first | rfl | (simp only [YtkccjohhakljnaaGreatDoorMpHelp.leq_not, YtkccjohhakljnaaGreatDoorMpHelp.gtr_less]; done) | (simp; done) | (simp [*]; done), by repeat (first | exact Drawn0.refl _ | apply Drawn0.step)⟩
   ·rw [if_neg c5] at H
    exact absurd H (by simp)
  ·rw [if_neg c4] at H
   exact absurd H (by simp)
 ·rw [if_neg c3] at H
  have c3b0 : decide ((a1.size : Int) ≤ (a0.size : Int)) = false := decide_eq_false c3
  have c3b1 : decide (a1.size ≤ a0.size) = false := decide_eq_false (fun h => c3 (Int.ofNat_le.mpr h))
  clear c3
  obtain rfl := Option.some.inj H
  go_enter Tryz.func75, Tryz.ntmps75
  go_wp2
  go_ret
  exact ⟨by first | rfl | (simp only [YtkccjohhakljnaaGreatDoorMpHelp.leq_not, YtkccjohhakljnaaGreatDoorMpHelp.gtr_less]; done) | (simp; done) | (simp [*]; done), by repeat (first | exact Drawn0.refl _ | apply Drawn0.step)⟩

/-! ### stringslite_CutPrefix: function 67 -/
def stringslite_CutPrefix.f (a0 : ByteArray) (a1 : ByteArray) : Option (ByteArray × Bool) := (stringslite_HasPrefix.f a0 a1).bind fun t121 => (if t121 = true then (if 0 ≤ (a1.size : Int) then (if (a1.size : Int) ≤ (a0.size : Int) then (some (a0.extract ((a1.size : Int) : Int).toNat a0.size, true)) else (none)) else (none)) else (some (a0, false)))
set_option maxHeartbeats 8000000 in
set_option maxRecDepth 100000 in
theorem stringslite_CutPrefix.calls (a0 : ByteArray) (a1 : ByteArray) (r1 : ByteArray) (r2 : Bool) (w : World) (h : stringslite_CutPrefix.f a0 a1 = some (r1, r2)) :
  Calls Tryz.prog 67 #[.string a0, .string a1] w fun e w' => e = .returned (.tuple #[.string r1, .bool r2]) ∧ Drawn0 w w' := by
 have H : ((stringslite_HasPrefix.f a0 a1).bind fun t121 => (if t121 = true then (if 0 ≤ (a1.size : Int) then (if (a1.size : Int) ≤ (a0.size : Int) then (some (a0.extract ((a1.size : Int) : Int).toNat a0.size, true)) else (none)) else (none)) else (some (a0, false)))) = some (r1, r2) := h
 clear h
 replace H := Option.bind_eq_some_iff.mp H
 obtain ⟨t121, A30, H⟩ := H
 replace H : (if t121 = true then (if 0 ≤ (a1.size : Int) then (if (a1.size : Int) ≤ (a0.size : Int) then (some (a0.extract ((a1.size : Int) : Int).toNat a0.size, true)) else (none)) else (none)) else (some (a0, false))) = some (r1, r2) := H
 have A3 := Aside0.mk A30
 clear A30
 by_cases c4 : t121 = true
 ·subst c4
  have H1 : (if 0 ≤ (a1.size : Int) then (if (a1.size : Int) ≤ (a0.size : Int) then (some (a0.extract ((a1.size : Int) : Int).toNat a0.size, true)) else (none)) else (none)) = some (r1, r2) := by rw [if_pos rfl] at H; exact H
  clear H
  have H := H1
  clear H1
  by_cases c5 : 0 ≤ (a1.size : Int)
  ·rw [if_pos c5] at H
   have c5b0 := eq_true c5
   have c5b1 : decide (0 ≤ (a1.size : Int)) = true := decide_eq_true c5
   clear c5
   by_cases c6 : (a1.size : Int) ≤ (a0.size : Int)
   ·rw [if_pos c6] at H
    have c6b0 := eq_true c6
    have c6b1 : decide ((a1.size : Int) ≤ (a0.size : Int)) = true := decide_eq_true c6
    clear c6
    simp only [Option.some.injEq, Prod.mk.injEq] at H
    obtain ⟨rfl, rfl⟩ := H
    go_enter Tryz.func67, Tryz.ntmps67
    go_wp2_with (first | ((with_reducible refine gate_callee (f := 75) rfl ?_); refine goesL_ (some 8) rfl rfl Tryz.func75 (by kernel_rfl) rfl #[.string a0, .string a1] rfl (by (try simp only [List.map_toArray, List.map_cons, List.map_nil]); first | done | rfl | (simp only [List.length_drop, List.length_take]; rfl)) ?_; (with_reducible refine (stringslite_HasPrefix.calls a0 a1 true _ A3.out).mono ?_); rintro e w' ⟨rfl, ⟨nd, rfl⟩⟩; refine ⟨_, rfl, ?_⟩))
    go_ret2
    exact ⟨by first | rfl | (simp only [YtkccjohhakljnaaGreatDoorMpHelp.leq_not, YtkccjohhakljnaaGreatDoorMpHelp.gtr_less]; done) | (simp; done) | (simp [*]; done), by repeat (first | exact Drawn0.refl _ | apply Drawn0.step)⟩
   ·rw [if_neg c6] at H
    exact absurd H (by simp)
  ·rw [if_neg c5] at H
   exact absurd H (by simp)
 ·replace c4 := Bool.eq_false_iff.mpr c4
  subst c4
  have H1 : (some (a0, false)) = some (r1, r2) := by rw [if_neg (show ¬ (false = true) by decide)] at H; exact H
  clear H
  have H := H1
  clear H1
  simp only [Option.some.injEq, Prod.mk.injEq] at H
  obtain ⟨rfl, rfl⟩ := H
  go_enter Tryz.func67, Tryz.ntmps67
  go_wp2_with (first | ((with_reducible refine gate_callee (f := 75) rfl ?_); refine goesL_ (some 8) rfl rfl Tryz.func75 (by kernel_rfl) rfl #[.string a0, .string a1] rfl (by (try simp only [List.map_toArray, List.map_cons, List.map_nil]); first | done | rfl | (simp only [List.length_drop, List.length_take]; rfl)) ?_; (with_reducible refine (stringslite_HasPrefix.calls a0 a1 false _ A3.out).mono ?_); rintro e w' ⟨rfl, ⟨nd, rfl⟩⟩; refine ⟨_, rfl, ?_⟩))
  go_ret2
  exact ⟨by first | rfl | (simp only [YtkccjohhakljnaaGreatDoorMpHelp.leq_not, YtkccjohhakljnaaGreatDoorMpHelp.gtr_less]; done) | (simp; done) | (simp [*]; done), by repeat (first | exact Drawn0.refl _ | apply Drawn0.step)⟩

/-! ### strings_CutPrefix: function 50 -/
def strings_CutPrefix.f (a0 : ByteArray) (a1 : ByteArray) : Option (ByteArray × Bool) := (stringslite_CutPrefix.f a0 a1).bind fun bt122 => (some (bt122.1, bt122.2))
set_option maxHeartbeats 8000000 in
set_option maxRecDepth 100000 in
theorem strings_CutPrefix.calls (a0 : ByteArray) (a1 : ByteArray) (r1 : ByteArray) (r2 : Bool) (w : World) (h : strings_CutPrefix.f a0 a1 = some (r1, r2)) :
  Calls Tryz.prog 50 #[.string a0, .string a1] w fun e w' => e = .returned (.tuple #[.string r1, .bool r2]) ∧ Drawn0 w w' := by
 have H : ((stringslite_CutPrefix.f a0 a1).bind fun bt122 => (some (bt122.1, bt122.2))) = some (r1, r2) := h
 clear h
 replace H := Option.bind_eq_some_iff.mp H
 obtain ⟨⟨t122, t123⟩, A30, H⟩ := H
 replace H : (some (t122, t123)) = some (r1, r2) := H
 have A3 := Aside0.mk A30
 clear A30
 simp only [Option.some.injEq, Prod.mk.injEq] at H
 obtain ⟨rfl, rfl⟩ := H
 go_enter Tryz.func50, Tryz.ntmps50
 go_wp2_with (first | ((with_reducible refine gate_callee (f := 67) rfl ?_); refine goesL_ (some 8) rfl rfl Tryz.func67 (by kernel_rfl) rfl #[.string a0, .string a1] rfl (by (try simp only [List.map_toArray, List.map_cons, List.map_nil]); first | done | rfl | (simp only [List.length_drop, List.length_take]; rfl)) ?_; (with_reducible refine (stringslite_CutPrefix.calls a0 a1 t122 t123 _ A3.out).mono ?_); rintro e w' ⟨rfl, ⟨nd, rfl⟩⟩; refine ⟨_, rfl, ?_⟩))
 go_ret2
 exact ⟨by first | rfl | (simp only [YtkccjohhakljnaaGreatDoorMpHelp.leq_not, YtkccjohhakljnaaGreatDoorMpHelp.gtr_less]; done) | (simp; done) | (simp [*]; done), by repeat (first | exact Drawn0.refl _ | apply Drawn0.step)⟩

/-! ### member_behind: function 41 -/
def member_behind.f (a0 : ByteArray) (a1 : ByteArray) : Option (ByteArray × Bool) := (member_Right.f a1).bind fun t124 => (if t124 = true then (if a0.toList = ([] : List UInt8) then (some (a1, true)) else ((member_Right.f a0).bind fun t125 => (if t125 = true then (if a0.size + 1 ≤ 9223372036854775807 then ((strings_CutPrefix.f a1 (a0 ++ (⟨#[47]⟩ : ByteArray))).bind fun bt126 => (some (bt126.1, bt126.2))) else (none)) else (some ((⟨#[]⟩ : ByteArray), false))))) else (some ((⟨#[]⟩ : ByteArray), false)))
set_option maxHeartbeats 8000000 in
set_option maxRecDepth 100000 in
theorem member_behind.calls (a0 : ByteArray) (a1 : ByteArray) (r1 : ByteArray) (r2 : Bool) (w : World) (h : member_behind.f a0 a1 = some (r1, r2)) :
  Calls Tryz.prog 41 #[.string a0, .string a1] w fun e w' => e = .returned (.tuple #[.string r1, .bool r2]) ∧ Below w.heap.size w w' := by
 have HB := Aside0.mk (Below.refl w.heap.size w)
 have H : ((member_Right.f a1).bind fun t124 => (if t124 = true then (if a0.toList = ([] : List UInt8) then (some (a1, true)) else ((member_Right.f a0).bind fun t125 => (if t125 = true then (if a0.size + 1 ≤ 9223372036854775807 then ((strings_CutPrefix.f a1 (a0 ++ (⟨#[47]⟩ : ByteArray))).bind fun bt126 => (some (bt126.1, bt126.2))) else (none)) else (some ((⟨#[]⟩ : ByteArray), false))))) else (some ((⟨#[]⟩ : ByteArray), false)))) = some (r1, r2) := h
 clear h
 replace H := Option.bind_eq_some_iff.mp H
 obtain ⟨t124, A30, H⟩ := H
 replace H : (if t124 = true then (if a0.toList = ([] : List UInt8) then (some (a1, true)) else ((member_Right.f a0).bind fun t125 => (if t125 = true then (if a0.size + 1 ≤ 9223372036854775807 then ((strings_CutPrefix.f a1 (a0 ++ (⟨#[47]⟩ : ByteArray))).bind fun bt126 => (some (bt126.1, bt126.2))) else (none)) else (some ((⟨#[]⟩ : ByteArray), false))))) else (some ((⟨#[]⟩ : ByteArray), false))) = some (r1, r2) := H
 have A3 := Aside0.mk A30
 clear A30
 by_cases c4 : t124 = true
 ·subst c4
  have H1 : (if a0.toList = ([] : List UInt8) then (some (a1, true)) else ((member_Right.f a0).bind fun t125 => (if t125 = true then (if a0.size + 1 ≤ 9223372036854775807 then ((strings_CutPrefix.f a1 (a0 ++ (⟨#[47]⟩ : ByteArray))).bind fun bt126 => (some (bt126.1, bt126.2))) else (none)) else (some ((⟨#[]⟩ : ByteArray), false))))) = some (r1, r2) := by rw [if_pos rfl] at H; exact H
  clear H
  have H := H1
  clear H1
  by_cases c5 : a0.toList = ([] : List UInt8)
  ·rw [if_pos c5] at H
   have c5b0 : (a0.toList == ([] : List UInt8)) = true := beq_iff_eq.mpr c5
   have c5b1 : (a0.toList != ([] : List UInt8)) = false := bne_eq_false_iff_eq.mpr c5
   clear c5
   simp only [Option.some.injEq, Prod.mk.injEq] at H
   obtain ⟨rfl, rfl⟩ := H
   go_enter Tryz.func41, Tryz.ntmps41
   go_wp2_with (first | ((with_reducible refine gate_callee (f := 49) rfl ?_); refine goesL_ (some 8) rfl rfl Tryz.func49 (by kernel_rfl) rfl #[.string a1] rfl (by (try simp only [List.map_toArray, List.map_cons, List.map_nil]); first | done | rfl | (simp only [List.length_drop, List.length_take]; rfl)) ?_; (with_reducible refine (member_Right.calls a1 true _ A3.out).mono ?_); rintro e w6 ⟨rfl, hb⟩; refine ⟨_, rfl, ?_⟩; have n0_ := Aside0.mk (below_step (by repeat (first | (with_reducible first | exact HB.out | apply below_alloc | apply pw_below_drewN | apply below_drew1) | exact HB.out)) hb); clear HB; have HB := n0_; clear n0_; (try clear hb); (try clear hb2); (try clear hk); (try clear hi)))
   go_ret2
   exact ⟨by first | rfl | (simp [errW_none, errW_some] <;> rfl) | (simp [*, errW_none, errW_some] <;> rfl), by repeat (first | (with_reducible first | exact HB.out | apply below_alloc | apply pw_below_drewN | apply below_drew1) | exact HB.out)⟩
  ·rw [if_neg c5] at H
   have c5b0 : (a0.toList == ([] : List UInt8)) = false := beq_eq_false_iff_ne.mpr c5
   have c5b1 : (a0.toList != ([] : List UInt8)) = true := bne_iff_ne.mpr c5
   replace H := Option.bind_eq_some_iff.mp H
   obtain ⟨t125, A70, H⟩ := H
   replace H : (if t125 = true then (if a0.size + 1 ≤ 9223372036854775807 then ((strings_CutPrefix.f a1 (a0 ++ (⟨#[47]⟩ : ByteArray))).bind fun bt126 => (some (bt126.1, bt126.2))) else (none)) else (some ((⟨#[]⟩ : ByteArray), false))) = some (r1, r2) := H
   have A7 := Aside0.mk A70
   clear A70
   by_cases c8 : t125 = true
   ·subst c8
    have H1 : (if a0.size + 1 ≤ 9223372036854775807 then ((strings_CutPrefix.f a1 (a0 ++ (⟨#[47]⟩ : ByteArray))).bind fun bt126 => (some (bt126.1, bt126.2))) else (none)) = some (r1, r2) := by rw [if_pos rfl] at H; exact H
    clear H
    have H := H1
    clear H1
    by_cases c9 : a0.size + 1 ≤ 9223372036854775807
    ·rw [if_pos c9] at H
     have c9b0 := eq_true c9
     have c9b1 : decide (a0.size + 1 ≤ 9223372036854775807) = true := decide_eq_true c9
     try have c9b2 : (9223372036854775807 < a0.size + 1) = False := eq_false (Nat.not_lt.2 c9)
     replace H := Option.bind_eq_some_iff.mp H
     obtain ⟨⟨t126, t127⟩, A100, H⟩ := H
     replace H : (some (t126, t127)) = some (r1, r2) := H
     have A10 := Aside0.mk A100
     clear A100
     simp only [Option.some.injEq, Prod.mk.injEq] at H
     obtain ⟨rfl, rfl⟩ := H
     go_enter Tryz.func41, Tryz.ntmps41
     go_wp2_with (first | ((with_reducible refine gate_callee (f := 49) rfl ?_); refine goesL_ (some 8) rfl rfl Tryz.func49 (by kernel_rfl) rfl #[.string a1] rfl (by (try simp only [List.map_toArray, List.map_cons, List.map_nil]); first | done | rfl | (simp only [List.length_drop, List.length_take]; rfl)) ?_; (with_reducible refine (member_Right.calls a1 true _ A3.out).mono ?_); rintro e w11 ⟨rfl, hb⟩; refine ⟨_, rfl, ?_⟩; have n0_ := Aside0.mk (below_step (by repeat (first | (with_reducible first | exact HB.out | apply below_alloc | apply pw_below_drewN | apply below_drew1) | exact HB.out)) hb); clear HB; have HB := n0_; clear n0_; (try clear hb); (try clear hb2); (try clear hk); (try clear hi)) | ((with_reducible refine gate_callee (f := 49) rfl ?_); refine goesL_ (some 16) rfl rfl Tryz.func49 (by kernel_rfl) rfl #[.string a0] rfl (by (try simp only [List.map_toArray, List.map_cons, List.map_nil]); first | done | rfl | (simp only [List.length_drop, List.length_take]; rfl)) ?_; (with_reducible refine (member_Right.calls a0 true _ A7.out).mono ?_); rintro e w12 ⟨rfl, hb⟩; refine ⟨_, rfl, ?_⟩; have n0_ := Aside0.mk (below_step (by repeat (first | (with_reducible first | exact HB.out | apply below_alloc | apply pw_below_drewN | apply below_drew1) | exact HB.out)) hb); clear HB; have HB := n0_; clear n0_; (try clear hb); (try clear hb2); (try clear hk); (try clear hi)) | ((with_reducible refine gate_callee (f := 50) rfl ?_); refine goesL_ (some 21) rfl rfl Tryz.func50 (by kernel_rfl) rfl #[.string a1, .string (a0 ++ (⟨#[47]⟩ : ByteArray))] rfl (by (try simp only [List.map_toArray, List.map_cons, List.map_nil]); first | done | rfl | (simp only [List.length_drop, List.length_take]; rfl)) ?_; (with_reducible refine (strings_CutPrefix.calls a1 (a0 ++ (⟨#[47]⟩ : ByteArray)) t126 t127 _ A10.out).mono ?_); rintro e w' ⟨rfl, ⟨nd, rfl⟩⟩; refine ⟨_, rfl, ?_⟩))
     go_ret2
     exact ⟨by first | rfl | (simp [errW_none, errW_some] <;> rfl) | (simp [*, errW_none, errW_some] <;> rfl), by repeat (first | (with_reducible first | exact HB.out | apply below_alloc | apply pw_below_drewN | apply below_drew1) | exact HB.out)⟩
    ·rw [if_neg c9] at H
     exact absurd H (by simp)
   ·replace c8 := Bool.eq_false_iff.mpr c8
    subst c8
    have H1 : (some ((⟨#[]⟩ : ByteArray), false)) = some (r1, r2) := by rw [if_neg (show ¬ (false = true) by decide)] at H; exact H
    clear H
    have H := H1
    clear H1
    simp only [Option.some.injEq, Prod.mk.injEq] at H
    obtain ⟨rfl, rfl⟩ := H
    go_enter Tryz.func41, Tryz.ntmps41
    go_wp2_with (first | ((with_reducible refine gate_callee (f := 49) rfl ?_); refine goesL_ (some 8) rfl rfl Tryz.func49 (by kernel_rfl) rfl #[.string a1] rfl (by (try simp only [List.map_toArray, List.map_cons, List.map_nil]); first | done | rfl | (simp only [List.length_drop, List.length_take]; rfl)) ?_; (with_reducible refine (member_Right.calls a1 true _ A3.out).mono ?_); rintro e w13 ⟨rfl, hb⟩; refine ⟨_, rfl, ?_⟩; have n0_ := Aside0.mk (below_step (by repeat (first | (with_reducible first | exact HB.out | apply below_alloc | apply pw_below_drewN | apply below_drew1) | exact HB.out)) hb); clear HB; have HB := n0_; clear n0_; (try clear hb); (try clear hb2); (try clear hk); (try clear hi)) | ((with_reducible refine gate_callee (f := 49) rfl ?_); refine goesL_ (some 16) rfl rfl Tryz.func49 (by kernel_rfl) rfl #[.string a0] rfl (by (try simp only [List.map_toArray, List.map_cons, List.map_nil]); first | done | rfl | (simp only [List.length_drop, List.length_take]; rfl)) ?_; (with_reducible refine (member_Right.calls a0 false _ A7.out).mono ?_); rintro e w14 ⟨rfl, hb⟩; refine ⟨_, rfl, ?_⟩; have n0_ := Aside0.mk (below_step (by repeat (first | (with_reducible first | exact HB.out | apply below_alloc | apply pw_below_drewN | apply below_drew1) | exact HB.out)) hb); clear HB; have HB := n0_; clear n0_; (try clear hb); (try clear hb2); (try clear hk); (try clear hi)))
    go_ret2
    exact ⟨by first | rfl | (simp [errW_none, errW_some] <;> rfl) | (simp [*, errW_none, errW_some] <;> rfl), by repeat (first | (with_reducible first | exact HB.out | apply below_alloc | apply pw_below_drewN | apply below_drew1) | exact HB.out)⟩
 ·replace c4 := Bool.eq_false_iff.mpr c4
  subst c4
  have H1 : (some ((⟨#[]⟩ : ByteArray), false)) = some (r1, r2) := by rw [if_neg (show ¬ (false = true) by decide)] at H; exact H
  clear H
  have H := H1
  clear H1
  simp only [Option.some.injEq, Prod.mk.injEq] at H
  obtain ⟨rfl, rfl⟩ := H
  go_enter Tryz.func41, Tryz.ntmps41
  go_wp2_with (first | ((with_reducible refine gate_callee (f := 49) rfl ?_); refine goesL_ (some 8) rfl rfl Tryz.func49 (by kernel_rfl) rfl #[.string a1] rfl (by (try simp only [List.map_toArray, List.map_cons, List.map_nil]); first | done | rfl | (simp only [List.length_drop, List.length_take]; rfl)) ?_; (with_reducible refine (member_Right.calls a1 false _ A3.out).mono ?_); rintro e w15 ⟨rfl, hb⟩; refine ⟨_, rfl, ?_⟩; have n0_ := Aside0.mk (below_step (by repeat (first | (with_reducible first | exact HB.out | apply below_alloc | apply pw_below_drewN | apply below_drew1) | exact HB.out)) hb); clear HB; have HB := n0_; clear n0_; (try clear hb); (try clear hb2); (try clear hk); (try clear hi)))
  go_ret2
  exact ⟨by first | rfl | (simp [errW_none, errW_some] <;> rfl) | (simp [*, errW_none, errW_some] <;> rfl), by repeat (first | (with_reducible first | exact HB.out | apply below_alloc | apply pw_below_drewN | apply below_drew1) | exact HB.out)⟩

/-! ### stringslite_Index: function 68 (told by hand) -/
def stringslite_Index.f (a0 a1 : ByteArray) : Option Int := match a1.data.toList with
  | [c] => some (Lib.indexByte a0.data.toList c)
  | _ => none
theorem stringslite_Index.calls (a0 a1 : ByteArray) (r : Int) (w : World) (h : stringslite_Index.f a0 a1 = some r) : Calls Tryz.prog 68 #[.string a0, .string a1] w fun e w' => e = .returned (.int .i64 r) ∧ Drawn0 w w' := by
  obtain ⟨⟨l⟩⟩ := a1
  match l, h with
  | [c], h =>
    obtain rfl := Option.some.inj h
    refine (Tryz.stringslite_Index_one a0 c w).mono ?_
    rintro e w' ⟨rfl, rfl⟩
    exact ⟨rfl, Drawn0.refl _⟩


end Go.Proofs.YtkccjohhakljnaaGreatDoor.PTreeWalks
