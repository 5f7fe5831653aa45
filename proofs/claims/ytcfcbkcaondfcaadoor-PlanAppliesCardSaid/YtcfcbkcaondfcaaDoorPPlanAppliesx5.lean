/- The machine side of a law: for each Go function that it uses a Lean function with the same answers, and the proof that the Go code comes to them; or the row of the law over these. Written by a program of this session. -/
import Derived.Test.YtcfcbkcaondfcaaDoorPPlanAppliesx0
namespace Go.Proofs.YtcfcbkcaondfcaaDoor.PPlanApplies
open Go.RowKit Go.Proofs.YtcfcbkcaondfcaaDoorW.PrintWords Go.Proofs.YtcfcbkcaondfcaaDoorW.PrintLast Go.Proofs.YtcfcbkcaondfcaaDoorW.PrintMore
attribute [local go_sem] max2_int min2_int max_two min_two max_three min_three max_four min_four   -- for this text's walks alone
set_option linter.unusedVariables false
set_option linter.unusedSimpArgs false

/-! ### bindlelaw38_great: function 34 -/
mutual
def bindlelaw38_great.l0 : Nat → List (S72) → Int → Option (Bool)
 | 0, _, _ => none
 | k + 1, x0, x3 => if x3 < (x0.length : Int) then (bindlelaw38_great.j1 k x0 x3 (decide (x3 < 300))) else (bindlelaw38_great.j1 k x0 x3 false)
def bindlelaw38_great.j1 : Nat → List (S72) → Int → Bool → Option (Bool)
 | 0, _, _, _ => none
 | k + 1, x0, x3, x11 => if x11 = true then (if 0 ≤ x3 then (if x3 < (x0.length : Int) then (if (((rd_T72 x0 x3).f1).size : Int) > 300 then (some true) else (if (((rd_T72 x0 x3).f2).length : Int) > 70000 then (some true) else (bindlelaw38_great.l0 k x0 (wrap64 (x3 + 1))))) else (none)) else (none)) else (some (decide ((x0.length : Int) > 250)))
end
def bindlelaw38_great.f (k : Nat) (l0 : List (S72)) : Option (Bool) := bindlelaw38_great.l0 k l0 0
theorem bindlelaw38_great.mono_l : ∀ k, (∀ y0 y1, LeO (bindlelaw38_great.l0 k y0 y1) (bindlelaw38_great.l0 (k + 1) y0 y1)) ∧ (∀ y0 y1 y2, LeO (bindlelaw38_great.j1 k y0 y1 y2) (bindlelaw38_great.j1 (k + 1) y0 y1 y2))
 | 0 => ⟨fun _ _ r h => by simp [bindlelaw38_great.l0] at h, fun _ _ _ r h => by simp [bindlelaw38_great.j1] at h⟩
 | k + 1 => by
  obtain ⟨ih0, ih1⟩ := bindlelaw38_great.mono_l k
  refine ⟨?_, ?_⟩
  ·intro y0 y1
   unfold bindlelaw38_great.l0
   repeat' first
   | (with_reducible exact ih0 _ _)
   | (with_reducible exact ih1 _ _ _)
   | (with_reducible exact LeO.refl _)
   | (with_reducible exact LeO.none _)
   | (with_reducible refine LeO.ite ?_ ?_)
   | (with_reducible refine LeO.bind ?_ (fun _ => ?_))
   | exact ih0 _ _
   | exact ih1 _ _ _
   | exact LeO.none _
   | refine LeO.ite ?_ ?_
   | refine LeO.bind ?_ (fun _ => ?_)
  ·intro y0 y1 y2
   unfold bindlelaw38_great.j1
   repeat' first
   | (with_reducible exact ih0 _ _)
   | (with_reducible exact ih1 _ _ _)
   | (with_reducible exact LeO.refl _)
   | (with_reducible exact LeO.none _)
   | (with_reducible refine LeO.ite ?_ ?_)
   | (with_reducible refine LeO.bind ?_ (fun _ => ?_))
   | exact ih0 _ _
   | exact ih1 _ _ _
   | exact LeO.none _
   | refine LeO.ite ?_ ?_
   | refine LeO.bind ?_ (fun _ => ?_)
theorem bindlelaw38_great.mono : ∀ a0 k, LeO (bindlelaw38_great.f k a0) (bindlelaw38_great.f (k + 1) a0) := by
 intro a0 k
 obtain ⟨ih0, ih1⟩ := bindlelaw38_great.mono_l k
 unfold bindlelaw38_great.f
 repeat' first
   | (with_reducible exact ih0 _ _)
   | (with_reducible exact ih1 _ _ _)
   | (with_reducible exact LeO.refl _)
   | (with_reducible exact LeO.none _)
   | (with_reducible refine LeO.ite ?_ ?_)
   | (with_reducible refine LeO.bind ?_ (fun _ => ?_))
   | exact ih0 _ _
   | exact ih1 _ _ _
   | exact LeO.none _
   | refine LeO.ite ?_ ?_
   | refine LeO.bind ?_ (fun _ => ?_)
set_option maxHeartbeats 8000000 in
set_option maxRecDepth 100000 in
theorem bindlelaw38_great.calls (k : Nat) (A0 : Option Addr) (c0 : Nat) (l0 : List (S72)) (r : Bool) (w : World) (hr0 : Kd.C k72 w A0 l0.length l0) (hc0 : l0.length ≤ c0) (h : bindlelaw38_great.f k l0 = some r) :
  Calls Tryd.prog 34 #[.slice A0 l0.length c0] w fun e w' => e = .returned (.bool r) ∧ Drawn0 w w' := by
 have HR0 := Aside0.mk hr0
 have HC0 := Aside0.mk hc0
 clear hr0 hc0
 have H : (bindlelaw38_great.l0 k l0 0) = some r := h
 clear h
 have H' := Aside0.mk H
 clear H
 go_enter Tryd.func34, Tryd.ntmps34
 go_wp2
 go_loopg [3] k (fun kq v3 w' => ∃ (x3_1 : Int), v3 = .int .i64 x3_1 ∧ Aside0 (bindlelaw38_great.l0 kq l0 x3_1 = some r) ∧ Aside0 (kq ≤ k) ∧ Drawn0 w w')
 case atStart => exact ⟨(0), (by first | rfl | (simp only [YtcfcbkcaondfcaaDoorMpHelp.leq_not, YtcfcbkcaondfcaaDoorMpHelp.gtr_less]; done) | (simp; done) | (simp [*]; done)), H', ⟨Nat.le_refl _⟩, by repeat (first | exact Drawn0.refl _ | apply Drawn0.step)⟩
 case round =>
  clear H'
  obtain ⟨x3_1, rfl, HA, HK1, ⟨m1, rfl⟩⟩ := hrel
  cases gk with
  | zero => exact absurd HA.out (by simp [bindlelaw38_great.l0])
  | succ k1 =>
   have H := HA.out
   clear HA
   simp only [bindlelaw38_great.l0] at H
   have HC2 := Aside0.mk H
   clear H
   go_upto_region 2 with (fail)
   go_cut [11] (fun v11 wc => ∃ (kq : Nat) (x11_1 : Bool), v11 = .bool x11_1 ∧ Aside0 (bindlelaw38_great.j1 kq l0 x3_1 x11_1 = some r) ∧ Aside0 (kq ≤ k1) ∧ Drawn0 w wc)
   case first =>
    have H := HC2.out
    clear HC2
    by_cases c3 : x3_1 < (l0.length : Int)
    ·rw [if_pos c3] at H
     have c3b0 : decide (x3_1 < (l0.length : Int)) = true := decide_eq_true c3
     clear c3
     (first | rw [c3b0] | (simp only [i64_w, i32_w]; rw [c3b0]) | rw [c3b1] | skip)
     have H' := Aside0.mk H
     clear H
     go_wp2
     go_meet
     case rel => exact ⟨_, (decide (x3_1 < 300)), (by first | rfl | (simp only [YtcfcbkcaondfcaaDoorMpHelp.leq_not, YtcfcbkcaondfcaaDoorMpHelp.gtr_less]; done) | (simp; done) | (simp [*]; done)), H', ⟨by have := HK1.out; first | omega | exact Nat.le_refl _⟩, by repeat (first | exact Drawn0.refl _ | apply Drawn0.step)⟩
    ·rw [if_neg c3] at H
     have c3b0 : decide (x3_1 < (l0.length : Int)) = false := decide_eq_false c3
     clear c3
     (first | rw [c3b0] | (simp only [i64_w, i32_w]; rw [c3b0]) | rw [c3b1] | skip)
     have H' := Aside0.mk H
     clear H
     go_wp2
     go_meet
     case rel => exact ⟨_, (false), (by first | rfl | (simp only [YtcfcbkcaondfcaaDoorMpHelp.leq_not, YtcfcbkcaondfcaaDoorMpHelp.gtr_less]; done) | (simp; done) | (simp [*]; done)), H', ⟨by have := HK1.out; first | omega | exact Nat.le_refl _⟩, by repeat (first | exact Drawn0.refl _ | apply Drawn0.step)⟩
   case rest =>
    clear HC2
    try clear p2
    try clear c3
    try clear c3b0
    try clear c3b1
    obtain ⟨kq, x11_1, rfl, HA, HJ1, ⟨mc1, rfl⟩⟩ := hcut
    cases kq with
    | zero => exact absurd HA.out (by simp [bindlelaw38_great.j1])
    | succ kj1 =>
     have H := HA.out
     clear HA
     simp only [bindlelaw38_great.j1] at H
     by_cases c4 : x11_1 = true
     ·subst c4
      have H1 : (if 0 ≤ x3_1 then (if x3_1 < (l0.length : Int) then (if (((rd_T72 l0 x3_1).f1).size : Int) > 300 then (some true) else (if (((rd_T72 l0 x3_1).f2).length : Int) > 70000 then (some true) else (bindlelaw38_great.l0 kj1 l0 (wrap64 (x3_1 + 1))))) else (none)) else (none)) = some r := by rw [if_pos rfl] at H; exact H
      clear H
      have H := H1
      clear H1
      by_cases c5 : 0 ≤ x3_1
      ·rw [if_pos c5] at H
       have c5b0 : decide (0 ≤ x3_1) = true := decide_eq_true c5
       clear c5
       by_cases c6 : x3_1 < (l0.length : Int)
       ·rw [if_pos c6] at H
        have c6b0 : decide (x3_1 < (l0.length : Int)) = true := decide_eq_true c6
        clear c6
        by_cases c7 : (((rd_T72 l0 x3_1).f1).size : Int) > 300
        ·rw [if_pos c7] at H
         have c7b0 : decide (300 < (((rd_T72 l0 x3_1).f1).size : Int)) = true := decide_eq_true c7
         have c7b1 : decide (300 < ((rd_T72 l0 x3_1).f1).size) = true := decide_eq_true (by omega)
         clear c7
         obtain rfl := Option.some.inj H
         have p157 : 0 ≤ (x3_1 : Int) := of_decide_eq_true (by first | (with_reducible assumption) | assumption)
         have q157 : x3_1 < (l0.length : Int) := of_decide_eq_true (by first | (with_reducible assumption) | assumption)
         obtain ⟨ad157, A157_2, c157_2, A157_4, c157_4, e157, hx157_0, hx157_1, hx157_2, hx157_3, hx157_4, hx157_5, hx157_6, hl157_2, hi157_2, hl157_4, hi157_4⟩ := at_T72 HR0.out x3_1 p157 q157
         cases e157
         have HR157_2 := Aside0.mk hi157_2
         have HC157_2 := Aside0.mk hl157_2
         clear hi157_2 hl157_2
         have HR157_4 := Aside0.mk hi157_4
         have HC157_4 := Aside0.mk hl157_4
         clear hi157_4 hl157_4
         replace p157 := eq_true p157
         replace q157 := eq_true q157
         go_wp2
         go_ret
         exact ⟨by first | rfl | (simp only [YtcfcbkcaondfcaaDoorMpHelp.leq_not, YtcfcbkcaondfcaaDoorMpHelp.gtr_less]; done) | (simp; done) | (simp [*]; done), by repeat (first | exact Drawn0.refl _ | apply Drawn0.step)⟩
        ·rw [if_neg c7] at H
         have c7b0 : decide (300 < (((rd_T72 l0 x3_1).f1).size : Int)) = false := decide_eq_false c7
         have c7b1 : decide (300 < ((rd_T72 l0 x3_1).f1).size) = false := decide_eq_false (by omega)
         clear c7
         by_cases c8 : (((rd_T72 l0 x3_1).f2).length : Int) > 70000
         ·rw [if_pos c8] at H
          have c8b0 : decide (70000 < (((rd_T72 l0 x3_1).f2).length : Int)) = true := decide_eq_true c8
          have c8b1 : decide (70000 < ((rd_T72 l0 x3_1).f2).length) = true := decide_eq_true (by omega)
          clear c8
          obtain rfl := Option.some.inj H
          have p157 : 0 ≤ (x3_1 : Int) := of_decide_eq_true (by first | (with_reducible assumption) | assumption)
          have q157 : x3_1 < (l0.length : Int) := of_decide_eq_true (by first | (with_reducible assumption) | assumption)
          obtain ⟨ad157, A157_2, c157_2, A157_4, c157_4, e157, hx157_0, hx157_1, hx157_2, hx157_3, hx157_4, hx157_5, hx157_6, hl157_2, hi157_2, hl157_4, hi157_4⟩ := at_T72 HR0.out x3_1 p157 q157
          cases e157
          have HR157_2 := Aside0.mk hi157_2
          have HC157_2 := Aside0.mk hl157_2
          clear hi157_2 hl157_2
          have HR157_4 := Aside0.mk hi157_4
          have HC157_4 := Aside0.mk hl157_4
          clear hi157_4 hl157_4
          replace p157 := eq_true p157
          replace q157 := eq_true q157
          have p158 : 0 ≤ (x3_1 : Int) := of_decide_eq_true (by first | (with_reducible assumption) | assumption)
          have q158 : x3_1 < (l0.length : Int) := of_decide_eq_true (by first | (with_reducible assumption) | assumption)
          obtain ⟨ad158, A158_2, c158_2, A158_4, c158_4, e158, hx158_0, hx158_1, hx158_2, hx158_3, hx158_4, hx158_5, hx158_6, hl158_2, hi158_2, hl158_4, hi158_4⟩ := at_T72 HR0.out x3_1 p158 q158
          obtain rfl : ad157 = ad158 := (by injection e158)
          have HR158_2 := Aside0.mk hi158_2
          have HC158_2 := Aside0.mk hl158_2
          clear hi158_2 hl158_2
          have HR158_4 := Aside0.mk hi158_4
          have HC158_4 := Aside0.mk hl158_4
          clear hi158_4 hl158_4
          replace p158 := eq_true p158
          replace q158 := eq_true q158
          have ea_ := Option.some.inj (hx157_2.symm.trans hx158_2)
          injection ea_ with ea_ en_ ec_
          subst ea_
          subst ec_
          clear en_
          have ea_ := Option.some.inj (hx157_4.symm.trans hx158_4)
          injection ea_ with ea_ en_ ec_
          subst ea_
          subst ec_
          clear en_
          go_wp2
          go_ret
          exact ⟨by first | rfl | (simp only [YtcfcbkcaondfcaaDoorMpHelp.leq_not, YtcfcbkcaondfcaaDoorMpHelp.gtr_less]; done) | (simp; done) | (simp [*]; done), by repeat (first | exact Drawn0.refl _ | apply Drawn0.step)⟩
         ·rw [if_neg c8] at H
          have c8b0 : decide (70000 < (((rd_T72 l0 x3_1).f2).length : Int)) = false := decide_eq_false c8
          have c8b1 : decide (70000 < ((rd_T72 l0 x3_1).f2).length) = false := decide_eq_false (by omega)
          clear c8
          have H' := Aside0.mk H
          clear H
          have p157 : 0 ≤ (x3_1 : Int) := of_decide_eq_true (by first | (with_reducible assumption) | assumption)
          have q157 : x3_1 < (l0.length : Int) := of_decide_eq_true (by first | (with_reducible assumption) | assumption)
          obtain ⟨ad157, A157_2, c157_2, A157_4, c157_4, e157, hx157_0, hx157_1, hx157_2, hx157_3, hx157_4, hx157_5, hx157_6, hl157_2, hi157_2, hl157_4, hi157_4⟩ := at_T72 HR0.out x3_1 p157 q157
          cases e157
          have HR157_2 := Aside0.mk hi157_2
          have HC157_2 := Aside0.mk hl157_2
          clear hi157_2 hl157_2
          have HR157_4 := Aside0.mk hi157_4
          have HC157_4 := Aside0.mk hl157_4
          clear hi157_4 hl157_4
          replace p157 := eq_true p157
          replace q157 := eq_true q157
          have p158 : 0 ≤ (x3_1 : Int) := of_decide_eq_true (by first | (with_reducible assumption) | assumption)
          have q158 : x3_1 < (l0.length : Int) := of_decide_eq_true (by first | (with_reducible assumption) | assumption)
          obtain ⟨ad158, A158_2, c158_2, A158_4, c158_4, e158, hx158_0, hx158_1, hx158_2, hx158_3, hx158_4, hx158_5, hx158_6, hl158_2, hi158_2, hl158_4, hi158_4⟩ := at_T72 HR0.out x3_1 p158 q158
          obtain rfl : ad157 = ad158 := (by injection e158)
          have HR158_2 := Aside0.mk hi158_2
          have HC158_2 := Aside0.mk hl158_2
          clear hi158_2 hl158_2
          have HR158_4 := Aside0.mk hi158_4
          have HC158_4 := Aside0.mk hl158_4
          clear hi158_4 hl158_4
          replace p158 := eq_true p158
          replace q158 := eq_true q158
          have ea_ := Option.some.inj (hx157_2.symm.trans hx158_2)
          injection ea_ with ea_ en_ ec_
          subst ea_
          subst ec_
          clear en_
          have ea_ := Option.some.inj (hx157_4.symm.trans hx158_4)
          injection ea_ with ea_ en_ ec_
          subst ea_
          subst ec_
          clear en_
          go_wp2
          go_roundg kj1
          case measure => have := HK1.out; have := HJ1.out; omega
          case rel => exact ⟨(wrap64 (x3_1 + 1)), (by first | rfl | (simp only [YtcfcbkcaondfcaaDoorMpHelp.leq_not, YtcfcbkcaondfcaaDoorMpHelp.gtr_less]; done) | (simp; done) | (simp [*]; done)), H', ⟨by have := HK1.out; have := HJ1.out; omega⟩, by repeat (first | exact Drawn0.refl _ | apply Drawn0.step)⟩
       ·rw [if_neg c6] at H
        exact absurd H (by simp)
      ·rw [if_neg c5] at H
       exact absurd H (by simp)
     ·replace c4 := Bool.eq_false_iff.mpr c4
      subst c4
      have H1 : (some (decide ((l0.length : Int) > 250))) = some r := by rw [if_neg (show ¬ (false = true) by decide)] at H; exact H
      clear H
      have H := H1
      clear H1
      obtain rfl := Option.some.inj H
      go_wp2
      go_ret
      exact ⟨by first | rfl | (simp only [YtcfcbkcaondfcaaDoorMpHelp.leq_not, YtcfcbkcaondfcaaDoorMpHelp.gtr_less]; done) | (simp; done) | (simp [*]; done), by repeat (first | exact Drawn0.refl _ | apply Drawn0.step)⟩

/-! ### api_File: function 59 (told by hand) -/
def api_File.f (l0 : List S45) : Option (List S45) := if l0.length ≤ 1000000 then some l0 else none
theorem api_File.info : (Tryd.prog.info? 45).map (fun i => (i.zero, i.size, i.bytes)) = some (some (.agg #[.string ByteArray.empty, .slice none 0 0]), 2, 40) := by kernel_rfl
set_option maxHeartbeats 2000000 in
theorem api_File.calls (P0_ : Nat → Prop) (A0 : Option Addr) (c0 : Nat) (l0 : List S45) (r : List S45) (w : World) (hs0 : Kd.V k45 45 w w.heap.size (fun k_ => P0_ k_) (.slice A0 l0.length c0) l0) (h : api_File.f l0 = some r) :
    Calls Tryd.prog 59 #[.slice A0 l0.length c0] w fun e w' => ∃ v0_ : Value, e = .returned (v0_) ∧ Kd.N k45 45 w' w.heap.size (fun k_ => (P0_ k_ ∨ w.heap.size ≤ k_)) v0_ r ∧ Below w.heap.size w w' := by
  unfold api_File.f at h
  by_cases hb : l0.length ≤ 1000000
  case neg => rw [if_neg hb] at h; cases h
  rw [if_pos hb] at h
  obtain rfl := Option.some.inj h
  have q22 : ∀ (w : World) (a : Option Addr) (n c n' c' : Nat), (binOp .eql 36 (.slice a n c) (.slice none n' c')).run Tryd.prog w = .ok (.bool a.isNone) w := fun w a n c n' c' => Lib.run_eql_slice_nil w _ _ a n c n' c' Tryd.underlying36
  cases A0 with
  | none =>
    have hr0 := (Kd.V_reads' hs0).2.2
    have h0 : l0 = [] := by
      rcases Nat.eq_zero_or_pos l0.length with h | h
      · exact List.eq_nil_of_length_eq_zero h
      · obtain ⟨ad, e, _⟩ := hr0.2.2 h
        cases e
    subst h0
    clear hr0 hs0 hb h
    go_enter Tryd.func59, Tryd.ntmps59
    go_wp2
    go_ret
    exact ⟨_, rfl, Kd.N_nil _ _ _ _ _, Below.refl _ _⟩
  | some ad =>
    have HF := Aside0.mk (Kd.V_F (Kd.V_bound hs0))
    clear hs0 h
    have HO : Kd.N k45 45 (w.alloc (.cells #[] 45)) w.heap.size (fun k_ => P0_ k_ ∨ w.heap.size ≤ k_) (.slice (some ⟨w.heap.size, 0, none⟩) 0 0) [] :=
      ⟨fun k hk => .inr (by have : w.heap.size = k := by simpa [Value.ownBlock] using hk
                            omega), [], rfl, ⟨fun k hk => hk.symm, [], World.ownsRow_made w #[] 0 (Nat.le_refl _) (Nat.zero_le _) rfl, Reps.none _ _⟩, fun j x c hx => by simp at hx⟩
    have HOA := Aside0.mk HO
    clear HO
    go_enter Tryd.func59, Tryd.ntmps59
    go_wp2_with (at_builtin; go_loud (refine Kd.N_append_rows k45 (w0 := w) w.heap.size rfl _ _ 36 45 (.agg #[.string ByteArray.empty, .slice none 0 0]) 40 rfl Tryd.underlying36 api_File.info rfl (by decide) (by decide) (.slice (some ⟨w.heap.size, 0, none⟩) 0 0) [] l0 (some ad) l0.length c0 (fun k_ => P0_ k_ ∨ w.heap.size ≤ k_) (fun k_ => P0_ k_ ∧ k_ < w.heap.size) rfl rfl HOA.out (Kd.F_alloc HF.out _) (fun k hk => ⟨.inl hk.1, fun he => by have : k = w.heap.size := (by simpa [Value.ownBlock] using he); have := hk.2; omega⟩) (fun k hk => .inr (by have := YtcfcbkcaondfcaaDoorMpHelp.size_new w (.cells #[] 45); omega)) (below_alloc (Below.refl _ _) _) (by rw [YtcfcbkcaondfcaaDoorMpHelp.size_new]; omega) (by simp; omega) ?_); intro v1 w1 hN hB hg hob)
    go_ret
    exact ⟨_, rfl, hN, hB⟩


/-! ### strings_Count: function 90 (told by hand) -/
def strings_Count.f (a0 a1 : ByteArray) : Option Int := match a1.data.toList with
  | [c] => some ((Lib.countByte a0.data.toList c : Nat) : Int)
  | _ => none
theorem strings_Count.calls (a0 a1 : ByteArray) (r : Int) (w : World) (h : strings_Count.f a0 a1 = some r) : Calls Tryd.prog 90 #[.string a0, .string a1] w fun e w' => e = .returned (.int .i64 r) ∧ Drawn0 w w' := by
  obtain ⟨⟨l⟩⟩ := a1
  match l, h with
  | [c], h =>
    obtain rfl := Option.some.inj h
    refine (Tryd.strings_Count_one a0 c w).mono ?_
    rintro e w' ⟨rfl, rfl⟩
    exact ⟨rfl, Drawn0.refl _⟩


/-! ### strings_Index: function 91 (told by hand) -/
def strings_Index.f (a0 a1 : ByteArray) : Option Int := match a1.data.toList with
  | [c] => some (Lib.indexByte a0.data.toList c)
  | _ => none
theorem strings_Index.calls (a0 a1 : ByteArray) (r : Int) (w : World) (h : strings_Index.f a0 a1 = some r) : Calls Tryd.prog 91 #[.string a0, .string a1] w fun e w' => e = .returned (.int .i64 r) ∧ Drawn0 w w' := by
  obtain ⟨⟨l⟩⟩ := a1
  match l, h with
  | [c], h =>
    obtain rfl := Option.some.inj h
    refine (Tryd.strings_Index_one a0 c w).mono ?_
    rintro e w' ⟨rfl, rfl⟩
    exact ⟨rfl, Drawn0.refl _⟩


/-! ### strings_Split: function 47 (told by hand) -/
def strings_Split.f (a0 a1 : ByteArray) : Option (List ByteArray) := match a1.data.toList with
  | [c] => if a0.size ≤ 1000000 then some ((YtcfcbkcaondfcaaDoorMpHelp.splitL c a0.data.toList).map fun l => ⟨l.toArray⟩) else none
  | _ => none
theorem strings_Split.gen (a0 : ByteArray) (c : UInt8) (w : World) (hs : a0.size ≤ 1000000) : Calls Tryd.prog 72 #[.string a0, .string ⟨#[c]⟩, .int .i64 0, .int .i64 (-1)] w fun e w' =>
    e = .returned (.slice (some ⟨w.heap.size, 0, none⟩) (YtcfcbkcaondfcaaDoorMpHelp.splitL c a0.data.toList).length (YtcfcbkcaondfcaaDoorMpHelp.splitL c a0.data.toList).length) ∧ w' = w.alloc (.cells (((YtcfcbkcaondfcaaDoorMpHelp.splitL c a0.data.toList).map fun l => Value.string ⟨l.toArray⟩)).toArray 9) := by
  have hcb : Lib.countB a0 ⟨#[c]⟩ = a0.data.toList.count c := by
    exact Lib.count_one c a0.data.toList
  have hle : a0.data.toList.count c ≤ a0.size := by
    have h1 := List.count_le_length (a := c) (l := a0.data.toList)
    rw [Array.length_toList] at h1
    exact h1
  have hlen := Lib.splitB_all ⟨#[c]⟩ (Nat.le_refl 1) 0 _ a0 rfl
  rw [hcb, YtcfcbkcaondfcaaDoorMpHelp.splitB_one, List.length_map] at hlen
  refine (Any.strings_genSplit_core Tryd.lays221 (by kernel_rfl) a0 ⟨#[c]⟩ 0 (-1) (a0.data.toList.count c + 1) w (by omega) (Nat.le_refl 1) (Nat.zero_le _) (fun x cs _ => ?_) ?_ (by decide) (by decide) (by rw [hcb, if_pos (by decide), Int.min_eq_left (by omega)]; rfl)).mono ?_
  · refine (Tryd.strings_Index_one x c _).mono ?_
    rintro e w' ⟨rfl, rfl⟩
    exact ⟨by rw [show Lib.indexB x ⟨#[c]⟩ = Lib.index x.data.toList [c] from rfl, Lib.index_one], rfl⟩
  · refine (Tryd.strings_Count_one a0 c _).mono ?_
    rintro e w' ⟨rfl, rfl⟩
    exact ⟨by rw [hcb]; rfl, rfl⟩
  · rintro e w' ⟨rfl, rfl⟩
    rw [Nat.add_sub_cancel, YtcfcbkcaondfcaaDoorMpHelp.splitB_one, List.length_map, ← hlen]
    refine ⟨rfl, ?_⟩
    have hcl : Lib.cellsOf ((YtcfcbkcaondfcaaDoorMpHelp.splitL c a0.data.toList).map fun l => (⟨l.toArray⟩ : ByteArray)) (YtcfcbkcaondfcaaDoorMpHelp.splitL c a0.data.toList).length = ((YtcfcbkcaondfcaaDoorMpHelp.splitL c a0.data.toList).map fun l => Value.string ⟨l.toArray⟩).toArray := by
      have := Lib.cellsOf_full ((YtcfcbkcaondfcaaDoorMpHelp.splitL c a0.data.toList).map fun l => (⟨l.toArray⟩ : ByteArray))
      rw [List.length_map] at this
      rw [this, List.map_map]
      rfl
    rw [hcl]
    rfl
theorem strings_Split.calls_at (a0 : ByteArray) (c : UInt8) (w : World) (hs : a0.size ≤ 1000000) : Calls Tryd.prog 47 #[.string a0, .string ⟨#[c]⟩] w fun e w' =>
    e = .returned (.slice (some ⟨w.heap.size, 0, none⟩) (YtcfcbkcaondfcaaDoorMpHelp.splitL c a0.data.toList).length (YtcfcbkcaondfcaaDoorMpHelp.splitL c a0.data.toList).length) ∧ w' = w.alloc (.cells (((YtcfcbkcaondfcaaDoorMpHelp.splitL c a0.data.toList).map fun l => Value.string ⟨l.toArray⟩)).toArray 9) := by
  generalize hL : YtcfcbkcaondfcaaDoorMpHelp.splitL c a0.data.toList = L
  have HL := Aside0.mk hL
  clear hL
  go_enter Tryd.func47, Tryd.ntmps47
  go_wp2_with fail
  refine (strings_Split.gen a0 c w hs).mono ?_
  rw [HL.out]
  rintro e w' ⟨rfl, rfl⟩
  go_wp2
  go_ret
  exact ⟨rfl, rfl⟩
theorem strings_Split.calls (a0 a1 : ByteArray) (r : List ByteArray) (w : World) (h : strings_Split.f a0 a1 = some r) : Calls Tryd.prog 47 #[.string a0, .string a1] w fun e w' => ∃ v0_ : Value, e = .returned (v0_) ∧ Kd.R Kd.string 9 w' w.heap.size (fun _ => True) v0_ r ∧ Below w.heap.size w w' := by
  obtain ⟨⟨l⟩⟩ := a1
  match l, h with
  | [c], h =>
    simp only [strings_Split.f] at h
    by_cases hs : a0.size ≤ 1000000
    · rw [if_pos hs] at h
      obtain rfl := Option.some.inj h
      refine (strings_Split.calls_at a0 c w hs).mono ?_
      rintro e w' ⟨rfl, rfl⟩
      refine ⟨_, rfl, ⟨fun _ _ => trivial, (YtcfcbkcaondfcaaDoorMpHelp.splitL c a0.data.toList).map fun l => Value.string ⟨l.toArray⟩, ⟨by simp [Kd.string, Kd.scalar], .inr ⟨w.heap.size, (YtcfcbkcaondfcaaDoorMpHelp.splitL c a0.data.toList).length, _, by simp, Nat.le_refl _, YtcfcbkcaondfcaaDoorMpHelp.heap_new _ _, by simp, ?_, by simp [Kd.string, Kd.scalar], by simp [Kd.string, Kd.scalar, List.take_of_length_le]⟩⟩, ?_⟩, below_alloc (Below.refl _ _) _⟩
      · have h1 : (YtcfcbkcaondfcaaDoorMpHelp.splitL c a0.data.toList).length ≤ a0.size + 1 := by
          have hlen := Lib.splitB_all ⟨#[c]⟩ (Nat.le_refl 1) 0 _ a0 rfl
          have hcb : Lib.countB a0 ⟨#[c]⟩ = a0.data.toList.count c := by
            exact Lib.count_one c a0.data.toList
          rw [hcb, YtcfcbkcaondfcaaDoorMpHelp.splitB_one, List.length_map] at hlen
          have h1 := List.count_le_length (a := c) (l := a0.data.toList)
          rw [Array.length_toList] at h1
          have : a0.data.size = a0.size := rfl
          omega
        refine Nat.le_trans h1 (Nat.le_trans (Nat.succ_le_succ hs) (by decide))
      · refine ⟨by simp [Kd.string, Kd.scalar], fun j p hj => ?_⟩
        rw [List.getElem?_map] at hj
        obtain ⟨q, hq, rfl⟩ := Option.map_eq_some_iff.1 hj
        show List.take 1 (List.drop (j * 1) ((YtcfcbkcaondfcaaDoorMpHelp.splitL c a0.data.toList).map fun l => Value.string ⟨l.toArray⟩)) = [Value.string ⟨q.toArray⟩]
        obtain ⟨hlt, hget⟩ := List.getElem?_eq_some_iff.1 hq
        rw [Nat.mul_one, List.drop_eq_getElem_cons (by rw [List.length_map]; exact hlt), List.getElem_map, hget]
        rfl
    · rw [if_neg hs] at h
      cases h


/-! ### member_part: function 51 (told by hand) -/
def member_part.f (a0 : ByteArray) : Option Bool := some (YtcfcbkcaondfcaaDoorMpHelp.partB a0.data.toList)
def member_part.fine (c : Nat) : Bool := decide (33 ≤ c) && decide (c ≤ 126)
theorem member_part.all_of (s : ByteArray) (h : ∀ j (hj : j < s.size), member_part.fine (s[j]'hj).toNat = true) : s.data.toList.all (fun c => decide (33 ≤ c.toNat) && decide (c.toNat ≤ 126)) = true := by
  rw [List.all_eq_true]
  intro c hc
  obtain ⟨j, hj, rfl⟩ := List.getElem_of_mem hc
  have hj' : j < s.size := by
    rw [Array.length_toList] at hj
    exact hj
  exact h j hj'
theorem member_part.not_all (s : ByteArray) (j : Nat) (hj : j < s.size) (h : member_part.fine (s[j]'hj).toNat = false) : YtcfcbkcaondfcaaDoorMpHelp.partB s.data.toList = false := by
  unfold YtcfcbkcaondfcaaDoorMpHelp.partB
  have hm : s[j]'hj ∈ s.data.toList := by
    have : s[j]'hj = s.data.toList[j]'(by rw [Array.length_toList]; exact hj) := rfl
    rw [this]
    exact List.getElem_mem _
  have : s.data.toList.all (fun c => decide (33 ≤ c.toNat) && decide (c.toNat ≤ 126)) = false := by
    rw [List.all_eq_false]
    refine ⟨_, hm, ?_⟩
    show ¬ (member_part.fine (s[j]'hj).toNat = true)
    rw [h]
    decide
  rw [this]
  rfl
set_option maxRecDepth 1000000 in
set_option maxHeartbeats 4000000 in
theorem member_part.calls (a0 : ByteArray) (r : Bool) (w : World) (h : member_part.f a0 = some r) : Calls Tryd.prog 51 #[.string a0] w fun e w' => e = .returned (.bool r) ∧ Below w.heap.size w w' := by
  have HR := Aside0.mk (Option.some.inj h)
  clear h
  go_enter Tryd.func51, Tryd.ntmps51
  go_wp2
  go_loopw [] (fun w' => ∃ (pos : Nat), w' = w.iter a0 pos ∧ Aside0 (∀ j (hj : j < a0.size), j < pos → member_part.fine (a0[j]'hj).toNat = true)) (fun w' => a0.size - w'.iterPos w.heap.size)
  case atStart => exact ⟨0, rfl, ⟨fun j _ hj => absurd hj (Nat.not_lt_zero _)⟩⟩
  case round =>
    obtain ⟨pos, rfl, HA⟩ := hrel
    by_cases hp : pos < a0.size
    · have hnx : ∀ ty, (Instr.next (.pointer (some ⟨w.heap.size, 0, none⟩)) true ty).run Tryd.prog (w.iter a0 pos) = _ := fun ty => run_next_any w a0 pos ty hp
      obtain ⟨rn, hrn⟩ : ∃ rn, rn = (Utf8.decode a0 pos).1 := ⟨_, rfl⟩
      obtain ⟨wd, hwd⟩ : ∃ wd, wd = (Utf8.decode a0 pos).2 := ⟨_, rfl⟩
      rw [← hrn, ← hwd] at hnx
      by_cases hf : member_part.fine (a0[pos]'hp).toNat = true
      · have ha : (a0[pos]'hp).toNat < 128 := by
          simp [member_part.fine] at hf
          omega
        have hd := decode_ascii a0 pos hp ha
        rw [hd] at hrn hwd
        dsimp only at hrn hwd
        subst hwd
        have h33 : 33 ≤ rn := by
          simp [member_part.fine] at hf
          omega
        have h126 : rn ≤ 126 := by
          simp [member_part.fine] at hf
          omega
        have HA2 : Aside0 (∀ j (hj : j < a0.size), j < pos + 1 → member_part.fine (a0[j]'hj).toNat = true) := ⟨fun j hj hlt => by
          by_cases e : j = pos
          · subst e
            exact hf
          · exact HA.out j hj (by omega)⟩
        clear hf HA hrn ha hd HR
        have b1 : decide ((rn : Int) < 33) = false := decide_eq_false (by omega)
        have b2 : decide (126 < (rn : Int)) = false := decide_eq_false (by omega)
        clear h33 h126
        go_wp2
        go_roundw
        case rel => exact ⟨pos + 1, rfl, HA2⟩
        case measure =>
          simp
          omega
      · have hf' : member_part.fine (a0[pos]'hp).toNat = false := by simpa using hf
        have hr := member_part.not_all a0 pos hp hf'
        have HF := Aside0.mk (HR.out.symm.trans hr)
        have hlo : rn < 33 ∨ 126 < rn := by
          by_cases ha : (a0[pos]'hp).toNat < 128
          · have hd := decode_ascii a0 pos hp ha
            rw [hd] at hrn
            dsimp only at hrn
            simp [member_part.fine] at hf'
            omega
          · have hh := decode_high a0 pos hp (by omega)
            omega
        clear hr hf hf' HA HR hrn hwd
        rcases hlo with hlo | hlo
        · have b1 : decide ((rn : Int) < 33) = true := decide_eq_true (by omega)
          clear hlo
          go_wp2
          go_ret
          exact ⟨by rw [HF.out]; rfl, below_alloc (Below.refl _ _) _⟩
        · have b1 : decide ((rn : Int) < 33) = false := decide_eq_false (by omega)
          have b2 : decide (126 < (rn : Int)) = true := decide_eq_true (by omega)
          clear hlo
          go_wp2
          go_ret
          exact ⟨by rw [HF.out]; rfl, below_alloc (Below.refl _ _) _⟩
    · have hnx : ∀ ty, (Instr.next (.pointer (some ⟨w.heap.size, 0, none⟩)) true ty).run Tryd.prog (w.iter a0 pos) = _ := fun ty => run_next_end w a0 pos ty hp
      have hall := member_part.all_of a0 (fun j hj => HA.out j hj (by omega))
      have hr := HR.out
      unfold YtcfcbkcaondfcaaDoorMpHelp.partB at hr
      rw [hall] at hr
      rw [← Lib.toList_data] at hr
      have HF := Aside0.mk hr
      clear hr hall HR HA
      go_wp2
      all_goals
        go_ret
        refine ⟨?_, below_alloc (Below.refl _ _) _⟩
        rw [← HF.out]
        first
        | rfl
        | (simp only [*]; rfl)
        | (simp [*]; done)


/-! ### member_Right: function 25 (told by hand) -/
def member_Right.f (a0 : ByteArray) : Option Bool := some (YtcfcbkcaondfcaaDoorMpHelp.rightB a0.data.toList)
theorem member_Right.clo (s : ByteArray) (w : World) : Calls Tryd.prog 50 #[.string s] w fun e w' => e = .returned (.bool (!YtcfcbkcaondfcaaDoorMpHelp.partB s.data.toList)) ∧ Below w.heap.size w w' := by
  generalize hb : YtcfcbkcaondfcaaDoorMpHelp.partB s.data.toList = b
  have HB := Aside0.mk hb
  clear hb
  go_enter Tryd.func50, Tryd.ntmps50
  go_wp2_with fail
  refine (member_part.calls s b _ (by unfold member_part.f; rw [HB.out])).mono ?_
  rintro e w1 ⟨rfl, hb⟩
  have HW := Aside0.mk hb
  clear hb HB
  go_wp2
  go_ret
  exact ⟨rfl, HW.out⟩
/-- Where the first part stands that may not be. -/
def member_Right.bad (L : List (List UInt8)) : Int := if L.all YtcfcbkcaondfcaaDoorMpHelp.partB = true then -1 else 0
set_option maxRecDepth 100000 in
set_option maxHeartbeats 4000000 in
theorem member_Right.idx (b : Nat) (L : List (List UInt8)) (n : Nat) (w : World) (hL : L.length ≤ 1000000) (hb : w.heap[b]? = some (.cells (L.map fun l => Value.string ⟨l.toArray⟩).toArray 9 (0, 0))) :
    Calls Tryd.prog 75 #[.slice (some ⟨b, 0, none⟩) L.length n, .func (.func 50) #[] #[]] w fun e w' => (∃ r : Int, e = .returned (.int .i64 r) ∧ decide (r ≥ 0) = !(L.all YtcfcbkcaondfcaaDoorMpHelp.partB)) ∧ Below w.heap.size w w' := by
  have HBL := Aside0.mk hb
  clear hb
  go_enter Tryd.func75, Tryd.ntmps75
  go_wp2_with fail
  go_loopw [8] (fun i w' => ∃ k : Nat, k ≤ L.length ∧ i = .int .i64 k ∧ Aside0 ((L.take k).all YtcfcbkcaondfcaaDoorMpHelp.partB = true) ∧ Aside0 (Below w.heap.size w w')) (fun i _ => L.length - (intOf i).toNat)
  case atStart => exact ⟨0, Nat.zero_le _, rfl, ⟨by simp⟩, ⟨Below.refl _ _⟩⟩
  case round =>
    obtain ⟨k, hk, rfl, HA, HB⟩ := hrel
    by_cases hlt : k < L.length
    · have hcell := cell_of_row _ b k _ _ _ (blk_below HBL.out HB.out)
      rw [List.getElem?_toArray, List.getElem?_map, List.getElem?_eq_getElem hlt, Option.map_some] at hcell
      generalize hq : L[k]'hlt = q at hcell
      have hfr := blk_frozen (blk_below HBL.out HB.out) k
      cases hp : YtcfcbkcaondfcaaDoorMpHelp.partB q with
      | true =>
        have HA2 : Aside0 ((L.take (k + 1)).all YtcfcbkcaondfcaaDoorMpHelp.partB = true) := ⟨by
          rw [List.take_succ_eq_append_getElem hlt, List.all_append, HA.out, hq]
          simp [hp]⟩
        have HP := Aside0.mk hp
        have HW0 := Aside0.mk HB.out.size
        clear hp HA hq
        go_wp2_with fail
        refine (member_Right.clo ⟨q.toArray⟩ _).mono ?_
        rw [show (⟨q.toArray⟩ : ByteArray).data.toList = q from rfl, HP.out]
        rintro e w1 ⟨rfl, hb⟩
        have HB2 := Aside0.mk (below_step HB.out hb)
        clear hb HB HP hcell
        go_wp2
        go_roundw
        case rel => exact ⟨k + 1, by omega, by go_num, HA2, HB2⟩
        case measure => simp [intOf]; omega
      | false =>
        have HR : Aside0 (L.all YtcfcbkcaondfcaaDoorMpHelp.partB = false) := ⟨by
          rw [List.all_eq_false]
          exact ⟨q, hq ▸ List.getElem_mem hlt, by rw [hp]; decide⟩⟩
        have HP := Aside0.mk hp
        clear hp HA hq
        go_wp2_with fail
        refine (member_Right.clo ⟨q.toArray⟩ _).mono ?_
        rw [show (⟨q.toArray⟩ : ByteArray).data.toList = q from rfl, HP.out]
        rintro e w1 ⟨rfl, hb⟩
        have HB2 := Aside0.mk (below_step HB.out hb)
        clear hb HB HP hcell
        go_wp2
        go_ret
        exact ⟨⟨_, rfl, by rw [HR.out]; simp⟩, HB2.out⟩
    · have hk' : k = L.length := by omega
      subst hk'
      have HR : Aside0 (L.all YtcfcbkcaondfcaaDoorMpHelp.partB = true) := ⟨by
        have := HA.out
        rwa [List.take_length] at this⟩
      clear HA
      go_wp2
      go_ret
      exact ⟨⟨_, rfl, by rw [HR.out]; simp⟩, HB.out⟩
set_option maxRecDepth 100000 in
theorem member_Right.con (b : Nat) (L : List (List UInt8)) (n : Nat) (w : World) (hL : L.length ≤ 1000000) (hb : w.heap[b]? = some (.cells (L.map fun l => Value.string ⟨l.toArray⟩).toArray 9 (0, 0))) :
    Calls Tryd.prog 49 #[.slice (some ⟨b, 0, none⟩) L.length n, .func (.func 50) #[] #[]] w fun e w' => e = .returned (.bool (!(L.all YtcfcbkcaondfcaaDoorMpHelp.partB))) ∧ Below w.heap.size w w' := by
  generalize hx : (!(L.all YtcfcbkcaondfcaaDoorMpHelp.partB)) = x
  have HX := Aside0.mk hx
  clear hx
  have HBL := Aside0.mk hb
  clear hb
  go_enter Tryd.func49, Tryd.ntmps49
  go_wp2_with fail
  refine (member_Right.idx b L n _ hL HBL.out).mono ?_
  rintro e w1 ⟨⟨r, rfl, hr⟩, hb⟩
  rw [HX.out] at hr
  have HW := Aside0.mk hb
  have HR := Aside0.mk hr
  clear hb HX HBL hr
  go_wp2
  go_ret
  exact ⟨by rw [← HR.out]; rfl, HW.out⟩
set_option maxRecDepth 100000 in
theorem member_Right.calls (a0 : ByteArray) (r : Bool) (w : World) (h : member_Right.f a0 = some r) : Calls Tryd.prog 25 #[.string a0] w fun e w' => e = .returned (.bool r) ∧ Below w.heap.size w w' := by
  have hr := Option.some.inj h
  unfold YtcfcbkcaondfcaaDoorMpHelp.rightB at hr
  rw [show a0.data.toList.length = a0.size from by rw [Array.length_toList]; rfl] at hr
  clear h
  by_cases hs : a0.size ≤ 64
  · rw [decide_eq_true hs, Bool.true_and] at hr
    have HR := Aside0.mk hr
    clear hr
    have hlen : (YtcfcbkcaondfcaaDoorMpHelp.splitL 47 a0.data.toList).length ≤ 1000000 := by
      have hlen := Lib.splitB_all ⟨#[47]⟩ (Nat.le_refl 1) 0 _ a0 rfl
      have hcb : Lib.countB a0 ⟨#[47]⟩ = a0.data.toList.count 47 := Lib.count_one 47 a0.data.toList
      rw [hcb, YtcfcbkcaondfcaaDoorMpHelp.splitB_one, List.length_map] at hlen
      have h1 := List.count_le_length (a := (47 : UInt8)) (l := a0.data.toList)
      rw [Array.length_toList] at h1
      have : a0.data.size = a0.size := rfl
      omega
    have h64 : decide ((a0.size : Int) ≤ 64) = true := decide_eq_true (by omega)
    have HS := Aside0.mk hs
    have HL := Aside0.mk hlen
    clear hs hlen
    go_enter Tryd.func25, Tryd.ntmps25
    go_wp2_with fail
    have hs := HS.out
    refine (strings_Split.calls_at a0 47 w (by omega)).mono ?_
    clear hs
    generalize YtcfcbkcaondfcaaDoorMpHelp.splitL 47 a0.data.toList = L at HR HL ⊢
    rintro e w1 ⟨rfl, rfl⟩
    go_wp2_with fail
    refine (member_Right.con w.heap.size L _ _ HL.out (YtcfcbkcaondfcaaDoorMpHelp.heap_new _ _)).mono ?_
    rw [HR.out]
    rintro e w2 ⟨rfl, hb⟩
    have HW := Aside0.mk (below_step (below_alloc (Below.refl w.heap.size w) _) hb)
    clear hb HR HL
    go_wp2
    go_ret
    exact ⟨by simp, HW.out⟩
  · rw [decide_eq_false hs, Bool.false_and] at hr
    subst hr
    have h64 : decide ((a0.size : Int) ≤ 64) = false := decide_eq_false (by omega)
    clear hs
    go_enter Tryd.func25, Tryd.ntmps25
    go_wp2
    go_ret
    exact ⟨rfl, Below.refl _ _⟩


end Go.Proofs.YtcfcbkcaondfcaaDoor.PPlanApplies
