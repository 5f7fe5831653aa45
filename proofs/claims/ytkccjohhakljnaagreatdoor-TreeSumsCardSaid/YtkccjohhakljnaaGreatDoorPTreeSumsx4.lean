/- The machine side of a law: for each Go function that it uses a Lean function with the same answers, and the proof that the Go code comes to them; or the row of the law over these. Written by a program of this session. -/
import Derived.Test.YtkccjohhakljnaaGreatDoorPTreeSumsx0
import Derived.Test.YtkccjohhakljnaaGreatDoorPTreeSumsx2
import Derived.Test.YtkccjohhakljnaaGreatDoorPTreeSumsx3
namespace Go.Proofs.YtkccjohhakljnaaGreatDoor.PTreeSums
open Go.RowKit Go.Proofs.YtkccjohhakljnaaGreatDoorW.PrintWords Go.Proofs.YtkccjohhakljnaaGreatDoorW.PrintLast Go.Proofs.YtkccjohhakljnaaGreatDoorW.PrintMore
attribute [local go_sem] max2_int min2_int max_two min_two max_three min_three max_four min_four   -- for this text's walks alone
set_option linter.unusedVariables false
set_option linter.unusedSimpArgs false

/-! ### tree_List: function 10 -/
def tree_List.l0 : Nat → List (S49) → ByteArray → List (S34) → List ByteArray → Int → Int → Option ((List (S34)))
 | 0, _, _, _, _, _, _ => none
 | k + 1, x0, x1, x5, x11, x12, x13 => if x13 < x12 then (if 0 ≤ x13 then (if x13 < (x11.length : Int) then ((tree_node.f x0 x1 (rdOf ByteArray.empty x11 x13)).bind fun bt173 => (if x5.length < 3518437208883 then (tree_List.l0 k x0 x1 (x5 ++ [(⟨bt173.1, bt173.2.1, bt173.2.2.1, bt173.2.2.2⟩ : S34)]) x11 x12 (wrap64 (x13 + 1))) else (none))) else (none)) else (none)) else (some x5)
def tree_List.f (k : Nat) (l0 : List (S49)) (a1 : ByteArray) : Option ((List (S34))) := (tree_names.f k l0).bind fun t166 => ((member_Children.f k t166 a1).bind fun t169 => (tree_List.l0 k l0 a1 ([] : List (S34)) t169 (t169.length : Int) 0))
theorem tree_List.mono_l : ∀ k, (∀ y0 y1 y2 y3 y4 y5, LeO (tree_List.l0 k y0 y1 y2 y3 y4 y5) (tree_List.l0 (k + 1) y0 y1 y2 y3 y4 y5))
 | 0 => fun _ _ _ _ _ _ r h => by simp [tree_List.l0] at h
 | k + 1 => by
  have ih0 := tree_List.mono_l k
  ·intro y0 y1 y2 y3 y4 y5
   unfold tree_List.l0
   repeat' first
   | (with_reducible exact ih0 _ _ _ _ _ _)
   | (with_reducible exact member_Children.mono _ _ _)
   | (with_reducible exact tree_names.mono _ _)
   | (with_reducible exact LeO.refl _)
   | (with_reducible exact LeO.none _)
   | (with_reducible refine LeO.ite ?_ ?_)
   | (with_reducible refine LeO.bind ?_ (fun _ => ?_))
   | exact ih0 _ _ _ _ _ _
   | exact member_Children.mono _ _ _
   | exact tree_names.mono _ _
   | exact LeO.none _
   | refine LeO.ite ?_ ?_
   | refine LeO.bind ?_ (fun _ => ?_)
theorem tree_List.mono : ∀ a0 a1 k, LeO (tree_List.f k a0 a1) (tree_List.f (k + 1) a0 a1) := by
 intro a0 a1 k
 have ih0 := tree_List.mono_l k
 unfold tree_List.f
 repeat' first
   | (with_reducible exact ih0 _ _ _ _ _ _)
   | (with_reducible exact member_Children.mono _ _ _)
   | (with_reducible exact tree_names.mono _ _)
   | (with_reducible exact LeO.refl _)
   | (with_reducible exact LeO.none _)
   | (with_reducible refine LeO.ite ?_ ?_)
   | (with_reducible refine LeO.bind ?_ (fun _ => ?_))
   | exact ih0 _ _ _ _ _ _
   | exact member_Children.mono _ _ _
   | exact tree_names.mono _ _
   | exact LeO.none _
   | refine LeO.ite ?_ ?_
   | refine LeO.bind ?_ (fun _ => ?_)
set_option maxHeartbeats 8000000 in
set_option maxRecDepth 100000 in
theorem tree_List.calls (k : Nat) (A0 : Option Addr) (c0 : Nat) (l0 : List (S49)) (a1 : ByteArray) (r : List (S34)) (w : World) (hr0 : Kd.C k49 w A0 l0.length l0) (hc0 : l0.length ≤ c0) (h : tree_List.f k l0 a1 = some r) :
  Calls Tryz.prog 10 #[.slice A0 l0.length c0, .string a1] w fun e w' => ∃ v0_ : Value, e = .returned (v0_) ∧ Kd.R k34 34 w' w.heap.size (fun _ => True) v0_ r ∧ Below w.heap.size w w' := by
 have HR0 := Aside0.mk hr0
 have HC0 := Aside0.mk hc0
 clear hr0 hc0
 have HB := Aside0.mk (Below.refl w.heap.size w)
 have H : ((tree_names.f k l0).bind fun t166 => ((member_Children.f k t166 a1).bind fun t169 => (tree_List.l0 k l0 a1 ([] : List (S34)) t169 (t169.length : Int) 0))) = some r := h
 clear h
 replace H := Option.bind_eq_some_iff.mp H
 obtain ⟨t166, A30, H⟩ := H
 replace H : ((member_Children.f k t166 a1).bind fun t169 => (tree_List.l0 k l0 a1 ([] : List (S34)) t169 (t169.length : Int) 0)) = some r := H
 have A3 := Aside0.mk A30
 clear A30
 replace H := Option.bind_eq_some_iff.mp H
 obtain ⟨t169, A40, H⟩ := H
 replace H : (tree_List.l0 k l0 a1 ([] : List (S34)) t169 (t169.length : Int) 0) = some r := H
 have A4 := Aside0.mk A40
 clear A40
 have H' := Aside0.mk H
 clear H
 go_enter Tryz.func10, Tryz.ntmps10
 go_wp2_with (first | ((with_reducible refine gate_callee (f := 26) rfl ?_); refine goesL_ (some 9) rfl rfl Tryz.func26 (by kernel_rfl) rfl #[.slice A0 l0.length c0] rfl (by (try simp only [List.map_toArray, List.map_cons, List.map_nil]); first | done | rfl | (simp only [List.length_drop, List.length_take]; rfl)) ?_; (with_reducible refine (tree_names.calls k _ _ l0 t166 _ ?side1 ?side2 A3.out).mono ?_); (case side1 => repeat (first | exact HR0.out | (with_reducible refine Kd.C_alloc ?_ _) | (with_reducible refine Kd.C_drewN ?_ _) | (with_reducible refine Kd.C_drew ?_))); (case side2 => exact HC0.out); rintro e w5 ⟨v167, rfl, ho0, hb⟩; refine ⟨_, rfl, ?_⟩; have n0_ := Aside0.mk (Kd.R_lower ho0 (below_size (by repeat (first | (with_reducible first | exact HB.out | apply below_alloc | apply pw_below_drewN | apply below_drew1) | exact HB.out)))); have n1_ := Aside0.mk (below_step (by repeat (first | (with_reducible first | exact HB.out | apply below_alloc | apply pw_below_drewN | apply below_drew1) | exact HB.out)) hb); clear HB; have HO168 := n0_; have HB := n1_; clear n0_ n1_; (try clear hb); (try clear hb2); (try clear hk); (try clear hi); (try clear ho0); obtain ⟨Ao6, co6, eo6⟩ := Kd.R_slice HO168.out; subst eo6) | ((with_reducible refine gate_callee (f := 25) rfl ?_); refine goesL_ (some 11) rfl rfl Tryz.func25 (by kernel_rfl) rfl #[.slice Ao6 t166.length co6, .string a1] rfl (by (try simp only [List.map_toArray, List.map_cons, List.map_nil]); first | done | rfl | (simp only [List.length_drop, List.length_take]; rfl)) ?_; (with_reducible refine (member_Children.calls k _ _ t166 a1 t169 _ ?side1 ?side2 A4.out).mono ?_); (case side1 => repeat (first | exact (Kd.R_reads' HO168.out).2.2 | (with_reducible refine Kd.C_alloc ?_ _) | (with_reducible refine Kd.C_drewN ?_ _) | (with_reducible refine Kd.C_drew ?_))); (case side2 => exact (Kd.R_reads' HO168.out).2.1); rintro e w7 ⟨v170, rfl, ho0, hb⟩; refine ⟨_, rfl, ?_⟩; have n0_ := Aside0.mk (Kd.R_elder' (by (with_reducible repeat (first | apply Kd.R_alloc | apply Kd.R_drewN | apply Kd.R_drew)); exact HO168.out) (Kd.R_base ho0) hb); have n1_ := Aside0.mk (Kd.R_lower (Kd.R_new' ho0 (Kd.R_lt (by (with_reducible repeat (first | apply Kd.R_alloc | apply Kd.R_drewN | apply Kd.R_drew)); exact HO168.out))) (below_size (by repeat (first | (with_reducible first | exact HB.out | apply below_alloc | apply pw_below_drewN | apply below_drew1) | exact HB.out)))); have n2_ := Aside0.mk (below_step (by repeat (first | (with_reducible first | exact HB.out | apply below_alloc | apply pw_below_drewN | apply below_drew1) | exact HB.out)) hb); clear HO168; clear HB; have HO168 := n0_; have HO171 := n1_; have HB := n2_; clear n0_ n1_ n2_; (try clear hb); (try clear hb2); (try clear hk); (try clear hi); (try clear ho0); obtain ⟨Ao8, co8, eo8⟩ := Kd.R_slice HO171.out; subst eo8))
 go_loopg [5, 13] k (fun kq v5 v13 w' => ∃ (x5_1 : List (S34)) (x13_1 : Int), v13 = .int .i64 x13_1 ∧ Aside0 (tree_List.l0 kq l0 a1 x5_1 t169 (t169.length : Int) x13_1 = some r) ∧ Aside0 (kq ≤ k) ∧ Aside0 (Kd.R k34 34 w' w.heap.size (fun _ => True) v5 x5_1) ∧ Aside0 (Kd.R Kd.string 9 w' w.heap.size (fun _ => True) (.slice Ao8 t169.length co8) t169) ∧ Aside0 (Below w.heap.size w w'))
 case atStart => exact ⟨(([] : List (S34))), (0), (by first | rfl | (simp only [YtkccjohhakljnaaGreatDoorMpHelp.leq_not, YtkccjohhakljnaaGreatDoorMpHelp.gtr_less]; done) | (simp; done) | (simp [*]; done)), H', ⟨Nat.le_refl _⟩, ⟨by first | exact Kd.R_nil _ _ _ _ _ | exact Kd.N_nil _ _ _ _ _ | exact Kd.V_nil _ _ _ _ _ | exact Kd.Q_nil _ _ _ _ _ | exact Kd.S_nil _ _ _ _ _⟩, ⟨by (with_reducible repeat (first | apply Kd.R_alloc | apply Kd.R_drewN | apply Kd.R_drew)); exact Kd.R_mono HO171.out (fun _ hk => trivial)⟩, ⟨by repeat (first | (with_reducible first | exact HB.out | apply below_alloc | apply pw_below_drewN | apply below_drew1) | exact HB.out)⟩⟩
 case round =>
  clear H'
  try clear c1
  try clear c2
  try clear p2
  obtain ⟨x5_1, x13_1, rfl, HA, HK1, HO_5, HO_11, HB⟩ := hrel
  cases gk with
  | zero => exact absurd HA.out (by simp [tree_List.l0])
  | succ k1 =>
   have H := HA.out
   clear HA
   simp only [tree_List.l0] at H
   by_cases c9 : x13_1 < (t169.length : Int)
   ·rw [if_pos c9] at H
    have c9b0 : decide (x13_1 < (t169.length : Int)) = true := decide_eq_true c9
    clear c9
    by_cases c10 : 0 ≤ x13_1
    ·rw [if_pos c10] at H
     have c10b0 : decide (0 ≤ x13_1) = true := decide_eq_true c10
     clear c10
     by_cases c11 : x13_1 < (t169.length : Int)
     ·rw [if_pos c11] at H
      have c11b0 : decide (x13_1 < (t169.length : Int)) = true := decide_eq_true c11
      clear c11
      replace H := Option.bind_eq_some_iff.mp H
      obtain ⟨⟨t173, t174, t175, t176⟩, A120, H⟩ := H
      replace H : (if x5_1.length < 3518437208883 then (tree_List.l0 k1 l0 a1 (x5_1 ++ [(⟨t173, t174, t175, t176⟩ : S34)]) t169 (t169.length : Int) (wrap64 (x13_1 + 1))) else (none)) = some r := H
      have A12 := Aside0.mk A120
      clear A120
      by_cases c13 : x5_1.length < 3518437208883
      ·rw [if_pos c13] at H
       have LMc13 := Aside0.mk c13
       clear c13
       obtain ⟨y177, hy177⟩ : ∃ y_ : List (S34), y_ = (x5_1 ++ [(⟨t173, t174, t175, t176⟩ : S34)]) := ⟨_, rfl⟩
       replace H : (tree_List.l0 k1 l0 a1 y177 t169 (t169.length : Int) (wrap64 (x13_1 + 1))) = some r := by first | (rw [hy177]; with_reducible exact H) | (have H2_ := (Option.bind_some _ _).symm.trans H; rw [hy177]; with_reducible exact H2_) | (have H2_ := (Option.bind_some _ _).symm.trans H; with_reducible exact H2_) | with_reducible exact H | (rw [hy177]; exact H) | exact H
       have Ny177 := Aside0.mk hy177
       clear hy177
       have H' := Aside0.mk H
       clear H
       have p172 : 0 ≤ (x13_1 : Int) := of_decide_eq_true (by first | (with_reducible assumption) | assumption)
       have q172 : x13_1 < (t169.length : Int) := of_decide_eq_true (by first | (with_reducible assumption) | assumption)
       obtain ⟨ad172, e172, hx172_0⟩ := Kd.at_string (Kd.R_reads' HO_11.out).2.2 x13_1 p172 q172
       cases e172
       replace p172 := eq_true p172
       replace q172 := eq_true q172
       go_wp2_with (first | ((with_reducible refine gate_callee (f := 27) rfl ?_); refine goesL_ (some 21) rfl rfl Tryz.func27 (by kernel_rfl) rfl #[.slice A0 l0.length c0, .string a1, .string (rdOf ByteArray.empty t169 x13_1)] rfl (by (try simp only [List.map_toArray, List.map_cons, List.map_nil]); first | done | rfl | (simp only [List.length_drop, List.length_take]; rfl)) ?_; (with_reducible refine (tree_node.calls _ _ l0 a1 (rdOf ByteArray.empty t169 x13_1) t173 t174 t175 t176 _ ?side1 ?side2 A12.out).mono ?_); (case side1 => repeat (first | exact (Kd.C_below HR0.out HB.out) | (with_reducible refine Kd.C_alloc ?_ _) | (with_reducible refine Kd.C_drewN ?_ _) | (with_reducible refine Kd.C_drew ?_))); (case side2 => exact HC0.out); rintro e w14 ⟨rfl, hb⟩; refine ⟨_, rfl, ?_⟩; have n0_ := Aside0.mk (Kd.R_below (by (with_reducible repeat (first | apply Kd.R_alloc | apply Kd.R_drewN | apply Kd.R_drew)); exact HO_5.out) hb); have n1_ := Aside0.mk (Kd.R_below (by (with_reducible repeat (first | apply Kd.R_alloc | apply Kd.R_drewN | apply Kd.R_drew)); exact HO_11.out) hb); have n2_ := Aside0.mk (below_step (by repeat (first | (with_reducible first | exact HB.out | apply below_alloc | apply pw_below_drewN | apply below_drew1) | exact HB.out)) hb); clear HO_5; clear HO_11; clear HB; have HO_5 := n0_; have HO_11 := n1_; have HB := n2_; clear n0_ n1_ n2_; (try clear hb); (try clear hb2); (try clear hk); (try clear hi)) | ((with_reducible refine gate_builtin (b := .append) (xs := #[.tmp 17, .tmp 22]) rfl ?_); at_builtin; refine Kd.R_append k34 (w0 := w) w.heap.size rfl (.tmp 17) (.tmp 22) 27 34 (.agg #[(.string ⟨#[]⟩), (.int .i64 0), (.int .i64 0), (.bool false)]) 40 rfl Tryz.underlying27 info34 rfl (by decide) (by omega) u5 x5_1 (⟨t173, t174, t175, t176⟩ : S34) [.string t173, .int .i64 t174, .int .i64 t175, .bool t176] (fun _ => True) (fun _ => False) rfl rfl ?aP (fun _ hk => hk.elim) ?aF ?aO ?aB ?aS ?aL ?_; (case aP => exact k34_mkM _ _ _ (⟨t173, t174, t175, t176⟩ : S34)); (case aB => exact (by repeat (first | (with_reducible first | exact HB.out | apply below_alloc | apply pw_below_drewN | apply below_drew1) | exact HB.out))); (case aF => exact (fun _ _ => trivial)); (case aO => exact (by (with_reducible repeat (first | apply Kd.R_alloc | apply Kd.R_drewN | apply Kd.R_drew)); exact HO_5.out)); (case aS => exact (below_size (by repeat (first | (with_reducible first | exact HB.out | apply below_alloc | apply pw_below_drewN | apply below_drew1) | exact HB.out)))); (case aL => have := LMc13.out; omega); intro v178 w15 ho hb hg hat; rw [← Ny177.out] at ho; have n0_ := Aside0.mk (Kd.R_over' (by (with_reducible repeat (first | apply Kd.R_alloc | apply Kd.R_drewN | apply Kd.R_drew)); exact HO_11.out) (Kd.R_typed (by (with_reducible repeat (first | apply Kd.R_alloc | apply Kd.R_drewN | apply Kd.R_drew)); exact HO_5.out)) (by decide) hg); have n1_ := Aside0.mk (hb); have n2_ := Aside0.mk (ho); clear HO_11; clear HB; clear HO_5; have HO_11 := n0_; have HB := n1_; have HO179 := n2_; clear n0_ n1_ n2_; clear ho hb hg hat))
       go_roundg k1
       case measure => have := HK1.out; omega
       case rel => exact ⟨(y177), (wrap64 (x13_1 + 1)), (by first | rfl | (simp only [YtkccjohhakljnaaGreatDoorMpHelp.leq_not, YtkccjohhakljnaaGreatDoorMpHelp.gtr_less]; done) | (simp; done) | (simp [*]; done)), H', ⟨by have := HK1.out; omega⟩, ⟨by (with_reducible repeat (first | apply Kd.R_alloc | apply Kd.R_drewN | apply Kd.R_drew)); exact HO179.out⟩, ⟨by (with_reducible repeat (first | apply Kd.R_alloc | apply Kd.R_drewN | apply Kd.R_drew)); exact HO_11.out⟩, ⟨by repeat (first | (with_reducible first | exact HB.out | apply below_alloc | apply pw_below_drewN | apply below_drew1) | exact HB.out)⟩⟩
      ·rw [if_neg c13] at H
       exact absurd H (by simp)
     ·rw [if_neg c11] at H
      exact absurd H (by simp)
    ·rw [if_neg c10] at H
     exact absurd H (by simp)
   ·rw [if_neg c9] at H
    have c9b0 : decide (x13_1 < (t169.length : Int)) = false := decide_eq_false c9
    clear c9
    obtain rfl := Option.some.inj H
    go_wp2
    go_ret
    exact ⟨_, by first | rfl | (simp [errW_none, errW_some] <;> rfl) | (simp [*, errW_none, errW_some] <;> rfl), by (with_reducible repeat (first | apply Kd.R_alloc | apply Kd.R_drewN | apply Kd.R_drew)); exact HO_5.out, by repeat (first | (with_reducible first | exact HB.out | apply below_alloc | apply pw_below_drewN | apply below_drew1) | exact HB.out)⟩

/-! ### stringslite_TrimPrefix: function 57 -/
def stringslite_TrimPrefix.f (a0 : ByteArray) (a1 : ByteArray) : Option (ByteArray) := (stringslite_HasPrefix.f a0 a1).bind fun t180 => (if t180 = true then (if 0 ≤ (a1.size : Int) then (if (a1.size : Int) ≤ (a0.size : Int) then (some (a0.extract ((a1.size : Int) : Int).toNat a0.size)) else (none)) else (none)) else (some a0))
set_option maxHeartbeats 8000000 in
set_option maxRecDepth 100000 in
theorem stringslite_TrimPrefix.calls (a0 : ByteArray) (a1 : ByteArray) (r : ByteArray) (w : World) (h : stringslite_TrimPrefix.f a0 a1 = some r) :
  Calls Tryz.prog 57 #[.string a0, .string a1] w fun e w' => e = .returned (.string r) ∧ Drawn0 w w' := by
 have H : ((stringslite_HasPrefix.f a0 a1).bind fun t180 => (if t180 = true then (if 0 ≤ (a1.size : Int) then (if (a1.size : Int) ≤ (a0.size : Int) then (some (a0.extract ((a1.size : Int) : Int).toNat a0.size)) else (none)) else (none)) else (some a0))) = some r := h
 clear h
 replace H := Option.bind_eq_some_iff.mp H
 obtain ⟨t180, A30, H⟩ := H
 replace H : (if t180 = true then (if 0 ≤ (a1.size : Int) then (if (a1.size : Int) ≤ (a0.size : Int) then (some (a0.extract ((a1.size : Int) : Int).toNat a0.size)) else (none)) else (none)) else (some a0)) = some r := H
 have A3 := Aside0.mk A30
 clear A30
 by_cases c4 : t180 = true
 ·subst c4
  have H1 : (if 0 ≤ (a1.size : Int) then (if (a1.size : Int) ≤ (a0.size : Int) then (some (a0.extract ((a1.size : Int) : Int).toNat a0.size)) else (none)) else (none)) = some r := by rw [if_pos rfl] at H; exact H
  clear H
  have H := H1
  clear H1
  by_cases c5 : 0 ≤ (a1.size : Int)
  ·rw [if_pos c5] at H
   have c5b0 := eq_true c5
   have c5b1 : decide (0 ≤ (a1.size : Int)) = true := decide_eq_true c5
   clear c5
   by_cases c6 : (a1.size : Int) ≤ (a0.size : Int)
   ·rw [if_pos c6] at H
    have c6b0 := eq_true c6
    have c6b1 : decide ((a1.size : Int) ≤ (a0.size : Int)) = true := decide_eq_true c6
    clear c6
    obtain rfl := Option.some.inj H
    go_enter Tryz.func57, Tryz.ntmps57
    go_wp2_with (first | ((with_reducible refine gate_callee (f := 75) rfl ?_); refine goesL_ (some 7) rfl rfl Tryz.func75 (by kernel_rfl) rfl #[.string a0, .string a1] rfl (by (try simp only [List.map_toArray, List.map_cons, List.map_nil]); first | done | rfl | (simp only [List.length_drop, List.length_take]; rfl)) ?_; (with_reducible refine (stringslite_HasPrefix.calls a0 a1 true _ A3.out).mono ?_); rintro e w' ⟨rfl, ⟨nd, rfl⟩⟩; refine ⟨_, rfl, ?_⟩))
    go_ret
    exact ⟨by first | rfl | (simp only [YtkccjohhakljnaaGreatDoorMpHelp.leq_not, YtkccjohhakljnaaGreatDoorMpHelp.gtr_less]; done) | (simp; done) | (simp [*]; done), by repeat (first | exact Drawn0.refl _ | apply Drawn0.step)⟩
   ·rw [if_neg c6] at H
    exact absurd H (by simp)
  ·rw [if_neg c5] at H
   exact absurd H (by simp)
 ·replace c4 := Bool.eq_false_iff.mpr c4
  subst c4
  have H1 : (some a0) = some r := by rw [if_neg (show ¬ (false = true) by decide)] at H; exact H
  clear H
  have H := H1
  clear H1
  obtain rfl := Option.some.inj H
  go_enter Tryz.func57, Tryz.ntmps57
  go_wp2_with (first | ((with_reducible refine gate_callee (f := 75) rfl ?_); refine goesL_ (some 7) rfl rfl Tryz.func75 (by kernel_rfl) rfl #[.string a0, .string a1] rfl (by (try simp only [List.map_toArray, List.map_cons, List.map_nil]); first | done | rfl | (simp only [List.length_drop, List.length_take]; rfl)) ?_; (with_reducible refine (stringslite_HasPrefix.calls a0 a1 false _ A3.out).mono ?_); rintro e w' ⟨rfl, ⟨nd, rfl⟩⟩; refine ⟨_, rfl, ?_⟩))
  go_ret
  exact ⟨by first | rfl | (simp only [YtkccjohhakljnaaGreatDoorMpHelp.leq_not, YtkccjohhakljnaaGreatDoorMpHelp.gtr_less]; done) | (simp; done) | (simp [*]; done), by repeat (first | exact Drawn0.refl _ | apply Drawn0.step)⟩

/-! ### strings_TrimPrefix: function 45 -/
def strings_TrimPrefix.f (a0 : ByteArray) (a1 : ByteArray) : Option (ByteArray) := (stringslite_TrimPrefix.f a0 a1).bind fun t181 => (some t181)
set_option maxHeartbeats 8000000 in
set_option maxRecDepth 100000 in
theorem strings_TrimPrefix.calls (a0 : ByteArray) (a1 : ByteArray) (r : ByteArray) (w : World) (h : strings_TrimPrefix.f a0 a1 = some r) :
  Calls Tryz.prog 45 #[.string a0, .string a1] w fun e w' => e = .returned (.string r) ∧ Drawn0 w w' := by
 have H : ((stringslite_TrimPrefix.f a0 a1).bind fun t181 => (some t181)) = some r := h
 clear h
 replace H := Option.bind_eq_some_iff.mp H
 obtain ⟨t181, A30, H⟩ := H
 replace H : (some t181) = some r := H
 have A3 := Aside0.mk A30
 clear A30
 obtain rfl := Option.some.inj H
 go_enter Tryz.func45, Tryz.ntmps45
 go_wp2_with (first | ((with_reducible refine gate_callee (f := 57) rfl ?_); refine goesL_ (some 7) rfl rfl Tryz.func57 (by kernel_rfl) rfl #[.string a0, .string a1] rfl (by (try simp only [List.map_toArray, List.map_cons, List.map_nil]); first | done | rfl | (simp only [List.length_drop, List.length_take]; rfl)) ?_; (with_reducible refine (stringslite_TrimPrefix.calls a0 a1 t181 _ A3.out).mono ?_); rintro e w' ⟨rfl, ⟨nd, rfl⟩⟩; refine ⟨_, rfl, ?_⟩))
 go_ret
 exact ⟨by first | rfl | (simp only [YtkccjohhakljnaaGreatDoorMpHelp.leq_not, YtkccjohhakljnaaGreatDoorMpHelp.gtr_less]; done) | (simp; done) | (simp [*]; done), by repeat (first | exact Drawn0.refl _ | apply Drawn0.step)⟩

/-! ### tree_depth: function 32 -/
def tree_depth.f (a0 : ByteArray) (a1 : ByteArray) : Option (Int) := if a0.toList = ([] : List UInt8) then ((strings_Count.f a1 (⟨#[47]⟩ : ByteArray)).bind fun t182 => (some t182)) else (if a0.size + 1 ≤ 9223372036854775807 then ((strings_TrimPrefix.f a1 (a0 ++ (⟨#[47]⟩ : ByteArray))).bind fun t183 => ((strings_Count.f t183 (⟨#[47]⟩ : ByteArray)).bind fun t184 => (some t184))) else (none))
set_option maxHeartbeats 8000000 in
set_option maxRecDepth 100000 in
theorem tree_depth.calls (a0 : ByteArray) (a1 : ByteArray) (r : Int) (w : World) (h : tree_depth.f a0 a1 = some r) :
  Calls Tryz.prog 32 #[.string a0, .string a1] w fun e w' => e = .returned (.int .i64 r) ∧ Drawn0 w w' := by
 have H : (if a0.toList = ([] : List UInt8) then ((strings_Count.f a1 (⟨#[47]⟩ : ByteArray)).bind fun t182 => (some t182)) else (if a0.size + 1 ≤ 9223372036854775807 then ((strings_TrimPrefix.f a1 (a0 ++ (⟨#[47]⟩ : ByteArray))).bind fun t183 => ((strings_Count.f t183 (⟨#[47]⟩ : ByteArray)).bind fun t184 => (some t184))) else (none))) = some r := h
 clear h
 by_cases c3 : a0.toList = ([] : List UInt8)
 ·rw [if_pos c3] at H
  have c3b0 : (a0.toList == ([] : List UInt8)) = true := beq_iff_eq.mpr c3
  have c3b1 : (a0.toList != ([] : List UInt8)) = false := bne_eq_false_iff_eq.mpr c3
  clear c3
  replace H := Option.bind_eq_some_iff.mp H
  obtain ⟨t182, A40, H⟩ := H
  replace H : (some t182) = some r := H
  have A4 := Aside0.mk A40
  clear A40
  obtain rfl := Option.some.inj H
  go_enter Tryz.func32, Tryz.ntmps32
  go_wp2_with (first | ((with_reducible refine gate_callee (f := 46) rfl ?_); refine goesL_ (some 12) rfl rfl Tryz.func46 (by kernel_rfl) rfl #[.string a1, .string (⟨#[47]⟩ : ByteArray)] rfl (by (try simp only [List.map_toArray, List.map_cons, List.map_nil]); first | done | rfl | (simp only [List.length_drop, List.length_take]; rfl)) ?_; (with_reducible refine (strings_Count.calls a1 (⟨#[47]⟩ : ByteArray) t182 _ A4.out).mono ?_); rintro e w' ⟨rfl, ⟨nd, rfl⟩⟩; refine ⟨_, rfl, ?_⟩))
  go_ret
  exact ⟨by first | rfl | (simp only [YtkccjohhakljnaaGreatDoorMpHelp.leq_not, YtkccjohhakljnaaGreatDoorMpHelp.gtr_less]; done) | (simp; done) | (simp [*]; done), by repeat (first | exact Drawn0.refl _ | apply Drawn0.step)⟩
 ·rw [if_neg c3] at H
  have c3b0 : (a0.toList == ([] : List UInt8)) = false := beq_eq_false_iff_ne.mpr c3
  have c3b1 : (a0.toList != ([] : List UInt8)) = true := bne_iff_ne.mpr c3
  by_cases c5 : a0.size + 1 ≤ 9223372036854775807
  ·rw [if_pos c5] at H
   have c5b0 := eq_true c5
   have c5b1 : decide (a0.size + 1 ≤ 9223372036854775807) = true := decide_eq_true c5
   try have c5b2 : (9223372036854775807 < a0.size + 1) = False := eq_false (Nat.not_lt.2 c5)
   replace H := Option.bind_eq_some_iff.mp H
   obtain ⟨t183, A60, H⟩ := H
   replace H : ((strings_Count.f t183 (⟨#[47]⟩ : ByteArray)).bind fun t184 => (some t184)) = some r := H
   have A6 := Aside0.mk A60
   clear A60
   replace H := Option.bind_eq_some_iff.mp H
   obtain ⟨t184, A70, H⟩ := H
   replace H : (some t184) = some r := H
   have A7 := Aside0.mk A70
   clear A70
   obtain rfl := Option.some.inj H
   go_enter Tryz.func32, Tryz.ntmps32
   go_wp2_with (first | ((with_reducible refine gate_callee (f := 45) rfl ?_); refine goesL_ (some 10) rfl rfl Tryz.func45 (by kernel_rfl) rfl #[.string a1, .string (a0 ++ (⟨#[47]⟩ : ByteArray))] rfl (by (try simp only [List.map_toArray, List.map_cons, List.map_nil]); first | done | rfl | (simp only [List.length_drop, List.length_take]; rfl)) ?_; (with_reducible refine (strings_TrimPrefix.calls a1 (a0 ++ (⟨#[47]⟩ : ByteArray)) t183 _ A6.out).mono ?_); rintro e w' ⟨rfl, ⟨nd, rfl⟩⟩; refine ⟨_, rfl, ?_⟩) | ((with_reducible refine gate_callee (f := 46) rfl ?_); refine goesL_ (some 12) rfl rfl Tryz.func46 (by kernel_rfl) rfl #[.string t183, .string (⟨#[47]⟩ : ByteArray)] rfl (by (try simp only [List.map_toArray, List.map_cons, List.map_nil]); first | done | rfl | (simp only [List.length_drop, List.length_take]; rfl)) ?_; (with_reducible refine (strings_Count.calls t183 (⟨#[47]⟩ : ByteArray) t184 _ A7.out).mono ?_); rintro e w' ⟨rfl, ⟨nd, rfl⟩⟩; refine ⟨_, rfl, ?_⟩))
   go_ret
   exact ⟨by first | rfl | (simp only [YtkccjohhakljnaaGreatDoorMpHelp.leq_not, YtkccjohhakljnaaGreatDoorMpHelp.gtr_less]; done) | (simp; done) | (simp [*]; done), by repeat (first | exact Drawn0.refl _ | apply Drawn0.step)⟩
  ·rw [if_neg c5] at H
   exact absurd H (by simp)

/-! ### strconv_Itoa: function 34 (told by hand) -/
def strconv_Itoa.f (a0 : Int) : Option ByteArray := if -9223372036854775808 ≤ a0 ∧ a0 ≤ 9223372036854775807 then some ⟨(Lib.itoa a0).toArray⟩ else none
theorem strconv_Itoa.calls (a0 : Int) (r : ByteArray) (w : World) (ht_ : YtkccjohhakljnaaGreatDoorTab.TabOK w) (h : strconv_Itoa.f a0 = some r) : Calls Tryz.prog 34 #[.int .i64 a0] w fun e w' => e = .returned (.string r) ∧ Below w.heap.size w w' := by
  unfold strconv_Itoa.f at h
  by_cases hb : -9223372036854775808 ≤ a0 ∧ a0 ≤ 9223372036854775807
  · rw [if_pos hb] at h
    obtain rfl := Option.some.inj h
    refine (Tryz.strconv_Itoa a0 hb.1 hb.2 w ht_).mono ?_
    rintro e w' ⟨rfl, q, os, rfl⟩
    exact ⟨rfl, YtkccjohhakljnaaGreatDoorTab.grow_below w q os⟩
  · rw [if_neg hb] at h
    cases h


/-! ### tree_Text: function 16 (told by hand) -/
def tree_Text.nv (x : S34) : YtkccjohhakljnaaGreatDoorTree.NV := (x.f0, x.f1, x.f2, x.f3)
def tree_Text.listF (k : Nat) (l0 : List S49) (fd : ByteArray) : Option (List YtkccjohhakljnaaGreatDoorTree.NV) := (tree_List.f k l0 fd).bind fun r => if r.length ≤ 1000000 then some (r.map tree_Text.nv) else none
def tree_Text.dF (a1 p : ByteArray) : Nat := ((tree_depth.f a1 p).getD 0).toNat
def tree_Text.iF (n : Int) : ByteArray := (strconv_Itoa.f n).getD ⟨#[]⟩
/-- What is told of a path and its node. -/
def tree_Text.good (a1 : ByteArray) (x : YtkccjohhakljnaaGreatDoorTree.PN) : Bool := decide ((tree_depth.f a1 x.1).isSome = true ∧ 0 ≤ (tree_depth.f a1 x.1).getD 0 ∧ tree_Text.dF a1 x.1 ≤ 1000 ∧ x.2.1.size ≤ 1000 ∧ (strconv_Itoa.f x.2.2.2.1).isSome = true ∧ (tree_Text.iF x.2.2.2.1).size ≤ 1000)
def tree_Text.f (k : Nat) (l0 : List S49) (a1 : ByteArray) : Option ByteArray := (YtkccjohhakljnaaGreatDoorTree.walkF (tree_Text.listF k l0) tree_Path.f k a1).bind fun out => if out.length ≤ 1000000 ∧ out.all (tree_Text.good a1) = true then some ⟨(YtkccjohhakljnaaGreatDoorTree.textU (tree_Text.dF a1) tree_Text.iF out).toArray⟩ else none
theorem tree_Text.listF_mono {k : Nat} {l0 : List S49} {fd : ByteArray} {ns : List YtkccjohhakljnaaGreatDoorTree.NV} (h : tree_Text.listF k l0 fd = some ns) : tree_Text.listF (k + 1) l0 fd = some ns := by
  unfold tree_Text.listF at h ⊢
  obtain ⟨r, hr, h⟩ := Option.bind_eq_some_iff.1 h
  rw [tree_List.mono _ _ _ r hr]
  exact h
theorem tree_Text.mono (a0 : List S49) (a1 : ByteArray) (k : Nat) : LeO (tree_Text.f k a0 a1) (tree_Text.f (k + 1) a0 a1) := by
  intro r h
  unfold tree_Text.f at h ⊢
  obtain ⟨out, ho, h⟩ := Option.bind_eq_some_iff.1 h
  rw [YtkccjohhakljnaaGreatDoorTree.walkF_mono (fun fd ns => tree_Text.listF_mono) _ _ _ ho]
  exact h
theorem tree_Text.nodes {W : World} {base : Nat} {v : Value} {r : List S34} (h : Kd.R k34 34 W base (fun _ => True) v r) : YtkccjohhakljnaaGreatDoorTree.Nodes W base v (r.map tree_Text.nv) := by
  have hN := Kd.R_N h
  by_cases hp : 0 < r.length
  · obtain ⟨g, cap, rfl, hb, _, cells, hg⟩ := Kd.N_form hN hp
    have hC := (Kd.N_reads' hN).2.2
    refine .inr ⟨g, cap, cells, (0, 0), by rw [List.length_map], hb, hg, fun j x hx => ?_⟩
    rw [List.getElem?_map] at hx
    obtain ⟨y, hy, rfl⟩ := Option.map_eq_some_iff.1 hx
    have hj := (List.getElem?_eq_some_iff.1 hy).1
    obtain ⟨ad, e, h0, h1, h2, h3⟩ := at_T34 hC (j : Int) (by omega) (by omega)
    have hrd : rd_T34 r (j : Int) = y := by
      unfold rd_T34
      rw [Int.toNat_natCast, List.getD_eq_getElem?_getD, hy, Option.getD_some]
    rw [hrd] at h0 h1 h2 h3
    cases e
    simp only [Int.toNat_natCast, Addr.add_lit, Nat.zero_add] at h0 h1 h2 h3
    unfold World.cell? at h0 h1 h2 h3
    rw [hg] at h0 h1 h2 h3
    exact ⟨h0, h1, h2, h3⟩
  · have h0 : r = [] := List.eq_nil_of_length_eq_zero (by omega)
    subst h0
    obtain ⟨A, c, rfl⟩ := Kd.N_slice hN
    exact .inl ⟨rfl, A, c, rfl⟩
set_option maxHeartbeats 1000000 in
theorem tree_Text.calls (k : Nat) (A0 : Option Addr) (c0 : Nat) (l0 : List S49) (a1 : ByteArray) (r : ByteArray) (w : World) (hr0 : Kd.C k49 w A0 l0.length l0) (hc0 : l0.length ≤ c0) (ht_ : YtkccjohhakljnaaGreatDoorTab.TabOK w) (h : tree_Text.f k l0 a1 = some r) :
    Calls Tryz.prog 16 #[.slice A0 l0.length c0, .string a1] w fun e w' => e = .returned (.string r) ∧ Below w.heap.size w w' := by
  unfold tree_Text.f at h
  obtain ⟨out, ho, h⟩ := Option.bind_eq_some_iff.1 h
  by_cases hc : out.length ≤ 1000000 ∧ out.all (tree_Text.good a1) = true
  case neg => rw [if_neg hc] at h; cases h
  rw [if_pos hc] at h
  obtain rfl := Option.some.inj h
  have hall : ∀ x ∈ out, tree_Text.good a1 x = true := List.all_eq_true.1 hc.2
  have hmap : (out.attachWith (fun x => tree_Text.good a1 x = true) hall).map (·.1) = out := List.attachWith_map_subtype_val hall
  have key := YtkccjohhakljnaaGreatDoorTree.Text_calls l0.length c0 A0 (tree_Text.listF k l0) tree_Path.f (tree_Text.dF a1) tree_Text.iF a1 k (fun x => tree_Text.good a1 x = true) (out.attachWith _ hall) w
    (fun fd ns hns => by
      unfold tree_Text.listF at hns
      obtain ⟨q, hq, hns⟩ := Option.bind_eq_some_iff.1 hns
      by_cases hl : q.length ≤ 1000000
      case neg => rw [if_neg hl] at hns; cases hns
      rw [if_pos hl] at hns
      obtain rfl := Option.some.inj hns
      refine ⟨by rw [List.length_map]; exact hl, fun W hB => (tree_List.calls k A0 c0 l0 fd q W (Kd.C_below hr0 hB) hc0 hq).mono ?_⟩
      rintro e W' ⟨v, he, hR, hb⟩
      exact ⟨v, he, tree_Text.nodes hR, hb⟩)
    (fun fd nm p hp W => (tree_Path.calls fd nm p W hp).mono fun e W' h => ⟨h.1, h.2.below⟩)
    (fun x hx => by
      obtain ⟨h1, h2, h3, h4, h5, h6⟩ := of_decide_eq_true hx
      obtain ⟨d, hd⟩ := Option.isSome_iff_exists.1 h1
      refine ⟨h3, h4, h6, fun W _ => (tree_depth.calls a1 x.1 d W hd).mono fun e W' h => ⟨?_, h.2.below⟩⟩
      rw [hd] at h2
      have h2' : 0 ≤ d := h2
      rw [h.1]
      unfold tree_Text.dF
      rw [hd, Option.getD_some, Int.toNat_of_nonneg h2'])
    (fun x hx W hB => by
      obtain ⟨h1, h2, h3, h4, h5, h6⟩ := of_decide_eq_true hx
      obtain ⟨d, hd⟩ := Option.isSome_iff_exists.1 h5
      refine (strconv_Itoa.calls _ d W (YtkccjohhakljnaaGreatDoorTab.tab_below ht_ hB) hd).mono fun e W' h => ⟨?_, h.2⟩
      rw [h.1]
      unfold tree_Text.iF
      rw [hd, Option.getD_some])
    (by rw [hmap]; exact ho) (by rw [List.length_attachWith]; exact hc.1)
  rw [hmap] at key
  exact key


/-! ### bindlelaw39_example: function 22 (told by hand) -/
def bindlelaw39_example.f : Option (List S49) := some [(⟨(⟨#[97, 47, 98]⟩ : ByteArray), [120]⟩ : S49), (⟨(⟨#[97, 47, 99, 47, 100]⟩ : ByteArray), [120, 121]⟩ : S49)]
set_option maxHeartbeats 2000000 in
theorem bindlelaw39_example.calls (r : List S49) (w : World) (h : bindlelaw39_example.f = some r) :
    Calls Tryz.prog 22 #[] w fun e w' => ∃ v0_ : Value, e = .returned (v0_) ∧ Kd.N k49 49 w' w.heap.size (fun k_ => (w.heap.size ≤ k_)) v0_ r ∧ Below w.heap.size w w' := by
  obtain rfl := Option.some.inj h
  clear h
  have kc := fun (w : World) (C : Array Value) (n c : Nat) => Lib.run_convert_bytes_const (P := Tryz.prog) w 47 5 C n c Tryz.underlying47 Tryz.underlying5
  have hu := Tryz.underlying49
  go_enter Tryz.func22, Tryz.ntmps22
  have kc2 : ∀ C n c, (convert 47 47 (.slice (some ⟨w.heap.size + 1, 0, none⟩) n c)).run Tryz.prog ((w.alloc (.cells #[.int .u8 120] 5 (1, 2))).alloc (.cells C 5)) = .ok (.slice (some ⟨w.heap.size + 1, 0, none⟩) n c) ((w.alloc (.cells #[.int .u8 120] 5 (1, 2))).alloc (.cells C 5 (C.size, C.size + 1))) := fun C n c => by
    have := kc (w.alloc (.cells #[.int .u8 120] 5 (1, 2))) C n c
    rwa [World.size_alloc] at this
  go_wp2_with (first
    | ((with_reducible refine gate_dst (N := 7) rfl ?_); refine Kd.N_lit k49 (w0 := w) w.heap.size 49 ?hg (N' := 7) ?hd (xs := [(⟨(⟨#[97, 47, 98]⟩ : ByteArray), [120]⟩ : S49), (⟨(⟨#[97, 47, 99, 47, 100]⟩ : ByteArray), [120, 121]⟩ : S49)]) (inner := [.string ⟨#[97, 47, 98]⟩, .slice (some ⟨w.heap.size, 0, none⟩) 1 1, .string ⟨#[97, 47, 99, 47, 100]⟩, .slice (some ⟨w.heap.size + 1, 0, none⟩) 2 2]) (ok := fun k_ => w.heap.size ≤ k_) (okp := fun k_ => w.heap.size ≤ k_) ?hr ?hp (fun _ hk => hk) (by simp; omega) ((Below.refl w.heap.size w |>.alloc (Nat.le_refl _) _).alloc (by simp) _) (by simp; omega) (by simp) ?_; (case hd => rfl); (case hg => rfl); (case hr => first | (go_simp; done) | (go_simp; rfl)))
    | fail)
  rotate_left
  · intro v1 w1 hN hB hg x hx hle
    go_wp2
    go_ret
    exact ⟨v1, rfl, hN, hB⟩
  · have h0 : (w.alloc (.cells #[.int .u8 120] 5 (1, 2))).heap[w.heap.size]? = some (.cells (nums .u8 [120]).toArray 5 (1, 2)) := YtkccjohhakljnaaGreatDoorMpHelp.heap_new w _
    have h1 := YtkccjohhakljnaaGreatDoorMpHelp.heap_old (w.alloc (.cells #[.int .u8 120] 5 (1, 2))) (.cells #[.int .u8 120, .int .u8 121] 5 (2, 3)) h0
    have h2 : ((w.alloc (.cells #[.int .u8 120] 5 (1, 2))).alloc (.cells #[.int .u8 120, .int .u8 121] 5 (2, 3))).heap[w.heap.size + 1]? = some (.cells (nums .u8 [120, 121]).toArray 5 (2, 3)) := by
      have := YtkccjohhakljnaaGreatDoorMpHelp.heap_new (w.alloc (.cells #[.int .u8 120] 5 (1, 2))) (.cells #[.int .u8 120, .int .u8 121] 5 (2, 3))
      rwa [World.size_alloc] at this
    exact Reps.snoc (Reps.snoc (Reps.none _ _) (k49_mkF _ _ (⟨(⟨#[97, 47, 98]⟩ : ByteArray), [120]⟩ : S49) (by decide) (fun W' hW => YtkccjohhakljnaaGreatDoorMpHelp.C_nums ((hW w.heap.size (Nat.le_refl _) (Array.getElem?_eq_some_iff.1 h1).1).trans h1) (by decide))) rfl) (k49_mkF _ _ (⟨(⟨#[97, 47, 99, 47, 100]⟩ : ByteArray), [120, 121]⟩ : S49) (by decide) (fun W' hW => YtkccjohhakljnaaGreatDoorMpHelp.C_nums ((hW (w.heap.size + 1) (Nat.le_succ _) (Array.getElem?_eq_some_iff.1 h2).1).trans h2) (by decide))) rfl


/-! ### bindlelaw39_lives: function 7 -/
def bindlelaw39_lives.f (k : Nat)  : Option (Bool) := (bindlelaw39_example.f).bind fun t185 => ((tree_Text.f k t185 (⟨#[]⟩ : ByteArray)).bind fun t188 => (some (t188.toList == ([97, 47, 32, 51, 10, 32, 32, 98, 32, 49, 10, 32, 32, 99, 47, 32, 50, 10, 32, 32, 32, 32, 100, 32, 50, 10] : List UInt8))))
theorem bindlelaw39_lives.mono : ∀ k, LeO (bindlelaw39_lives.f k ) (bindlelaw39_lives.f (k + 1) ) := by
 intro  k
 unfold bindlelaw39_lives.f
 repeat' first
   | (with_reducible exact tree_Text.mono _ _ _)
   | (with_reducible exact LeO.refl _)
   | (with_reducible exact LeO.none _)
   | (with_reducible refine LeO.ite ?_ ?_)
   | (with_reducible refine LeO.bind ?_ (fun _ => ?_))
   | exact tree_Text.mono _ _ _
   | exact LeO.none _
   | refine LeO.ite ?_ ?_
   | refine LeO.bind ?_ (fun _ => ?_)
set_option maxHeartbeats 8000000 in
set_option maxRecDepth 100000 in
theorem bindlelaw39_lives.calls (k : Nat)  (r : Bool) (w : World) (ht_ : YtkccjohhakljnaaGreatDoorTab.TabOK w) (h : bindlelaw39_lives.f k  = some r) :
  Calls Tryz.prog 7 #[] w fun e w' => e = .returned (.bool r) ∧ Below w.heap.size w w' := by
 have HT := Aside0.mk ht_
 clear ht_
 have HB := Aside0.mk (Below.refl w.heap.size w)
 have H : ((bindlelaw39_example.f).bind fun t185 => ((tree_Text.f k t185 (⟨#[]⟩ : ByteArray)).bind fun t188 => (some (t188.toList == ([97, 47, 32, 51, 10, 32, 32, 98, 32, 49, 10, 32, 32, 99, 47, 32, 50, 10, 32, 32, 32, 32, 100, 32, 50, 10] : List UInt8))))) = some r := h
 clear h
 replace H := Option.bind_eq_some_iff.mp H
 obtain ⟨t185, A10, H⟩ := H
 replace H : ((tree_Text.f k t185 (⟨#[]⟩ : ByteArray)).bind fun t188 => (some (t188.toList == ([97, 47, 32, 51, 10, 32, 32, 98, 32, 49, 10, 32, 32, 99, 47, 32, 50, 10, 32, 32, 32, 32, 100, 32, 50, 10] : List UInt8)))) = some r := H
 have A1 := Aside0.mk A10
 clear A10
 replace H := Option.bind_eq_some_iff.mp H
 obtain ⟨t188, A20, H⟩ := H
 replace H : (some (t188.toList == ([97, 47, 32, 51, 10, 32, 32, 98, 32, 49, 10, 32, 32, 99, 47, 32, 50, 10, 32, 32, 32, 32, 100, 32, 50, 10] : List UInt8))) = some r := H
 have A2 := Aside0.mk A20
 clear A20
 obtain rfl := Option.some.inj H
 go_enter Tryz.func7, Tryz.ntmps7
 go_wp2_with (first | ((with_reducible refine gate_callee (f := 22) rfl ?_); refine goesL_ (some 1) rfl rfl Tryz.func22 (by kernel_rfl) rfl #[] rfl (by (try simp only [List.map_toArray, List.map_cons, List.map_nil]); first | done | rfl | (simp only [List.length_drop, List.length_take]; rfl)) ?_; (with_reducible refine (bindlelaw39_example.calls  t185 _ A1.out).mono ?_); rintro e w3 ⟨v186, rfl, ho0, hb⟩; refine ⟨_, rfl, ?_⟩; have n0_ := Aside0.mk (Kd.N_lower (Kd.N_mono (ok' := fun k_ => True) ho0 (fun k_ hk_ => trivial)) (below_size (by repeat (first | (with_reducible first | exact HB.out | apply below_alloc | apply pw_below_drewN | apply below_drew1) | exact HB.out)))); have n1_ := Aside0.mk (below_step (by repeat (first | (with_reducible first | exact HB.out | apply below_alloc | apply pw_below_drewN | apply below_drew1) | exact HB.out)) hb); clear HB; have HO187 := n0_; have HB := n1_; clear n0_ n1_; (try clear hb); (try clear hb2); (try clear hk); (try clear hi); (try clear ho0); obtain ⟨Ao4, co4, eo4⟩ := Kd.N_slice HO187.out; subst eo4) | ((with_reducible refine gate_callee (f := 16) rfl ?_); refine goesL_ (some 2) rfl rfl Tryz.func16 (by kernel_rfl) rfl #[.slice Ao4 t185.length co4, .string (⟨#[]⟩ : ByteArray)] rfl (by (try simp only [List.map_toArray, List.map_cons, List.map_nil]); first | done | rfl | (simp only [List.length_drop, List.length_take]; rfl)) ?_; (with_reducible refine (tree_Text.calls k _ _ t185 (⟨#[]⟩ : ByteArray) t188 _ ?side1 ?side2 ?side3 A2.out).mono ?_); (case side1 => repeat (first | exact (Kd.N_reads' HO187.out).2.2 | (with_reducible refine Kd.C_alloc ?_ _) | (with_reducible refine Kd.C_drewN ?_ _) | (with_reducible refine Kd.C_drew ?_))); (case side2 => exact (Kd.N_reads' HO187.out).2.1); (case side3 => exact YtkccjohhakljnaaGreatDoorTab.tab_below HT.out (by repeat (first | (with_reducible first | exact HB.out | apply below_alloc | apply pw_below_drewN | apply below_drew1) | exact HB.out))); rintro e w5 ⟨rfl, hb⟩; refine ⟨_, rfl, ?_⟩; have n0_ := Aside0.mk (Kd.N_below (by (with_reducible repeat (first | apply Kd.N_alloc | apply Kd.N_drewN | apply Kd.N_drew)); exact HO187.out) hb); have n1_ := Aside0.mk (below_step (by repeat (first | (with_reducible first | exact HB.out | apply below_alloc | apply pw_below_drewN | apply below_drew1) | exact HB.out)) hb); clear HO187; clear HB; have HO187 := n0_; have HB := n1_; clear n0_ n1_; (try clear hb); (try clear hb2); (try clear hk); (try clear hi)))
 go_ret
 exact ⟨by first | rfl | (simp [errW_none, errW_some] <;> rfl) | (simp [*, errW_none, errW_some] <;> rfl), by repeat (first | (with_reducible first | exact HB.out | apply below_alloc | apply pw_below_drewN | apply below_drew1) | exact HB.out)⟩

/-! ### bindleref25_Find: function 20 -/
def bindleref25_Find.l0 : Nat → List (S49) → ByteArray → Int → Option (Int)
 | 0, _, _, _ => none
 | k + 1, x0, x1, x5 => if x5 < (x0.length : Int) then (if 0 ≤ x5 then (if ((rd_T49 x0 x5).f0).toList = x1.toList then (some x5) else (bindleref25_Find.l0 k x0 x1 (wrap64 (x5 + 1)))) else (none)) else (some (-1))
def bindleref25_Find.f (k : Nat) (l0 : List (S49)) (a1 : ByteArray) : Option (Int) := bindleref25_Find.l0 k l0 a1 0
theorem bindleref25_Find.mono_l : ∀ k, (∀ y0 y1 y2, LeO (bindleref25_Find.l0 k y0 y1 y2) (bindleref25_Find.l0 (k + 1) y0 y1 y2))
 | 0 => fun _ _ _ r h => by simp [bindleref25_Find.l0] at h
 | k + 1 => by
  have ih0 := bindleref25_Find.mono_l k
  ·intro y0 y1 y2
   unfold bindleref25_Find.l0
   repeat' first
   | (with_reducible exact ih0 _ _ _)
   | (with_reducible exact LeO.refl _)
   | (with_reducible exact LeO.none _)
   | (with_reducible refine LeO.ite ?_ ?_)
   | (with_reducible refine LeO.bind ?_ (fun _ => ?_))
   | exact ih0 _ _ _
   | exact LeO.none _
   | refine LeO.ite ?_ ?_
   | refine LeO.bind ?_ (fun _ => ?_)
theorem bindleref25_Find.mono : ∀ a0 a1 k, LeO (bindleref25_Find.f k a0 a1) (bindleref25_Find.f (k + 1) a0 a1) := by
 intro a0 a1 k
 have ih0 := bindleref25_Find.mono_l k
 unfold bindleref25_Find.f
 repeat' first
   | (with_reducible exact ih0 _ _ _)
   | (with_reducible exact LeO.refl _)
   | (with_reducible exact LeO.none _)
   | (with_reducible refine LeO.ite ?_ ?_)
   | (with_reducible refine LeO.bind ?_ (fun _ => ?_))
   | exact ih0 _ _ _
   | exact LeO.none _
   | refine LeO.ite ?_ ?_
   | refine LeO.bind ?_ (fun _ => ?_)
set_option maxHeartbeats 8000000 in
set_option maxRecDepth 100000 in
theorem bindleref25_Find.calls (k : Nat) (A0 : Option Addr) (c0 : Nat) (l0 : List (S49)) (a1 : ByteArray) (r : Int) (w : World) (hr0 : Kd.C k49 w A0 l0.length l0) (hc0 : l0.length ≤ c0) (h : bindleref25_Find.f k l0 a1 = some r) :
  Calls Tryz.prog 20 #[.slice A0 l0.length c0, .string a1] w fun e w' => e = .returned (.int .i64 r) ∧ Drawn0 w w' := by
 have HR0 := Aside0.mk hr0
 have HC0 := Aside0.mk hc0
 clear hr0 hc0
 have H : (bindleref25_Find.l0 k l0 a1 0) = some r := h
 clear h
 have H' := Aside0.mk H
 clear H
 go_enter Tryz.func20, Tryz.ntmps20
 go_wp2
 go_loopg [5] k (fun kq v5 w' => ∃ (x5_1 : Int), v5 = .int .i64 x5_1 ∧ Aside0 (bindleref25_Find.l0 kq l0 a1 x5_1 = some r) ∧ Aside0 (kq ≤ k) ∧ Drawn0 w w')
 case atStart => exact ⟨(0), (by first | rfl | (simp only [YtkccjohhakljnaaGreatDoorMpHelp.leq_not, YtkccjohhakljnaaGreatDoorMpHelp.gtr_less]; done) | (simp; done) | (simp [*]; done)), H', ⟨Nat.le_refl _⟩, by repeat (first | exact Drawn0.refl _ | apply Drawn0.step)⟩
 case round =>
  clear H'
  try clear c2
  try clear p2
  obtain ⟨x5_1, rfl, HA, HK1, ⟨m1, rfl⟩⟩ := hrel
  cases gk with
  | zero => exact absurd HA.out (by simp [bindleref25_Find.l0])
  | succ k1 =>
   have H := HA.out
   clear HA
   simp only [bindleref25_Find.l0] at H
   by_cases c3 : x5_1 < (l0.length : Int)
   ·rw [if_pos c3] at H
    have c3b0 : decide (x5_1 < (l0.length : Int)) = true := decide_eq_true c3
    clear c3
    by_cases c4 : 0 ≤ x5_1
    ·rw [if_pos c4] at H
     have c4b0 : decide (0 ≤ x5_1) = true := decide_eq_true c4
     clear c4
     by_cases c5 : ((rd_T49 l0 x5_1).f0).toList = a1.toList
     ·rw [if_pos c5] at H
      have c5b0 : (((rd_T49 l0 x5_1).f0).toList == a1.toList) = true := beq_iff_eq.mpr c5
      have c5b1 : (((rd_T49 l0 x5_1).f0).toList != a1.toList) = false := bne_eq_false_iff_eq.mpr c5
      clear c5
      obtain rfl := Option.some.inj H
      have p189 : 0 ≤ (x5_1 : Int) := of_decide_eq_true (by first | (with_reducible assumption) | assumption)
      have q189 : x5_1 < (l0.length : Int) := of_decide_eq_true (by first | (with_reducible assumption) | assumption)
      obtain ⟨ad189, A189_1, c189_1, e189, hx189_0, hx189_1, hl189_1, hi189_1⟩ := at_T49 HR0.out x5_1 p189 q189
      cases e189
      have HR189_1 := Aside0.mk hi189_1
      have HC189_1 := Aside0.mk hl189_1
      clear hi189_1 hl189_1
      replace p189 := eq_true p189
      replace q189 := eq_true q189
      go_wp2
      go_ret
      exact ⟨by first | rfl | (simp only [YtkccjohhakljnaaGreatDoorMpHelp.leq_not, YtkccjohhakljnaaGreatDoorMpHelp.gtr_less]; done) | (simp; done) | (simp [*]; done), by repeat (first | exact Drawn0.refl _ | apply Drawn0.step)⟩
     ·rw [if_neg c5] at H
      have c5b0 : (((rd_T49 l0 x5_1).f0).toList == a1.toList) = false := beq_eq_false_iff_ne.mpr c5
      have c5b1 : (((rd_T49 l0 x5_1).f0).toList != a1.toList) = true := bne_iff_ne.mpr c5
      have H' := Aside0.mk H
      clear H
      have p189 : 0 ≤ (x5_1 : Int) := of_decide_eq_true (by first | (with_reducible assumption) | assumption)
      have q189 : x5_1 < (l0.length : Int) := of_decide_eq_true (by first | (with_reducible assumption) | assumption)
      obtain ⟨ad189, A189_1, c189_1, e189, hx189_0, hx189_1, hl189_1, hi189_1⟩ := at_T49 HR0.out x5_1 p189 q189
      cases e189
      have HR189_1 := Aside0.mk hi189_1
      have HC189_1 := Aside0.mk hl189_1
      clear hi189_1 hl189_1
      replace p189 := eq_true p189
      replace q189 := eq_true q189
      go_wp2
      go_roundg k1
      case measure => have := HK1.out; omega
      case rel => exact ⟨(wrap64 (x5_1 + 1)), (by first | rfl | (simp only [YtkccjohhakljnaaGreatDoorMpHelp.leq_not, YtkccjohhakljnaaGreatDoorMpHelp.gtr_less]; done) | (simp; done) | (simp [*]; done)), H', ⟨by have := HK1.out; omega⟩, by repeat (first | exact Drawn0.refl _ | apply Drawn0.step)⟩
    ·rw [if_neg c4] at H
     exact absurd H (by simp)
   ·rw [if_neg c3] at H
    have c3b0 : decide (x5_1 < (l0.length : Int)) = false := decide_eq_false c3
    clear c3
    obtain rfl := Option.some.inj H
    go_wp2
    go_ret
    exact ⟨by first | rfl | (simp only [YtkccjohhakljnaaGreatDoorMpHelp.leq_not, YtkccjohhakljnaaGreatDoorMpHelp.gtr_less]; done) | (simp; done) | (simp [*]; done), by repeat (first | exact Drawn0.refl _ | apply Drawn0.step)⟩

end Go.Proofs.YtkccjohhakljnaaGreatDoor.PTreeSums
