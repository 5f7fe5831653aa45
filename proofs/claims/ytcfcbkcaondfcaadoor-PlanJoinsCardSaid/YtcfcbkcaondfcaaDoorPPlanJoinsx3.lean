/- The machine side of a law: for each Go function that it uses a Lean function with the same answers, and the proof that the Go code comes to them; or the row of the law over these. Written by a program of this session. -/
import Derived.Test.YtcfcbkcaondfcaaDoorPPlanJoinsx0
import Derived.Test.YtcfcbkcaondfcaaDoorPPlanJoinsx2
namespace Go.Proofs.YtcfcbkcaondfcaaDoor.PPlanJoins
open Go.RowKit Go.Proofs.YtcfcbkcaondfcaaDoorW.PrintWords Go.Proofs.YtcfcbkcaondfcaaDoorW.PrintLast Go.Proofs.YtcfcbkcaondfcaaDoorW.PrintMore
attribute [local go_sem] max2_int min2_int max_two min_two max_three min_three max_four min_four   -- for this text's walks alone
set_option linter.unusedVariables false
set_option linter.unusedSimpArgs false

/-! ### model_Find: function 78 -/
def model_Find.f (l0 : List (S45)) (a1 : ByteArray) : Option (List Int × Bool) := (model_place.f l0 a1).bind fun bt105 => (if bt105.2 = true then (if 0 ≤ bt105.1 then (if bt105.1 < (l0.length : Int) then ((slices_Clone_byte_byte.f ((rd_T45 l0 bt105.1).f1)).bind fun t108 => (some (t108, true))) else (none)) else (none)) else (some (([] : List Int), false)))
set_option maxHeartbeats 8000000 in
set_option maxRecDepth 100000 in
theorem model_Find.calls (A0 : Option Addr) (c0 : Nat) (l0 : List (S45)) (a1 : ByteArray) (r1 : List Int) (r2 : Bool) (w : World) (hr0 : Kd.C k45 w A0 l0.length l0) (hc0 : l0.length ≤ c0) (h : model_Find.f l0 a1 = some (r1, r2)) :
  Calls Tryd.prog 78 #[.slice A0 l0.length c0, .string a1] w fun e w' => ∃ v0_ : Value, e = .returned (.tuple #[v0_, .bool r2]) ∧ Kd.R (Kd.int .u8) 5 w' w.heap.size (fun _ => True) v0_ r1 ∧ Below w.heap.size w w' := by
 have HR0 := Aside0.mk hr0
 have HC0 := Aside0.mk hc0
 clear hr0 hc0
 have HB := Aside0.mk (Below.refl w.heap.size w)
 have H : ((model_place.f l0 a1).bind fun bt105 => (if bt105.2 = true then (if 0 ≤ bt105.1 then (if bt105.1 < (l0.length : Int) then ((slices_Clone_byte_byte.f ((rd_T45 l0 bt105.1).f1)).bind fun t108 => (some (t108, true))) else (none)) else (none)) else (some (([] : List Int), false)))) = some (r1, r2) := h
 clear h
 replace H := Option.bind_eq_some_iff.mp H
 obtain ⟨⟨t105, t106⟩, A30, H⟩ := H
 replace H : (if t106 = true then (if 0 ≤ t105 then (if t105 < (l0.length : Int) then ((slices_Clone_byte_byte.f ((rd_T45 l0 t105).f1)).bind fun t108 => (some (t108, true))) else (none)) else (none)) else (some (([] : List Int), false))) = some (r1, r2) := H
 have A3 := Aside0.mk A30
 clear A30
 by_cases c4 : t106 = true
 ·subst c4
  have H1 : (if 0 ≤ t105 then (if t105 < (l0.length : Int) then ((slices_Clone_byte_byte.f ((rd_T45 l0 t105).f1)).bind fun t108 => (some (t108, true))) else (none)) else (none)) = some (r1, r2) := by rw [if_pos rfl] at H; exact H
  clear H
  have H := H1
  clear H1
  by_cases c5 : 0 ≤ t105
  ·rw [if_pos c5] at H
   have c5b0 : decide (0 ≤ t105) = true := decide_eq_true c5
   clear c5
   by_cases c6 : t105 < (l0.length : Int)
   ·rw [if_pos c6] at H
    have c6b0 : decide (t105 < (l0.length : Int)) = true := decide_eq_true c6
    clear c6
    replace H := Option.bind_eq_some_iff.mp H
    obtain ⟨t108, A70, H⟩ := H
    replace H : (some (t108, true)) = some (r1, r2) := H
    have A7 := Aside0.mk A70
    clear A70
    simp only [Option.some.injEq, Prod.mk.injEq] at H
    obtain ⟨rfl, rfl⟩ := H
    go_enter Tryd.func78, Tryd.ntmps78
    go_wp2_with (first | ((with_reducible refine gate_callee (f := 81) rfl ?_); refine goesL_ (some 11) rfl rfl Tryd.func81 (by kernel_rfl) rfl #[.slice A0 l0.length c0, .string a1] rfl (by (try simp only [List.map_toArray, List.map_cons, List.map_nil]); first | done | rfl | (simp only [List.length_drop, List.length_take]; rfl)) ?_; (with_reducible refine (model_place.calls _ _ l0 a1 t105 true _ ?side1 ?side2 A3.out).mono ?_); (case side1 => repeat (first | exact HR0.out | (with_reducible refine Kd.C_alloc ?_ _) | (with_reducible refine Kd.C_drewN ?_ _) | (with_reducible refine Kd.C_drew ?_))); (case side2 => exact HC0.out); rintro e w8 ⟨rfl, hb⟩; refine ⟨_, rfl, ?_⟩; have n0_ := Aside0.mk (below_step (by repeat (first | (with_reducible first | exact HB.out | apply below_alloc | apply pw_below_drewN | apply below_drew1) | exact HB.out)) hb); clear HB; have HB := n0_; clear n0_; (try clear hb); (try clear hb2); (try clear hk); (try clear hi); have p107 : 0 ≤ (t105 : Int) := of_decide_eq_true (by first | (with_reducible assumption) | assumption); have q107 : t105 < (l0.length : Int) := of_decide_eq_true (by first | (with_reducible assumption) | assumption); obtain ⟨ad107, A107_1, c107_1, e107, hx107_0, hx107_1, hl107_1, hi107_1⟩ := at_T45 HR0.out t105 p107 q107; cases e107; replace hx107_0 := (HB.out.cell (World.block_lt_of_cell? w _ hx107_0)).trans hx107_0; replace hx107_1 := (HB.out.cell (World.block_lt_of_cell? w _ hx107_1)).trans hx107_1; have HR107_1 := Aside0.mk hi107_1; have HC107_1 := Aside0.mk hl107_1; clear hi107_1 hl107_1; replace p107 := eq_true p107; replace q107 := eq_true q107) | ((with_reducible refine gate_callee (f := 80) rfl ?_); refine goesL_ (some 21) rfl rfl Tryd.func80 (by kernel_rfl) rfl #[.slice A107_1 ((rd_T45 l0 t105).f1).length c107_1] rfl (by (try simp only [List.map_toArray, List.map_cons, List.map_nil]); first | done | rfl | (simp only [List.length_drop, List.length_take]; rfl)) ?_; (with_reducible refine (slices_Clone_byte_byte.calls _ _ ((rd_T45 l0 t105).f1) t108 _ ?side1 ?side2 A7.out).mono ?_); (case side1 => repeat (first | exact (Kd.C_below HR107_1.out HB.out) | (with_reducible refine Kd.C_alloc ?_ _) | (with_reducible refine Kd.C_drewN ?_ _) | (with_reducible refine Kd.C_drew ?_))); (case side2 => exact HC107_1.out); rintro e w9 ⟨v109, rfl, ho0, hb⟩; refine ⟨_, rfl, ?_⟩; have n0_ := Aside0.mk (Kd.R_lower ho0 (below_size (by repeat (first | (with_reducible first | exact HB.out | apply below_alloc | apply pw_below_drewN | apply below_drew1) | exact HB.out)))); have n1_ := Aside0.mk (below_step (by repeat (first | (with_reducible first | exact HB.out | apply below_alloc | apply pw_below_drewN | apply below_drew1) | exact HB.out)) hb); clear HB; have HO110 := n0_; have HB := n1_; clear n0_ n1_; (try clear hb); (try clear hb2); (try clear hk); (try clear hi); (try clear ho0)))
    go_ret2
    exact ⟨_, by first | rfl | (simp [errW_none, errW_some] <;> rfl) | (simp [*, errW_none, errW_some] <;> rfl), by (with_reducible repeat (first | apply Kd.R_alloc | apply Kd.R_drewN | apply Kd.R_drew)); exact HO110.out, by repeat (first | (with_reducible first | exact HB.out | apply below_alloc | apply pw_below_drewN | apply below_drew1) | exact HB.out)⟩
   ·rw [if_neg c6] at H
    exact absurd H (by simp)
  ·rw [if_neg c5] at H
   exact absurd H (by simp)
 ·replace c4 := Bool.eq_false_iff.mpr c4
  subst c4
  have H1 : (some (([] : List Int), false)) = some (r1, r2) := by rw [if_neg (show ¬ (false = true) by decide)] at H; exact H
  clear H
  have H := H1
  clear H1
  simp only [Option.some.injEq, Prod.mk.injEq] at H
  obtain ⟨rfl, rfl⟩ := H
  go_enter Tryd.func78, Tryd.ntmps78
  go_wp2_with (first | ((with_reducible refine gate_callee (f := 81) rfl ?_); refine goesL_ (some 11) rfl rfl Tryd.func81 (by kernel_rfl) rfl #[.slice A0 l0.length c0, .string a1] rfl (by (try simp only [List.map_toArray, List.map_cons, List.map_nil]); first | done | rfl | (simp only [List.length_drop, List.length_take]; rfl)) ?_; (with_reducible refine (model_place.calls _ _ l0 a1 t105 false _ ?side1 ?side2 A3.out).mono ?_); (case side1 => repeat (first | exact HR0.out | (with_reducible refine Kd.C_alloc ?_ _) | (with_reducible refine Kd.C_drewN ?_ _) | (with_reducible refine Kd.C_drew ?_))); (case side2 => exact HC0.out); rintro e w10 ⟨rfl, hb⟩; refine ⟨_, rfl, ?_⟩; have n0_ := Aside0.mk (below_step (by repeat (first | (with_reducible first | exact HB.out | apply below_alloc | apply pw_below_drewN | apply below_drew1) | exact HB.out)) hb); clear HB; have HB := n0_; clear n0_; (try clear hb); (try clear hb2); (try clear hk); (try clear hi)))
  go_ret2
  exact ⟨_, by first | rfl | (simp [errW_none, errW_some] <;> rfl) | (simp [*, errW_none, errW_some] <;> rfl), by first | exact Kd.R_nil _ _ _ _ _ | exact Kd.N_nil _ _ _ _ _ | exact Kd.V_nil _ _ _ _ _ | exact Kd.Q_nil _ _ _ _ _ | exact Kd.S_nil _ _ _ _ _, by repeat (first | (with_reducible first | exact HB.out | apply below_alloc | apply pw_below_drewN | apply below_drew1) | exact HB.out)⟩

/-! ### plan_of: function 55 -/
def plan_of.f (l0 : List (S45)) (a1 : ByteArray) : Option (Bool × ByteArray) := (model_Find.f l0 a1).bind fun bt112 => (some (bt112.2, strOfNums bt112.1))
set_option maxHeartbeats 8000000 in
set_option maxRecDepth 100000 in
theorem plan_of.calls (A0 : Option Addr) (c0 : Nat) (l0 : List (S45)) (a1 : ByteArray) (r1 : Bool) (r2 : ByteArray) (w : World) (hr0 : Kd.C k45 w A0 l0.length l0) (hc0 : l0.length ≤ c0) (h : plan_of.f l0 a1 = some (r1, r2)) :
  Calls Tryd.prog 55 #[.slice A0 l0.length c0, .string a1] w fun e w' => e = .returned (.agg #[.bool r1, .string r2]) ∧ Below w.heap.size w w' := by
 have hu76 := Tryd.underlying76
 have HR0 := Aside0.mk hr0
 have HC0 := Aside0.mk hc0
 clear hr0 hc0
 have HB := Aside0.mk (Below.refl w.heap.size w)
 have H : ((model_Find.f l0 a1).bind fun bt112 => (some (bt112.2, strOfNums bt112.1))) = some (r1, r2) := h
 clear h
 replace H := Option.bind_eq_some_iff.mp H
 obtain ⟨⟨t112, t113⟩, A30, H⟩ := H
 replace H : (some (t113, strOfNums t112)) = some (r1, r2) := H
 have A3 := Aside0.mk A30
 clear A30
 simp only [Option.some.injEq, Prod.mk.injEq] at H
 obtain ⟨rfl, rfl⟩ := H
 go_enter Tryd.func55, Tryd.ntmps55
 go_wp2_with (first | ((with_reducible refine gate_dst (N := 4) rfl ?_); refine box_event ?hg (N := 4) ?hd (cs := #[.bool false, .string (⟨#[]⟩ : ByteArray)]) (t := 76) ?hr ?_; (case hd => rfl); (case hg => rfl); (case hr => first | (go_simp; done) | (go_simp; rfl)); intro gb111 hg w4 hbox hb; have n0_ := Aside0.mk (below_step (by repeat (first | (with_reducible first | exact HB.out | apply below_alloc | apply pw_below_drewN | apply below_drew1) | exact HB.out)) hb); have n1_ := Aside0.mk (hbox); have n2_ := Aside0.mk ((by rw [hg]; exact (below_size (by repeat (first | (with_reducible first | exact HB.out | apply below_alloc | apply pw_below_drewN | apply below_drew1) | exact HB.out))) : w.heap.size ≤ gb111)); have n3_ := Aside0.mk ((by rw [hg]; exact (below_size (by repeat (first | (with_reducible first | exact HB.out | apply below_alloc | apply pw_below_drewN | apply below_drew1) | exact HB.out))) : w.heap.size ≤ gb111)); clear HB; have HB := n0_; have BK111 := n1_; have GW111 := n2_; have GE111 := n3_; clear n0_ n1_ n2_ n3_; clear hb hbox hg) | ((with_reducible refine gate_callee (f := 78) rfl ?_); refine goesL_ (some 10) rfl rfl Tryd.func78 (by kernel_rfl) rfl #[.slice A0 l0.length c0, .string a1] rfl (by (try simp only [List.map_toArray, List.map_cons, List.map_nil]); first | done | rfl | (simp only [List.length_drop, List.length_take]; rfl)) ?_; (with_reducible refine (model_Find.calls _ _ l0 a1 t112 t113 _ ?side1 ?side2 A3.out).mono ?_); (case side1 => repeat (first | exact (Kd.C_below HR0.out HB.out) | (with_reducible refine Kd.C_alloc ?_ _) | (with_reducible refine Kd.C_drewN ?_ _) | (with_reducible refine Kd.C_drew ?_))); (case side2 => exact HC0.out); rintro e w5 ⟨v114, rfl, ho0, hb⟩; refine ⟨_, rfl, ?_⟩; have n0_ := Aside0.mk (Kd.R_lower ho0 (below_size (by repeat (first | (with_reducible first | exact HB.out | apply below_alloc | apply pw_below_drewN | apply below_drew1 | refine below_set ?_ GE111.out) | exact HB.out)))); have n1_ := Aside0.mk (blk_below (g := gb111) (o := .cells #[.bool false, .string (⟨#[]⟩ : ByteArray)] 76 (0, 0)) (by (with_reducible repeat (first | refine blk_drewN ?_ _ | refine blk_drew ?_ | refine blk_alloc ?_ _)); exact BK111.out) hb); have n2_ := Aside0.mk (below_step (by repeat (first | (with_reducible first | exact HB.out | apply below_alloc | apply pw_below_drewN | apply below_drew1 | refine below_set ?_ GE111.out) | exact HB.out)) hb); clear BK111; clear HB; have HO115 := n0_; have BK111 := n1_; have HB := n2_; clear n0_ n1_ n2_; (try clear hb); (try clear hb2); (try clear hk); (try clear hi); (try clear ho0); have hcv6 := own_string (P := Tryd.prog) Tryd.underlying43 Tryd.underlying5 Tryd.underlying9 (Kd.own_of_R HO115.out); have hcz7_0 : w5.cell? ⟨gb111, 0, none⟩ = some (.bool false) := (blk_cell BK111.out 0).trans rfl; have hcz7_1 : w5.cell? ⟨gb111, 1, none⟩ = some (.string (⟨#[]⟩ : ByteArray)) := (blk_cell BK111.out 1).trans rfl; have hfz7_0 := blk_frozen BK111.out 0; have hfz7_1 := blk_frozen BK111.out 1))
 refine bodyPost_ret (results_cell_row rfl _ _ gb111 76 #[.bool t113, .string (strOfNums t112)] (0, 0) _ rfl (by (with_reducible repeat (first | refine blk_drewN ?_ _ | refine blk_drew ?_ | refine blk_alloc ?_ _)); refine blk_put (cs := #[.bool t113, .string (⟨#[]⟩ : ByteArray)]) ?_ 1 _ rfl; (with_reducible repeat (first | refine blk_drewN ?_ _ | refine blk_drew ?_ | refine blk_alloc ?_ _)); refine blk_put (cs := #[.bool false, .string (⟨#[]⟩ : ByteArray)]) ?_ 0 _ rfl; (with_reducible repeat (first | refine blk_drewN ?_ _ | refine blk_drew ?_ | refine blk_alloc ?_ _)); exact BK111.out) Tryd.underlying76 rfl (by kernel_rfl)) rfl ?_
 exact ⟨by first | rfl | (simp [errW_none, errW_some] <;> rfl) | (simp [*, errW_none, errW_some] <;> rfl), by repeat (first | (with_reducible first | exact HB.out | apply below_alloc | apply pw_below_drewN | apply below_drew1 | refine below_set ?_ GE111.out) | exact HB.out)⟩

/-! ### plan_Diff: function 32 (told by hand) -/
def plan_Diff.op (k : Int) (n : ByteArray) (d : List Int) : S72 := ⟨k, n, d, 0, z70⟩
/-- A step, and is it there. -/
def plan_Diff.gone (l1 : List (S45)) (n : ByteArray) : Option (S72 × Bool) := (plan_of.f l1 n).bind fun t => some (plan_Diff.op 11 n [], !t.1)
def plan_Diff.put (l0 l1 : List (S45)) (n : ByteArray) : Option (S72 × Bool) := (plan_of.f l1 n).bind fun t => if t.2.size ≤ 9223372036854775807 then (if t.1 = true then (plan_of.f l0 n).bind fun u => some (plan_Diff.op 3 n (bytesOf t.2), !(u.1 == t.1 && u.2.toList == t.2.toList)) else some (plan_Diff.op 3 n (bytesOf t.2), false)) else none
def plan_Diff.pick (step : ByteArray → Option (S72 × Bool)) : List ByteArray → Option (List S72)
  | [] => some []
  | n :: l => (step n).bind fun o => (plan_Diff.pick step l).bind fun r => some (if o.2 = true then o.1 :: r else r)
def plan_Diff.f (l0 l1 : List (S45)) : Option (List S72) := (plan_names.f [l0, l1]).bind fun l => if l.length ≤ 1000000 then (plan_Diff.pick (plan_Diff.gone l1) l).bind fun g => (plan_Diff.pick (plan_Diff.put l0 l1) l).bind fun p => some (g ++ p) else none
def plan_Diff.cells (x : S72) (v : Value) : List Value := [.int .i64 x.f0, .string x.f1, v, .int .i64 0, .slice none 0 0, .int .i64 0, .int .u8 0]
theorem plan_Diff.sz : (Tryd.prog.info? 72).map (·.size) = some 7 := by kernel_rfl
theorem plan_Diff.clo1 (gb c1 : Nat) (A1 : Option Addr) (l1 : List (S45)) (n : ByteArray) (t : Bool) (d : ByteArray) (w : World) (hg : w.cell? ⟨gb, 0, none⟩ = some (.slice A1 l1.length c1)) (hC : Kd.C k45 w A1 l1.length l1) (hc : l1.length ≤ c1) (h : plan_of.f l1 n = some (t, d)) :
    Calls Tryd.prog 54 #[.string n, .pointer (some ⟨gb, 0, none⟩)] w fun e w' => e = .returned (.tuple #[.agg (plan_Diff.cells (plan_Diff.op 11 n []) (.slice none 0 0)).toArray, .bool (!t)]) ∧ Below w.heap.size w w' := by
  have hfd : ∀ w, (Instr.field 76 (.agg #[.bool t, .string d]) 0).run Tryd.prog w = .ok (.bool t) w := fun w => YtcfcbkcaondfcaaDoorMpHelp.run_field Tryd.underlying76 rfl (fun w => Tryd.isAgg4 w) rfl
  have hlt : gb < w.heap.size := World.block_lt_of_cell? w ⟨gb, 0, none⟩ hg
  have hg2 : ∀ o, (w.alloc o).cell? ⟨gb, 0, none⟩ = some (.slice A1 l1.length c1) := fun o => by rw [World.cell?_alloc_past _ _ _ hlt]; exact hg
  have HC := Aside0.mk hC
  clear hC
  go_enter Tryd.func54, Tryd.ntmps54
  have cO := fun o => plan_of.calls A1 c1 l1 n t d (w.alloc o) (Kd.C_alloc HC.out o) hc h
  have HO := Aside0.mk cO
  clear cO h
  go_wp2_with fail
  refine (HO.out _).mono ?_
  rintro e w1 ⟨rfl, hb⟩
  have hw1 : w1.heap[w.heap.size]? = some (.cells #[.int .i64 0, .string ⟨#[]⟩, .slice none 0 0, .int .i64 0, .slice none 0 0, .int .i64 0, .int .u8 0] 72 (0, 0)) := by
    rw [hb.block _ (by rw [YtcfcbkcaondfcaaDoorMpHelp.size_new]; omega)]
    exact YtcfcbkcaondfcaaDoorMpHelp.heap_new w _
  have HB := Aside0.mk ((below_alloc (Below.refl w.heap.size w) _).trans (hb.mono (by rw [YtcfcbkcaondfcaaDoorMpHelp.size_new]; omega)))
  have HW := Aside0.mk hw1
  clear hb hw1
  generalize hgg : w.heap.size = g at *
  have HGG := Aside0.mk hgg
  clear hgg
  go_wp2_with ((with_reducible refine gate_ (.store 72 (.tmp 3) (.tmp 6)) rfl ?_); refine YtcfcbkcaondfcaaDoorMpHelp.wpList_store_blk rfl rfl 72 _ _ rfl 72 g _ #[.int .i64 11, .string n, .slice none 0 0, .int .i64 0, .slice none 0 0, .int .i64 0, .int .u8 0] HW.out rfl rfl plan_Diff.sz rfl (by simp [Value.oneCell']) HB.out (Nat.le_refl _) ?_; intro w2 h2 hb2 hk2)
  refine bodyPost_ret (results_ct rfl _ _ g 72 _ (0, 0) _ rfl h2 Tryd.underlying72 rfl (by kernel_rfl)) rfl ?_
  exact ⟨rfl, by rw [HGG.out]; exact hb2⟩
/-- What a closure's region holds. -/
structure plan_Diff.Hd (w : World) (ga g h : Nat) (A0 : Option Addr) (n0 c0 : Nat) (t : Bool) (d : ByteArray) (W : World) : Prop where
  b : Below g w W
  r : ∃ cs, W.heap[g]? = some (.cells cs 72 (0, 0)) ∧ cs.size = 7
  v : W.heap[h]? = some (.cells #[.bool t, .string d] 76 (0, 0))
  a : W.cell? ⟨ga, 0, none⟩ = some (.slice A0 n0 c0)
  ne1 : g ≠ h
  ne2 : ga ≠ g
  le : g ≤ w.heap.size
section
variable {w W W' : World} {ga g h n0 c0 : Nat} {A0 : Option Addr} {t : Bool} {d : ByteArray}
theorem plan_Diff.Hd.drew (H : plan_Diff.Hd w ga g h A0 n0 c0 t d W) : plan_Diff.Hd w ga g h A0 n0 c0 t d W.drew := ⟨below_drew1 H.b, H.r, H.v, H.a, H.ne1, H.ne2, H.le⟩
theorem plan_Diff.Hd.step (H : plan_Diff.Hd w ga g h A0 n0 c0 t d W) (hb : Below W.heap.size W W') : plan_Diff.Hd w ga g h A0 n0 c0 t d W' :=
  ⟨H.b.trans (hb.mono (Nat.le_trans H.le H.b.size)), by obtain ⟨cs, h1, h2⟩ := H.r; exact ⟨cs, blk_below h1 hb, h2⟩, blk_below H.v hb, (hb.cell (p := ⟨ga, 0, none⟩) (World.block_lt_of_cell? W ⟨ga, 0, none⟩ H.a)).trans H.a, H.ne1, H.ne2, H.le⟩
theorem plan_Diff.Hd.conv (H : plan_Diff.Hd w ga g h A0 n0 c0 t d W) (e : Nat) (s : ByteArray) : plan_Diff.Hd w ga g h A0 n0 c0 t d (Lib.bytesWorld W e s) := H.step (bytes_below (Below.refl _ _) (Nat.le_refl _) e s)
/-- What a cell holds. -/
def plan_Diff.at_ (W : World) (g j : Nat) : Value := (W.cell? ⟨g, j, none⟩).getD undef
theorem plan_Diff.Hd.at (H : plan_Diff.Hd w ga g h A0 n0 c0 t d W) (j : Nat) (hj : j < 7) : W.cell? ⟨g, j, none⟩ = some (plan_Diff.at_ W g j) := by
  obtain ⟨cs, h1, h2⟩ := H.r
  unfold plan_Diff.at_
  rw [cell_of_row W g j _ _ (0, 0) h1, Array.getElem?_eq_getElem (by omega)]
  rfl
theorem plan_Diff.Hd.fr (H : plan_Diff.Hd w ga g h A0 n0 c0 t d W) (j : Nat) : W.frozen? ⟨g, j, none⟩ = false := by
  obtain ⟨cs, h1, h2⟩ := H.r
  exact blk_frozen h1 _
/-- As a region asks it. -/
abbrev plan_Diff.Sx (w : World) (ga g h : Nat) (A0 : Option Addr) (n0 c0 : Nat) (t : Bool) (d : ByteArray) (W : World) : Prop :=
  plan_Diff.Hd w ga g h A0 n0 c0 t d W ∧ W.cell? ⟨h, 0, none⟩ = some (.bool t) ∧ W.cell? ⟨h, 1, none⟩ = some (.string d) ∧ W.cell? ⟨ga, 0, none⟩ = some (.slice A0 n0 c0) ∧ W.cell? ⟨g, 0, none⟩ = some (plan_Diff.at_ W g 0) ∧ W.frozen? ⟨g, 0, none⟩ = false ∧ W.cell? ⟨g, 1, none⟩ = some (plan_Diff.at_ W g 1) ∧ W.frozen? ⟨g, 1, none⟩ = false ∧ W.cell? ⟨g, 2, none⟩ = some (plan_Diff.at_ W g 2) ∧ W.frozen? ⟨g, 2, none⟩ = false ∧ W.cell? ⟨g, 3, none⟩ = some (plan_Diff.at_ W g 3) ∧ W.frozen? ⟨g, 3, none⟩ = false ∧ W.cell? ⟨g, 4, none⟩ = some (plan_Diff.at_ W g 4) ∧ W.frozen? ⟨g, 4, none⟩ = false ∧ W.cell? ⟨g, 5, none⟩ = some (plan_Diff.at_ W g 5) ∧ W.frozen? ⟨g, 5, none⟩ = false ∧ W.cell? ⟨g, 6, none⟩ = some (plan_Diff.at_ W g 6) ∧ W.frozen? ⟨g, 6, none⟩ = false
theorem plan_Diff.Hd.all (H : plan_Diff.Hd w ga g h A0 n0 c0 t d W) : plan_Diff.Sx w ga g h A0 n0 c0 t d W :=
  ⟨H, by rw [cell_of_row W h 0 _ _ (0, 0) H.v]; rfl, by rw [cell_of_row W h 1 _ _ (0, 0) H.v]; rfl, H.a, H.at 0 (by omega), H.fr 0, H.at 1 (by omega), H.fr 1, H.at 2 (by omega), H.fr 2, H.at 3 (by omega), H.fr 3, H.at 4 (by omega), H.fr 4, H.at 5 (by omega), H.fr 5, H.at 6 (by omega), H.fr 6⟩
theorem plan_Diff.Hd.store (H : plan_Diff.Hd w ga g h A0 n0 c0 t d W) (vs : List Value) (hl : vs.length = 7) : plan_Diff.Hd w ga g h A0 n0 c0 t d (W.setCells g 0 vs) := by
  obtain ⟨s1, s2, s3, s4⟩ := setCells_same g vs 0 W
  obtain ⟨cs, h1, h2⟩ := H.r
  obtain ⟨cur', h3, h4, h5⟩ := setCells_row (g := g) vs 0 W cs h1 (by omega)
  refine ⟨H.b.trans ⟨s1, s2, s3, by rw [s4]; exact Nat.le_refl _, fun k hk => setCells_far _ _ k (by have := H.le; omega)⟩, ⟨cur', h3, by omega⟩, (setCells_far _ _ h (Ne.symm H.ne1)).trans H.v, ?_, H.ne1, H.ne2, H.le⟩
  rw [World.cell?_of_block (setCells_far vs 0 ga H.ne2)]
  exact H.a
theorem plan_Diff.Hd.store7 (H : plan_Diff.Hd w ga g h A0 n0 c0 t d W) (v0 v1 v2 v3 v4 v5 v6 : Value) : plan_Diff.Hd w ga g h A0 n0 c0 t d (((((((W.setCell ⟨g, 0, none⟩ v0).setCell ⟨g, 1, none⟩ v1).setCell ⟨g, 2, none⟩ v2).setCell ⟨g, 3, none⟩ v3).setCell ⟨g, 4, none⟩ v4).setCell ⟨g, 5, none⟩ v5).setCell ⟨g, 6, none⟩ v6) := H.store [v0, v1, v2, v3, v4, v5, v6] rfl
theorem plan_Diff.Sx.conv (H : plan_Diff.Sx w ga g h A0 n0 c0 t d W) (e : Nat) (s : ByteArray) : plan_Diff.Hd w ga g h A0 n0 c0 t d (Lib.bytesWorld W e s) := H.1.conv e s
theorem plan_Diff.Sx.step (H : plan_Diff.Sx w ga g h A0 n0 c0 t d W) (hb : Below W.heap.size W W') : plan_Diff.Hd w ga g h A0 n0 c0 t d W' := H.1.step hb
theorem plan_Diff.Sx.store7 (H : plan_Diff.Sx w ga g h A0 n0 c0 t d W) (v0 v1 v2 v3 v4 v5 v6 : Value) : plan_Diff.Hd w ga g h A0 n0 c0 t d (((((((W.setCell ⟨g, 0, none⟩ v0).setCell ⟨g, 1, none⟩ v1).setCell ⟨g, 2, none⟩ v2).setCell ⟨g, 3, none⟩ v3).setCell ⟨g, 4, none⟩ v4).setCell ⟨g, 5, none⟩ v5).setCell ⟨g, 6, none⟩ v6) := H.1.store7 v0 v1 v2 v3 v4 v5 v6
theorem plan_Diff.Hd.row7 (H : plan_Diff.Hd w ga g h A0 n0 c0 t d W) (v0 v1 v2 v3 v4 v5 v6 : Value) : (((((((W.setCell ⟨g, 0, none⟩ v0).setCell ⟨g, 1, none⟩ v1).setCell ⟨g, 2, none⟩ v2).setCell ⟨g, 3, none⟩ v3).setCell ⟨g, 4, none⟩ v4).setCell ⟨g, 5, none⟩ v5).setCell ⟨g, 6, none⟩ v6).heap[g]? = some (.cells #[v0, v1, v2, v3, v4, v5, v6] 72 (0, 0)) := by
  obtain ⟨cs, h1, h2⟩ := H.r
  obtain ⟨cur', h3, h4, h5⟩ := setCells_row (g := g) [v0, v1, v2, v3, v4, v5, v6] 0 W cs h1 (by simp; omega)
  have e5 : cur' = #[v0, v1, v2, v3, v4, v5, v6] := by
    apply Array.toList_inj.1
    rw [h5, List.take_zero, List.nil_append, List.drop_eq_nil_of_le (by simp; omega), List.append_nil]
  rw [e5] at h3
  exact h3
theorem plan_Diff.Hd.data7 (H : plan_Diff.Hd w ga g h A0 n0 c0 t d W) {W3 : World} (s : ByteArray) (hs : s.size ≤ 9223372036854775807) (hb : Below (Lib.bytesWorld W 5 s).heap.size (Lib.bytesWorld W 5 s) W3) (v0 v1 v2 v3 v4 v5 v6 : Value) :
    Kd.V (Kd.int .u8) 5 (((((((W3.setCell ⟨g, 0, none⟩ v0).setCell ⟨g, 1, none⟩ v1).setCell ⟨g, 2, none⟩ v2).setCell ⟨g, 3, none⟩ v3).setCell ⟨g, 4, none⟩ v4).setCell ⟨g, 5, none⟩ v5).setCell ⟨g, 6, none⟩ v6) w.heap.size (fun k => w.heap.size ≤ k) (.slice (some ⟨W.heap.size, 0, none⟩) s.size (grownCap W s.size 0 5)) (bytesOf s) := by
  have h1 := YtcfcbkcaondfcaaDoorMpHelp.V_of_bytes (W := W) w.heap.size 5 s hs (ok := fun k => k = W.heap.size) rfl
  obtain ⟨cs, r1, r2⟩ := H.r
  have hg : g < W.heap.size := (Array.getElem?_eq_some_iff.1 r1).1
  refine Kd.V_mono (Kd.V_step (Kd.V_below h1 hb) (fun k hk hlt => ?_)) (fun k hk => by rw [hk]; exact H.b.size)
  exact setCells_far (g := g) [v0, v1, v2, v3, v4, v5, v6] 0 k (by rw [hk]; omega)
end
theorem plan_Diff.eqA (d : Nat) (w : World) (x0 y0 : Bool) (x1 y1 : ByteArray) : (Op.equalIn (d + 2) 76 (.agg #[.bool x0, .string x1]) (.agg #[.bool y0, .string y1])).run Tryd.prog w = .ok (x0 == y0 && (x1.toList == y1.toList)) w := by
  refine eqA_of Tryd.underlying76 (by kernel_rfl) ?_
  refine eqf_cons (by rfl) (by go_simp; rfl) (by go_simp; rfl) (by go_simp) ?_
  exact eqf_last (by rfl) (by go_simp; rfl) (by go_simp; rfl) (by go_simp)
set_option maxHeartbeats 4000000 in
theorem plan_Diff.clo2 (ga gb c0 c1 : Nat) (A0 A1 : Option Addr) (l0 l1 : List (S45)) (n : ByteArray) (x : S72) (ok : Bool) (w : World) (hga : w.cell? ⟨ga, 0, none⟩ = some (.slice A0 l0.length c0)) (hgb : w.cell? ⟨gb, 0, none⟩ = some (.slice A1 l1.length c1))
    (hC0 : Kd.C k45 w A0 l0.length l0) (hc0 : l0.length ≤ c0) (hC1 : Kd.C k45 w A1 l1.length l1) (hc1 : l1.length ≤ c1) (h : plan_Diff.put l0 l1 n = some (x, ok)) :
    Calls Tryd.prog 56 #[.string n, .pointer (some ⟨gb, 0, none⟩), .pointer (some ⟨ga, 0, none⟩)] w fun e w' => ∃ v, e = .returned (.tuple #[.agg (plan_Diff.cells x v).toArray, .bool ok]) ∧ x = plan_Diff.op 3 n x.f2 ∧ Kd.V (Kd.int .u8) 5 w' w.heap.size (fun k => w.heap.size ≤ k) v x.f2 ∧ Below w.heap.size w w' := by
  unfold plan_Diff.put at h
  obtain ⟨⟨t, d⟩, h1, h⟩ := Option.bind_eq_some_iff.mp h
  by_cases hd : d.size ≤ 9223372036854775807
  · rw [if_pos hd] at h
    have hfd : ∀ w, (Instr.field 76 (.agg #[.bool t, .string d]) 0).run Tryd.prog w = .ok (.bool t) w := fun w => YtcfcbkcaondfcaaDoorMpHelp.run_field Tryd.underlying76 rfl (fun w => Tryd.isAgg4 w) rfl
    have hltb : gb < w.heap.size := World.block_lt_of_cell? w ⟨gb, 0, none⟩ hgb
    have hlta : ga < w.heap.size := World.block_lt_of_cell? w ⟨ga, 0, none⟩ hga
    have hgb2 : ∀ o, (w.alloc o).cell? ⟨gb, 0, none⟩ = some (.slice A1 l1.length c1) := fun o => by rw [World.cell?_alloc_past _ _ _ hltb]; exact hgb
    have hga2 : ∀ W, Below w.heap.size w W → W.cell? ⟨ga, 0, none⟩ = some (.slice A0 l0.length c0) := fun W hW => (hW.cell (p := ⟨ga, 0, none⟩) hlta).trans hga
    have HA := Aside0.mk hga2
    have HC := Aside0.mk hC0
    have cO := fun o => plan_of.calls A1 c1 l1 n t d (w.alloc o) (Kd.C_alloc hC1 o) hc1 h1
    have HO := Aside0.mk cO
    clear cO hC0 hC1 hga2 hga hgb
    have HH := Aside0.mk h
    clear h
    go_enter Tryd.func56, Tryd.ntmps56
    go_wp2_with fail
    refine (HO.out _).mono ?_
    rintro e w1 ⟨rfl, hb⟩
    have hw1 : w1.heap[w.heap.size]? = some (.cells #[.int .i64 0, .string ⟨#[]⟩, .slice none 0 0, .int .i64 0, .slice none 0 0, .int .i64 0, .int .u8 0] 72 (0, 0)) := by
      rw [hb.block _ (by rw [YtcfcbkcaondfcaaDoorMpHelp.size_new]; omega)]
      exact YtcfcbkcaondfcaaDoorMpHelp.heap_new w _
    have HB := Aside0.mk ((below_alloc (Below.refl w.heap.size w) _).trans (hb.mono (by rw [YtcfcbkcaondfcaaDoorMpHelp.size_new]; omega)))
    have HW := Aside0.mk hw1
    have HL := Aside0.mk (show w.heap.size < w1.heap.size from (Array.getElem?_eq_some_iff.1 hw1).1)
    clear hb hw1
    go_wp2_with fail
    have kb := fun W => print_bytes (P := Tryd.prog) 9 43 5 Tryd.underlying9 Tryd.underlying43 Tryd.underlying5 d W
    have h0 : plan_Diff.Hd w ga w.heap.size w1.heap.size A0 l0.length c0 t d (w1.alloc (.cells #[.bool t, .string d] 76)) :=
      ⟨below_alloc HB.out _, ⟨_, blk_alloc HW.out _, rfl⟩, YtcfcbkcaondfcaaDoorMpHelp.heap_new w1 _, HA.out _ (below_alloc HB.out _), by have := HL.out; omega, by omega, Nat.le_refl _⟩
    have hi := plan_Diff.sz
    have hu := Tryd.underlying72
    generalize w1.alloc (.cells #[.bool t, .string d] 76) = w2 at h0 ⊢
    generalize w1.heap.size = g2 at *
    generalize hgg : w.heap.size = g at *
    have HGG := Aside0.mk hgg
    clear hgg
    cases t with
    | false =>
      have HS := Aside0.mk h0
      have hh := HH.out
      rw [if_neg (by decide)] at hh
      have hx := Option.some.inj hh
      injection hx with hx1 hx2
      subst hx1 hx2
      clear hh HH h
      obtain ⟨_, f1, f2, _⟩ := h0.all
      clear h0
      have hz := (HS.out.drew.conv 5 d).all
      obtain ⟨_, f3, f4, f5, z0, y0, z1, y1, z2, y2, z3, y3, z4, y4, z5, y5, z6, y6⟩ := hz
      go_region
      all_goals go_wp2
      all_goals refine bodyPost_ret (results_ct rfl _ _ g 72 _ (0, 0) _ rfl (plan_Diff.Hd.row7 (HS.out.drew.conv _ _) _ _ _ _ _ _ _) Tryd.underlying72 rfl (by kernel_rfl)) rfl ?_
      all_goals exact ⟨_, rfl, rfl, plan_Diff.Hd.data7 HS.out.drew d hd (Below.refl _ _) _ _ _ _ _ _ _, by rw [HGG.out]; exact (plan_Diff.Hd.store7 (HS.out.drew.conv _ _) _ _ _ _ _ _ _).b⟩
    | true =>
      have HS := Aside0.mk h0
      clear h0
      have hh := HH.out
      rw [if_pos rfl] at hh
      obtain ⟨⟨u1, u2⟩, hu0, hh⟩ := Option.bind_eq_some_iff.mp hh
      have hx := Option.some.inj hh
      injection hx with hx1 hx2
      subst hx1 hx2
      have HP := Aside0.mk (fun (W : World) (H : plan_Diff.Hd w ga g g2 A0 l0.length c0 true d W) => plan_of.calls A0 c0 l0 n u1 u2 W (Kd.C_below HC.out (by rw [HGG.out]; exact H.b)) hc0 hu0)
      clear hh HH hu0 h
      have eqA := plan_Diff.eqA
      refine wp_region_noPanic ?_
      refine wp_region_held_drew (S := (fun W => plan_Diff.Sx w ga g g2 A0 l0.length c0 true d W)) (by kernel_rfl) HS.out.drew.all (fun hHeld => ?_)
      refine' wpAnyH_take (i := 0) (oi := { dst := some 10, op := Op.move (Operand.tmp 0), type := 9, pos := "plan.go:75", after := #[], guard := none }) (v := _) rfl (by kernel_rfl) (by kernel_rfl) (by kernel_rfl) (fun _ _ _ h => h) (Or.inl ⟨by rfl, ?hy⟩) (by assumption) ?rest
      case hy => (intro w hSw; obtain ⟨_, q0_, q1_, q2_, _⟩ := hSw; go_simp; try with_reducible rfl)
      case rest =>
        try simp only [Act.put, List.setIfInBounds_toArray, List.set_cons_zero, List.set_cons_succ]
        refine' wpAnyH_take (i := 1) (oi := { dst := some 11, op := Op.fieldAddr 76 (Operand.tmp 6) 1, type := 0, pos := "plan.go:75", after := #[], guard := none }) (v := _) rfl (by kernel_rfl) (by kernel_rfl) (by kernel_rfl) (fun _ _ _ h => h) (Or.inl ⟨by rfl, ?hy⟩) (by assumption) ?rest
        case hy => (intro w hSw; obtain ⟨_, q0_, q1_, q2_, _⟩ := hSw; go_simp; try with_reducible rfl)
        case rest =>
          try simp only [Act.put, List.setIfInBounds_toArray, List.set_cons_zero, List.set_cons_succ]
          refine' wpAnyH_take (i := 2) (oi := { dst := some 12, op := Op.load 9 (Operand.tmp 11), type := 9, pos := "plan.go:75", after := #[{ on := 1, ground := Ground.data }], guard := none }) (v := _) rfl (by kernel_rfl) (by kernel_rfl) (by kernel_rfl) (fun _ _ _ h => h) (Or.inl ⟨by rfl, ?hy⟩) (by assumption) ?rest
          case hy => (intro w hSw; obtain ⟨_, q0_, q1_, q2_, _⟩ := hSw; go_simp; try with_reducible rfl)
          case rest =>
            try simp only [Act.put, List.setIfInBounds_toArray, List.set_cons_zero, List.set_cons_succ]
            refine' wpAnyH_take (i := 5) (oi := { dst := some 15, op := Op.fieldAddr 76 (Operand.tmp 6) 0, type := 0, pos := "plan.go:75", after := #[], guard := none }) (v := _) rfl (by kernel_rfl) (by kernel_rfl) (by kernel_rfl) (fun _ _ _ h => h) (Or.inl ⟨by rfl, ?hy⟩) (by assumption) ?rest
            case hy => (intro w hSw; obtain ⟨_, q0_, q1_, q2_, _⟩ := hSw; go_simp; try with_reducible rfl)
            case rest =>
              try simp only [Act.put, List.setIfInBounds_toArray, List.set_cons_zero, List.set_cons_succ]
              refine' wpAnyH_take (i := 6) (oi := { dst := some 16, op := Op.load 4 (Operand.tmp 15), type := 4, pos := "plan.go:75", after := #[{ on := 5, ground := Ground.data }], guard := none }) (v := _) rfl (by kernel_rfl) (by kernel_rfl) (by kernel_rfl) (fun _ _ _ h => h) (Or.inl ⟨by rfl, ?hy⟩) (by assumption) ?rest
              case hy => (intro w hSw; obtain ⟨_, q0_, q1_, q2_, _⟩ := hSw; go_simp; try with_reducible rfl)
              case rest =>
                try simp only [Act.put, List.setIfInBounds_toArray, List.set_cons_zero, List.set_cons_succ]
                refine' wpAnyH_take (i := 7) (oi := { dst := some 17, op := Op.move (Operand.tmp 16), type := 4, pos := "plan.go:75", after := #[{ on := 6, ground := Ground.data }], guard := none }) (v := _) rfl (by kernel_rfl) (by kernel_rfl) (by kernel_rfl) (fun _ _ _ h => h) (Or.inl ⟨by rfl, ?hy⟩) (by assumption) ?rest
                case hy => (intro w hSw; obtain ⟨_, q0_, q1_, q2_, _⟩ := hSw; go_simp; try with_reducible rfl)
                case rest =>
                  try simp only [Act.put, List.setIfInBounds_toArray, List.set_cons_zero, List.set_cons_succ]
                  refine' wpAnyH_take (i := 8) (oi := { dst := some 18, op := Op.load 36 (Operand.tmp 2), type := 36, pos := "plan.go:75", after := #[{ on := 7, ground := Ground.guard }], guard := some (7, true) }) (v := _) rfl (by kernel_rfl) (by kernel_rfl) (by kernel_rfl) (fun _ _ _ h => h) (Or.inl ⟨by rfl, ?hy⟩) (by assumption) ?rest
                  case hy => (intro w hSw; obtain ⟨_, q0_, q1_, q2_, _⟩ := hSw; go_simp; try with_reducible rfl)
                  case rest =>
                    try simp only [Act.put, List.setIfInBounds_toArray, List.set_cons_zero, List.set_cons_succ]
                    refine' wpAnyH_take (i := 9) (oi := { dst := some 19, op := Op.move (Operand.tmp 0), type := 9, pos := "plan.go:75", after := #[{ on := 7, ground := Ground.guard }], guard := some (7, true) }) (v := _) rfl (by kernel_rfl) (by kernel_rfl) (by kernel_rfl) (fun _ _ _ h => h) (Or.inl ⟨by rfl, ?hy⟩) (by assumption) ?rest
                    case hy => (intro w hSw; obtain ⟨_, q0_, q1_, q2_, _⟩ := hSw; go_simp; try with_reducible rfl)
                    case rest =>
                      try simp only [Act.put, List.setIfInBounds_toArray, List.set_cons_zero, List.set_cons_succ]
                      refine' wpAnyH_take (i := 11) (oi := { dst := some 21, op := Op.load 76 (Operand.tmp 6), type := 76, pos := "plan.go:75", after := #[{ on := 7, ground := Ground.guard }, { on := 14, ground := Ground.gcOnly Departure.lateStores }], guard := some (7, true) }) (v := _) rfl (by kernel_rfl) (by kernel_rfl) (by kernel_rfl) (fun _ _ _ h => h) (Or.inl ⟨by rfl, ?hy⟩) (by assumption) ?rest
                      case hy => (intro w hSw; obtain ⟨_, q0_, q1_, q2_, _⟩ := hSw; go_simp; try with_reducible rfl)
                      case rest =>
                        try simp only [Act.put, List.setIfInBounds_toArray, List.set_cons_zero, List.set_cons_succ]
                        refine wpAnyH_ready (rs := [3, 10]) (by kernel_rfl) (by simp) ?_
                        refine AllReadyH.cons (o := { dst := some 13, op := Op.convert 9 43 (Operand.tmp 12), type := 43, pos := "plan.go:75", after := #[{ on := 2, ground := Ground.data }], guard := none }) rfl (fun K hK => ?_) ?_
                        · skip
                          go_simp
                          refine hK.out _ _ ?_ (fun hHeld2 => ?_)
                          · exact (plan_Diff.Sx.conv hHeld _ _).all
                          clear hK K hHeld
                          have hHeld := hHeld2
                          clear hHeld2
                          try simp only [Act.put, List.setIfInBounds_toArray, List.set_cons_zero, List.set_cons_succ]
                          refine' wpAnyH_take (i := 4) (oi := { dst := some 14, op := Op.build 72 #[(0, Operand.const (Value.int IntKind.i64 3)), (1, Operand.tmp 10), (2, Operand.tmp 13)], type := 72, pos := "plan.go:75", after := #[{ on := 0, ground := Ground.data }, { on := 3, ground := Ground.data }], guard := none }) (v := _) rfl (by kernel_rfl) (by kernel_rfl) (by kernel_rfl) (fun _ _ _ h => h) (Or.inl ⟨by rfl, ?hy⟩) (by assumption) ?rest
                          case hy => (intro w hSw; obtain ⟨_, q0_, q1_, q2_, _⟩ := hSw; go_simp; try with_reducible rfl)
                          case rest =>
                            try simp only [Act.put, List.setIfInBounds_toArray, List.set_cons_zero, List.set_cons_succ]
                            refine wpAnyH_ready (rs := [10]) (by kernel_rfl) (by simp) ?_
                            refine AllReadyH.cons (o := { dst := some 20, op := Op.call { callee := Callee.value (Operand.func 55), args := #[Operand.tmp 18, Operand.tmp 19], argTypes := #[36, 9] }, type := 76, pos := "plan.go:75", after := #[{ on := 8, ground := Ground.data }, { on := 9, ground := Ground.data }, { on := 7, ground := Ground.chain }, { on := 7, ground := Ground.guard }], guard := some (7, true) }) rfl (fun K hK => ?_) ?_
                            rotate_left
                            · exact AllReadyH.nil
                            rw [if_pos (by rfl)]
                            go_simp
                            go_at_call 55
                            refine (HP.out _ hHeld.1).mono ?_
                            rintro e w3 ⟨rfl, hb3⟩
                            (try go_wp2_with fail)
                            refine hK.out _ _ ?_ (fun hHeld2 => ?_)
                            · exact (plan_Diff.Sx.step hHeld hb3).all
                            clear hK K hHeld
                            have hHeld := hHeld2
                            clear hHeld2
                            try simp only [Act.put, List.setIfInBounds_toArray, List.set_cons_zero, List.set_cons_succ]
                            refine' wpAnyH_take (i := 12) (oi := { dst := some 22, op := Op.binOp BinOp.neq 76 (Operand.tmp 20) (Operand.tmp 21) 76, type := 4, pos := "plan.go:75", after := #[{ on := 10, ground := Ground.data }, { on := 11, ground := Ground.data }, { on := 7, ground := Ground.guard }, { on := 14, ground := Ground.gcOnly Departure.lateStores }], guard := some (7, true) }) (v := _) rfl (by kernel_rfl) (by kernel_rfl) (by kernel_rfl) (fun _ _ _ h => h) (Or.inl ⟨by rfl, ?hy⟩) (by assumption) ?rest
                            case hy => (intro w hSw; obtain ⟨_, q0_, q1_, q2_, _⟩ := hSw; go_simp; try with_reducible rfl)
                            case rest =>
                              try simp only [Act.put, List.setIfInBounds_toArray, List.set_cons_zero, List.set_cons_succ]
                              refine' wpAnyH_take (i := 13) (oi := { dst := some 23, op := Op.pick (Operand.tmp 17) (Operand.tmp 22) (Operand.const (Value.bool false)), type := 4, pos := "plan.go:75", after := #[{ on := 7, ground := Ground.data }, { on := 12, ground := Ground.data }, { on := 14, ground := Ground.gcOnly Departure.lateStores }], guard := none }) (v := _) rfl (by kernel_rfl) (by kernel_rfl) (by kernel_rfl) (fun _ _ _ h => h) (Or.inl ⟨by rfl, ?hy⟩) (by assumption) ?rest
                              case hy => (intro w hSw; obtain ⟨_, q0_, q1_, q2_, _⟩ := hSw; go_simp; try with_reducible rfl)
                              case rest =>
                                try simp only [Act.put, List.setIfInBounds_toArray, List.set_cons_zero, List.set_cons_succ]
                                refine wpAnyH_ready (rs := [14]) (by kernel_rfl) (by simp) ?_
                                refine AllReadyH.cons (o := { dst := none, op := Op.store 72 (Operand.tmp 4) (Operand.tmp 14), type := 0, pos := "plan.go:75", after := #[{ on := 4, ground := Ground.data }, { on := 10, ground := Ground.chain }, { on := 0, ground := Ground.phase }, { on := 1, ground := Ground.phase }, { on := 2, ground := Ground.phase }, { on := 3, ground := Ground.phase }, { on := 4, ground := Ground.phase }, { on := 5, ground := Ground.textOnly Departure.lateStores }, { on := 6, ground := Ground.textOnly Departure.lateStores }, { on := 7, ground := Ground.textOnly Departure.lateStores }, { on := 8, ground := Ground.textOnly Departure.lateStores }, { on := 9, ground := Ground.textOnly Departure.lateStores }, { on := 10, ground := Ground.textOnly Departure.lateStoresUnsure }, { on := 11, ground := Ground.textOnly Departure.lateStores }, { on := 12, ground := Ground.textOnly Departure.lateStores }, { on := 13, ground := Ground.textOnly Departure.lateStores }], guard := none }) rfl (fun K hK => ?_) ?_
                                rotate_left
                                · exact AllReadyH.nil
                                go_simp
                                refine hK.out _ _ ?_ (fun hHeld2 => ?_)
                                · exact (plan_Diff.Sx.store7 hHeld _ _ _ _ _ _ _).all
                                clear hK K hHeld
                                have hHeld := hHeld2
                                clear hHeld2
                                try simp only [Act.put, List.setIfInBounds_toArray, List.set_cons_zero, List.set_cons_succ]
                                refine' wpAnyH_take (i := 15) (oi := { dst := some 5, op := Op.assign (Operand.tmp 23), type := 4, pos := "plan.go:75", after := #[{ on := 13, ground := Ground.data }, { on := 14, ground := Ground.chain }, { on := 0, ground := Ground.phase }, { on := 1, ground := Ground.phase }, { on := 2, ground := Ground.phase }, { on := 3, ground := Ground.phase }, { on := 4, ground := Ground.phase }, { on := 5, ground := Ground.phase }, { on := 6, ground := Ground.phase }, { on := 7, ground := Ground.phase }, { on := 8, ground := Ground.phase }, { on := 9, ground := Ground.phase }, { on := 10, ground := Ground.phase }, { on := 11, ground := Ground.phase }, { on := 12, ground := Ground.phase }, { on := 13, ground := Ground.phase }, { on := 14, ground := Ground.phase }], guard := none }) (v := _) rfl (by kernel_rfl) (by kernel_rfl) (by kernel_rfl) (fun _ _ _ h => h) (Or.inl ⟨by rfl, ?hy⟩) (by assumption) ?rest
                                case hy => (intro w hSw; obtain ⟨_, q0_, q1_, q2_, _⟩ := hSw; go_simp; try with_reducible rfl)
                                case rest =>
                                  try simp only [Act.put, List.setIfInBounds_toArray, List.set_cons_zero, List.set_cons_succ]
                                  refine wpAnyH_done (by kernel_rfl) ?_ _
                                  refine NoPanic.normal ?_
                                  go_wp2
                                  refine bodyPost_ret (results_ct rfl _ _ g 72 _ (0, 0) _ rfl (plan_Diff.Hd.row7 ((HS.out.drew.conv _ _).step hb3) _ _ _ _ _ _ _) Tryd.underlying72 rfl (by kernel_rfl)) rfl ?_
                                  exact ⟨_, by cases u1 <;> rfl, rfl, plan_Diff.Hd.data7 HS.out.drew d hd hb3 _ _ _ _ _ _ _, by rw [HGG.out]; exact (plan_Diff.Hd.store7 ((HS.out.drew.conv _ _).step hb3) _ _ _ _ _ _ _).b⟩
                        · skip
                          refine AllReadyH.cons (o := { dst := some 20, op := Op.call { callee := Callee.value (Operand.func 55), args := #[Operand.tmp 18, Operand.tmp 19], argTypes := #[36, 9] }, type := 76, pos := "plan.go:75", after := #[{ on := 8, ground := Ground.data }, { on := 9, ground := Ground.data }, { on := 7, ground := Ground.chain }, { on := 7, ground := Ground.guard }], guard := some (7, true) }) rfl (fun K hK => ?_) AllReadyH.nil
                          rw [if_pos (by rfl)]
                          go_simp
                          go_at_call 55
                          refine (HP.out _ hHeld.1).mono ?_
                          rintro e w3 ⟨rfl, hb3⟩
                          (try go_wp2_with fail)
                          refine hK.out _ _ ?_ (fun hHeld2 => ?_)
                          · exact (plan_Diff.Sx.step hHeld hb3).all
                          clear hK K hHeld
                          have hHeld := hHeld2
                          clear hHeld2
                          try simp only [Act.put, List.setIfInBounds_toArray, List.set_cons_zero, List.set_cons_succ]
                          refine' wpAnyH_take (i := 12) (oi := { dst := some 22, op := Op.binOp BinOp.neq 76 (Operand.tmp 20) (Operand.tmp 21) 76, type := 4, pos := "plan.go:75", after := #[{ on := 10, ground := Ground.data }, { on := 11, ground := Ground.data }, { on := 7, ground := Ground.guard }, { on := 14, ground := Ground.gcOnly Departure.lateStores }], guard := some (7, true) }) (v := _) rfl (by kernel_rfl) (by kernel_rfl) (by kernel_rfl) (fun _ _ _ h => h) (Or.inl ⟨by rfl, ?hy⟩) (by assumption) ?rest
                          case hy => (intro w hSw; obtain ⟨_, q0_, q1_, q2_, _⟩ := hSw; go_simp; try with_reducible rfl)
                          case rest =>
                            try simp only [Act.put, List.setIfInBounds_toArray, List.set_cons_zero, List.set_cons_succ]
                            refine' wpAnyH_take (i := 13) (oi := { dst := some 23, op := Op.pick (Operand.tmp 17) (Operand.tmp 22) (Operand.const (Value.bool false)), type := 4, pos := "plan.go:75", after := #[{ on := 7, ground := Ground.data }, { on := 12, ground := Ground.data }, { on := 14, ground := Ground.gcOnly Departure.lateStores }], guard := none }) (v := _) rfl (by kernel_rfl) (by kernel_rfl) (by kernel_rfl) (fun _ _ _ h => h) (Or.inl ⟨by rfl, ?hy⟩) (by assumption) ?rest
                            case hy => (intro w hSw; obtain ⟨_, q0_, q1_, q2_, _⟩ := hSw; go_simp; try with_reducible rfl)
                            case rest =>
                              try simp only [Act.put, List.setIfInBounds_toArray, List.set_cons_zero, List.set_cons_succ]
                              refine wpAnyH_ready (rs := [3]) (by kernel_rfl) (by simp) ?_
                              refine AllReadyH.cons (o := { dst := some 13, op := Op.convert 9 43 (Operand.tmp 12), type := 43, pos := "plan.go:75", after := #[{ on := 2, ground := Ground.data }], guard := none }) rfl (fun K hK => ?_) ?_
                              rotate_left
                              · exact AllReadyH.nil
                              go_simp
                              refine hK.out _ _ ?_ (fun hHeld2 => ?_)
                              · exact (plan_Diff.Sx.conv hHeld _ _).all
                              clear hK K hHeld
                              have hHeld := hHeld2
                              clear hHeld2
                              try simp only [Act.put, List.setIfInBounds_toArray, List.set_cons_zero, List.set_cons_succ]
                              refine' wpAnyH_take (i := 4) (oi := { dst := some 14, op := Op.build 72 #[(0, Operand.const (Value.int IntKind.i64 3)), (1, Operand.tmp 10), (2, Operand.tmp 13)], type := 72, pos := "plan.go:75", after := #[{ on := 0, ground := Ground.data }, { on := 3, ground := Ground.data }], guard := none }) (v := _) rfl (by kernel_rfl) (by kernel_rfl) (by kernel_rfl) (fun _ _ _ h => h) (Or.inl ⟨by rfl, ?hy⟩) (by assumption) ?rest
                              case hy => (intro w hSw; obtain ⟨_, q0_, q1_, q2_, _⟩ := hSw; go_simp; try with_reducible rfl)
                              case rest =>
                                try simp only [Act.put, List.setIfInBounds_toArray, List.set_cons_zero, List.set_cons_succ]
                                refine wpAnyH_ready (rs := [14]) (by kernel_rfl) (by simp) ?_
                                refine AllReadyH.cons (o := { dst := none, op := Op.store 72 (Operand.tmp 4) (Operand.tmp 14), type := 0, pos := "plan.go:75", after := #[{ on := 4, ground := Ground.data }, { on := 10, ground := Ground.chain }, { on := 0, ground := Ground.phase }, { on := 1, ground := Ground.phase }, { on := 2, ground := Ground.phase }, { on := 3, ground := Ground.phase }, { on := 4, ground := Ground.phase }, { on := 5, ground := Ground.textOnly Departure.lateStores }, { on := 6, ground := Ground.textOnly Departure.lateStores }, { on := 7, ground := Ground.textOnly Departure.lateStores }, { on := 8, ground := Ground.textOnly Departure.lateStores }, { on := 9, ground := Ground.textOnly Departure.lateStores }, { on := 10, ground := Ground.textOnly Departure.lateStoresUnsure }, { on := 11, ground := Ground.textOnly Departure.lateStores }, { on := 12, ground := Ground.textOnly Departure.lateStores }, { on := 13, ground := Ground.textOnly Departure.lateStores }], guard := none }) rfl (fun K hK => ?_) ?_
                                rotate_left
                                · exact AllReadyH.nil
                                go_simp
                                refine hK.out _ _ ?_ (fun hHeld2 => ?_)
                                · exact (plan_Diff.Sx.store7 hHeld _ _ _ _ _ _ _).all
                                clear hK K hHeld
                                have hHeld := hHeld2
                                clear hHeld2
                                try simp only [Act.put, List.setIfInBounds_toArray, List.set_cons_zero, List.set_cons_succ]
                                refine' wpAnyH_take (i := 15) (oi := { dst := some 5, op := Op.assign (Operand.tmp 23), type := 4, pos := "plan.go:75", after := #[{ on := 13, ground := Ground.data }, { on := 14, ground := Ground.chain }, { on := 0, ground := Ground.phase }, { on := 1, ground := Ground.phase }, { on := 2, ground := Ground.phase }, { on := 3, ground := Ground.phase }, { on := 4, ground := Ground.phase }, { on := 5, ground := Ground.phase }, { on := 6, ground := Ground.phase }, { on := 7, ground := Ground.phase }, { on := 8, ground := Ground.phase }, { on := 9, ground := Ground.phase }, { on := 10, ground := Ground.phase }, { on := 11, ground := Ground.phase }, { on := 12, ground := Ground.phase }, { on := 13, ground := Ground.phase }, { on := 14, ground := Ground.phase }], guard := none }) (v := _) rfl (by kernel_rfl) (by kernel_rfl) (by kernel_rfl) (fun _ _ _ h => h) (Or.inl ⟨by rfl, ?hy⟩) (by assumption) ?rest
                                case hy => (intro w hSw; obtain ⟨_, q0_, q1_, q2_, _⟩ := hSw; go_simp; try with_reducible rfl)
                                case rest =>
                                  try simp only [Act.put, List.setIfInBounds_toArray, List.set_cons_zero, List.set_cons_succ]
                                  refine wpAnyH_done (by kernel_rfl) ?_ _
                                  refine NoPanic.normal ?_
                                  go_wp2
                                  refine bodyPost_ret (results_ct rfl _ _ g 72 _ (0, 0) _ rfl (plan_Diff.Hd.row7 ((HS.out.drew.step hb3).conv _ _) _ _ _ _ _ _ _) Tryd.underlying72 rfl (by kernel_rfl)) rfl ?_
                                  exact ⟨_, by cases u1 <;> rfl, rfl, plan_Diff.Hd.data7 (HS.out.drew.step hb3) d hd (Below.refl _ _) _ _ _ _ _ _ _, by rw [HGG.out]; exact (plan_Diff.Hd.store7 ((HS.out.drew.step hb3).conv _ _) _ _ _ _ _ _ _).b⟩
  · rw [if_neg hd] at h
    cases h
/-- What a closure answers. -/
def plan_Diff.Ans (x : S72) (W w' : World) (v : Value) : Prop := x.f3 = 0 ∧ x.f4 = z70 ∧ Kd.V (Kd.int .u8) 5 w' W.heap.size (fun k => W.heap.size ≤ k) v x.f2
def plan_Diff.Pays (fid : Nat) (caps : Array Value) (step : ByteArray → Option (S72 × Bool)) (w : World) : Prop :=
  ∀ (W : World) (n : ByteArray) (x : S72) (ok : Bool), Below w.heap.size w W → step n = some (x, ok) → Calls Tryd.prog fid (#[.string n] ++ caps) W fun e w' => ∃ v, e = .returned (.tuple #[.agg #[.int .i64 x.f0, .string x.f1, v, .int .i64 0, .slice none 0 0, .int .i64 0, .int .u8 0], .bool ok]) ∧ plan_Diff.Ans x W w' v ∧ Below W.heap.size W w'
theorem plan_Diff.info : (Tryd.prog.info? 72).map (fun i => (i.zero, i.size, i.bytes)) = some (some (.agg #[.int .i64 0, .string ByteArray.empty, .slice none 0 0, .int .i64 0, .slice none 0 0, .int .i64 0, .int .u8 0]), 7, 96) := by kernel_rfl
def plan_Diff.Stop (p : Prop) : Prop := p
theorem plan_Diff.stop {p : Prop} (h : plan_Diff.Stop p) : p := h
theorem plan_Diff.elem (x : S72) {W : World} {o : Obj} {b : Nat} {A2 : Option Addr} {c2 : Nat} (hle : x.f2.length ≤ c2) (hF : Kd.F (Kd.int .u8) W (fun k => b ≤ k) A2 x.f2.length x.f2) (h3 : x.f3 = 0) (h4 : x.f4 = z70) :
    Kd.FK k72 (W.alloc o) (fun k => b ≤ k) x [.int .i64 x.f0, .string x.f1, .slice A2 x.f2.length c2, .int .i64 0, .slice none 0 0, .int .i64 0, .int .u8 0] := by
  obtain ⟨a0, a1, a2, a3, a4⟩ := x
  subst h3 h4
  exact k72_mkF _ _ (⟨a0, a1, a2, 0, z70⟩ : S72) hle (Kd.F_alloc hF o) (A4 := none) (c4 := 0) (Nat.le_refl _) (Kd.F_nil _ _ _)
theorem plan_Diff.pick_len (step : ByteArray → Option (S72 × Bool)) : ∀ (l : List ByteArray) (r : List S72), plan_Diff.pick step l = some r → r.length ≤ l.length
  | [], r, h => by
    have : r = [] := (Option.some.inj h).symm
    subst this
    exact Nat.le_refl _
  | n :: l, r, h => by
    unfold plan_Diff.pick at h
    obtain ⟨o, _, h⟩ := Option.bind_eq_some_iff.mp h
    obtain ⟨q, hq, h⟩ := Option.bind_eq_some_iff.mp h
    have ih := plan_Diff.pick_len step l q hq
    have := Option.some.inj h
    subst this
    split <;> simp <;> omega
set_option maxRecDepth 100000 in
set_option maxHeartbeats 4000000 in
theorem plan_Diff.pick_go (fid : Nat) (caps : Array Value) (step : ByteArray → Option (S72 × Bool)) (efid : ∀ args w, (callFunc fid args).run Tryd.prog w = .ok (.enter fid args) w) (A0 : Option Addr) (c0 : Nat) (l : List ByteArray) (r : List S72) (w : World) (hr0 : Kd.C Kd.string w A0 l.length l) (hlen : l.length ≤ 1000000)
    (hp : plan_Diff.Pays fid caps step w) (h : plan_Diff.pick step l = some r) :
    Calls Tryd.prog 53 #[.slice A0 l.length c0, .func (.func fid) #[] caps] w fun e w' => ∃ v0_ : Value, e = .returned (v0_) ∧ Kd.N k72 72 w' w.heap.size (fun k_ => (w.heap.size ≤ k_)) v0_ r ∧ Below w.heap.size w w' := by
  have hel : ∀ i, (hi : i < l.length) → ∃ ad, A0 = some ad ∧ ∀ W, Below w.heap.size w W → W.cell? (ad.add i) = some (.string l[i]) := fun i hi => by
    obtain ⟨ad, rfl, hc⟩ := hr0.2.2 (by omega)
    obtain ⟨c, hs, hk, hu⟩ := hc i _ (List.getElem?_eq_getElem hi)
    have h1 : w.cell? (ad.add i) = some (.string l[i]) := by
      have hk' : c = [Value.string l[i]] := hk
      subst hk'
      have h1 := hu 0 _ rfl
      have e1 : i * Kd.string.sz + 0 = i := by simp [Kd.string, Kd.scalar]
      rwa [e1] at h1
    have hlt : (ad.add i).block < w.heap.size := World.block_lt_of_cell? w _ h1
    exact ⟨ad, rfl, fun W hW => (hW.cell (p := ad.add i) hlt).trans h1⟩
  have HE := Aside0.mk hel
  have HP := Aside0.mk hp
  have HR := Aside0.mk h
  have HL := Aside0.mk hlen
  clear hel hr0 hp h
  go_enter Tryd.func53, Tryd.ntmps53
  go_wp2_with fail
  go_step3
  go_wp2_with fail
  go_step3
  go_wp2_with fail
  go_loopw [5, 12] (fun s5 s12 w' => ∃ (k : Nat) (out q : List S72), k ≤ l.length ∧ s12 = .int .i64 k ∧ Aside0 (Below w.heap.size w w') ∧ Aside0 (Kd.N k72 72 w' w.heap.size (fun k_ => w.heap.size ≤ k_) s5 out) ∧ Aside0 (plan_Diff.pick step (l.drop k) = some q ∧ r = out ++ q ∧ out.length ≤ k)) (fun _ i _ => l.length - (intOf i).toNat)
  case atStart => exact ⟨0, [], r, Nat.zero_le _, rfl, ⟨Below.refl _ _⟩, ⟨Kd.N_nil _ _ _ _ _⟩, ⟨HR.out, rfl, Nat.le_refl _⟩⟩
  case round =>
    obtain ⟨k, out, q, hk, rfl, HB, HO, HQ⟩ := hrel
    by_cases hlt : k < l.length
    · obtain ⟨ad, rfl, hcs⟩ := HE.out k hlt
      have hc1 := hcs _ HB.out
      obtain ⟨hq1, hq2, hq3⟩ := HQ.out
      rw [List.drop_eq_getElem_cons hlt] at hq1
      unfold plan_Diff.pick at hq1
      obtain ⟨⟨x, ok⟩, hst, hq1⟩ := Option.bind_eq_some_iff.mp hq1
      obtain ⟨q2, hq4, hq1⟩ := Option.bind_eq_some_iff.mp hq1
      have hcall := HP.out wr l[k] x ok HB.out hst
      have hq5 := Option.some.inj hq1
      have HQ2 := Aside0.mk hq4
      have HQ5 := Aside0.mk hq5
      have HQ6 := Aside0.mk hq2
      have HQ7 := Aside0.mk hq3
      have HCL := Aside0.mk hcall
      clear hcs hq1 hq4 hq5 hq2 hq3 hst hcall HQ
      generalize l[k] = n at *
      have hltz : (k : Int) < (l.length : Int) := by omega
      have hnl := HQ7.out
      cases ok with
      | false =>
        go_wp2_with (go_at_fn fid; refine HCL.out.mono ?_; rintro e w1 ⟨v, rfl, ⟨hx3, hx4, A2, c2, rfl, hle, hF⟩, hb⟩; have HB1 := Aside0.mk hb; clear hb hF)
        go_roundw
        case rel => exact ⟨k + 1, out, q2, by omega, by go_num, ⟨below_alloc (HB.out.trans (HB1.out.mono HB.out.size)) _⟩, ⟨Kd.N_alloc (Kd.N_below HO.out HB1.out) _⟩, ⟨HQ2.out, by rw [HQ6.out, ← HQ5.out]; rfl, by have := HQ7.out; omega⟩⟩
        case measure => simp [intOf]; omega
      | true =>
        go_wp2_with (first | (go_at_fn fid; refine HCL.out.mono ?_; rintro e w1 ⟨v, rfl, ⟨hx3, hx4, A2, c2, rfl, hle, hF⟩, hb⟩; have HB1 := Aside0.mk hb; have HF := Aside0.mk hF; have H3 := Aside0.mk hx3; have H4 := Aside0.mk hx4; have HLE := Aside0.mk hle; clear hb hF hx3 hx4 hle) | (at_builtin; refine plan_Diff.stop ?_))
        unfold plan_Diff.Stop
        refine Kd.N_append k72 (w0 := w) w.heap.size rfl _ _ 39 72 (.agg #[.int .i64 0, .string ByteArray.empty, .slice none 0 0, .int .i64 0, .slice none 0 0, .int .i64 0, .int .u8 0]) 96 rfl Tryd.underlying39 plan_Diff.info rfl (by decide) (by omega) _ out x [.int .i64 x.f0, .string x.f1, .slice A2 x.f2.length c2, .int .i64 0, .slice none 0 0, .int .i64 0, .int .u8 0] (fun k_ => w.heap.size ≤ k_) (fun k_ => wr.heap.size ≤ k_) rfl ?aX ?aP ?aK ?aF ?aO ?aB ?aS ?aL ?_
        case aX => (rw [YtcfcbkcaondfcaaDoorMpHelp.size_new]; rfl)
        case aP => exact plan_Diff.elem x HLE.out HF.out H3.out H4.out
        case aK => exact fun k_ hk => ⟨Nat.le_trans HB.out.size hk, fun e_ => by have := Kd.N_lt HO.out k_ e_.symm; omega⟩
        case aF => exact fun k_ hk => Nat.le_trans (HB.out.trans (HB1.out.mono HB.out.size)).size (Nat.le_trans (by rw [YtcfcbkcaondfcaaDoorMpHelp.size_new]; omega) hk)
        case aO => exact Kd.N_alloc (Kd.N_below HO.out HB1.out) _
        case aB => exact below_alloc (HB.out.trans (HB1.out.mono HB.out.size)) _
        case aS => exact Nat.le_trans (HB.out.trans (HB1.out.mono HB.out.size)).size (by rw [YtcfcbkcaondfcaaDoorMpHelp.size_new]; omega)
        case aL => omega
        intro v1 w2 hN hB2 hg2 hob
        have HN := Aside0.mk hN
        have HB2 := Aside0.mk hB2
        clear hN hB2 hg2 hob
        go_wp2
        go_roundw
        case rel => exact ⟨k + 1, out ++ [x], q2, by omega, by go_num, HB2, HN, ⟨HQ2.out, by rw [HQ6.out, ← HQ5.out, List.append_assoc]; rfl, by rw [List.length_append]; simp; omega⟩⟩
        case measure => simp [intOf]; omega
    · obtain rfl : k = l.length := by omega
      obtain ⟨hq1, hq2, hq3⟩ := HQ.out
      rw [List.drop_length] at hq1
      have hq0 : q = [] := (Option.some.inj hq1).symm
      rw [hq0, List.append_nil] at hq2
      have HQ2 := Aside0.mk hq2
      clear hq1 hq2 hq3 hq0 HQ
      go_wp2
      simp only [Exit.noGoto]
      go_ret
      rw [HQ2.out]
      exact ⟨_, rfl, HO.out, HB.out⟩
set_option maxRecDepth 100000 in
set_option maxHeartbeats 4000000 in
theorem plan_Diff.calls (A0 : Option Addr) (c0 : Nat) (l0 : List (S45)) (A1 : Option Addr) (c1 : Nat) (l1 : List (S45)) (r : List S72) (w : World) (hr0 : Kd.C k45 w A0 l0.length l0) (hc0 : l0.length ≤ c0) (hr1 : Kd.C k45 w A1 l1.length l1) (hc1 : l1.length ≤ c1) (h : plan_Diff.f l0 l1 = some r) :
    Calls Tryd.prog 32 #[.slice A0 l0.length c0, .slice A1 l1.length c1] w fun e w' => ∃ v0_ : Value, e = .returned (v0_) ∧ Kd.N k72 72 w' w.heap.size (fun k_ => (w.heap.size ≤ k_)) v0_ r ∧ Below w.heap.size w w' := by
  unfold plan_Diff.f at h
  obtain ⟨ns, hns, h⟩ := Option.bind_eq_some_iff.mp h
  by_cases hl : ns.length ≤ 1000000
  · rw [if_pos hl] at h
    obtain ⟨g, hg, h⟩ := Option.bind_eq_some_iff.mp h
    obtain ⟨p, hp, h⟩ := Option.bind_eq_some_iff.mp h
    obtain rfl := Option.some.inj h
    have hgl := plan_Diff.pick_len _ _ _ hg
    have hpl := plan_Diff.pick_len _ _ _ hp
    have HN := Aside0.mk hns
    have HG := Aside0.mk hg
    have HP := Aside0.mk hp
    have HR0 := Aside0.mk hr0
    have HR1 := Aside0.mk hr1
    clear hns hg hp h hr0 hr1
    have hmf : ∀ (fn : Fn) (first cap : Array Value) (w : World), (Instr.makeFunc fn first cap).run Tryd.prog w = .ok (.func fn first cap) w := fun _ _ _ _ => rfl
    go_enter Tryd.func32, Tryd.ntmps32
    go_wp2_with fail
    have hW0 : Below w.heap.size w (((w.alloc (.cells #[.slice A0 l0.length c0] 36)).alloc (.cells #[.slice A1 l1.length c1] 36)).alloc (.cells #[.slice A0 l0.length c0, .slice A1 l1.length c1] 36)) := below_alloc (below_alloc (below_alloc (Below.refl _ _) _) _) _
    have hB0 : (((w.alloc (.cells #[.slice A0 l0.length c0] 36)).alloc (.cells #[.slice A1 l1.length c1] 36)).alloc (.cells #[.slice A0 l0.length c0, .slice A1 l1.length c1] 36)).heap[w.heap.size]? = some (.cells #[.slice A0 l0.length c0] 36 (0, 0)) := blk_alloc (blk_alloc (YtcfcbkcaondfcaaDoorMpHelp.heap_new w _) _) _
    have hB1 : (((w.alloc (.cells #[.slice A0 l0.length c0] 36)).alloc (.cells #[.slice A1 l1.length c1] 36)).alloc (.cells #[.slice A0 l0.length c0, .slice A1 l1.length c1] 36)).heap[w.heap.size + 1]? = some (.cells #[.slice A1 l1.length c1] 36 (0, 0)) := by
      have := blk_alloc (YtcfcbkcaondfcaaDoorMpHelp.heap_new (w.alloc (.cells #[.slice A0 l0.length c0] 36)) (.cells #[.slice A1 l1.length c1] 36)) (.cells #[.slice A0 l0.length c0, .slice A1 l1.length c1] 36)
      rwa [YtcfcbkcaondfcaaDoorMpHelp.size_new] at this
    have hB2 : (((w.alloc (.cells #[.slice A0 l0.length c0] 36)).alloc (.cells #[.slice A1 l1.length c1] 36)).alloc (.cells #[.slice A0 l0.length c0, .slice A1 l1.length c1] 36)).heap[w.heap.size + 1 + 1]? = some (.cells #[.slice A0 l0.length c0, .slice A1 l1.length c1] 36 (0, 0)) := by
      have := YtcfcbkcaondfcaaDoorMpHelp.heap_new ((w.alloc (.cells #[.slice A0 l0.length c0] 36)).alloc (.cells #[.slice A1 l1.length c1] 36)) (.cells #[.slice A0 l0.length c0, .slice A1 l1.length c1] 36)
      rwa [YtcfcbkcaondfcaaDoorMpHelp.size_new, YtcfcbkcaondfcaaDoorMpHelp.size_new] at this
    generalize (((w.alloc (.cells #[.slice A0 l0.length c0] 36)).alloc (.cells #[.slice A1 l1.length c1] 36)).alloc (.cells #[.slice A0 l0.length c0, .slice A1 l1.length c1] 36)) = W0 at hW0 hB0 hB1 hB2 ⊢
    have hC0 : Kd.C (Kd.slice 45 k45) W0 (some ⟨w.heap.size + 1 + 1, 0, none⟩) [l0, l1].length [l0, l1] := YtcfcbkcaondfcaaDoorMpHelp.C_of_block hB2 (by simp) fun j p hj => by
      rcases j with _ | _ | j
      · obtain rfl := Option.some.inj hj
        exact ⟨[.slice A0 l0.length c0], rfl, ⟨A0, c0, rfl, hc0, Kd.C_below HR0.out hW0⟩, fun i u hu => by
          have hi := (List.getElem?_eq_some_iff.1 hu).1
          obtain rfl : i = 0 := by simpa using hi
          exact hu⟩
      · obtain rfl := Option.some.inj hj
        exact ⟨[.slice A1 l1.length c1], rfl, ⟨A1, c1, rfl, hc1, Kd.C_below HR1.out hW0⟩, fun i u hu => by
          have hi := (List.getElem?_eq_some_iff.1 hu).1
          obtain rfl : i = 0 := by simpa using hi
          exact hu⟩
      · simp at hj
    refine (plan_names.calls _ 2 [l0, l1] ns W0 hC0 (Nat.le_refl _) HN.out).mono ?_
    rintro e w1 ⟨vn, rfl, hRn, hb1⟩
    obtain ⟨An, cn, rfl⟩ := Kd.R_slice hRn
    have hCn := (Kd.R_reads' hRn).2.2
    have h1 : Below w.heap.size w w1 := hW0.trans (hb1.mono hW0.size)
    have hB01 := blk_below hB0 hb1
    have hB11 := blk_below hB1 hb1
    have HW1 := Aside0.mk h1
    have HB01 := Aside0.mk hB01
    have HB11 := Aside0.mk hB11
    have HCn := Aside0.mk hCn
    clear hRn hb1 hB0 hB1 hB2 hC0 hW0 h1 hB01 hB11 hCn
    have hp1 : plan_Diff.Pays 54 #[.pointer (some ⟨w.heap.size + 1, 0, none⟩)] (plan_Diff.gone l1) w1 := fun W n x ok hW hst => by
      unfold plan_Diff.gone at hst
      obtain ⟨⟨t, d⟩, ht, hst⟩ := Option.bind_eq_some_iff.mp hst
      have hst := Option.some.inj hst
      injection hst with hx hok
      subst hx hok
      refine (plan_Diff.clo1 (w.heap.size + 1) c1 A1 l1 n t d W ?_ (Kd.C_below HR1.out (HW1.out.trans (hW.mono HW1.out.size))) hc1 ht).mono ?_
      · rw [cell_of_row W _ 0 _ _ (0, 0) (blk_below HB11.out hW)]; rfl
      · rintro e w' ⟨rfl, hb⟩
        exact ⟨_, rfl, ⟨rfl, rfl, Kd.V_nil _ _ _ _ _⟩, hb⟩
    have HP1 := Aside0.mk hp1
    clear hp1
    go_wp2_with fail
    refine (plan_Diff.pick_go 54 #[.pointer (some ⟨w.heap.size + 1, 0, none⟩)] (plan_Diff.gone l1) (enters_of Tryd.func54 (by kernel_rfl) rfl) An cn ns g w1 HCn.out hl HP1.out HG.out).mono ?_
    rintro e w2 ⟨vg, rfl, hNg, hb2⟩
    have hp2 : plan_Diff.Pays 56 #[.pointer (some ⟨w.heap.size + 1, 0, none⟩), .pointer (some ⟨w.heap.size, 0, none⟩)] (plan_Diff.put l0 l1) w2 := fun W n x ok hW hst => by
      have hW1 : Below w1.heap.size w1 W := hb2.trans (hW.mono hb2.size)
      have hWw : Below w.heap.size w W := HW1.out.trans (hW1.mono HW1.out.size)
      refine (plan_Diff.clo2 w.heap.size (w.heap.size + 1) c0 c1 A0 A1 l0 l1 n x ok W ?_ ?_ (Kd.C_below HR0.out hWw) hc0 (Kd.C_below HR1.out hWw) hc1 hst).mono ?_
      · rw [cell_of_row W _ 0 _ _ (0, 0) (blk_below HB01.out hW1)]; rfl
      · rw [cell_of_row W _ 0 _ _ (0, 0) (blk_below HB11.out hW1)]; rfl
      · rintro e w' ⟨v, rfl, hx, hV, hb⟩
        refine ⟨v, ?_, ⟨by rw [hx]; rfl, by rw [hx]; rfl, hV⟩, hb⟩
        rfl
    have HP2 := Aside0.mk hp2
    have HNg := Aside0.mk hNg
    have HW2 := Aside0.mk hb2
    clear hp2 hNg hb2
    go_wp2_with fail
    refine (plan_Diff.pick_go 56 #[.pointer (some ⟨w.heap.size + 1, 0, none⟩), .pointer (some ⟨w.heap.size, 0, none⟩)] (plan_Diff.put l0 l1) (enters_of Tryd.func56 (by kernel_rfl) rfl) An cn ns p w2 (Kd.C_below HCn.out HW2.out) hl HP2.out HP.out).mono ?_
    rintro e w3 ⟨vp, rfl, hNp, hb3⟩
    obtain ⟨Ap, cp, rfl⟩ := Kd.N_slice hNp
    have hFp := Kd.N_F hNp
    have HFp := Aside0.mk hFp
    have HW3 := Aside0.mk hb3
    clear hNp hFp hb3
    go_wp2_with (at_builtin; refine plan_Diff.stop ?_)
    unfold plan_Diff.Stop
    refine Kd.N_append_rows k72 (w0 := w) w.heap.size rfl _ _ 39 72 (.agg #[.int .i64 0, .string ByteArray.empty, .slice none 0 0, .int .i64 0, .slice none 0 0, .int .i64 0, .int .u8 0]) 96 rfl Tryd.underlying39 plan_Diff.info rfl (by decide) (by omega) vg g p Ap p.length cp (fun k_ => w.heap.size ≤ k_) (fun k_ => w2.heap.size ≤ k_) rfl rfl ?aO HFp.out ?aK ?aF ?aB ?aS ?aL ?_
    case aO => exact Kd.N_lower (Kd.N_mono (Kd.N_below HNg.out HW3.out) (fun k_ hk => Nat.le_trans HW1.out.size hk)) HW1.out.size
    case aK => exact fun k_ hk => ⟨Nat.le_trans (HW1.out.trans (HW2.out.mono HW1.out.size)).size hk, fun e_ => by have := Kd.N_lt HNg.out k_ e_.symm; omega⟩
    case aF => exact fun k_ hk => Nat.le_trans (HW1.out.trans (HW2.out.mono HW1.out.size)).size (Nat.le_trans HW3.out.size hk)
    case aB => exact (HW1.out.trans (HW2.out.mono HW1.out.size)).trans (HW3.out.mono (HW1.out.trans (HW2.out.mono HW1.out.size)).size)
    case aS => exact Nat.le_trans (HW1.out.trans (HW2.out.mono HW1.out.size)).size HW3.out.size
    case aL => omega
    intro v1 w4 hN hB4 hg2 hob
    have HN4 := Aside0.mk hN
    have HB4 := Aside0.mk hB4
    clear hN hB4 hg2 hob
    go_wp2
    go_ret
    exact ⟨_, rfl, HN4.out, HB4.out⟩
  · rw [if_neg hl] at h
    cases h


/-! ### bindlelaw38_lives: function 27 -/
def bindlelaw38_lives.f  : Option (Bool) := (plan_Diff.f (([(⟨(⟨#[97]⟩ : ByteArray), ([] : List Int)⟩ : S45)] : List (S45))) (([(⟨(⟨#[98]⟩ : ByteArray), ([] : List Int)⟩ : S45)] : List (S45)))).bind fun t122 => (if (t122.length : Int) = 2 then (if 0 < (t122.length : Int) then (if ((rd_T72 t122 0).f0) = 11 then (if ((rd_T72 t122 0).f1).toList = ([97] : List UInt8) then (if 1 < (t122.length : Int) then (if ((rd_T72 t122 1).f0) = 3 then (some (((rd_T72 t122 1).f1).toList == ([98] : List UInt8))) else (some false)) else (none)) else (some false)) else (some false)) else (none)) else (some false))
set_option maxHeartbeats 8000000 in
set_option maxRecDepth 100000 in
theorem bindlelaw38_lives.calls  (r : Bool) (w : World) (h : bindlelaw38_lives.f  = some r) :
  Calls Tryd.prog 27 #[] w fun e w' => e = .returned (.bool r) ∧ Below w.heap.size w w' := by
 have hu45 := Tryd.underlying45
 have HB := Aside0.mk (Below.refl w.heap.size w)
 have H : ((plan_Diff.f (([(⟨(⟨#[97]⟩ : ByteArray), ([] : List Int)⟩ : S45)] : List (S45))) (([(⟨(⟨#[98]⟩ : ByteArray), ([] : List Int)⟩ : S45)] : List (S45)))).bind fun t122 => (if (t122.length : Int) = 2 then (if 0 < (t122.length : Int) then (if ((rd_T72 t122 0).f0) = 11 then (if ((rd_T72 t122 0).f1).toList = ([97] : List UInt8) then (if 1 < (t122.length : Int) then (if ((rd_T72 t122 1).f0) = 3 then (some (((rd_T72 t122 1).f1).toList == ([98] : List UInt8))) else (some false)) else (none)) else (some false)) else (some false)) else (none)) else (some false))) = some r := h
 clear h
 obtain ⟨y116, hy116⟩ : ∃ y_ : List (S45), y_ = (([(⟨(⟨#[97]⟩ : ByteArray), ([] : List Int)⟩ : S45)] : List (S45))) := ⟨_, rfl⟩
 replace H : ((plan_Diff.f y116 (([(⟨(⟨#[98]⟩ : ByteArray), ([] : List Int)⟩ : S45)] : List (S45)))).bind fun t122 => (if (t122.length : Int) = 2 then (if 0 < (t122.length : Int) then (if ((rd_T72 t122 0).f0) = 11 then (if ((rd_T72 t122 0).f1).toList = ([97] : List UInt8) then (if 1 < (t122.length : Int) then (if ((rd_T72 t122 1).f0) = 3 then (some (((rd_T72 t122 1).f1).toList == ([98] : List UInt8))) else (some false)) else (none)) else (some false)) else (some false)) else (none)) else (some false))) = some r := by first | (rw [hy116]; with_reducible exact H) | (have H2_ := (Option.bind_some _ _).symm.trans H; rw [hy116]; with_reducible exact H2_) | (have H2_ := (Option.bind_some _ _).symm.trans H; with_reducible exact H2_) | with_reducible exact H | (rw [hy116]; exact H) | exact H
 have Ny116 := Aside0.mk hy116
 clear hy116
 obtain ⟨y119, hy119⟩ : ∃ y_ : List (S45), y_ = (([(⟨(⟨#[98]⟩ : ByteArray), ([] : List Int)⟩ : S45)] : List (S45))) := ⟨_, rfl⟩
 replace H : ((plan_Diff.f y116 y119).bind fun t122 => (if (t122.length : Int) = 2 then (if 0 < (t122.length : Int) then (if ((rd_T72 t122 0).f0) = 11 then (if ((rd_T72 t122 0).f1).toList = ([97] : List UInt8) then (if 1 < (t122.length : Int) then (if ((rd_T72 t122 1).f0) = 3 then (some (((rd_T72 t122 1).f1).toList == ([98] : List UInt8))) else (some false)) else (none)) else (some false)) else (some false)) else (none)) else (some false))) = some r := by first | (rw [hy119]; with_reducible exact H) | (have H2_ := (Option.bind_some _ _).symm.trans H; rw [hy119]; with_reducible exact H2_) | (have H2_ := (Option.bind_some _ _).symm.trans H; with_reducible exact H2_) | with_reducible exact H | (rw [hy119]; exact H) | exact H
 have Ny119 := Aside0.mk hy119
 clear hy119
 replace H := Option.bind_eq_some_iff.mp H
 obtain ⟨t122, A10, H⟩ := H
 replace H : (if (t122.length : Int) = 2 then (if 0 < (t122.length : Int) then (if ((rd_T72 t122 0).f0) = 11 then (if ((rd_T72 t122 0).f1).toList = ([97] : List UInt8) then (if 1 < (t122.length : Int) then (if ((rd_T72 t122 1).f0) = 3 then (some (((rd_T72 t122 1).f1).toList == ([98] : List UInt8))) else (some false)) else (none)) else (some false)) else (some false)) else (none)) else (some false)) = some r := H
 have A1 := Aside0.mk A10
 clear A10
 by_cases c2 : (t122.length : Int) = 2
 ·rw [if_pos c2] at H
  have c2b0 : ((t122.length : Int) == 2) = true := beq_iff_eq.mpr c2
  have c2b1 : ((t122.length : Int) != 2) = false := bne_eq_false_iff_eq.mpr c2
  clear c2
  by_cases c3 : 0 < (t122.length : Int)
  ·rw [if_pos c3] at H
   have c3b0 : decide (0 < (t122.length : Int)) = true := decide_eq_true c3
   have c3b1 : decide (0 < t122.length) = true := decide_eq_true (by omega)
   clear c3
   by_cases c4 : ((rd_T72 t122 0).f0) = 11
   ·rw [if_pos c4] at H
    have c4b0 : (((rd_T72 t122 0).f0) == 11) = true := beq_iff_eq.mpr c4
    have c4b1 : (((rd_T72 t122 0).f0) != 11) = false := bne_eq_false_iff_eq.mpr c4
    clear c4
    by_cases c5 : ((rd_T72 t122 0).f1).toList = ([97] : List UInt8)
    ·rw [if_pos c5] at H
     have c5b0 : (((rd_T72 t122 0).f1).toList == ([97] : List UInt8)) = true := beq_iff_eq.mpr c5
     have c5b1 : (((rd_T72 t122 0).f1).toList != ([97] : List UInt8)) = false := bne_eq_false_iff_eq.mpr c5
     clear c5
     by_cases c6 : 1 < (t122.length : Int)
     ·rw [if_pos c6] at H
      have c6b0 : decide (1 < (t122.length : Int)) = true := decide_eq_true c6
      have c6b1 : decide (1 < t122.length) = true := decide_eq_true (by omega)
      clear c6
      by_cases c7 : ((rd_T72 t122 1).f0) = 3
      ·rw [if_pos c7] at H
       have c7b0 : (((rd_T72 t122 1).f0) == 3) = true := beq_iff_eq.mpr c7
       have c7b1 : (((rd_T72 t122 1).f0) != 3) = false := bne_eq_false_iff_eq.mpr c7
       clear c7
       obtain rfl := Option.some.inj H
       go_enter Tryd.func27, Tryd.ntmps27
       go_wp2_with (first | ((with_reducible refine gate_dst (N := 3) rfl ?_); refine Kd.N_lit k45 _ 45 ?hg (N' := 3) ?hd (xs := ([(⟨(⟨#[97]⟩ : ByteArray), ([] : List Int)⟩ : S45)] : List (S45))) (inner := [.string (⟨#[97]⟩ : ByteArray), .slice none 0 0]) (ok := (fun _ => True)) (okp := (fun _ => True)) ?hr ?hp (fun _ hk => hk) ((show ∀ k_, w.heap.size ≤ k_ → (fun _ => True) k_ from fun k_ hk => trivial) _ (Nat.le_refl _)) (Below.refl _ _) (Nat.le_refl _) (by simp) ?_; (case hd => rfl); (case hg => rfl); (case hr => first | (go_simp; done) | (go_simp; rfl)); (case hp => exact (Reps.c2 (show Kd.FK k45 _ _ (⟨(⟨#[97]⟩ : ByteArray), ([] : List Int)⟩ : S45) [.string (⟨#[97]⟩ : ByteArray), .slice none 0 0] from (k45_mkF _ _ (⟨(⟨#[97]⟩ : ByteArray), ([] : List Int)⟩ : S45) (Nat.le_refl _) (Kd.F_nil _ _ _))) (Reps.none _ _))); intro v117 w8 ho9 hb hg_ hnew_; clear hg_ hnew_; (first | rw [← Ny116.out] at ho9 | (simp only [Int.reduceToNat] at ho9; rw [← Ny116.out] at ho9)); have n0_ := Aside0.mk (Kd.N_lower ho9 (below_size (by repeat (first | (with_reducible first | exact HB.out | apply below_alloc | apply pw_below_drewN | apply below_drew1) | exact HB.out)))); have n1_ := Aside0.mk (below_step (by repeat (first | (with_reducible first | exact HB.out | apply below_alloc | apply pw_below_drewN | apply below_drew1) | exact HB.out)) hb); clear HB; have HO118 := n0_; have HB := n1_; clear n0_ n1_; clear hb ho9) | ((with_reducible refine gate_dst (N := 5) rfl ?_); refine Kd.N_lit k45 _ 45 ?hg (N' := 5) ?hd (xs := ([(⟨(⟨#[98]⟩ : ByteArray), ([] : List Int)⟩ : S45)] : List (S45))) (inner := [.string (⟨#[98]⟩ : ByteArray), .slice none 0 0]) (ok := (fun k_ => some k_ ≠ (v117 : Value).ownBlock)) (okp := (fun k_ => some k_ ≠ (v117 : Value).ownBlock)) ?hr ?hp (fun _ hk => hk) ((show ∀ k_, w8.heap.size ≤ k_ → (fun k_ => some k_ ≠ (v117 : Value).ownBlock) k_ from fun k_ hk => Kd.fresh' (Kd.N_lt (by (with_reducible repeat (first | apply Kd.N_alloc | apply Kd.N_drewN | apply Kd.N_drew)); exact HO118.out)) k_ hk) _ (Nat.le_refl _)) (Below.refl _ _) (Nat.le_refl _) (by simp) ?_; (case hd => rfl); (case hg => rfl); (case hr => first | (go_simp; done) | (go_simp; rfl)); (case hp => exact (Reps.c2 (show Kd.FK k45 _ _ (⟨(⟨#[98]⟩ : ByteArray), ([] : List Int)⟩ : S45) [.string (⟨#[98]⟩ : ByteArray), .slice none 0 0] from (k45_mkF _ _ (⟨(⟨#[98]⟩ : ByteArray), ([] : List Int)⟩ : S45) (Nat.le_refl _) (Kd.F_nil _ _ _))) (Reps.none _ _))); intro v120 w10 ho11 hb hg_ hnew_; clear hg_ hnew_; (first | rw [← Ny119.out] at ho11 | (simp only [Int.reduceToNat] at ho11; rw [← Ny119.out] at ho11)); have n0_ := Aside0.mk (Kd.N_elder' (by (with_reducible repeat (first | apply Kd.N_alloc | apply Kd.N_drewN | apply Kd.N_drew)); exact HO118.out) (Kd.N_base ho11) hb); have n1_ := Aside0.mk (Kd.N_lower ho11 (below_size (by repeat (first | (with_reducible first | exact HB.out | apply below_alloc | apply pw_below_drewN | apply below_drew1) | exact HB.out)))); have n2_ := Aside0.mk (below_step (by repeat (first | (with_reducible first | exact HB.out | apply below_alloc | apply pw_below_drewN | apply below_drew1) | exact HB.out)) hb); clear HO118; clear HB; have HO118 := n0_; have HO121 := n1_; have HB := n2_; clear n0_ n1_ n2_; clear hb ho11; obtain ⟨Ao12, co12, eo12⟩ := Kd.N_slice HO118.out; subst eo12; obtain ⟨Ao13, co13, eo13⟩ := Kd.N_slice HO121.out; subst eo13) | ((with_reducible refine gate_callee (f := 32) rfl ?_); refine goesL_ (some 6) rfl rfl Tryd.func32 (by kernel_rfl) rfl #[.slice Ao12 y116.length co12, .slice Ao13 y119.length co13] rfl (by (try simp only [List.map_toArray, List.map_cons, List.map_nil]); first | done | rfl | (simp only [List.length_drop, List.length_take]; rfl)) ?_; (with_reducible refine (plan_Diff.calls _ _ y116 _ _ y119 t122 _ ?side1 ?side2 ?side3 ?side4 A1.out).mono ?_); (case side1 => repeat (first | exact (Kd.N_reads' HO118.out).2.2 | (with_reducible refine Kd.C_alloc ?_ _) | (with_reducible refine Kd.C_drewN ?_ _) | (with_reducible refine Kd.C_drew ?_))); (case side2 => exact (Kd.N_reads' HO118.out).2.1); (case side3 => repeat (first | exact (Kd.N_reads' HO121.out).2.2 | (with_reducible refine Kd.C_alloc ?_ _) | (with_reducible refine Kd.C_drewN ?_ _) | (with_reducible refine Kd.C_drew ?_))); (case side4 => exact (Kd.N_reads' HO121.out).2.1); rintro e w14 ⟨v123, rfl, ho0, hb⟩; refine ⟨_, rfl, ?_⟩; have n0_ := Aside0.mk (Kd.N_elder' (by (with_reducible repeat (first | apply Kd.N_alloc | apply Kd.N_drewN | apply Kd.N_drew)); exact HO118.out) (Kd.N_base ho0) hb); have n1_ := Aside0.mk (Kd.N_elder' (by (with_reducible repeat (first | apply Kd.N_alloc | apply Kd.N_drewN | apply Kd.N_drew)); exact HO121.out) (Kd.N_base ho0) hb); have n2_ := Aside0.mk (Kd.N_lower (Kd.N_mono (ok' := fun k_ => some k_ ≠ (.slice Ao12 y116.length co12 : Value).ownBlock ∧ some k_ ≠ (.slice Ao13 y119.length co13 : Value).ownBlock) ho0 (fun k_ hk_ => ⟨(Kd.fresh' (Kd.N_lt (by (with_reducible repeat (first | apply Kd.N_alloc | apply Kd.N_drewN | apply Kd.N_drew)); exact HO118.out)) k_ hk_), (Kd.fresh' (Kd.N_lt (by (with_reducible repeat (first | apply Kd.N_alloc | apply Kd.N_drewN | apply Kd.N_drew)); exact HO121.out)) k_ hk_)⟩)) (below_size (by repeat (first | (with_reducible first | exact HB.out | apply below_alloc | apply pw_below_drewN | apply below_drew1) | exact HB.out)))); have n3_ := Aside0.mk (below_step (by repeat (first | (with_reducible first | exact HB.out | apply below_alloc | apply pw_below_drewN | apply below_drew1) | exact HB.out)) hb); clear HO118; clear HO121; clear HB; have HO118 := n0_; have HO121 := n1_; have HO124 := n2_; have HB := n3_; clear n0_ n1_ n2_ n3_; (try clear hb); (try clear hb2); (try clear hk); (try clear hi); (try clear ho0); obtain ⟨Ao15, co15, eo15⟩ := Kd.N_slice HO124.out; subst eo15; have p125 : 0 ≤ (0 : Int) := (by omega); have q125 : 0 < (t122.length : Int) := of_decide_eq_true (by first | (with_reducible assumption) | assumption); obtain ⟨ad125, A125_2, c125_2, A125_4, c125_4, e125, hx125_0, hx125_1, hx125_2, hx125_3, hx125_4, hx125_5, hx125_6, hl125_2, hi125_2, hl125_4, hi125_4⟩ := at_T72 (Kd.N_reads' HO124.out).2.2 0 p125 q125; cases e125; obtain ⟨ce125, hce125, hMe125, hcc125⟩ := Kd.N_get HO124.out z72 0 p125 (by first | exact q125 | exact of_decide_eq_true (by first | (with_reducible assumption) | assumption) | (have e_ := (Kd.N_reads' HO124.out).1; omega)); obtain ⟨ua125_2, uc125_2, ua125_4, uc125_4, rfl, ul125_2, ge125_2, ul125_4, ge125_4⟩ := k72_openF hMe125; have hv125_2 := hcc125 2 _ rfl; rw [add_field _ _ 2 (by omega)] at hv125_2; replace hv125_2 := Option.some.inj (hv125_2.symm.trans hx125_2); injection hv125_2 with hva_ hvn_ hvc_; rw [hva_] at ge125_2; rw [hvc_] at ul125_2; have HL125_2 := Aside0.mk (show Kd.V (Kd.int .u8) 5 _ w.heap.size _ _ ((rd_T72 t122 0).f2) from Kd.V_mk ul125_2 ge125_2); clear hva_ hvn_ hvc_ ge125_2 ul125_2; have hv125_4 := hcc125 4 _ rfl; rw [add_field _ _ 4 (by omega)] at hv125_4; replace hv125_4 := Option.some.inj (hv125_4.symm.trans hx125_4); injection hv125_4 with hva_ hvn_ hvc_; rw [hva_] at ge125_4; rw [hvc_] at ul125_4; have HL125_4 := Aside0.mk (show Kd.V Kd.bool 4 _ w.heap.size _ _ ((rd_T72 t122 0).f4.f0) from Kd.V_mk ul125_4 ge125_4); clear hva_ hvn_ hvc_ ge125_4 ul125_4; clear hcc125 hce125; have qi125 : (0 < t122.length) = True := eq_true (by omega); (try rw [show ((0 : Int)).toNat = 0 from rfl] at hx125_0); (try rw [show 0 * 7 = 0 from rfl] at hx125_0); (try rw [Addr.add_zero'] at hx125_0); (try rw [show ((0 : Int)).toNat = 0 from rfl] at hx125_1); (try rw [show 0 * 7 = 0 from rfl] at hx125_1); (try rw [Addr.add_zero'] at hx125_1); (try rw [show ((0 : Int)).toNat = 0 from rfl] at hx125_2); (try rw [show 0 * 7 = 0 from rfl] at hx125_2); (try rw [Addr.add_zero'] at hx125_2); (try rw [show ((0 : Int)).toNat = 0 from rfl] at hx125_3); (try rw [show 0 * 7 = 0 from rfl] at hx125_3); (try rw [Addr.add_zero'] at hx125_3); (try rw [show ((0 : Int)).toNat = 0 from rfl] at hx125_4); (try rw [show 0 * 7 = 0 from rfl] at hx125_4); (try rw [Addr.add_zero'] at hx125_4); (try rw [show ((0 : Int)).toNat = 0 from rfl] at hx125_5); (try rw [show 0 * 7 = 0 from rfl] at hx125_5); (try rw [Addr.add_zero'] at hx125_5); (try rw [show ((0 : Int)).toNat = 0 from rfl] at hx125_6); (try rw [show 0 * 7 = 0 from rfl] at hx125_6); (try rw [Addr.add_zero'] at hx125_6); have HR125_2 := Aside0.mk hi125_2; have HC125_2 := Aside0.mk hl125_2; clear hi125_2 hl125_2; have HR125_4 := Aside0.mk hi125_4; have HC125_4 := Aside0.mk hl125_4; clear hi125_4 hl125_4; replace p125 := eq_true p125; replace q125 := eq_true q125; have p126 : 0 ≤ (0 : Int) := (by omega); have q126 : 0 < (t122.length : Int) := of_decide_eq_true (by first | (with_reducible assumption) | assumption); obtain ⟨ad126, A126_2, c126_2, A126_4, c126_4, e126, hx126_0, hx126_1, hx126_2, hx126_3, hx126_4, hx126_5, hx126_6, hl126_2, hi126_2, hl126_4, hi126_4⟩ := at_T72 (Kd.N_reads' HO124.out).2.2 0 p126 q126; obtain rfl : ad125 = ad126 := (by injection e126); obtain ⟨ce126, hce126, hMe126, hcc126⟩ := Kd.N_get HO124.out z72 0 p126 (by first | exact q126 | exact of_decide_eq_true (by first | (with_reducible assumption) | assumption) | (have e_ := (Kd.N_reads' HO124.out).1; omega)); obtain ⟨ua126_2, uc126_2, ua126_4, uc126_4, rfl, ul126_2, ge126_2, ul126_4, ge126_4⟩ := k72_openF hMe126; have hv126_2 := hcc126 2 _ rfl; rw [add_field _ _ 2 (by omega)] at hv126_2; replace hv126_2 := Option.some.inj (hv126_2.symm.trans hx126_2); injection hv126_2 with hva_ hvn_ hvc_; rw [hva_] at ge126_2; rw [hvc_] at ul126_2; have HL126_2 := Aside0.mk (show Kd.V (Kd.int .u8) 5 _ w.heap.size _ _ ((rd_T72 t122 0).f2) from Kd.V_mk ul126_2 ge126_2); clear hva_ hvn_ hvc_ ge126_2 ul126_2; have hv126_4 := hcc126 4 _ rfl; rw [add_field _ _ 4 (by omega)] at hv126_4; replace hv126_4 := Option.some.inj (hv126_4.symm.trans hx126_4); injection hv126_4 with hva_ hvn_ hvc_; rw [hva_] at ge126_4; rw [hvc_] at ul126_4; have HL126_4 := Aside0.mk (show Kd.V Kd.bool 4 _ w.heap.size _ _ ((rd_T72 t122 0).f4.f0) from Kd.V_mk ul126_4 ge126_4); clear hva_ hvn_ hvc_ ge126_4 ul126_4; clear hcc126 hce126; have qi126 : (0 < t122.length) = True := eq_true (by omega); (try rw [show ((0 : Int)).toNat = 0 from rfl] at hx126_0); (try rw [show 0 * 7 = 0 from rfl] at hx126_0); (try rw [Addr.add_zero'] at hx126_0); (try rw [show ((0 : Int)).toNat = 0 from rfl] at hx126_1); (try rw [show 0 * 7 = 0 from rfl] at hx126_1); (try rw [Addr.add_zero'] at hx126_1); (try rw [show ((0 : Int)).toNat = 0 from rfl] at hx126_2); (try rw [show 0 * 7 = 0 from rfl] at hx126_2); (try rw [Addr.add_zero'] at hx126_2); (try rw [show ((0 : Int)).toNat = 0 from rfl] at hx126_3); (try rw [show 0 * 7 = 0 from rfl] at hx126_3); (try rw [Addr.add_zero'] at hx126_3); (try rw [show ((0 : Int)).toNat = 0 from rfl] at hx126_4); (try rw [show 0 * 7 = 0 from rfl] at hx126_4); (try rw [Addr.add_zero'] at hx126_4); (try rw [show ((0 : Int)).toNat = 0 from rfl] at hx126_5); (try rw [show 0 * 7 = 0 from rfl] at hx126_5); (try rw [Addr.add_zero'] at hx126_5); (try rw [show ((0 : Int)).toNat = 0 from rfl] at hx126_6); (try rw [show 0 * 7 = 0 from rfl] at hx126_6); (try rw [Addr.add_zero'] at hx126_6); have HR126_2 := Aside0.mk hi126_2; have HC126_2 := Aside0.mk hl126_2; clear hi126_2 hl126_2; have HR126_4 := Aside0.mk hi126_4; have HC126_4 := Aside0.mk hl126_4; clear hi126_4 hl126_4; replace p126 := eq_true p126; replace q126 := eq_true q126; have ea_ := Option.some.inj (hx125_2.symm.trans hx126_2); injection ea_ with ea_ en_ ec_; subst ea_; subst ec_; clear en_; have ea_ := Option.some.inj (hx125_4.symm.trans hx126_4); injection ea_ with ea_ en_ ec_; subst ea_; subst ec_; clear en_; have p127 : 0 ≤ (1 : Int) := (by omega); have q127 : 1 < (t122.length : Int) := of_decide_eq_true (by first | (with_reducible assumption) | assumption); obtain ⟨ad127, A127_2, c127_2, A127_4, c127_4, e127, hx127_0, hx127_1, hx127_2, hx127_3, hx127_4, hx127_5, hx127_6, hl127_2, hi127_2, hl127_4, hi127_4⟩ := at_T72 (Kd.N_reads' HO124.out).2.2 1 p127 q127; obtain rfl : ad125 = ad127 := (by injection e127); obtain ⟨ce127, hce127, hMe127, hcc127⟩ := Kd.N_get HO124.out z72 1 p127 (by first | exact q127 | exact of_decide_eq_true (by first | (with_reducible assumption) | assumption) | (have e_ := (Kd.N_reads' HO124.out).1; omega)); obtain ⟨ua127_2, uc127_2, ua127_4, uc127_4, rfl, ul127_2, ge127_2, ul127_4, ge127_4⟩ := k72_openF hMe127; have hv127_2 := hcc127 2 _ rfl; rw [add_field _ _ 2 (by omega)] at hv127_2; replace hv127_2 := Option.some.inj (hv127_2.symm.trans hx127_2); injection hv127_2 with hva_ hvn_ hvc_; rw [hva_] at ge127_2; rw [hvc_] at ul127_2; have HL127_2 := Aside0.mk (show Kd.V (Kd.int .u8) 5 _ w.heap.size _ _ ((rd_T72 t122 1).f2) from Kd.V_mk ul127_2 ge127_2); clear hva_ hvn_ hvc_ ge127_2 ul127_2; have hv127_4 := hcc127 4 _ rfl; rw [add_field _ _ 4 (by omega)] at hv127_4; replace hv127_4 := Option.some.inj (hv127_4.symm.trans hx127_4); injection hv127_4 with hva_ hvn_ hvc_; rw [hva_] at ge127_4; rw [hvc_] at ul127_4; have HL127_4 := Aside0.mk (show Kd.V Kd.bool 4 _ w.heap.size _ _ ((rd_T72 t122 1).f4.f0) from Kd.V_mk ul127_4 ge127_4); clear hva_ hvn_ hvc_ ge127_4 ul127_4; clear hcc127 hce127; (try simp only [show (1 : Int).toNat = 1 from rfl, Nat.reduceMul, Nat.reduceEqDiff, Go.Addr.add, ↓reduceIte] at hx127_0); (try simp only [show (1 : Int).toNat = 1 from rfl, Nat.reduceMul, Nat.reduceEqDiff, Go.Addr.add, ↓reduceIte] at hx127_1); (try simp only [show (1 : Int).toNat = 1 from rfl, Nat.reduceMul, Nat.reduceEqDiff, Go.Addr.add, ↓reduceIte] at hx127_2); (try simp only [show (1 : Int).toNat = 1 from rfl, Nat.reduceMul, Nat.reduceEqDiff, Go.Addr.add, ↓reduceIte] at hx127_3); (try simp only [show (1 : Int).toNat = 1 from rfl, Nat.reduceMul, Nat.reduceEqDiff, Go.Addr.add, ↓reduceIte] at hx127_4); (try simp only [show (1 : Int).toNat = 1 from rfl, Nat.reduceMul, Nat.reduceEqDiff, Go.Addr.add, ↓reduceIte] at hx127_5); (try simp only [show (1 : Int).toNat = 1 from rfl, Nat.reduceMul, Nat.reduceEqDiff, Go.Addr.add, ↓reduceIte] at hx127_6); have qi127 : (1 < t122.length) = True := eq_true (by omega); (try rw [show ((1 : Int)).toNat = 1 from rfl] at hx127_0); (try rw [show 1 * 7 = 7 from rfl] at hx127_0); (try rw [show ((1 : Int)).toNat = 1 from rfl] at hx127_1); (try rw [show 1 * 7 = 7 from rfl] at hx127_1); (try rw [show ((1 : Int)).toNat = 1 from rfl] at hx127_2); (try rw [show 1 * 7 = 7 from rfl] at hx127_2); (try rw [show ((1 : Int)).toNat = 1 from rfl] at hx127_3); (try rw [show 1 * 7 = 7 from rfl] at hx127_3); (try rw [show ((1 : Int)).toNat = 1 from rfl] at hx127_4); (try rw [show 1 * 7 = 7 from rfl] at hx127_4); (try rw [show ((1 : Int)).toNat = 1 from rfl] at hx127_5); (try rw [show 1 * 7 = 7 from rfl] at hx127_5); (try rw [show ((1 : Int)).toNat = 1 from rfl] at hx127_6); (try rw [show 1 * 7 = 7 from rfl] at hx127_6); have HR127_2 := Aside0.mk hi127_2; have HC127_2 := Aside0.mk hl127_2; clear hi127_2 hl127_2; have HR127_4 := Aside0.mk hi127_4; have HC127_4 := Aside0.mk hl127_4; clear hi127_4 hl127_4; replace p127 := eq_true p127; replace q127 := eq_true q127; have p128 : 0 ≤ (1 : Int) := (by omega); have q128 : 1 < (t122.length : Int) := of_decide_eq_true (by first | (with_reducible assumption) | assumption); obtain ⟨ad128, A128_2, c128_2, A128_4, c128_4, e128, hx128_0, hx128_1, hx128_2, hx128_3, hx128_4, hx128_5, hx128_6, hl128_2, hi128_2, hl128_4, hi128_4⟩ := at_T72 (Kd.N_reads' HO124.out).2.2 1 p128 q128; obtain rfl : ad125 = ad128 := (by injection e128); obtain ⟨ce128, hce128, hMe128, hcc128⟩ := Kd.N_get HO124.out z72 1 p128 (by first | exact q128 | exact of_decide_eq_true (by first | (with_reducible assumption) | assumption) | (have e_ := (Kd.N_reads' HO124.out).1; omega)); obtain ⟨ua128_2, uc128_2, ua128_4, uc128_4, rfl, ul128_2, ge128_2, ul128_4, ge128_4⟩ := k72_openF hMe128; have hv128_2 := hcc128 2 _ rfl; rw [add_field _ _ 2 (by omega)] at hv128_2; replace hv128_2 := Option.some.inj (hv128_2.symm.trans hx128_2); injection hv128_2 with hva_ hvn_ hvc_; rw [hva_] at ge128_2; rw [hvc_] at ul128_2; have HL128_2 := Aside0.mk (show Kd.V (Kd.int .u8) 5 _ w.heap.size _ _ ((rd_T72 t122 1).f2) from Kd.V_mk ul128_2 ge128_2); clear hva_ hvn_ hvc_ ge128_2 ul128_2; have hv128_4 := hcc128 4 _ rfl; rw [add_field _ _ 4 (by omega)] at hv128_4; replace hv128_4 := Option.some.inj (hv128_4.symm.trans hx128_4); injection hv128_4 with hva_ hvn_ hvc_; rw [hva_] at ge128_4; rw [hvc_] at ul128_4; have HL128_4 := Aside0.mk (show Kd.V Kd.bool 4 _ w.heap.size _ _ ((rd_T72 t122 1).f4.f0) from Kd.V_mk ul128_4 ge128_4); clear hva_ hvn_ hvc_ ge128_4 ul128_4; clear hcc128 hce128; (try simp only [show (1 : Int).toNat = 1 from rfl, Nat.reduceMul, Nat.reduceEqDiff, Go.Addr.add, ↓reduceIte] at hx128_0); (try simp only [show (1 : Int).toNat = 1 from rfl, Nat.reduceMul, Nat.reduceEqDiff, Go.Addr.add, ↓reduceIte] at hx128_1); (try simp only [show (1 : Int).toNat = 1 from rfl, Nat.reduceMul, Nat.reduceEqDiff, Go.Addr.add, ↓reduceIte] at hx128_2); (try simp only [show (1 : Int).toNat = 1 from rfl, Nat.reduceMul, Nat.reduceEqDiff, Go.Addr.add, ↓reduceIte] at hx128_3); (try simp only [show (1 : Int).toNat = 1 from rfl, Nat.reduceMul, Nat.reduceEqDiff, Go.Addr.add, ↓reduceIte] at hx128_4); (try simp only [show (1 : Int).toNat = 1 from rfl, Nat.reduceMul, Nat.reduceEqDiff, Go.Addr.add, ↓reduceIte] at hx128_5); (try simp only [show (1 : Int).toNat = 1 from rfl, Nat.reduceMul, Nat.reduceEqDiff, Go.Addr.add, ↓reduceIte] at hx128_6); have qi128 : (1 < t122.length) = True := eq_true (by omega); (try rw [show ((1 : Int)).toNat = 1 from rfl] at hx128_0); (try rw [show 1 * 7 = 7 from rfl] at hx128_0); (try rw [show ((1 : Int)).toNat = 1 from rfl] at hx128_1); (try rw [show 1 * 7 = 7 from rfl] at hx128_1); (try rw [show ((1 : Int)).toNat = 1 from rfl] at hx128_2); (try rw [show 1 * 7 = 7 from rfl] at hx128_2); (try rw [show ((1 : Int)).toNat = 1 from rfl] at hx128_3); (try rw [show 1 * 7 = 7 from rfl] at hx128_3); (try rw [show ((1 : Int)).toNat = 1 from rfl] at hx128_4); (try rw [show 1 * 7 = 7 from rfl] at hx128_4); (try rw [show ((1 : Int)).toNat = 1 from rfl] at hx128_5); (try rw [show 1 * 7 = 7 from rfl] at hx128_5); (try rw [show ((1 : Int)).toNat = 1 from rfl] at hx128_6); (try rw [show 1 * 7 = 7 from rfl] at hx128_6); have HR128_2 := Aside0.mk hi128_2; have HC128_2 := Aside0.mk hl128_2; clear hi128_2 hl128_2; have HR128_4 := Aside0.mk hi128_4; have HC128_4 := Aside0.mk hl128_4; clear hi128_4 hl128_4; replace p128 := eq_true p128; replace q128 := eq_true q128; have ea_ := Option.some.inj (hx127_2.symm.trans hx128_2); injection ea_ with ea_ en_ ec_; subst ea_; subst ec_; clear en_; have ea_ := Option.some.inj (hx127_4.symm.trans hx128_4); injection ea_ with ea_ en_ ec_; subst ea_; subst ec_; clear en_))
       go_ret
       exact ⟨by first | rfl | (simp [errW_none, errW_some] <;> rfl) | (simp [*, errW_none, errW_some] <;> rfl), by repeat (first | (with_reducible first | exact HB.out | apply below_alloc | apply pw_below_drewN | apply below_drew1) | exact HB.out)⟩
      ·rw [if_neg c7] at H
       have c7b0 : (((rd_T72 t122 1).f0) == 3) = false := beq_eq_false_iff_ne.mpr c7
       have c7b1 : (((rd_T72 t122 1).f0) != 3) = true := bne_iff_ne.mpr c7
       obtain rfl := Option.some.inj H
       go_enter Tryd.func27, Tryd.ntmps27
       go_wp2_with (first | ((with_reducible refine gate_dst (N := 3) rfl ?_); refine Kd.N_lit k45 _ 45 ?hg (N' := 3) ?hd (xs := ([(⟨(⟨#[97]⟩ : ByteArray), ([] : List Int)⟩ : S45)] : List (S45))) (inner := [.string (⟨#[97]⟩ : ByteArray), .slice none 0 0]) (ok := (fun _ => True)) (okp := (fun _ => True)) ?hr ?hp (fun _ hk => hk) ((show ∀ k_, w.heap.size ≤ k_ → (fun _ => True) k_ from fun k_ hk => trivial) _ (Nat.le_refl _)) (Below.refl _ _) (Nat.le_refl _) (by simp) ?_; (case hd => rfl); (case hg => rfl); (case hr => first | (go_simp; done) | (go_simp; rfl)); (case hp => exact (Reps.c2 (show Kd.FK k45 _ _ (⟨(⟨#[97]⟩ : ByteArray), ([] : List Int)⟩ : S45) [.string (⟨#[97]⟩ : ByteArray), .slice none 0 0] from (k45_mkF _ _ (⟨(⟨#[97]⟩ : ByteArray), ([] : List Int)⟩ : S45) (Nat.le_refl _) (Kd.F_nil _ _ _))) (Reps.none _ _))); intro v117 w16 ho17 hb hg_ hnew_; clear hg_ hnew_; (first | rw [← Ny116.out] at ho17 | (simp only [Int.reduceToNat] at ho17; rw [← Ny116.out] at ho17)); have n0_ := Aside0.mk (Kd.N_lower ho17 (below_size (by repeat (first | (with_reducible first | exact HB.out | apply below_alloc | apply pw_below_drewN | apply below_drew1) | exact HB.out)))); have n1_ := Aside0.mk (below_step (by repeat (first | (with_reducible first | exact HB.out | apply below_alloc | apply pw_below_drewN | apply below_drew1) | exact HB.out)) hb); clear HB; have HO118 := n0_; have HB := n1_; clear n0_ n1_; clear hb ho17) | ((with_reducible refine gate_dst (N := 5) rfl ?_); refine Kd.N_lit k45 _ 45 ?hg (N' := 5) ?hd (xs := ([(⟨(⟨#[98]⟩ : ByteArray), ([] : List Int)⟩ : S45)] : List (S45))) (inner := [.string (⟨#[98]⟩ : ByteArray), .slice none 0 0]) (ok := (fun k_ => some k_ ≠ (v117 : Value).ownBlock)) (okp := (fun k_ => some k_ ≠ (v117 : Value).ownBlock)) ?hr ?hp (fun _ hk => hk) ((show ∀ k_, w16.heap.size ≤ k_ → (fun k_ => some k_ ≠ (v117 : Value).ownBlock) k_ from fun k_ hk => Kd.fresh' (Kd.N_lt (by (with_reducible repeat (first | apply Kd.N_alloc | apply Kd.N_drewN | apply Kd.N_drew)); exact HO118.out)) k_ hk) _ (Nat.le_refl _)) (Below.refl _ _) (Nat.le_refl _) (by simp) ?_; (case hd => rfl); (case hg => rfl); (case hr => first | (go_simp; done) | (go_simp; rfl)); (case hp => exact (Reps.c2 (show Kd.FK k45 _ _ (⟨(⟨#[98]⟩ : ByteArray), ([] : List Int)⟩ : S45) [.string (⟨#[98]⟩ : ByteArray), .slice none 0 0] from (k45_mkF _ _ (⟨(⟨#[98]⟩ : ByteArray), ([] : List Int)⟩ : S45) (Nat.le_refl _) (Kd.F_nil _ _ _))) (Reps.none _ _))); intro v120 w18 ho19 hb hg_ hnew_; clear hg_ hnew_; (first | rw [← Ny119.out] at ho19 | (simp only [Int.reduceToNat] at ho19; rw [← Ny119.out] at ho19)); have n0_ := Aside0.mk (Kd.N_elder' (by (with_reducible repeat (first | apply Kd.N_alloc | apply Kd.N_drewN | apply Kd.N_drew)); exact HO118.out) (Kd.N_base ho19) hb); have n1_ := Aside0.mk (Kd.N_lower ho19 (below_size (by repeat (first | (with_reducible first | exact HB.out | apply below_alloc | apply pw_below_drewN | apply below_drew1) | exact HB.out)))); have n2_ := Aside0.mk (below_step (by repeat (first | (with_reducible first | exact HB.out | apply below_alloc | apply pw_below_drewN | apply below_drew1) | exact HB.out)) hb); clear HO118; clear HB; have HO118 := n0_; have HO121 := n1_; have HB := n2_; clear n0_ n1_ n2_; clear hb ho19; obtain ⟨Ao20, co20, eo20⟩ := Kd.N_slice HO118.out; subst eo20; obtain ⟨Ao21, co21, eo21⟩ := Kd.N_slice HO121.out; subst eo21) | ((with_reducible refine gate_callee (f := 32) rfl ?_); refine goesL_ (some 6) rfl rfl Tryd.func32 (by kernel_rfl) rfl #[.slice Ao20 y116.length co20, .slice Ao21 y119.length co21] rfl (by (try simp only [List.map_toArray, List.map_cons, List.map_nil]); first | done | rfl | (simp only [List.length_drop, List.length_take]; rfl)) ?_; (with_reducible refine (plan_Diff.calls _ _ y116 _ _ y119 t122 _ ?side1 ?side2 ?side3 ?side4 A1.out).mono ?_); (case side1 => repeat (first | exact (Kd.N_reads' HO118.out).2.2 | (with_reducible refine Kd.C_alloc ?_ _) | (with_reducible refine Kd.C_drewN ?_ _) | (with_reducible refine Kd.C_drew ?_))); (case side2 => exact (Kd.N_reads' HO118.out).2.1); (case side3 => repeat (first | exact (Kd.N_reads' HO121.out).2.2 | (with_reducible refine Kd.C_alloc ?_ _) | (with_reducible refine Kd.C_drewN ?_ _) | (with_reducible refine Kd.C_drew ?_))); (case side4 => exact (Kd.N_reads' HO121.out).2.1); rintro e w22 ⟨v123, rfl, ho0, hb⟩; refine ⟨_, rfl, ?_⟩; have n0_ := Aside0.mk (Kd.N_elder' (by (with_reducible repeat (first | apply Kd.N_alloc | apply Kd.N_drewN | apply Kd.N_drew)); exact HO118.out) (Kd.N_base ho0) hb); have n1_ := Aside0.mk (Kd.N_elder' (by (with_reducible repeat (first | apply Kd.N_alloc | apply Kd.N_drewN | apply Kd.N_drew)); exact HO121.out) (Kd.N_base ho0) hb); have n2_ := Aside0.mk (Kd.N_lower (Kd.N_mono (ok' := fun k_ => some k_ ≠ (.slice Ao20 y116.length co20 : Value).ownBlock ∧ some k_ ≠ (.slice Ao21 y119.length co21 : Value).ownBlock) ho0 (fun k_ hk_ => ⟨(Kd.fresh' (Kd.N_lt (by (with_reducible repeat (first | apply Kd.N_alloc | apply Kd.N_drewN | apply Kd.N_drew)); exact HO118.out)) k_ hk_), (Kd.fresh' (Kd.N_lt (by (with_reducible repeat (first | apply Kd.N_alloc | apply Kd.N_drewN | apply Kd.N_drew)); exact HO121.out)) k_ hk_)⟩)) (below_size (by repeat (first | (with_reducible first | exact HB.out | apply below_alloc | apply pw_below_drewN | apply below_drew1) | exact HB.out)))); have n3_ := Aside0.mk (below_step (by repeat (first | (with_reducible first | exact HB.out | apply below_alloc | apply pw_below_drewN | apply below_drew1) | exact HB.out)) hb); clear HO118; clear HO121; clear HB; have HO118 := n0_; have HO121 := n1_; have HO124 := n2_; have HB := n3_; clear n0_ n1_ n2_ n3_; (try clear hb); (try clear hb2); (try clear hk); (try clear hi); (try clear ho0); obtain ⟨Ao23, co23, eo23⟩ := Kd.N_slice HO124.out; subst eo23; have p125 : 0 ≤ (0 : Int) := (by omega); have q125 : 0 < (t122.length : Int) := of_decide_eq_true (by first | (with_reducible assumption) | assumption); obtain ⟨ad125, A125_2, c125_2, A125_4, c125_4, e125, hx125_0, hx125_1, hx125_2, hx125_3, hx125_4, hx125_5, hx125_6, hl125_2, hi125_2, hl125_4, hi125_4⟩ := at_T72 (Kd.N_reads' HO124.out).2.2 0 p125 q125; cases e125; obtain ⟨ce125, hce125, hMe125, hcc125⟩ := Kd.N_get HO124.out z72 0 p125 (by first | exact q125 | exact of_decide_eq_true (by first | (with_reducible assumption) | assumption) | (have e_ := (Kd.N_reads' HO124.out).1; omega)); obtain ⟨ua125_2, uc125_2, ua125_4, uc125_4, rfl, ul125_2, ge125_2, ul125_4, ge125_4⟩ := k72_openF hMe125; have hv125_2 := hcc125 2 _ rfl; rw [add_field _ _ 2 (by omega)] at hv125_2; replace hv125_2 := Option.some.inj (hv125_2.symm.trans hx125_2); injection hv125_2 with hva_ hvn_ hvc_; rw [hva_] at ge125_2; rw [hvc_] at ul125_2; have HL125_2 := Aside0.mk (show Kd.V (Kd.int .u8) 5 _ w.heap.size _ _ ((rd_T72 t122 0).f2) from Kd.V_mk ul125_2 ge125_2); clear hva_ hvn_ hvc_ ge125_2 ul125_2; have hv125_4 := hcc125 4 _ rfl; rw [add_field _ _ 4 (by omega)] at hv125_4; replace hv125_4 := Option.some.inj (hv125_4.symm.trans hx125_4); injection hv125_4 with hva_ hvn_ hvc_; rw [hva_] at ge125_4; rw [hvc_] at ul125_4; have HL125_4 := Aside0.mk (show Kd.V Kd.bool 4 _ w.heap.size _ _ ((rd_T72 t122 0).f4.f0) from Kd.V_mk ul125_4 ge125_4); clear hva_ hvn_ hvc_ ge125_4 ul125_4; clear hcc125 hce125; have qi125 : (0 < t122.length) = True := eq_true (by omega); (try rw [show ((0 : Int)).toNat = 0 from rfl] at hx125_0); (try rw [show 0 * 7 = 0 from rfl] at hx125_0); (try rw [Addr.add_zero'] at hx125_0); (try rw [show ((0 : Int)).toNat = 0 from rfl] at hx125_1); (try rw [show 0 * 7 = 0 from rfl] at hx125_1); (try rw [Addr.add_zero'] at hx125_1); (try rw [show ((0 : Int)).toNat = 0 from rfl] at hx125_2); (try rw [show 0 * 7 = 0 from rfl] at hx125_2); (try rw [Addr.add_zero'] at hx125_2); (try rw [show ((0 : Int)).toNat = 0 from rfl] at hx125_3); (try rw [show 0 * 7 = 0 from rfl] at hx125_3); (try rw [Addr.add_zero'] at hx125_3); (try rw [show ((0 : Int)).toNat = 0 from rfl] at hx125_4); (try rw [show 0 * 7 = 0 from rfl] at hx125_4); (try rw [Addr.add_zero'] at hx125_4); (try rw [show ((0 : Int)).toNat = 0 from rfl] at hx125_5); (try rw [show 0 * 7 = 0 from rfl] at hx125_5); (try rw [Addr.add_zero'] at hx125_5); (try rw [show ((0 : Int)).toNat = 0 from rfl] at hx125_6); (try rw [show 0 * 7 = 0 from rfl] at hx125_6); (try rw [Addr.add_zero'] at hx125_6); have HR125_2 := Aside0.mk hi125_2; have HC125_2 := Aside0.mk hl125_2; clear hi125_2 hl125_2; have HR125_4 := Aside0.mk hi125_4; have HC125_4 := Aside0.mk hl125_4; clear hi125_4 hl125_4; replace p125 := eq_true p125; replace q125 := eq_true q125; have p126 : 0 ≤ (0 : Int) := (by omega); have q126 : 0 < (t122.length : Int) := of_decide_eq_true (by first | (with_reducible assumption) | assumption); obtain ⟨ad126, A126_2, c126_2, A126_4, c126_4, e126, hx126_0, hx126_1, hx126_2, hx126_3, hx126_4, hx126_5, hx126_6, hl126_2, hi126_2, hl126_4, hi126_4⟩ := at_T72 (Kd.N_reads' HO124.out).2.2 0 p126 q126; obtain rfl : ad125 = ad126 := (by injection e126); obtain ⟨ce126, hce126, hMe126, hcc126⟩ := Kd.N_get HO124.out z72 0 p126 (by first | exact q126 | exact of_decide_eq_true (by first | (with_reducible assumption) | assumption) | (have e_ := (Kd.N_reads' HO124.out).1; omega)); obtain ⟨ua126_2, uc126_2, ua126_4, uc126_4, rfl, ul126_2, ge126_2, ul126_4, ge126_4⟩ := k72_openF hMe126; have hv126_2 := hcc126 2 _ rfl; rw [add_field _ _ 2 (by omega)] at hv126_2; replace hv126_2 := Option.some.inj (hv126_2.symm.trans hx126_2); injection hv126_2 with hva_ hvn_ hvc_; rw [hva_] at ge126_2; rw [hvc_] at ul126_2; have HL126_2 := Aside0.mk (show Kd.V (Kd.int .u8) 5 _ w.heap.size _ _ ((rd_T72 t122 0).f2) from Kd.V_mk ul126_2 ge126_2); clear hva_ hvn_ hvc_ ge126_2 ul126_2; have hv126_4 := hcc126 4 _ rfl; rw [add_field _ _ 4 (by omega)] at hv126_4; replace hv126_4 := Option.some.inj (hv126_4.symm.trans hx126_4); injection hv126_4 with hva_ hvn_ hvc_; rw [hva_] at ge126_4; rw [hvc_] at ul126_4; have HL126_4 := Aside0.mk (show Kd.V Kd.bool 4 _ w.heap.size _ _ ((rd_T72 t122 0).f4.f0) from Kd.V_mk ul126_4 ge126_4); clear hva_ hvn_ hvc_ ge126_4 ul126_4; clear hcc126 hce126; have qi126 : (0 < t122.length) = True := eq_true (by omega); (try rw [show ((0 : Int)).toNat = 0 from rfl] at hx126_0); (try rw [show 0 * 7 = 0 from rfl] at hx126_0); (try rw [Addr.add_zero'] at hx126_0); (try rw [show ((0 : Int)).toNat = 0 from rfl] at hx126_1); (try rw [show 0 * 7 = 0 from rfl] at hx126_1); (try rw [Addr.add_zero'] at hx126_1); (try rw [show ((0 : Int)).toNat = 0 from rfl] at hx126_2); (try rw [show 0 * 7 = 0 from rfl] at hx126_2); (try rw [Addr.add_zero'] at hx126_2); (try rw [show ((0 : Int)).toNat = 0 from rfl] at hx126_3); (try rw [show 0 * 7 = 0 from rfl] at hx126_3); (try rw [Addr.add_zero'] at hx126_3); (try rw [show ((0 : Int)).toNat = 0 from rfl] at hx126_4); (try rw [show 0 * 7 = 0 from rfl] at hx126_4); (try rw [Addr.add_zero'] at hx126_4); (try rw [show ((0 : Int)).toNat = 0 from rfl] at hx126_5); (try rw [show 0 * 7 = 0 from rfl] at hx126_5); (try rw [Addr.add_zero'] at hx126_5); (try rw [show ((0 : Int)).toNat = 0 from rfl] at hx126_6); (try rw [show 0 * 7 = 0 from rfl] at hx126_6); (try rw [Addr.add_zero'] at hx126_6); have HR126_2 := Aside0.mk hi126_2; have HC126_2 := Aside0.mk hl126_2; clear hi126_2 hl126_2; have HR126_4 := Aside0.mk hi126_4; have HC126_4 := Aside0.mk hl126_4; clear hi126_4 hl126_4; replace p126 := eq_true p126; replace q126 := eq_true q126; have ea_ := Option.some.inj (hx125_2.symm.trans hx126_2); injection ea_ with ea_ en_ ec_; subst ea_; subst ec_; clear en_; have ea_ := Option.some.inj (hx125_4.symm.trans hx126_4); injection ea_ with ea_ en_ ec_; subst ea_; subst ec_; clear en_; have p127 : 0 ≤ (1 : Int) := (by omega); have q127 : 1 < (t122.length : Int) := of_decide_eq_true (by first | (with_reducible assumption) | assumption); obtain ⟨ad127, A127_2, c127_2, A127_4, c127_4, e127, hx127_0, hx127_1, hx127_2, hx127_3, hx127_4, hx127_5, hx127_6, hl127_2, hi127_2, hl127_4, hi127_4⟩ := at_T72 (Kd.N_reads' HO124.out).2.2 1 p127 q127; obtain rfl : ad125 = ad127 := (by injection e127); obtain ⟨ce127, hce127, hMe127, hcc127⟩ := Kd.N_get HO124.out z72 1 p127 (by first | exact q127 | exact of_decide_eq_true (by first | (with_reducible assumption) | assumption) | (have e_ := (Kd.N_reads' HO124.out).1; omega)); obtain ⟨ua127_2, uc127_2, ua127_4, uc127_4, rfl, ul127_2, ge127_2, ul127_4, ge127_4⟩ := k72_openF hMe127; have hv127_2 := hcc127 2 _ rfl; rw [add_field _ _ 2 (by omega)] at hv127_2; replace hv127_2 := Option.some.inj (hv127_2.symm.trans hx127_2); injection hv127_2 with hva_ hvn_ hvc_; rw [hva_] at ge127_2; rw [hvc_] at ul127_2; have HL127_2 := Aside0.mk (show Kd.V (Kd.int .u8) 5 _ w.heap.size _ _ ((rd_T72 t122 1).f2) from Kd.V_mk ul127_2 ge127_2); clear hva_ hvn_ hvc_ ge127_2 ul127_2; have hv127_4 := hcc127 4 _ rfl; rw [add_field _ _ 4 (by omega)] at hv127_4; replace hv127_4 := Option.some.inj (hv127_4.symm.trans hx127_4); injection hv127_4 with hva_ hvn_ hvc_; rw [hva_] at ge127_4; rw [hvc_] at ul127_4; have HL127_4 := Aside0.mk (show Kd.V Kd.bool 4 _ w.heap.size _ _ ((rd_T72 t122 1).f4.f0) from Kd.V_mk ul127_4 ge127_4); clear hva_ hvn_ hvc_ ge127_4 ul127_4; clear hcc127 hce127; (try simp only [show (1 : Int).toNat = 1 from rfl, Nat.reduceMul, Nat.reduceEqDiff, Go.Addr.add, ↓reduceIte] at hx127_0); (try simp only [show (1 : Int).toNat = 1 from rfl, Nat.reduceMul, Nat.reduceEqDiff, Go.Addr.add, ↓reduceIte] at hx127_1); (try simp only [show (1 : Int).toNat = 1 from rfl, Nat.reduceMul, Nat.reduceEqDiff, Go.Addr.add, ↓reduceIte] at hx127_2); (try simp only [show (1 : Int).toNat = 1 from rfl, Nat.reduceMul, Nat.reduceEqDiff, Go.Addr.add, ↓reduceIte] at hx127_3); (try simp only [show (1 : Int).toNat = 1 from rfl, Nat.reduceMul, Nat.reduceEqDiff, Go.Addr.add, ↓reduceIte] at hx127_4); (try simp only [show (1 : Int).toNat = 1 from rfl, Nat.reduceMul, Nat.reduceEqDiff, Go.Addr.add, ↓reduceIte] at hx127_5); (try simp only [show (1 : Int).toNat = 1 from rfl, Nat.reduceMul, Nat.reduceEqDiff, Go.Addr.add, ↓reduceIte] at hx127_6); have qi127 : (1 < t122.length) = True := eq_true (by omega); (try rw [show ((1 : Int)).toNat = 1 from rfl] at hx127_0); (try rw [show 1 * 7 = 7 from rfl] at hx127_0); (try rw [show ((1 : Int)).toNat = 1 from rfl] at hx127_1); (try rw [show 1 * 7 = 7 from rfl] at hx127_1); (try rw [show ((1 : Int)).toNat = 1 from rfl] at hx127_2); (try rw [show 1 * 7 = 7 from rfl] at hx127_2); (try rw [show ((1 : Int)).toNat = 1 from rfl] at hx127_3); (try rw [show 1 * 7 = 7 from rfl] at hx127_3); (try rw [show ((1 : Int)).toNat = 1 from rfl] at hx127_4); (try rw [show 1 * 7 = 7 from rfl] at hx127_4); (try rw [show ((1 : Int)).toNat = 1 from rfl] at hx127_5); (try rw [show 1 * 7 = 7 from rfl] at hx127_5); (try rw [show ((1 : Int)).toNat = 1 from rfl] at hx127_6); (try rw [show 1 * 7 = 7 from rfl] at hx127_6); have HR127_2 := Aside0.mk hi127_2; have HC127_2 := Aside0.mk hl127_2; clear hi127_2 hl127_2; have HR127_4 := Aside0.mk hi127_4; have HC127_4 := Aside0.mk hl127_4; clear hi127_4 hl127_4; replace p127 := eq_true p127; replace q127 := eq_true q127))
       go_ret
       exact ⟨by first | rfl | (simp [errW_none, errW_some] <;> rfl) | (simp [*, errW_none, errW_some] <;> rfl), by repeat (first | (with_reducible first | exact HB.out | apply below_alloc | apply pw_below_drewN | apply below_drew1) | exact HB.out)⟩
     ·rw [if_neg c6] at H
      exact absurd H (by simp)
    ·rw [if_neg c5] at H
     have c5b0 : (((rd_T72 t122 0).f1).toList == ([97] : List UInt8)) = false := beq_eq_false_iff_ne.mpr c5
     have c5b1 : (((rd_T72 t122 0).f1).toList != ([97] : List UInt8)) = true := bne_iff_ne.mpr c5
     obtain rfl := Option.some.inj H
     go_enter Tryd.func27, Tryd.ntmps27
     go_wp2_with (first | ((with_reducible refine gate_dst (N := 3) rfl ?_); refine Kd.N_lit k45 _ 45 ?hg (N' := 3) ?hd (xs := ([(⟨(⟨#[97]⟩ : ByteArray), ([] : List Int)⟩ : S45)] : List (S45))) (inner := [.string (⟨#[97]⟩ : ByteArray), .slice none 0 0]) (ok := (fun _ => True)) (okp := (fun _ => True)) ?hr ?hp (fun _ hk => hk) ((show ∀ k_, w.heap.size ≤ k_ → (fun _ => True) k_ from fun k_ hk => trivial) _ (Nat.le_refl _)) (Below.refl _ _) (Nat.le_refl _) (by simp) ?_; (case hd => rfl); (case hg => rfl); (case hr => first | (go_simp; done) | (go_simp; rfl)); (case hp => exact (Reps.c2 (show Kd.FK k45 _ _ (⟨(⟨#[97]⟩ : ByteArray), ([] : List Int)⟩ : S45) [.string (⟨#[97]⟩ : ByteArray), .slice none 0 0] from (k45_mkF _ _ (⟨(⟨#[97]⟩ : ByteArray), ([] : List Int)⟩ : S45) (Nat.le_refl _) (Kd.F_nil _ _ _))) (Reps.none _ _))); intro v117 w24 ho25 hb hg_ hnew_; clear hg_ hnew_; (first | rw [← Ny116.out] at ho25 | (simp only [Int.reduceToNat] at ho25; rw [← Ny116.out] at ho25)); have n0_ := Aside0.mk (Kd.N_lower ho25 (below_size (by repeat (first | (with_reducible first | exact HB.out | apply below_alloc | apply pw_below_drewN | apply below_drew1) | exact HB.out)))); have n1_ := Aside0.mk (below_step (by repeat (first | (with_reducible first | exact HB.out | apply below_alloc | apply pw_below_drewN | apply below_drew1) | exact HB.out)) hb); clear HB; have HO118 := n0_; have HB := n1_; clear n0_ n1_; clear hb ho25) | ((with_reducible refine gate_dst (N := 5) rfl ?_); refine Kd.N_lit k45 _ 45 ?hg (N' := 5) ?hd (xs := ([(⟨(⟨#[98]⟩ : ByteArray), ([] : List Int)⟩ : S45)] : List (S45))) (inner := [.string (⟨#[98]⟩ : ByteArray), .slice none 0 0]) (ok := (fun k_ => some k_ ≠ (v117 : Value).ownBlock)) (okp := (fun k_ => some k_ ≠ (v117 : Value).ownBlock)) ?hr ?hp (fun _ hk => hk) ((show ∀ k_, w24.heap.size ≤ k_ → (fun k_ => some k_ ≠ (v117 : Value).ownBlock) k_ from fun k_ hk => Kd.fresh' (Kd.N_lt (by (with_reducible repeat (first | apply Kd.N_alloc | apply Kd.N_drewN | apply Kd.N_drew)); exact HO118.out)) k_ hk) _ (Nat.le_refl _)) (Below.refl _ _) (Nat.le_refl _) (by simp) ?_; (case hd => rfl); (case hg => rfl); (case hr => first | (go_simp; done) | (go_simp; rfl)); (case hp => exact (Reps.c2 (show Kd.FK k45 _ _ (⟨(⟨#[98]⟩ : ByteArray), ([] : List Int)⟩ : S45) [.string (⟨#[98]⟩ : ByteArray), .slice none 0 0] from (k45_mkF _ _ (⟨(⟨#[98]⟩ : ByteArray), ([] : List Int)⟩ : S45) (Nat.le_refl _) (Kd.F_nil _ _ _))) (Reps.none _ _))); intro v120 w26 ho27 hb hg_ hnew_; clear hg_ hnew_; (first | rw [← Ny119.out] at ho27 | (simp only [Int.reduceToNat] at ho27; rw [← Ny119.out] at ho27)); have n0_ := Aside0.mk (Kd.N_elder' (by (with_reducible repeat (first | apply Kd.N_alloc | apply Kd.N_drewN | apply Kd.N_drew)); exact HO118.out) (Kd.N_base ho27) hb); have n1_ := Aside0.mk (Kd.N_lower ho27 (below_size (by repeat (first | (with_reducible first | exact HB.out | apply below_alloc | apply pw_below_drewN | apply below_drew1) | exact HB.out)))); have n2_ := Aside0.mk (below_step (by repeat (first | (with_reducible first | exact HB.out | apply below_alloc | apply pw_below_drewN | apply below_drew1) | exact HB.out)) hb); clear HO118; clear HB; have HO118 := n0_; have HO121 := n1_; have HB := n2_; clear n0_ n1_ n2_; clear hb ho27; obtain ⟨Ao28, co28, eo28⟩ := Kd.N_slice HO118.out; subst eo28; obtain ⟨Ao29, co29, eo29⟩ := Kd.N_slice HO121.out; subst eo29) | ((with_reducible refine gate_callee (f := 32) rfl ?_); refine goesL_ (some 6) rfl rfl Tryd.func32 (by kernel_rfl) rfl #[.slice Ao28 y116.length co28, .slice Ao29 y119.length co29] rfl (by (try simp only [List.map_toArray, List.map_cons, List.map_nil]); first | done | rfl | (simp only [List.length_drop, List.length_take]; rfl)) ?_; (with_reducible refine (plan_Diff.calls _ _ y116 _ _ y119 t122 _ ?side1 ?side2 ?side3 ?side4 A1.out).mono ?_); (case side1 => repeat (first | exact (Kd.N_reads' HO118.out).2.2 | (with_reducible refine Kd.C_alloc ?_ _) | (with_reducible refine Kd.C_drewN ?_ _) | (with_reducible refine Kd.C_drew ?_))); (case side2 => exact (Kd.N_reads' HO118.out).2.1); (case side3 => repeat (first | exact (Kd.N_reads' HO121.out).2.2 | (with_reducible refine Kd.C_alloc ?_ _) | (with_reducible refine Kd.C_drewN ?_ _) | (with_reducible refine Kd.C_drew ?_))); (case side4 => exact (Kd.N_reads' HO121.out).2.1); rintro e w30 ⟨v123, rfl, ho0, hb⟩; refine ⟨_, rfl, ?_⟩; have n0_ := Aside0.mk (Kd.N_elder' (by (with_reducible repeat (first | apply Kd.N_alloc | apply Kd.N_drewN | apply Kd.N_drew)); exact HO118.out) (Kd.N_base ho0) hb); have n1_ := Aside0.mk (Kd.N_elder' (by (with_reducible repeat (first | apply Kd.N_alloc | apply Kd.N_drewN | apply Kd.N_drew)); exact HO121.out) (Kd.N_base ho0) hb); have n2_ := Aside0.mk (Kd.N_lower (Kd.N_mono (ok' := fun k_ => some k_ ≠ (.slice Ao28 y116.length co28 : Value).ownBlock ∧ some k_ ≠ (.slice Ao29 y119.length co29 : Value).ownBlock) ho0 (fun k_ hk_ => ⟨(Kd.fresh' (Kd.N_lt (by (with_reducible repeat (first | apply Kd.N_alloc | apply Kd.N_drewN | apply Kd.N_drew)); exact HO118.out)) k_ hk_), (Kd.fresh' (Kd.N_lt (by (with_reducible repeat (first | apply Kd.N_alloc | apply Kd.N_drewN | apply Kd.N_drew)); exact HO121.out)) k_ hk_)⟩)) (below_size (by repeat (first | (with_reducible first | exact HB.out | apply below_alloc | apply pw_below_drewN | apply below_drew1) | exact HB.out)))); have n3_ := Aside0.mk (below_step (by repeat (first | (with_reducible first | exact HB.out | apply below_alloc | apply pw_below_drewN | apply below_drew1) | exact HB.out)) hb); clear HO118; clear HO121; clear HB; have HO118 := n0_; have HO121 := n1_; have HO124 := n2_; have HB := n3_; clear n0_ n1_ n2_ n3_; (try clear hb); (try clear hb2); (try clear hk); (try clear hi); (try clear ho0); obtain ⟨Ao31, co31, eo31⟩ := Kd.N_slice HO124.out; subst eo31; have p125 : 0 ≤ (0 : Int) := (by omega); have q125 : 0 < (t122.length : Int) := of_decide_eq_true (by first | (with_reducible assumption) | assumption); obtain ⟨ad125, A125_2, c125_2, A125_4, c125_4, e125, hx125_0, hx125_1, hx125_2, hx125_3, hx125_4, hx125_5, hx125_6, hl125_2, hi125_2, hl125_4, hi125_4⟩ := at_T72 (Kd.N_reads' HO124.out).2.2 0 p125 q125; cases e125; obtain ⟨ce125, hce125, hMe125, hcc125⟩ := Kd.N_get HO124.out z72 0 p125 (by first | exact q125 | exact of_decide_eq_true (by first | (with_reducible assumption) | assumption) | (have e_ := (Kd.N_reads' HO124.out).1; omega)); obtain ⟨ua125_2, uc125_2, ua125_4, uc125_4, rfl, ul125_2, ge125_2, ul125_4, ge125_4⟩ := k72_openF hMe125; have hv125_2 := hcc125 2 _ rfl; rw [add_field _ _ 2 (by omega)] at hv125_2; replace hv125_2 := Option.some.inj (hv125_2.symm.trans hx125_2); injection hv125_2 with hva_ hvn_ hvc_; rw [hva_] at ge125_2; rw [hvc_] at ul125_2; have HL125_2 := Aside0.mk (show Kd.V (Kd.int .u8) 5 _ w.heap.size _ _ ((rd_T72 t122 0).f2) from Kd.V_mk ul125_2 ge125_2); clear hva_ hvn_ hvc_ ge125_2 ul125_2; have hv125_4 := hcc125 4 _ rfl; rw [add_field _ _ 4 (by omega)] at hv125_4; replace hv125_4 := Option.some.inj (hv125_4.symm.trans hx125_4); injection hv125_4 with hva_ hvn_ hvc_; rw [hva_] at ge125_4; rw [hvc_] at ul125_4; have HL125_4 := Aside0.mk (show Kd.V Kd.bool 4 _ w.heap.size _ _ ((rd_T72 t122 0).f4.f0) from Kd.V_mk ul125_4 ge125_4); clear hva_ hvn_ hvc_ ge125_4 ul125_4; clear hcc125 hce125; have qi125 : (0 < t122.length) = True := eq_true (by omega); (try rw [show ((0 : Int)).toNat = 0 from rfl] at hx125_0); (try rw [show 0 * 7 = 0 from rfl] at hx125_0); (try rw [Addr.add_zero'] at hx125_0); (try rw [show ((0 : Int)).toNat = 0 from rfl] at hx125_1); (try rw [show 0 * 7 = 0 from rfl] at hx125_1); (try rw [Addr.add_zero'] at hx125_1); (try rw [show ((0 : Int)).toNat = 0 from rfl] at hx125_2); (try rw [show 0 * 7 = 0 from rfl] at hx125_2); (try rw [Addr.add_zero'] at hx125_2); (try rw [show ((0 : Int)).toNat = 0 from rfl] at hx125_3); (try rw [show 0 * 7 = 0 from rfl] at hx125_3); (try rw [Addr.add_zero'] at hx125_3); (try rw [show ((0 : Int)).toNat = 0 from rfl] at hx125_4); (try rw [show 0 * 7 = 0 from rfl] at hx125_4); (try rw [Addr.add_zero'] at hx125_4); (try rw [show ((0 : Int)).toNat = 0 from rfl] at hx125_5); (try rw [show 0 * 7 = 0 from rfl] at hx125_5); (try rw [Addr.add_zero'] at hx125_5); (try rw [show ((0 : Int)).toNat = 0 from rfl] at hx125_6); (try rw [show 0 * 7 = 0 from rfl] at hx125_6); (try rw [Addr.add_zero'] at hx125_6); have HR125_2 := Aside0.mk hi125_2; have HC125_2 := Aside0.mk hl125_2; clear hi125_2 hl125_2; have HR125_4 := Aside0.mk hi125_4; have HC125_4 := Aside0.mk hl125_4; clear hi125_4 hl125_4; replace p125 := eq_true p125; replace q125 := eq_true q125; have p126 : 0 ≤ (0 : Int) := (by omega); have q126 : 0 < (t122.length : Int) := of_decide_eq_true (by first | (with_reducible assumption) | assumption); obtain ⟨ad126, A126_2, c126_2, A126_4, c126_4, e126, hx126_0, hx126_1, hx126_2, hx126_3, hx126_4, hx126_5, hx126_6, hl126_2, hi126_2, hl126_4, hi126_4⟩ := at_T72 (Kd.N_reads' HO124.out).2.2 0 p126 q126; obtain rfl : ad125 = ad126 := (by injection e126); obtain ⟨ce126, hce126, hMe126, hcc126⟩ := Kd.N_get HO124.out z72 0 p126 (by first | exact q126 | exact of_decide_eq_true (by first | (with_reducible assumption) | assumption) | (have e_ := (Kd.N_reads' HO124.out).1; omega)); obtain ⟨ua126_2, uc126_2, ua126_4, uc126_4, rfl, ul126_2, ge126_2, ul126_4, ge126_4⟩ := k72_openF hMe126; have hv126_2 := hcc126 2 _ rfl; rw [add_field _ _ 2 (by omega)] at hv126_2; replace hv126_2 := Option.some.inj (hv126_2.symm.trans hx126_2); injection hv126_2 with hva_ hvn_ hvc_; rw [hva_] at ge126_2; rw [hvc_] at ul126_2; have HL126_2 := Aside0.mk (show Kd.V (Kd.int .u8) 5 _ w.heap.size _ _ ((rd_T72 t122 0).f2) from Kd.V_mk ul126_2 ge126_2); clear hva_ hvn_ hvc_ ge126_2 ul126_2; have hv126_4 := hcc126 4 _ rfl; rw [add_field _ _ 4 (by omega)] at hv126_4; replace hv126_4 := Option.some.inj (hv126_4.symm.trans hx126_4); injection hv126_4 with hva_ hvn_ hvc_; rw [hva_] at ge126_4; rw [hvc_] at ul126_4; have HL126_4 := Aside0.mk (show Kd.V Kd.bool 4 _ w.heap.size _ _ ((rd_T72 t122 0).f4.f0) from Kd.V_mk ul126_4 ge126_4); clear hva_ hvn_ hvc_ ge126_4 ul126_4; clear hcc126 hce126; have qi126 : (0 < t122.length) = True := eq_true (by omega); (try rw [show ((0 : Int)).toNat = 0 from rfl] at hx126_0); (try rw [show 0 * 7 = 0 from rfl] at hx126_0); (try rw [Addr.add_zero'] at hx126_0); (try rw [show ((0 : Int)).toNat = 0 from rfl] at hx126_1); (try rw [show 0 * 7 = 0 from rfl] at hx126_1); (try rw [Addr.add_zero'] at hx126_1); (try rw [show ((0 : Int)).toNat = 0 from rfl] at hx126_2); (try rw [show 0 * 7 = 0 from rfl] at hx126_2); (try rw [Addr.add_zero'] at hx126_2); (try rw [show ((0 : Int)).toNat = 0 from rfl] at hx126_3); (try rw [show 0 * 7 = 0 from rfl] at hx126_3); (try rw [Addr.add_zero'] at hx126_3); (try rw [show ((0 : Int)).toNat = 0 from rfl] at hx126_4); (try rw [show 0 * 7 = 0 from rfl] at hx126_4); (try rw [Addr.add_zero'] at hx126_4); (try rw [show ((0 : Int)).toNat = 0 from rfl] at hx126_5); (try rw [show 0 * 7 = 0 from rfl] at hx126_5); (try rw [Addr.add_zero'] at hx126_5); (try rw [show ((0 : Int)).toNat = 0 from rfl] at hx126_6); (try rw [show 0 * 7 = 0 from rfl] at hx126_6); (try rw [Addr.add_zero'] at hx126_6); have HR126_2 := Aside0.mk hi126_2; have HC126_2 := Aside0.mk hl126_2; clear hi126_2 hl126_2; have HR126_4 := Aside0.mk hi126_4; have HC126_4 := Aside0.mk hl126_4; clear hi126_4 hl126_4; replace p126 := eq_true p126; replace q126 := eq_true q126; have ea_ := Option.some.inj (hx125_2.symm.trans hx126_2); injection ea_ with ea_ en_ ec_; subst ea_; subst ec_; clear en_; have ea_ := Option.some.inj (hx125_4.symm.trans hx126_4); injection ea_ with ea_ en_ ec_; subst ea_; subst ec_; clear en_))
     go_ret
     exact ⟨by first | rfl | (simp [errW_none, errW_some] <;> rfl) | (simp [*, errW_none, errW_some] <;> rfl), by repeat (first | (with_reducible first | exact HB.out | apply below_alloc | apply pw_below_drewN | apply below_drew1) | exact HB.out)⟩
   ·rw [if_neg c4] at H
    have c4b0 : (((rd_T72 t122 0).f0) == 11) = false := beq_eq_false_iff_ne.mpr c4
    have c4b1 : (((rd_T72 t122 0).f0) != 11) = true := bne_iff_ne.mpr c4
    obtain rfl := Option.some.inj H
    go_enter Tryd.func27, Tryd.ntmps27
    go_wp2_with (first | ((with_reducible refine gate_dst (N := 3) rfl ?_); refine Kd.N_lit k45 _ 45 ?hg (N' := 3) ?hd (xs := ([(⟨(⟨#[97]⟩ : ByteArray), ([] : List Int)⟩ : S45)] : List (S45))) (inner := [.string (⟨#[97]⟩ : ByteArray), .slice none 0 0]) (ok := (fun _ => True)) (okp := (fun _ => True)) ?hr ?hp (fun _ hk => hk) ((show ∀ k_, w.heap.size ≤ k_ → (fun _ => True) k_ from fun k_ hk => trivial) _ (Nat.le_refl _)) (Below.refl _ _) (Nat.le_refl _) (by simp) ?_; (case hd => rfl); (case hg => rfl); (case hr => first | (go_simp; done) | (go_simp; rfl)); (case hp => exact (Reps.c2 (show Kd.FK k45 _ _ (⟨(⟨#[97]⟩ : ByteArray), ([] : List Int)⟩ : S45) [.string (⟨#[97]⟩ : ByteArray), .slice none 0 0] from (k45_mkF _ _ (⟨(⟨#[97]⟩ : ByteArray), ([] : List Int)⟩ : S45) (Nat.le_refl _) (Kd.F_nil _ _ _))) (Reps.none _ _))); intro v117 w32 ho33 hb hg_ hnew_; clear hg_ hnew_; (first | rw [← Ny116.out] at ho33 | (simp only [Int.reduceToNat] at ho33; rw [← Ny116.out] at ho33)); have n0_ := Aside0.mk (Kd.N_lower ho33 (below_size (by repeat (first | (with_reducible first | exact HB.out | apply below_alloc | apply pw_below_drewN | apply below_drew1) | exact HB.out)))); have n1_ := Aside0.mk (below_step (by repeat (first | (with_reducible first | exact HB.out | apply below_alloc | apply pw_below_drewN | apply below_drew1) | exact HB.out)) hb); clear HB; have HO118 := n0_; have HB := n1_; clear n0_ n1_; clear hb ho33) | ((with_reducible refine gate_dst (N := 5) rfl ?_); refine Kd.N_lit k45 _ 45 ?hg (N' := 5) ?hd (xs := ([(⟨(⟨#[98]⟩ : ByteArray), ([] : List Int)⟩ : S45)] : List (S45))) (inner := [.string (⟨#[98]⟩ : ByteArray), .slice none 0 0]) (ok := (fun k_ => some k_ ≠ (v117 : Value).ownBlock)) (okp := (fun k_ => some k_ ≠ (v117 : Value).ownBlock)) ?hr ?hp (fun _ hk => hk) ((show ∀ k_, w32.heap.size ≤ k_ → (fun k_ => some k_ ≠ (v117 : Value).ownBlock) k_ from fun k_ hk => Kd.fresh' (Kd.N_lt (by (with_reducible repeat (first | apply Kd.N_alloc | apply Kd.N_drewN | apply Kd.N_drew)); exact HO118.out)) k_ hk) _ (Nat.le_refl _)) (Below.refl _ _) (Nat.le_refl _) (by simp) ?_; (case hd => rfl); (case hg => rfl); (case hr => first | (go_simp; done) | (go_simp; rfl)); (case hp => exact (Reps.c2 (show Kd.FK k45 _ _ (⟨(⟨#[98]⟩ : ByteArray), ([] : List Int)⟩ : S45) [.string (⟨#[98]⟩ : ByteArray), .slice none 0 0] from (k45_mkF _ _ (⟨(⟨#[98]⟩ : ByteArray), ([] : List Int)⟩ : S45) (Nat.le_refl _) (Kd.F_nil _ _ _))) (Reps.none _ _))); intro v120 w34 ho35 hb hg_ hnew_; clear hg_ hnew_; (first | rw [← Ny119.out] at ho35 | (simp only [Int.reduceToNat] at ho35; rw [← Ny119.out] at ho35)); have n0_ := Aside0.mk (Kd.N_elder' (by (with_reducible repeat (first | apply Kd.N_alloc | apply Kd.N_drewN | apply Kd.N_drew)); exact HO118.out) (Kd.N_base ho35) hb); have n1_ := Aside0.mk (Kd.N_lower ho35 (below_size (by repeat (first | (with_reducible first | exact HB.out | apply below_alloc | apply pw_below_drewN | apply below_drew1) | exact HB.out)))); have n2_ := Aside0.mk (below_step (by repeat (first | (with_reducible first | exact HB.out | apply below_alloc | apply pw_below_drewN | apply below_drew1) | exact HB.out)) hb); clear HO118; clear HB; have HO118 := n0_; have HO121 := n1_; have HB := n2_; clear n0_ n1_ n2_; clear hb ho35; obtain ⟨Ao36, co36, eo36⟩ := Kd.N_slice HO118.out; subst eo36; obtain ⟨Ao37, co37, eo37⟩ := Kd.N_slice HO121.out; subst eo37) | ((with_reducible refine gate_callee (f := 32) rfl ?_); refine goesL_ (some 6) rfl rfl Tryd.func32 (by kernel_rfl) rfl #[.slice Ao36 y116.length co36, .slice Ao37 y119.length co37] rfl (by (try simp only [List.map_toArray, List.map_cons, List.map_nil]); first | done | rfl | (simp only [List.length_drop, List.length_take]; rfl)) ?_; (with_reducible refine (plan_Diff.calls _ _ y116 _ _ y119 t122 _ ?side1 ?side2 ?side3 ?side4 A1.out).mono ?_); (case side1 => repeat (first | exact (Kd.N_reads' HO118.out).2.2 | (with_reducible refine Kd.C_alloc ?_ _) | (with_reducible refine Kd.C_drewN ?_ _) | (with_reducible refine Kd.C_drew ?_))); (case side2 => exact (Kd.N_reads' HO118.out).2.1); (case side3 => repeat (first | exact (Kd.N_reads' HO121.out).2.2 | (with_reducible refine Kd.C_alloc ?_ _) | (with_reducible refine Kd.C_drewN ?_ _) | (with_reducible refine Kd.C_drew ?_))); (case side4 => exact (Kd.N_reads' HO121.out).2.1); rintro e w38 ⟨v123, rfl, ho0, hb⟩; refine ⟨_, rfl, ?_⟩; have n0_ := Aside0.mk (Kd.N_elder' (by (with_reducible repeat (first | apply Kd.N_alloc | apply Kd.N_drewN | apply Kd.N_drew)); exact HO118.out) (Kd.N_base ho0) hb); have n1_ := Aside0.mk (Kd.N_elder' (by (with_reducible repeat (first | apply Kd.N_alloc | apply Kd.N_drewN | apply Kd.N_drew)); exact HO121.out) (Kd.N_base ho0) hb); have n2_ := Aside0.mk (Kd.N_lower (Kd.N_mono (ok' := fun k_ => some k_ ≠ (.slice Ao36 y116.length co36 : Value).ownBlock ∧ some k_ ≠ (.slice Ao37 y119.length co37 : Value).ownBlock) ho0 (fun k_ hk_ => ⟨(Kd.fresh' (Kd.N_lt (by (with_reducible repeat (first | apply Kd.N_alloc | apply Kd.N_drewN | apply Kd.N_drew)); exact HO118.out)) k_ hk_), (Kd.fresh' (Kd.N_lt (by (with_reducible repeat (first | apply Kd.N_alloc | apply Kd.N_drewN | apply Kd.N_drew)); exact HO121.out)) k_ hk_)⟩)) (below_size (by repeat (first | (with_reducible first | exact HB.out | apply below_alloc | apply pw_below_drewN | apply below_drew1) | exact HB.out)))); have n3_ := Aside0.mk (below_step (by repeat (first | (with_reducible first | exact HB.out | apply below_alloc | apply pw_below_drewN | apply below_drew1) | exact HB.out)) hb); clear HO118; clear HO121; clear HB; have HO118 := n0_; have HO121 := n1_; have HO124 := n2_; have HB := n3_; clear n0_ n1_ n2_ n3_; (try clear hb); (try clear hb2); (try clear hk); (try clear hi); (try clear ho0); obtain ⟨Ao39, co39, eo39⟩ := Kd.N_slice HO124.out; subst eo39; have p125 : 0 ≤ (0 : Int) := (by omega); have q125 : 0 < (t122.length : Int) := of_decide_eq_true (by first | (with_reducible assumption) | assumption); obtain ⟨ad125, A125_2, c125_2, A125_4, c125_4, e125, hx125_0, hx125_1, hx125_2, hx125_3, hx125_4, hx125_5, hx125_6, hl125_2, hi125_2, hl125_4, hi125_4⟩ := at_T72 (Kd.N_reads' HO124.out).2.2 0 p125 q125; cases e125; obtain ⟨ce125, hce125, hMe125, hcc125⟩ := Kd.N_get HO124.out z72 0 p125 (by first | exact q125 | exact of_decide_eq_true (by first | (with_reducible assumption) | assumption) | (have e_ := (Kd.N_reads' HO124.out).1; omega)); obtain ⟨ua125_2, uc125_2, ua125_4, uc125_4, rfl, ul125_2, ge125_2, ul125_4, ge125_4⟩ := k72_openF hMe125; have hv125_2 := hcc125 2 _ rfl; rw [add_field _ _ 2 (by omega)] at hv125_2; replace hv125_2 := Option.some.inj (hv125_2.symm.trans hx125_2); injection hv125_2 with hva_ hvn_ hvc_; rw [hva_] at ge125_2; rw [hvc_] at ul125_2; have HL125_2 := Aside0.mk (show Kd.V (Kd.int .u8) 5 _ w.heap.size _ _ ((rd_T72 t122 0).f2) from Kd.V_mk ul125_2 ge125_2); clear hva_ hvn_ hvc_ ge125_2 ul125_2; have hv125_4 := hcc125 4 _ rfl; rw [add_field _ _ 4 (by omega)] at hv125_4; replace hv125_4 := Option.some.inj (hv125_4.symm.trans hx125_4); injection hv125_4 with hva_ hvn_ hvc_; rw [hva_] at ge125_4; rw [hvc_] at ul125_4; have HL125_4 := Aside0.mk (show Kd.V Kd.bool 4 _ w.heap.size _ _ ((rd_T72 t122 0).f4.f0) from Kd.V_mk ul125_4 ge125_4); clear hva_ hvn_ hvc_ ge125_4 ul125_4; clear hcc125 hce125; have qi125 : (0 < t122.length) = True := eq_true (by omega); (try rw [show ((0 : Int)).toNat = 0 from rfl] at hx125_0); (try rw [show 0 * 7 = 0 from rfl] at hx125_0); (try rw [Addr.add_zero'] at hx125_0); (try rw [show ((0 : Int)).toNat = 0 from rfl] at hx125_1); (try rw [show 0 * 7 = 0 from rfl] at hx125_1); (try rw [Addr.add_zero'] at hx125_1); (try rw [show ((0 : Int)).toNat = 0 from rfl] at hx125_2); (try rw [show 0 * 7 = 0 from rfl] at hx125_2); (try rw [Addr.add_zero'] at hx125_2); (try rw [show ((0 : Int)).toNat = 0 from rfl] at hx125_3); (try rw [show 0 * 7 = 0 from rfl] at hx125_3); (try rw [Addr.add_zero'] at hx125_3); (try rw [show ((0 : Int)).toNat = 0 from rfl] at hx125_4); (try rw [show 0 * 7 = 0 from rfl] at hx125_4); (try rw [Addr.add_zero'] at hx125_4); (try rw [show ((0 : Int)).toNat = 0 from rfl] at hx125_5); (try rw [show 0 * 7 = 0 from rfl] at hx125_5); (try rw [Addr.add_zero'] at hx125_5); (try rw [show ((0 : Int)).toNat = 0 from rfl] at hx125_6); (try rw [show 0 * 7 = 0 from rfl] at hx125_6); (try rw [Addr.add_zero'] at hx125_6); have HR125_2 := Aside0.mk hi125_2; have HC125_2 := Aside0.mk hl125_2; clear hi125_2 hl125_2; have HR125_4 := Aside0.mk hi125_4; have HC125_4 := Aside0.mk hl125_4; clear hi125_4 hl125_4; replace p125 := eq_true p125; replace q125 := eq_true q125))
    go_ret
    exact ⟨by first | rfl | (simp [errW_none, errW_some] <;> rfl) | (simp [*, errW_none, errW_some] <;> rfl), by repeat (first | (with_reducible first | exact HB.out | apply below_alloc | apply pw_below_drewN | apply below_drew1) | exact HB.out)⟩
  ·rw [if_neg c3] at H
   exact absurd H (by simp)
 ·rw [if_neg c2] at H
  have c2b0 : ((t122.length : Int) == 2) = false := beq_eq_false_iff_ne.mpr c2
  have c2b1 : ((t122.length : Int) != 2) = true := bne_iff_ne.mpr c2
  obtain rfl := Option.some.inj H
  go_enter Tryd.func27, Tryd.ntmps27
  go_wp2_with (first | ((with_reducible refine gate_dst (N := 3) rfl ?_); refine Kd.N_lit k45 _ 45 ?hg (N' := 3) ?hd (xs := ([(⟨(⟨#[97]⟩ : ByteArray), ([] : List Int)⟩ : S45)] : List (S45))) (inner := [.string (⟨#[97]⟩ : ByteArray), .slice none 0 0]) (ok := (fun _ => True)) (okp := (fun _ => True)) ?hr ?hp (fun _ hk => hk) ((show ∀ k_, w.heap.size ≤ k_ → (fun _ => True) k_ from fun k_ hk => trivial) _ (Nat.le_refl _)) (Below.refl _ _) (Nat.le_refl _) (by simp) ?_; (case hd => rfl); (case hg => rfl); (case hr => first | (go_simp; done) | (go_simp; rfl)); (case hp => exact (Reps.c2 (show Kd.FK k45 _ _ (⟨(⟨#[97]⟩ : ByteArray), ([] : List Int)⟩ : S45) [.string (⟨#[97]⟩ : ByteArray), .slice none 0 0] from (k45_mkF _ _ (⟨(⟨#[97]⟩ : ByteArray), ([] : List Int)⟩ : S45) (Nat.le_refl _) (Kd.F_nil _ _ _))) (Reps.none _ _))); intro v117 w40 ho41 hb hg_ hnew_; clear hg_ hnew_; (first | rw [← Ny116.out] at ho41 | (simp only [Int.reduceToNat] at ho41; rw [← Ny116.out] at ho41)); have n0_ := Aside0.mk (Kd.N_lower ho41 (below_size (by repeat (first | (with_reducible first | exact HB.out | apply below_alloc | apply pw_below_drewN | apply below_drew1) | exact HB.out)))); have n1_ := Aside0.mk (below_step (by repeat (first | (with_reducible first | exact HB.out | apply below_alloc | apply pw_below_drewN | apply below_drew1) | exact HB.out)) hb); clear HB; have HO118 := n0_; have HB := n1_; clear n0_ n1_; clear hb ho41) | ((with_reducible refine gate_dst (N := 5) rfl ?_); refine Kd.N_lit k45 _ 45 ?hg (N' := 5) ?hd (xs := ([(⟨(⟨#[98]⟩ : ByteArray), ([] : List Int)⟩ : S45)] : List (S45))) (inner := [.string (⟨#[98]⟩ : ByteArray), .slice none 0 0]) (ok := (fun k_ => some k_ ≠ (v117 : Value).ownBlock)) (okp := (fun k_ => some k_ ≠ (v117 : Value).ownBlock)) ?hr ?hp (fun _ hk => hk) ((show ∀ k_, w40.heap.size ≤ k_ → (fun k_ => some k_ ≠ (v117 : Value).ownBlock) k_ from fun k_ hk => Kd.fresh' (Kd.N_lt (by (with_reducible repeat (first | apply Kd.N_alloc | apply Kd.N_drewN | apply Kd.N_drew)); exact HO118.out)) k_ hk) _ (Nat.le_refl _)) (Below.refl _ _) (Nat.le_refl _) (by simp) ?_; (case hd => rfl); (case hg => rfl); (case hr => first | (go_simp; done) | (go_simp; rfl)); (case hp => exact (Reps.c2 (show Kd.FK k45 _ _ (⟨(⟨#[98]⟩ : ByteArray), ([] : List Int)⟩ : S45) [.string (⟨#[98]⟩ : ByteArray), .slice none 0 0] from (k45_mkF _ _ (⟨(⟨#[98]⟩ : ByteArray), ([] : List Int)⟩ : S45) (Nat.le_refl _) (Kd.F_nil _ _ _))) (Reps.none _ _))); intro v120 w42 ho43 hb hg_ hnew_; clear hg_ hnew_; (first | rw [← Ny119.out] at ho43 | (simp only [Int.reduceToNat] at ho43; rw [← Ny119.out] at ho43)); have n0_ := Aside0.mk (Kd.N_elder' (by (with_reducible repeat (first | apply Kd.N_alloc | apply Kd.N_drewN | apply Kd.N_drew)); exact HO118.out) (Kd.N_base ho43) hb); have n1_ := Aside0.mk (Kd.N_lower ho43 (below_size (by repeat (first | (with_reducible first | exact HB.out | apply below_alloc | apply pw_below_drewN | apply below_drew1) | exact HB.out)))); have n2_ := Aside0.mk (below_step (by repeat (first | (with_reducible first | exact HB.out | apply below_alloc | apply pw_below_drewN | apply below_drew1) | exact HB.out)) hb); clear HO118; clear HB; have HO118 := n0_; have HO121 := n1_; have HB := n2_; clear n0_ n1_ n2_; clear hb ho43; obtain ⟨Ao44, co44, eo44⟩ := Kd.N_slice HO118.out; subst eo44; obtain ⟨Ao45, co45, eo45⟩ := Kd.N_slice HO121.out; subst eo45) | ((with_reducible refine gate_callee (f := 32) rfl ?_); refine goesL_ (some 6) rfl rfl Tryd.func32 (by kernel_rfl) rfl #[.slice Ao44 y116.length co44, .slice Ao45 y119.length co45] rfl (by (try simp only [List.map_toArray, List.map_cons, List.map_nil]); first | done | rfl | (simp only [List.length_drop, List.length_take]; rfl)) ?_; (with_reducible refine (plan_Diff.calls _ _ y116 _ _ y119 t122 _ ?side1 ?side2 ?side3 ?side4 A1.out).mono ?_); (case side1 => repeat (first | exact (Kd.N_reads' HO118.out).2.2 | (with_reducible refine Kd.C_alloc ?_ _) | (with_reducible refine Kd.C_drewN ?_ _) | (with_reducible refine Kd.C_drew ?_))); (case side2 => exact (Kd.N_reads' HO118.out).2.1); (case side3 => repeat (first | exact (Kd.N_reads' HO121.out).2.2 | (with_reducible refine Kd.C_alloc ?_ _) | (with_reducible refine Kd.C_drewN ?_ _) | (with_reducible refine Kd.C_drew ?_))); (case side4 => exact (Kd.N_reads' HO121.out).2.1); rintro e w46 ⟨v123, rfl, ho0, hb⟩; refine ⟨_, rfl, ?_⟩; have n0_ := Aside0.mk (Kd.N_elder' (by (with_reducible repeat (first | apply Kd.N_alloc | apply Kd.N_drewN | apply Kd.N_drew)); exact HO118.out) (Kd.N_base ho0) hb); have n1_ := Aside0.mk (Kd.N_elder' (by (with_reducible repeat (first | apply Kd.N_alloc | apply Kd.N_drewN | apply Kd.N_drew)); exact HO121.out) (Kd.N_base ho0) hb); have n2_ := Aside0.mk (Kd.N_lower (Kd.N_mono (ok' := fun k_ => some k_ ≠ (.slice Ao44 y116.length co44 : Value).ownBlock ∧ some k_ ≠ (.slice Ao45 y119.length co45 : Value).ownBlock) ho0 (fun k_ hk_ => ⟨(Kd.fresh' (Kd.N_lt (by (with_reducible repeat (first | apply Kd.N_alloc | apply Kd.N_drewN | apply Kd.N_drew)); exact HO118.out)) k_ hk_), (Kd.fresh' (Kd.N_lt (by (with_reducible repeat (first | apply Kd.N_alloc | apply Kd.N_drewN | apply Kd.N_drew)); exact HO121.out)) k_ hk_)⟩)) (below_size (by repeat (first | (with_reducible first | exact HB.out | apply below_alloc | apply pw_below_drewN | apply below_drew1) | exact HB.out)))); have n3_ := Aside0.mk (below_step (by repeat (first | (with_reducible first | exact HB.out | apply below_alloc | apply pw_below_drewN | apply below_drew1) | exact HB.out)) hb); clear HO118; clear HO121; clear HB; have HO118 := n0_; have HO121 := n1_; have HO124 := n2_; have HB := n3_; clear n0_ n1_ n2_ n3_; (try clear hb); (try clear hb2); (try clear hk); (try clear hi); (try clear ho0); obtain ⟨Ao47, co47, eo47⟩ := Kd.N_slice HO124.out; subst eo47))
  go_ret
  exact ⟨by first | rfl | (simp [errW_none, errW_some] <;> rfl) | (simp [*, errW_none, errW_some] <;> rfl), by repeat (first | (with_reducible first | exact HB.out | apply below_alloc | apply pw_below_drewN | apply below_drew1) | exact HB.out)⟩

/-! ### bindleref25_Map: function 30 -/
def bindleref25_Map.l0 : Nat → List (S45) → Int → Option (Bool)
 | 0, _, _ => none
 | k + 1, x0, x3 => if x3 < (x0.length : Int) then (if 0 ≤ (wrap64 (x3 - 1)) then (if (wrap64 (x3 - 1)) < (x0.length : Int) then (if 0 ≤ x3 then (if ((Op.bytesLess (((rd_T45 x0 (wrap64 (x3 - 1))).f0).toList) (((rd_T45 x0 x3).f0).toList)) = true) then (bindleref25_Map.l0 k x0 (wrap64 (x3 + 1))) else (some false)) else (none)) else (none)) else (none)) else (some true)
def bindleref25_Map.f (k : Nat) (l0 : List (S45)) : Option (Bool) := bindleref25_Map.l0 k l0 1
theorem bindleref25_Map.mono_l : ∀ k, (∀ y0 y1, LeO (bindleref25_Map.l0 k y0 y1) (bindleref25_Map.l0 (k + 1) y0 y1))
 | 0 => fun _ _ r h => by simp [bindleref25_Map.l0] at h
 | k + 1 => by
  have ih0 := bindleref25_Map.mono_l k
  ·intro y0 y1
   unfold bindleref25_Map.l0
   repeat' first
   | (with_reducible exact ih0 _ _)
   | (with_reducible exact LeO.refl _)
   | (with_reducible exact LeO.none _)
   | (with_reducible refine LeO.ite ?_ ?_)
   | (with_reducible refine LeO.bind ?_ (fun _ => ?_))
   | exact ih0 _ _
   | exact LeO.none _
   | refine LeO.ite ?_ ?_
   | refine LeO.bind ?_ (fun _ => ?_)
theorem bindleref25_Map.mono : ∀ a0 k, LeO (bindleref25_Map.f k a0) (bindleref25_Map.f (k + 1) a0) := by
 intro a0 k
 have ih0 := bindleref25_Map.mono_l k
 unfold bindleref25_Map.f
 repeat' first
   | (with_reducible exact ih0 _ _)
   | (with_reducible exact LeO.refl _)
   | (with_reducible exact LeO.none _)
   | (with_reducible refine LeO.ite ?_ ?_)
   | (with_reducible refine LeO.bind ?_ (fun _ => ?_))
   | exact ih0 _ _
   | exact LeO.none _
   | refine LeO.ite ?_ ?_
   | refine LeO.bind ?_ (fun _ => ?_)
set_option maxHeartbeats 8000000 in
set_option maxRecDepth 100000 in
theorem bindleref25_Map.calls (k : Nat) (A0 : Option Addr) (c0 : Nat) (l0 : List (S45)) (r : Bool) (w : World) (hr0 : Kd.C k45 w A0 l0.length l0) (hc0 : l0.length ≤ c0) (h : bindleref25_Map.f k l0 = some r) :
  Calls Tryd.prog 30 #[.slice A0 l0.length c0] w fun e w' => e = .returned (.bool r) ∧ Drawn0 w w' := by
 have HR0 := Aside0.mk hr0
 have HC0 := Aside0.mk hc0
 clear hr0 hc0
 have H : (bindleref25_Map.l0 k l0 1) = some r := h
 clear h
 have H' := Aside0.mk H
 clear H
 go_enter Tryd.func30, Tryd.ntmps30
 go_wp2
 repeat (go_quiet (fail); try go_wp2)
 go_loopg [3] k (fun kq v3 w' => ∃ (x3_1 : Int), v3 = .int .i64 x3_1 ∧ Aside0 (bindleref25_Map.l0 kq l0 x3_1 = some r) ∧ Aside0 (kq ≤ k) ∧ Drawn0 w w')
 case atStart => exact ⟨(1), (by first | rfl | (simp only [YtcfcbkcaondfcaaDoorMpHelp.leq_not, YtcfcbkcaondfcaaDoorMpHelp.gtr_less]; done) | (simp; done) | (simp [*]; done)), H', ⟨Nat.le_refl _⟩, by repeat (first | exact Drawn0.refl _ | apply Drawn0.step)⟩
 case round =>
  clear H'
  obtain ⟨x3_1, rfl, HA, HK1, ⟨m1, rfl⟩⟩ := hrel
  cases gk with
  | zero => exact absurd HA.out (by simp [bindleref25_Map.l0])
  | succ k1 =>
   have H := HA.out
   clear HA
   simp only [bindleref25_Map.l0] at H
   by_cases c2 : x3_1 < (l0.length : Int)
   ·rw [if_pos c2] at H
    have c2b0 : decide (x3_1 < (l0.length : Int)) = true := decide_eq_true c2
    clear c2
    obtain ⟨ji3, hji3⟩ : ∃ j_ : Int, (wrap64 (x3_1 - 1)) = j_ := ⟨_, rfl⟩
    replace H : (if 0 ≤ (ji3) then (if (ji3) < (l0.length : Int) then (if 0 ≤ x3_1 then (if ((Op.bytesLess (((rd_T45 l0 (ji3)).f0).toList) (((rd_T45 l0 x3_1).f0).toList)) = true) then (bindleref25_Map.l0 k1 l0 (wrap64 (x3_1 + 1))) else (some false)) else (none)) else (none)) else (none)) = some r := by first | (rw [hji3] at H; exact H) | (simp only [hji3] at H ⊢; exact H)
    have hji3w : (IntKind.i64.wrap (x3_1 - 1)) = ji3 := (i64_w _).trans hji3
    by_cases c4 : 0 ≤ (ji3)
    ·rw [if_pos c4] at H
     have c4b0 : decide (0 ≤ (ji3)) = true := decide_eq_true c4
     clear c4
     by_cases c5 : (ji3) < (l0.length : Int)
     ·rw [if_pos c5] at H
      have c5b0 : decide ((ji3) < (l0.length : Int)) = true := decide_eq_true c5
      clear c5
      by_cases c6 : 0 ≤ x3_1
      ·rw [if_pos c6] at H
       have c6b0 : decide (0 ≤ x3_1) = true := decide_eq_true c6
       clear c6
       by_cases c7 : ((Op.bytesLess (((rd_T45 l0 (ji3)).f0).toList) (((rd_T45 l0 x3_1).f0).toList)) = true)
       ·rw [if_pos c7] at H
        have c7b0 : (Op.bytesLess (((rd_T45 l0 (ji3)).f0).toList) (((rd_T45 l0 x3_1).f0).toList)) = true := c7
        clear c7
        have H' := Aside0.mk H
        clear H
        have p129 : 0 ≤ ((ji3) : Int) := of_decide_eq_true (by first | (with_reducible assumption) | assumption)
        have q129 : (ji3) < (l0.length : Int) := of_decide_eq_true (by first | (with_reducible assumption) | assumption)
        obtain ⟨ad129, A129_1, c129_1, e129, hx129_0, hx129_1, hl129_1, hi129_1⟩ := at_T45 HR0.out (ji3) p129 q129
        cases e129
        have HR129_1 := Aside0.mk hi129_1
        have HC129_1 := Aside0.mk hl129_1
        clear hi129_1 hl129_1
        replace p129 := eq_true p129
        replace q129 := eq_true q129
        have p130 : 0 ≤ (x3_1 : Int) := of_decide_eq_true (by first | (with_reducible assumption) | assumption)
        have q130 : x3_1 < (l0.length : Int) := of_decide_eq_true (by first | (with_reducible assumption) | assumption)
        obtain ⟨ad130, A130_1, c130_1, e130, hx130_0, hx130_1, hl130_1, hi130_1⟩ := at_T45 HR0.out x3_1 p130 q130
        obtain rfl : ad129 = ad130 := (by injection e130)
        have HR130_1 := Aside0.mk hi130_1
        have HC130_1 := Aside0.mk hl130_1
        clear hi130_1 hl130_1
        replace p130 := eq_true p130
        replace q130 := eq_true q130
        go_wp2
        repeat (go_quiet (fail); try go_wp2)
        go_roundg k1
        case measure => have := HK1.out; omega
        case rel => exact ⟨(wrap64 (x3_1 + 1)), (by first | rfl | (simp only [YtcfcbkcaondfcaaDoorMpHelp.leq_not, YtcfcbkcaondfcaaDoorMpHelp.gtr_less]; done) | (simp; done) | (simp [*]; done)), H', ⟨by have := HK1.out; omega⟩, by repeat (first | exact Drawn0.refl _ | apply Drawn0.step)⟩
       ·rw [if_neg c7] at H
        have c7b0 : (Op.bytesLess (((rd_T45 l0 (ji3)).f0).toList) (((rd_T45 l0 x3_1).f0).toList)) = false := by simpa using c7
        clear c7
        obtain rfl := Option.some.inj H
        have p129 : 0 ≤ ((ji3) : Int) := of_decide_eq_true (by first | (with_reducible assumption) | assumption)
        have q129 : (ji3) < (l0.length : Int) := of_decide_eq_true (by first | (with_reducible assumption) | assumption)
        obtain ⟨ad129, A129_1, c129_1, e129, hx129_0, hx129_1, hl129_1, hi129_1⟩ := at_T45 HR0.out (ji3) p129 q129
        cases e129
        have HR129_1 := Aside0.mk hi129_1
        have HC129_1 := Aside0.mk hl129_1
        clear hi129_1 hl129_1
        replace p129 := eq_true p129
        replace q129 := eq_true q129
        have p130 : 0 ≤ (x3_1 : Int) := of_decide_eq_true (by first | (with_reducible assumption) | assumption)
        have q130 : x3_1 < (l0.length : Int) := of_decide_eq_true (by first | (with_reducible assumption) | assumption)
        obtain ⟨ad130, A130_1, c130_1, e130, hx130_0, hx130_1, hl130_1, hi130_1⟩ := at_T45 HR0.out x3_1 p130 q130
        obtain rfl : ad129 = ad130 := (by injection e130)
        have HR130_1 := Aside0.mk hi130_1
        have HC130_1 := Aside0.mk hl130_1
        clear hi130_1 hl130_1
        replace p130 := eq_true p130
        replace q130 := eq_true q130
        go_wp2
        repeat (go_quiet (fail); try go_wp2)
        go_ret
        exact ⟨by first | rfl | (simp only [YtcfcbkcaondfcaaDoorMpHelp.leq_not, YtcfcbkcaondfcaaDoorMpHelp.gtr_less]; done) | (simp; done) | (simp only [← hji3] <;> (first | rfl | (simp; done) | (simp only [*]; done) | (simp [*]; done))) | (simp [*]; done), by repeat (first | exact Drawn0.refl _ | apply Drawn0.step)⟩
      ·rw [if_neg c6] at H
       exact absurd H (by simp)
     ·rw [if_neg c5] at H
      exact absurd H (by simp)
    ·rw [if_neg c4] at H
     exact absurd H (by simp)
   ·rw [if_neg c2] at H
    have c2b0 : decide (x3_1 < (l0.length : Int)) = false := decide_eq_false c2
    clear c2
    obtain rfl := Option.some.inj H
    go_wp2
    repeat (go_quiet (fail); try go_wp2)
    go_ret
    exact ⟨by first | rfl | (simp only [YtcfcbkcaondfcaaDoorMpHelp.leq_not, YtcfcbkcaondfcaaDoorMpHelp.gtr_less]; done) | (simp; done) | (simp [*]; done), by repeat (first | exact Drawn0.refl _ | apply Drawn0.step)⟩

end Go.Proofs.YtcfcbkcaondfcaaDoor.PPlanJoins
