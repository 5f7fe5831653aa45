/- The machine side of a law: for each Go function that it uses a Lean function with the same answers, and the proof that the Go code comes to them; or the row of the law over these. Written by a program of this session. -/
import Derived.Test.YtcfcbkcaondfcaaDoorPPlanAppliesx0
import Derived.Test.YtcfcbkcaondfcaaDoorPPlanAppliesx1
import Derived.Test.YtcfcbkcaondfcaaDoorPPlanAppliesx5
import Derived.Test.YtcfcbkcaondfcaaDoorPPlanAppliesx6
namespace Go.Proofs.YtcfcbkcaondfcaaDoor.PPlanApplies
open Go.RowKit Go.Proofs.YtcfcbkcaondfcaaDoorW.PrintWords Go.Proofs.YtcfcbkcaondfcaaDoorW.PrintLast Go.Proofs.YtcfcbkcaondfcaaDoorW.PrintMore
attribute [local go_sem] max2_int min2_int max_two min_two max_three min_three max_four min_four   -- for this text's walks alone
set_option linter.unusedVariables false
set_option linter.unusedSimpArgs false

/-! ### model_Without: function 62 (told by hand) -/
theorem model_Without.tail (base g n m : Nat) (ok : Nat → Prop) (xs : List S45) (w w1 : World) (h1 : Kd.N k45 45 w1 base ok (.slice (some ⟨g, 0, none⟩) m n) xs) (hmn : m + 1 = n) (hb : Below base w w1) (hbg : base ≤ g) :
    ∃ w2, (∀ ty, (Builtin.clear_ #[36] ty #[.slice (some ⟨g, m * 2, none⟩) 1 1]).run Tryd.prog w1 = .ok (.tuple #[]) w2) ∧ Kd.N k45 45 w2 base ok (.slice (some ⟨g, 0, none⟩) m n) xs ∧ Below base w w2 := by
  obtain ⟨i0, hi0, hz0, hz1, hz2⟩ := model_With.info2
  have h1' := h1
  obtain ⟨h0, rows, hl, ⟨_, inner, hown, hr⟩, hfk⟩ := h1'
  rcases hown.2 with ⟨hv, _⟩ | ⟨g', cap', cur, hv, hbg', hg', hnc, hcm, hsz, htk⟩
  · cases hv
  injection hv with e1 hrn e3
  injection e1 with e1
  injection e1 with e1
  subst e1 e3
  have hsz' : cur.size = n * 2 := hsz
  have hzl : (Builtin.zeroCells (Value.agg #[.string ByteArray.empty, .slice none 0 0]).cells 1).toList.length = 2 := by rw [Array.length_toList, size_zeroCells]; rfl
  have hzo := YtcfcbkcaondfcaaDoorMpRows.zeroCells_one (Value.agg #[.string ByteArray.empty, .slice none 0 0]) 2 rfl (by decide) (by intro u hu; rcases hu with _ | ⟨_, hu⟩; rfl; rcases hu with _ | ⟨_, hu⟩; rfl; cases hu) 1
  have hrun := fun ty => YtcfcbkcaondfcaaDoorMpRows.run_clear_cells (P := Tryd.prog) w1 36 ty 45 i0 (.agg #[.string ByteArray.empty, .slice none 0 0]) Tryd.underlying36 hi0 hz0 g (m * 2) 1 1 (by decide) cur 45 hg' (by rw [hzl]; omega) hzo
  refine ⟨_, hrun, ?_, below_setRow hb hbg _⟩
  refine YtcfcbkcaondfcaaDoorMpRows.N_behind k45 h1 hg' (fun k hk => setRow_other _ _ _ _ hk) (setRow_heap w1 g cur _ 45 (0, 0) hg') ?_ ?_
  · rw [List.size_toArray]
    simp only [List.length_append, List.length_take, List.length_drop, Array.length_toList, hzl]
    omega
  · show List.take (m * 2) (_ ++ _ ++ _) = List.take (m * 2) cur.toList
    rw [List.append_assoc]
    refine List.take_left' ?_
    rw [List.length_take, Array.length_toList]
    omega
set_option maxRecDepth 100000 in
set_option maxHeartbeats 4000000 in
/-- slices.Delete of the last element. -/
theorem model_Without.del_last (base g m : Nat) (ok : Nat → Prop) (xs : List S45) (w : World) (hO : Kd.N k45 45 w base ok (.slice (some ⟨g, 0, none⟩) (m + 1) (m + 1)) xs) (hn : m + 1 ≤ 1000000) (hbw : base ≤ w.heap.size) (hbg : base ≤ g) :
    Calls Tryd.prog 83 #[.slice (some ⟨g, 0, none⟩) (m + 1) (m + 1), .int .i64 m, .int .i64 ((m : Int) + 1)] w fun e w' => e = .returned (.slice (some ⟨g, 0, none⟩) m (m + 1)) ∧ Kd.N k45 45 w' base ok (.slice (some ⟨g, 0, none⟩) m (m + 1)) (xs.eraseIdx m) ∧ Below base w w' := by
  have HO := Aside0.mk hO
  clear hO
  have hnz : (m : Int) ≤ 1000000 := by omega
  have hf1 : ¬ ((m : Int) = (m : Int) + 1) := by omega
  have hf2 : ¬ ((m : Int) < 0) := by omega
  have hf3 : ¬ ((m : Int) + 1 < 0) := by omega
  have hf4 : ¬ ((m : Int) + 1 < (m : Int)) := by omega
  have hf7 : ((m : Int) + 1).toNat = m + 1 := by omega
  go_enter Tryd.func83, Tryd.ntmps83
  go_wp2_with fail
  go_region_held3 (fun W => True) (trivial) (first | (refine Kd.N_delete_step k45 (w0 := w) base (by rfl) (.tmp 22) (.tmp 25) 36 45 (by rfl) Tryd.underlying36 model_With.sz (g := g) (n := m + 1) (c := m + 1) (k := m) (m := 0) (c2 := 0) (A := some ⟨g, 0, none⟩) (by rfl) (by rfl) (by rw [if_pos rfl]) (by omega) (Kd.N_drew HO.out) (by omega) (below_drew1 (Below.refl _ _)) hbw ?_; intro w5 hN5 hB5 hg5))
  obtain ⟨w6, hrun, hN6, hB6⟩ := model_Without.tail base g (m + 1) m ok _ w w5 hN5 rfl hB5 hbg
  have HRUN := Aside0.mk hrun
  have HN6 := Aside0.mk hN6
  have HB6 := Aside0.mk hB6
  clear hrun hN6 hB6 hN5 hB5 hg5
  go_wp2_with ((with_reducible refine gate_builtin (b := .clear) (xs := #[.tmp 31]) rfl ?_); refine model_With.stop ?_)
  unfold model_With.Stop
  refine YtcfcbkcaondfcaaDoorMpRows.wpList_clear_run rfl _ _ rfl _ rfl (HRUN.out _) ?_
  go_wp2
  go_ret
  exact ⟨rfl, HN6.out, HB6.out⟩
set_option maxRecDepth 100000 in
set_option maxHeartbeats 4000000 in
/-- slices.Delete of an element ahead of the last. -/
theorem model_Without.del_mid (base g m q : Nat) (hmq : m < q) (ok : Nat → Prop) (xs : List S45) (w : World) (hO : Kd.N k45 45 w base ok (.slice (some ⟨g, 0, none⟩) (q + 1) (q + 1)) xs) (hn : q + 1 ≤ 1000000) (hbw : base ≤ w.heap.size) (hbg : base ≤ g) :
    Calls Tryd.prog 83 #[.slice (some ⟨g, 0, none⟩) (q + 1) (q + 1), .int .i64 m, .int .i64 ((m : Int) + 1)] w fun e w' => e = .returned (.slice (some ⟨g, 0, none⟩) q (q + 1)) ∧ Kd.N k45 45 w' base ok (.slice (some ⟨g, 0, none⟩) q (q + 1)) (xs.eraseIdx m) ∧ Below base w w' := by
  have HO := Aside0.mk hO
  clear hO
  have hnz : (q : Int) ≤ 1000000 := by omega
  have hmz : (m : Int) < (q : Int) := by omega
  have hg1 : ¬ q = m := by omega
  have hg2 : ¬ q + 1 = m := by omega
  have hg3 : ¬ (q : Int) + 1 < (m : Int) + 1 := by omega
  have hg4 : ¬ (q : Int) + 1 < (m : Int) := by omega
  have hg5 : ¬ (m : Int) = (q : Int) := by omega
  have hg6 : m + 1 ≤ q + 1 := by omega
  have hg7 : m ≤ q + 1 := by omega
  have HNE := Aside0.mk hg1
  have hf1 : ¬ ((m : Int) = (m : Int) + 1) := by omega
  have hf2 : ¬ ((m : Int) < 0) := by omega
  have hf3 : ¬ ((m : Int) + 1 < 0) := by omega
  have hf4 : ¬ ((m : Int) + 1 < (m : Int)) := by omega
  have hf7 : ((m : Int) + 1).toNat = m + 1 := by omega
  go_enter Tryd.func83, Tryd.ntmps83
  go_wp2_with fail
  go_region_held3 (fun W => True) (trivial) (first | (refine Kd.N_delete_step k45 (w0 := w) base (by rfl) (.tmp 22) (.tmp 25) 36 45 (by rfl) Tryd.underlying36 model_With.sz (g := g) (n := q + 1) (c := q + 1) (k := m) (m := q - m) (c2 := q - m) (A := some ⟨g, (m + 1) * 2, none⟩) (by rfl) (by rfl) (by rw [if_neg (by have := HNE.out; omega)]; simp [Addr.add]; rfl) (by omega) (Kd.N_drew HO.out) (by omega) (below_drew1 (Below.refl _ _)) hbw ?_; intro w5 hN5 hB5 hg5))
  obtain ⟨w6, hrun, hN6, hB6⟩ := model_Without.tail base g (q + 1) q ok _ w w5 hN5 rfl hB5 hbg
  have HRUN := Aside0.mk hrun
  have HN6 := Aside0.mk hN6
  have HB6 := Aside0.mk hB6
  clear hrun hN6 hB6 hN5 hB5 hg5
  go_wp2_with ((with_reducible refine gate_builtin (b := .clear) (xs := #[.tmp 31]) rfl ?_); refine model_With.stop ?_)
  unfold model_With.Stop
  refine YtcfcbkcaondfcaaDoorMpRows.wpList_clear_run rfl _ _ rfl _ rfl (HRUN.out _) ?_
  go_wp2
  go_ret
  exact ⟨rfl, HN6.out, HB6.out⟩
/-- What model.Without does. -/
def model_Without.f (l0 : List S45) (a1 : ByteArray) : Option (List S45) :=
  if l0.length ≤ 1000000 ∧ (∀ y ∈ l0, y.f1.length ≤ 140737488355328) then
    (model_place.f l0 a1).bind fun r => if r.2 = true then (if 0 ≤ r.1 ∧ r.1 < l0.length then some (l0.eraseIdx r.1.toNat) else none) else some l0
  else none
set_option maxRecDepth 100000 in
set_option maxHeartbeats 4000000 in
theorem model_Without.calls (A0 : Option Addr) (c0 : Nat) (l0 : List S45) (a1 : ByteArray) (r : List S45) (w : World) (hr0 : Kd.C k45 w A0 l0.length l0) (hc0 : l0.length ≤ c0) (h : model_Without.f l0 a1 = some r) :
    Calls Tryd.prog 62 #[.slice A0 l0.length c0, .string a1] w fun e w' => ∃ v0_ : Value, e = .returned (v0_) ∧ Kd.N k45 45 w' w.heap.size (fun k_ => (w.heap.size ≤ k_)) v0_ r ∧ Below w.heap.size w w' := by
  unfold model_Without.f at h
  by_cases hg : l0.length ≤ 1000000 ∧ (∀ y ∈ l0, y.f1.length ≤ 140737488355328)
  case neg => rw [if_neg hg] at h; cases h
  rw [if_pos hg] at h
  obtain ⟨hg1, hg2⟩ := hg
  cases hpl : model_place.f l0 a1 with
  | none => rw [hpl] at h; cases h
  | some pr =>
    obtain ⟨i, there⟩ := pr
    rw [hpl] at h
    simp only [Option.bind_some] at h
    have hc1 := model_copied.go A0 c0 l0 w hr0 hg1 hg2
    have HC1 := Aside0.mk hc1
    have HPL := Aside0.mk hpl
    have H := Aside0.mk h
    have HLM := Aside0.mk hg1
    clear hc1 hpl hr0 hc0 h hg1 hg2
    go_enter Tryd.func62, Tryd.ntmps62
    go_wp2_with (first | (go_at_call 79; refine HC1.out.mono ?_; rintro e w1 ⟨g, rfl, hg, hN1, hB1⟩; have HN1 := Aside0.mk hN1; have HB1 := Aside0.mk hB1; clear hN1 hB1 HC1) | (go_at_call 81; refine model_With.stop ?_))
    unfold model_With.Stop
    have hp := model_place.calls (some ⟨g, 0, none⟩) l0.length l0 a1 i there w1 (Kd.N_reads' HN1.out).2.2 (Nat.le_refl _) HPL.out
    refine hp.mono ?_
    rintro e w2 ⟨rfl, hb2⟩
    have HN2 := Aside0.mk (Kd.N_below HN1.out hb2)
    have HB2 := Aside0.mk (HB1.out.trans (hb2.mono HB1.out.size))
    clear hb2 hp HN1 HB1 HPL
    cases there with
    | false =>
      have h := H.out
      rw [if_neg (by decide)] at h
      obtain rfl := Option.some.inj h
      clear h
      go_wp2
      go_ret
      exact ⟨_, rfl, HN2.out, HB2.out⟩
    | true =>
      have h := H.out
      rw [if_pos rfl] at h
      by_cases hml : 0 ≤ i ∧ i < (l0.length : Int)
      case neg => rw [if_neg hml] at h; cases h
      rw [if_pos hml] at h
      obtain rfl := Option.some.inj h
      clear h
      obtain ⟨hi0, hi1⟩ := hml
      obtain ⟨m, rfl⟩ := Int.eq_ofNat_of_zero_le hi0
      have hw1 : IntKind.i64.wrap ((m : Int) + 1) = (m : Int) + 1 := by rw [IntKind.wrap_i64]; have := HLM.out; omega
      have hml' : m < l0.length := by omega
      have hdel : Calls Tryd.prog 83 #[.slice (some ⟨g, 0, none⟩) l0.length l0.length, .int .i64 m, .int .i64 ((m : Int) + 1)] w2 fun e w' => e = .returned (.slice (some ⟨g, 0, none⟩) (l0.length - 1) l0.length) ∧ Kd.N k45 45 w' w.heap.size (fun k_ => (w.heap.size ≤ k_)) (.slice (some ⟨g, 0, none⟩) (l0.length - 1) l0.length) (l0.eraseIdx m) ∧ Below w.heap.size w2 w' := by
        obtain ⟨q, hq⟩ : ∃ q, l0.length = q + 1 := ⟨l0.length - 1, by omega⟩
        have hN2 := HN2.out
        have hlm := HLM.out
        rw [hq] at hN2 hlm ⊢
        rcases Nat.lt_or_ge m q with hlt | hge
        · exact model_Without.del_mid w.heap.size g m q hlt _ l0 w2 hN2 hlm HB2.out.size hg
        · obtain rfl : m = q := by omega
          exact model_Without.del_last w.heap.size g m _ l0 w2 hN2 hlm HB2.out.size hg
      have HDEL := Aside0.mk hdel
      clear hdel
      go_wp2_with (go_at_call 83; refine HDEL.out.mono ?_; rintro e w3 ⟨rfl, hN3, hB3⟩)
      go_ret
      exact ⟨_, rfl, hN3, HB2.out.trans hB3⟩


/-! ### plan_own: function 63 -/
def plan_own.l0 : Nat → List (S45) → List (S45) → Int → Int → Option ((List (S45)))
 | 0, _, _, _, _ => none
 | k + 1, x3, x6, x7, x8 => if x8 < x7 then (if 0 ≤ x8 then (if x8 < (x6.length : Int) then ((slices_Clone_byte_byte.f ((rd_T45 x6 x8).f1)).bind fun t165 => (if x3.length < 3518437208883 then (plan_own.l0 k (x3 ++ [(⟨(rd_T45 x6 x8).f0, t165⟩ : S45)]) x6 x7 (wrap64 (x8 + 1))) else (none))) else (none)) else (none)) else (some x3)
def plan_own.f (k : Nat) (l0 : List (S45)) : Option ((List (S45))) := plan_own.l0 k ([] : List (S45)) l0 (l0.length : Int) 0
theorem plan_own.mono_l : ∀ k, (∀ y0 y1 y2 y3, LeO (plan_own.l0 k y0 y1 y2 y3) (plan_own.l0 (k + 1) y0 y1 y2 y3))
 | 0 => fun _ _ _ _ r h => by simp [plan_own.l0] at h
 | k + 1 => by
  have ih0 := plan_own.mono_l k
  ·intro y0 y1 y2 y3
   unfold plan_own.l0
   repeat' first
   | (with_reducible exact ih0 _ _ _ _)
   | (with_reducible exact LeO.refl _)
   | (with_reducible exact LeO.none _)
   | (with_reducible refine LeO.ite ?_ ?_)
   | (with_reducible refine LeO.bind ?_ (fun _ => ?_))
   | exact ih0 _ _ _ _
   | exact LeO.none _
   | refine LeO.ite ?_ ?_
   | refine LeO.bind ?_ (fun _ => ?_)
theorem plan_own.mono : ∀ a0 k, LeO (plan_own.f k a0) (plan_own.f (k + 1) a0) := by
 intro a0 k
 have ih0 := plan_own.mono_l k
 unfold plan_own.f
 repeat' first
   | (with_reducible exact ih0 _ _ _ _)
   | (with_reducible exact LeO.refl _)
   | (with_reducible exact LeO.none _)
   | (with_reducible refine LeO.ite ?_ ?_)
   | (with_reducible refine LeO.bind ?_ (fun _ => ?_))
   | exact ih0 _ _ _ _
   | exact LeO.none _
   | refine LeO.ite ?_ ?_
   | refine LeO.bind ?_ (fun _ => ?_)
def plan_own.T5 : Bool × List (List Nat × List Nat) := (true, [([], []), ([], []), ([1], [1]), ([], []), ([3], [3]), ([4], [4]), ([2, 5], [2, 5]), ([6], [6]), ([0, 7, 5], [0, 7]), ([8, 8, 0, 1, 2, 3, 4, 5, 6, 7, 8], [0, 8])])
def plan_own.B5 : List Nat := [0, 0, 2, 0, 8, 24, 62, 126, 255, 511]
theorem plan_own.tab5 : rtab .any (opsOf Tryd.f63 5) = plan_own.T5 := by kernel_rfl
theorem plan_own.bits5 : waitsOk plan_own.T5.2 plan_own.B5 = true := by kernel_rfl
set_option maxHeartbeats 8000000 in
set_option maxRecDepth 100000 in
theorem plan_own.calls (k : Nat) (A0 : Option Addr) (c0 : Nat) (l0 : List (S45)) (r : List (S45)) (w : World) (hr0 : Kd.C k45 w A0 l0.length l0) (hc0 : l0.length ≤ c0) (h : plan_own.f k l0 = some r) :
  Calls Tryd.prog 63 #[.slice A0 l0.length c0] w fun e w' => ∃ v0_ : Value, e = .returned (v0_) ∧ Kd.S k45 45 w' w.heap.size (fun _ => True) v0_ r ∧ Below w.heap.size w w' := by
 have hu45 := Tryd.underlying45
 have HR0 := Aside0.mk hr0
 have HC0 := Aside0.mk hc0
 clear hr0 hc0
 have HB := Aside0.mk (Below.refl w.heap.size w)
 have H : (plan_own.l0 k ([] : List (S45)) l0 (l0.length : Int) 0) = some r := h
 clear h
 have H' := Aside0.mk H
 clear H
 go_enter Tryd.func63, Tryd.ntmps63
 go_wp2
 go_loopg [3, 8] k (fun kq v3 v8 w' => ∃ (x3_1 : List (S45)) (x8_1 : Int), v8 = .int .i64 x8_1 ∧ Aside0 (plan_own.l0 kq x3_1 l0 (l0.length : Int) x8_1 = some r) ∧ Aside0 (kq ≤ k) ∧ Aside0 (Kd.S k45 45 w' w.heap.size (fun _ => True) v3 x3_1) ∧ Aside0 (Below w.heap.size w w'))
 case atStart => exact ⟨(([] : List (S45))), (0), (by first | rfl | (simp only [YtcfcbkcaondfcaaDoorMpHelp.leq_not, YtcfcbkcaondfcaaDoorMpHelp.gtr_less]; done) | (simp; done) | (simp [*]; done)), H', ⟨Nat.le_refl _⟩, ⟨by first | exact Kd.S_nil _ _ _ _ _ | exact Kd.N_nil _ _ _ _ _ | exact Kd.V_nil _ _ _ _ _ | exact Kd.Q_nil _ _ _ _ _ | exact Kd.R_nil _ _ _ _ _⟩, ⟨by repeat (first | (with_reducible first | exact HB.out | apply below_alloc | apply pw_below_drewN | apply below_drew1) | exact HB.out)⟩⟩
 case round =>
  clear H'
  obtain ⟨x3_1, x8_1, rfl, HA, HK1, HO_3, HB⟩ := hrel
  cases gk with
  | zero => exact absurd HA.out (by simp [plan_own.l0])
  | succ k1 =>
   have H := HA.out
   clear HA
   simp only [plan_own.l0] at H
   by_cases c2 : x8_1 < (l0.length : Int)
   ·rw [if_pos c2] at H
    have c2b0 : decide (x8_1 < (l0.length : Int)) = true := decide_eq_true c2
    clear c2
    by_cases c3 : 0 ≤ x8_1
    ·rw [if_pos c3] at H
     have c3b0 : decide (0 ≤ x8_1) = true := decide_eq_true c3
     clear c3
     by_cases c4 : x8_1 < (l0.length : Int)
     ·rw [if_pos c4] at H
      have c4b0 : decide (x8_1 < (l0.length : Int)) = true := decide_eq_true c4
      clear c4
      replace H := Option.bind_eq_some_iff.mp H
      obtain ⟨t165, A50, H⟩ := H
      replace H : (if x3_1.length < 3518437208883 then (plan_own.l0 k1 (x3_1 ++ [(⟨(rd_T45 l0 x8_1).f0, t165⟩ : S45)]) l0 (l0.length : Int) (wrap64 (x8_1 + 1))) else (none)) = some r := H
      have A5 := Aside0.mk A50
      clear A50
      by_cases c6 : x3_1.length < 3518437208883
      ·rw [if_pos c6] at H
       have LMc6 := Aside0.mk c6
       clear c6
       obtain ⟨y168, hy168⟩ : ∃ y_ : List (S45), y_ = (x3_1 ++ [(⟨(rd_T45 l0 x8_1).f0, t165⟩ : S45)]) := ⟨_, rfl⟩
       replace H : (plan_own.l0 k1 y168 l0 (l0.length : Int) (wrap64 (x8_1 + 1))) = some r := by first | (rw [hy168]; with_reducible exact H) | (have H2_ := (Option.bind_some _ _).symm.trans H; rw [hy168]; with_reducible exact H2_) | (have H2_ := (Option.bind_some _ _).symm.trans H; with_reducible exact H2_) | with_reducible exact H | (rw [hy168]; exact H) | exact H
       have Ny168 := Aside0.mk hy168
       clear hy168
       have H' := Aside0.mk H
       clear H
       have p163 : 0 ≤ (x8_1 : Int) := of_decide_eq_true (by first | (with_reducible assumption) | assumption)
       have q163 : x8_1 < (l0.length : Int) := of_decide_eq_true (by first | (with_reducible assumption) | assumption)
       obtain ⟨ad163, A163_1, c163_1, e163, hx163_0, hx163_1, hl163_1, hi163_1⟩ := at_T45 HR0.out x8_1 p163 q163
       cases e163
       replace hx163_0 := (HB.out.cell (World.block_lt_of_cell? w _ hx163_0)).trans hx163_0
       replace hx163_1 := (HB.out.cell (World.block_lt_of_cell? w _ hx163_1)).trans hx163_1
       have HR163_1 := Aside0.mk hi163_1
       have HC163_1 := Aside0.mk hl163_1
       clear hi163_1 hl163_1
       replace p163 := eq_true p163
       replace q163 := eq_true q163
       try go_wp2_with (first | ((with_reducible refine gate_dst (N := 5) rfl ?_); refine box_event ?hg (N := 5) ?hd (cs := #[.string (⟨#[]⟩ : ByteArray), .slice none 0 0]) (t := 45) ?hr ?_; (case hd => rfl); (case hg => rfl); (case hr => first | (go_simp; done) | (go_simp; rfl)); intro gb164 hg w7 hbox hb; have n0_ := Aside0.mk (Kd.S_below (Kd.S_elderB (by (with_reducible repeat (first | apply Kd.S_alloc | apply Kd.S_drewN | apply Kd.S_drew)); exact HO_3.out) gb164 (Nat.le_of_eq hg.symm)) hb); have n1_ := Aside0.mk (below_step (by repeat (first | (with_reducible first | exact HB.out | apply below_alloc | apply pw_below_drewN | apply below_drew1) | exact HB.out)) hb); have n2_ := Aside0.mk (hbox); have n3_ := Aside0.mk ((by rw [hg]; exact (below_size (by repeat (first | (with_reducible first | exact HB.out | apply below_alloc | apply pw_below_drewN | apply below_drew1) | exact HB.out))) : w.heap.size ≤ gb164)); have n4_ := Aside0.mk ((by rw [hg]; exact (below_size (by repeat (first | (with_reducible first | exact HB.out | apply below_alloc | apply pw_below_drewN | apply below_drew1) | exact HB.out))) : w.heap.size ≤ gb164)); clear HO_3; clear HB; have HO_3 := n0_; have HB := n1_; have BK164 := n2_; have GW164 := n3_; have GE164 := n4_; clear n0_ n1_ n2_ n3_ n4_; clear hb hbox hg; have hcz8_0 : w7.cell? ⟨gb164, 0, none⟩ = some (.string (⟨#[]⟩ : ByteArray)) := (blk_cell BK164.out 0).trans rfl; have hcz8_1 : w7.cell? ⟨gb164, 1, none⟩ = some (.slice none 0 0) := (blk_cell BK164.out 1).trans rfl; have hfz8_0 := blk_frozen BK164.out 0; have hfz8_1 := blk_frozen BK164.out 1))
       have n0_ : Aside0 (Kd.S k45 45 ((w7.setCell ⟨gb164, 0, none⟩ (.string ((rd_T45 l0 x8_1).f0))).setCell ⟨gb164, 1, none⟩ (.slice A163_1 ((rd_T45 l0 x8_1).f1).length c163_1)) w.heap.size (fun k_ => k_ ≠ gb164) u3 x3_1) := ⟨by (with_reducible repeat (first | apply Kd.S_alloc | apply Kd.S_drewN | apply Kd.S_drew)); exact Kd.S_mono (Kd.S_far (p := ⟨gb164, 1, none⟩) (Kd.S_far (p := ⟨gb164, 0, none⟩) (Kd.S_mono HO_3.out (fun k_ hk => (⟨hk, hk.2⟩ : _ ∧ k_ ≠ gb164))) (fun _ hk => hk.2) (.string ((rd_T45 l0 x8_1).f0))) (fun _ hk => hk.2) (.slice A163_1 ((rd_T45 l0 x8_1).f1).length c163_1)) (fun _ hk => hk.1.2)⟩
       have n1_ : Aside0 (((w7.setCell ⟨gb164, 0, none⟩ (.string ((rd_T45 l0 x8_1).f0))).setCell ⟨gb164, 1, none⟩ (.slice A163_1 ((rd_T45 l0 x8_1).f1).length c163_1)).heap[gb164]? = some (.cells #[.string ((rd_T45 l0 x8_1).f0), .slice A163_1 ((rd_T45 l0 x8_1).f1).length c163_1] 45 (0, 0))) := ⟨by (with_reducible repeat (first | refine blk_drewN ?_ _ | refine blk_drew ?_ | refine blk_alloc ?_ _)); refine blk_put (cs := #[.string ((rd_T45 l0 x8_1).f0), .slice none 0 0]) ?_ 1 _ rfl; (with_reducible repeat (first | refine blk_drewN ?_ _ | refine blk_drew ?_ | refine blk_alloc ?_ _)); refine blk_put (cs := #[.string (⟨#[]⟩ : ByteArray), .slice none 0 0]) ?_ 0 _ rfl; (with_reducible repeat (first | refine blk_drewN ?_ _ | refine blk_drew ?_ | refine blk_alloc ?_ _)); exact BK164.out⟩
       have n2_ : Aside0 (Below w.heap.size w ((w7.setCell ⟨gb164, 0, none⟩ (.string ((rd_T45 l0 x8_1).f0))).setCell ⟨gb164, 1, none⟩ (.slice A163_1 ((rd_T45 l0 x8_1).f1).length c163_1))) := ⟨by repeat (first | (with_reducible first | exact HB.out | apply below_alloc | apply pw_below_drewN | apply below_drew1 | refine below_set ?_ GE164.out) | exact HB.out)⟩
       (try clear HO_3)
       (try clear BK164)
       (try clear HB)
       generalize ((w7.setCell ⟨gb164, 0, none⟩ (.string ((rd_T45 l0 x8_1).f0))).setCell ⟨gb164, 1, none⟩ (.slice A163_1 ((rd_T45 l0 x8_1).f1).length c163_1)) = w9 at n0_ n1_ n2_ ⊢
       have HO_3 := n0_
       have BK164 := n1_
       have HB := n2_
       clear n0_ n1_ n2_
       have n0_ := Aside0.mk (Kd.S_drew HO_3.out)
       have n1_ := Aside0.mk (blk_drew BK164.out)
       have n2_ := Aside0.mk (below_drew1 HB.out)
       clear HO_3
       clear BK164
       clear HB
       have HO_3 := n0_
       have BK164 := n1_
       have HB := n2_
       clear n0_ n1_ n2_
       refine start_ (n := 10) (S := fun w' => w'.cell? ⟨gb164, 0, none⟩ = some (.string ((rd_T45 l0 x8_1).f0)) ∧ w'.cell? ⟨gb164, 1, none⟩ = some (.slice A163_1 ((rd_T45 l0 x8_1).f1).length c163_1)) (ds := []) #[false, false, false, false, false, false, false, false, false, false] (by kernel_rfl) rfl rfl ⟨(blk_cell BK164.out 0).trans rfl, (blk_cell BK164.out 1).trans rfl⟩ (fun hHeld => ?_); refine with_tabW plan_own.tab5 plan_own.bits5 (fun HT_ HW_ => ?_)
       generalize w9.drew = w10 at HO_3 BK164 HB hHeld ⊢
       refine pure_ (i := 0) (N := some 12) (v := ?_) (a' := ?_) #[true, false, false, false, false, false, false, false, false, false] rfl rfl (any_of HT_.out (by kernel_rfl)) (fun _ _ _ h => h) (Or.inl ⟨by rfl, ?_⟩) ?_ ?_
       rotate_left
       ·intro w'
        go_simp
        with_reducible rfl
       rotate_left
       ·simp only [Act.put, List.setIfInBounds_toArray, List.set_cons_zero, List.set_cons_succ, i64_w, i32_w]
        rfl
       refine pure_ (i := 1) (N := some 13) (v := ?_) (a' := ?_) #[true, true, false, false, false, false, false, false, false, false] rfl rfl (any_of HT_.out (by kernel_rfl)) (fun _ _ _ h => h) (Or.inl ⟨by rfl, ?_⟩) ?_ ?_
       rotate_left
       ·intro w'
        go_simp
        with_reducible rfl
       rotate_left
       ·simp only [Act.put, List.setIfInBounds_toArray, List.set_cons_zero, List.set_cons_succ, i64_w, i32_w]
        rfl
       refine pure_ (i := 3) (N := some 15) (v := ?_) (a' := ?_) #[true, true, false, true, false, false, false, false, false, false] rfl rfl (any_of HT_.out (by kernel_rfl)) (fun _ _ _ h => h) (Or.inl ⟨by rfl, ?_⟩) ?_ ?_
       rotate_left
       ·intro w'
        go_simp
        with_reducible rfl
       rotate_left
       ·simp only [Act.put, List.setIfInBounds_toArray, List.set_cons_zero, List.set_cons_succ, i64_w, i32_w]
        rfl
       refine take_ (i := 2) (N := some 14) (v := ?_) (a' := ?_) #[true, true, true, true, false, false, false, false, false, false] rfl rfl (take_ofW HT_.out HW_.out (by kernel_rfl)) (fun _ _ _ h => h) (Or.inl ⟨by rfl, ?_⟩) hHeld ?_ ?_
       rotate_left
       ·rintro w' ⟨s0, s1⟩
        go_simp
        with_reducible rfl
       rotate_left
       ·simp only [Act.put, List.setIfInBounds_toArray, List.set_cons_zero, List.set_cons_succ, i64_w, i32_w]
        rfl
       refine take_ (i := 4) (N := some 16) (v := ?_) (a' := ?_) #[true, true, true, true, true, false, false, false, false, false] rfl rfl (take_ofW HT_.out HW_.out (by kernel_rfl)) (fun _ _ _ h => h) (Or.inl ⟨by rfl, ?_⟩) hHeld ?_ ?_
       rotate_left
       ·rintro w' ⟨s0, s1⟩
        go_simp
        with_reducible rfl
       rotate_left
       ·simp only [Act.put, List.setIfInBounds_toArray, List.set_cons_zero, List.set_cons_succ, i64_w, i32_w]
        rfl
       refine one_ (i := 5) (N := some 17) #[true, true, true, true, true, true, false, false, false, false] rfl rfl (one_of HT_.out (by kernel_rfl)) (by decide) (fun K hK => ?_)
       refine goes_ Tryd.func80 (by kernel_rfl) rfl #[.slice A163_1 ((rd_T45 l0 x8_1).f1).length c163_1] (by rfl) rfl rfl (by (try simp only [List.map_toArray, List.map_cons, List.map_nil]); first | done | rfl | (simp only [List.length_drop, List.length_take]; rfl)) ?_
       with_reducible refine (slices_Clone_byte_byte.calls _ _ ((rd_T45 l0 x8_1).f1) t165 _ ?side1 ?side2 A5.out).mono ?_
       (case side1 => repeat (first | exact (Kd.C_below HR163_1.out HB.out) | (with_reducible refine Kd.C_alloc ?_ _) | (with_reducible refine Kd.C_drewN ?_ _) | (with_reducible refine Kd.C_drew ?_)))
       (case side2 => exact HC163_1.out)
       rintro e w11 ⟨v166, rfl, ho0, hb⟩
       refine ⟨_, rfl, ?_⟩
       have n0_ := Aside0.mk (Kd.S_elder' (by (with_reducible repeat (first | apply Kd.S_alloc | apply Kd.S_drewN | apply Kd.S_drew)); exact HO_3.out) (Kd.R_base ho0) hb)
       have n1_ := Aside0.mk (Kd.R_lower ho0 (below_size (by repeat (first | (with_reducible first | exact HB.out | apply below_alloc | apply pw_below_drewN | apply below_drew1 | refine below_set ?_ GE164.out) | exact HB.out))))
       have n2_ := Aside0.mk (blk_below (g := gb164) (o := .cells #[.string ((rd_T45 l0 x8_1).f0), .slice A163_1 ((rd_T45 l0 x8_1).f1).length c163_1] 45 (0, 0)) (by (with_reducible repeat (first | refine blk_drewN ?_ _ | refine blk_drew ?_ | refine blk_alloc ?_ _)); exact BK164.out) hb)
       have n3_ := Aside0.mk (below_step (by repeat (first | (with_reducible first | exact HB.out | apply below_alloc | apply pw_below_drewN | apply below_drew1 | refine below_set ?_ GE164.out) | exact HB.out)) hb)
       clear HO_3
       clear BK164
       clear HB
       have HO_3 := n0_
       have HO167 := n1_
       have BK164 := n2_
       have HB := n3_
       clear n0_ n1_ n2_ n3_
       (try clear hb)
       (try clear hb2)
       (try clear hk)
       (try clear hi)
       (try clear ho0)
       obtain ⟨Ao12, co12, eo12⟩ := Kd.R_slice HO167.out
       (first | subst eo12 | (injection eo12 with f1_ f2_ f3_; have f4_ := f1_.symm; have f5_ := f3_.symm; clear f1_ f2_ f3_; subst f4_; subst f5_))
       refine hK.out _ _ ⟨(blk_cell BK164.out 0).trans rfl, (blk_cell BK164.out 1).trans rfl⟩ (fun hHeld => ?_)
       clear hK K
       refine norm_ (a' := ?_) ?_ ?_
       rotate_left
       ·show Act.put _ (some 17) _ = _
        simp only [Act.put, List.setIfInBounds_toArray, List.set_cons_zero, List.set_cons_succ, i64_w, i32_w]
        rfl
       refine pure_ (i := 6) (N := some 18) (v := ?_) (a' := ?_) #[true, true, true, true, true, true, true, false, false, false] rfl rfl (any_of HT_.out (by kernel_rfl)) (fun _ _ _ h => h) (Or.inl ⟨by rfl, ?_⟩) ?_ ?_
       rotate_left
       ·intro w'
        go_simp
        with_reducible rfl
       rotate_left
       ·simp only [Act.put, List.setIfInBounds_toArray, List.set_cons_zero, List.set_cons_succ, i64_w, i32_w]
        rfl
       refine one_ (i := 7) (N := some 19) #[true, true, true, true, true, true, true, true, false, false] rfl rfl (one_of HT_.out (by kernel_rfl)) (by decide) (fun K hK => ?_)
       refine value_ (w1 := ?_) (v := ?_) (by rfl) rfl ?_ ?_
       rotate_left 2
       ·go_simp
        constructor
        ·rfl
        ·rfl
       refine hK.out _ _ ⟨(blk_cell (blk_alloc BK164.out _) 0).trans rfl, (blk_cell (blk_alloc BK164.out _) 1).trans rfl⟩ (fun hHeld => ?_)
       clear hK K
       refine norm_ (a' := ?_) ?_ ?_
       rotate_left
       ·show Act.put _ (some 19) _ = _
        simp only [Act.put, List.setIfInBounds_toArray, List.set_cons_zero, List.set_cons_succ, i64_w, i32_w]
        rfl
       refine one_ (i := 8) (N := some 20) #[true, true, true, true, true, true, true, true, true, false] rfl rfl (one_of HT_.out (by kernel_rfl)) (by decide) (fun K hK => ?_)
       refine Kd.S_append_step k45 (w0 := w) w.heap.size (by rfl) (.tmp 12) (.tmp 19) 36 45 (.agg #[(.string ⟨#[]⟩), (.slice none 0 0)]) 40 rfl Tryd.underlying36 info45 rfl (by decide) (by omega) u3 x3_1 (⟨(rd_T45 l0 x8_1).f0, t165⟩ : S45) [.string ((rd_T45 l0 x8_1).f0), .slice Ao12 t165.length co12] (fun k_ => k_ ≠ gb164) (fun k_ => some k_ = (.slice Ao12 t165.length co12 : Value).ownBlock) rfl rfl ?aP (fun k_ hk_ => ((Kd.R_mono (ok' := fun k_ => ((fun k_ => k_ ≠ gb164)) k_ ∧ some k_ ≠ (u3 : Value).ownBlock) (Kd.R_types (Kd.R_apart' (HO167.out) (Kd.S_typed HO_3.out) (by decide)) BK164.out (by decide)) (fun k_ hk => ⟨hk.2, hk.1.2⟩))).1 k_ hk_.symm) ?aF ?aO ?aB ?aS ?aL ?_
       (case aP => exact k45_mkM _ _ _ (⟨(rd_T45 l0 x8_1).f0, t165⟩ : S45) (Kd.R_mono (Kd.R_tight rfl (Kd.R_mono (ok' := fun k_ => ((fun k_ => k_ ≠ gb164)) k_ ∧ some k_ ≠ (u3 : Value).ownBlock) (Kd.R_types (Kd.R_apart' (HO167.out) (Kd.S_typed HO_3.out) (by decide)) BK164.out (by decide)) (fun k_ hk => ⟨hk.2, hk.1.2⟩))) (fun _ h_ => h_)))
       (case aB => exact (by repeat (first | (with_reducible first | exact HB.out | apply below_alloc | apply pw_below_drewN | apply below_drew1 | refine below_set ?_ GE164.out) | exact HB.out)))
       (case aF => exact (fun k_ hk => Kd.freshB (g := gb164) (o := .cells #[.string ((rd_T45 l0 x8_1).f0), .slice A163_1 ((rd_T45 l0 x8_1).f1).length c163_1] 45 (0, 0)) (by (with_reducible repeat (first | refine blk_drewN ?_ _ | refine blk_drew ?_ | refine blk_alloc ?_ _)); exact BK164.out) k_ hk))
       (case aO => exact (by (with_reducible repeat (first | apply Kd.S_alloc | apply Kd.S_drewN | apply Kd.S_drew)); exact Kd.S_mono HO_3.out (fun k_ hk => ⟨hk.1, fun e_ => hk.2 e_⟩)))
       (case aS => exact (below_size (by repeat (first | (with_reducible first | exact HB.out | apply below_alloc | apply pw_below_drewN | apply below_drew1 | refine below_set ?_ GE164.out) | exact HB.out))))
       (case aL => have := LMc6.out; omega)
       intro v169 w13 ho hb hg hat
       rw [← Ny168.out] at ho
       have n0_ := Aside0.mk (blk_grown (g := gb164) (o := .cells #[.string ((rd_T45 l0 x8_1).f0), .slice A163_1 ((rd_T45 l0 x8_1).f1).length c163_1] 45 (0, 0)) (by (with_reducible repeat (first | refine blk_drewN ?_ _ | refine blk_drew ?_ | refine blk_alloc ?_ _)); exact BK164.out) hg (Kd.S_away HO_3.out (fun _ hk => hk.1)))
       have n1_ := Aside0.mk (hb)
       have n2_ := Aside0.mk (ho)
       clear BK164
       clear HB
       clear HO_3
       clear HO167
       have BK164 := n0_
       have HB := n1_
       have HO170 := n2_
       clear n0_ n1_ n2_
       clear ho hb hg hat
       refine hK.out _ _ ⟨(blk_cell BK164.out 0).trans rfl, (blk_cell BK164.out 1).trans rfl⟩ (fun hHeld => ?_)
       clear hK K
       refine norm_ (a' := ?_) ?_ ?_
       rotate_left
       ·show Act.put _ (some 20) _ = _
        simp only [Act.put, List.setIfInBounds_toArray, List.set_cons_zero, List.set_cons_succ, i64_w, i32_w]
        rfl
       refine pure_ (i := 9) (N := some 3) (v := ?_) (a' := ?_) #[true, true, true, true, true, true, true, true, true, true] rfl rfl (any_of HT_.out (by kernel_rfl)) (fun _ _ _ h => h) (Or.inl ⟨by rfl, ?_⟩) ?_ ?_
       rotate_left
       ·intro w'
        go_simp
        with_reducible rfl
       rotate_left
       ·simp only [Act.put, List.setIfInBounds_toArray, List.set_cons_zero, List.set_cons_succ, i64_w, i32_w]
        rfl
       refine done_ (done_of HT_.out (by kernel_rfl)) ?_
       try go_wp2
       go_roundg k1
       case measure => have := HK1.out; omega
       case rel => exact ⟨(y168), (wrap64 (x8_1 + 1)), (by first | rfl | (simp only [YtcfcbkcaondfcaaDoorMpHelp.leq_not, YtcfcbkcaondfcaaDoorMpHelp.gtr_less]; done) | (simp; done) | (simp [*]; done)), H', ⟨by have := HK1.out; omega⟩, ⟨by (with_reducible repeat (first | apply Kd.S_alloc | apply Kd.S_drewN | apply Kd.S_drew)); exact Kd.S_mono HO170.out (fun _ hk => trivial)⟩, ⟨by repeat (first | (with_reducible first | exact HB.out | apply below_alloc | apply pw_below_drewN | apply below_drew1 | refine below_set ?_ GE164.out) | exact HB.out)⟩⟩
      ·rw [if_neg c6] at H
       exact absurd H (by simp)
     ·rw [if_neg c4] at H
      exact absurd H (by simp)
    ·rw [if_neg c3] at H
     exact absurd H (by simp)
   ·rw [if_neg c2] at H
    have c2b0 : decide (x8_1 < (l0.length : Int)) = false := decide_eq_false c2
    clear c2
    obtain rfl := Option.some.inj H
    go_wp2
    go_ret
    exact ⟨_, by first | rfl | (simp [errW_none, errW_some] <;> rfl) | (simp [*, errW_none, errW_some] <;> rfl), by (with_reducible repeat (first | apply Kd.S_alloc | apply Kd.S_drewN | apply Kd.S_drew)); exact HO_3.out, by repeat (first | (with_reducible first | exact HB.out | apply below_alloc | apply pw_below_drewN | apply below_drew1) | exact HB.out)⟩

/-! ### plan_Apply: function 35 -/
def plan_Apply.l0 : Nat → List (S45) → List (S72) → Int → Int → Option ((List (S45)) × Int)
 | 0, _, _, _, _ => none
 | k + 1, x0, x11, x12, x13 => if x13 < x12 then (if 0 ≤ x13 then (if x13 < (x11.length : Int) then ((plan_refused.f k x0 ((rd_T72 x11 x13).f0) ((rd_T72 x11 x13).f1) ((rd_T72 x11 x13).f2) ((rd_T72 x11 x13).f3) ((rd_T72 x11 x13).f4.f0) ((rd_T72 x11 x13).f4.f1) ((rd_T72 x11 x13).f4.f2)).bind fun t179 => (if t179 = 0 then (if ((rd_T72 x11 x13).f0) = 3 then ((model_With.f x0 ((rd_T72 x11 x13).f1) ((rd_T72 x11 x13).f2)).bind fun t180 => (plan_Apply.l0 k t180 x11 x12 (wrap64 (x13 + 1)))) else ((model_Without.f x0 ((rd_T72 x11 x13).f1)).bind fun t183 => (plan_Apply.l0 k t183 x11 x12 (wrap64 (x13 + 1))))) else (some (([] : List (S45)), t179)))) else (none)) else (none)) else ((plan_own.f k x0).bind fun t174 => (some (t174, 0)))
def plan_Apply.f (k : Nat) (l0 : List (S45)) (l1 : List (S72)) : Option ((List (S45)) × Int) := (api_File.f l0).bind fun t171 => (plan_Apply.l0 k t171 l1 (l1.length : Int) 0)
theorem plan_Apply.mono_l : ∀ k, (∀ y0 y1 y2 y3, LeO (plan_Apply.l0 k y0 y1 y2 y3) (plan_Apply.l0 (k + 1) y0 y1 y2 y3))
 | 0 => fun _ _ _ _ r h => by simp [plan_Apply.l0] at h
 | k + 1 => by
  have ih0 := plan_Apply.mono_l k
  ·intro y0 y1 y2 y3
   unfold plan_Apply.l0
   repeat' first
   | (with_reducible exact ih0 _ _ _ _)
   | (with_reducible exact plan_own.mono _ _)
   | (with_reducible exact plan_refused.mono _ _ _ _ _ _ _ _ _)
   | (with_reducible exact LeO.refl _)
   | (with_reducible exact LeO.none _)
   | (with_reducible refine LeO.ite ?_ ?_)
   | (with_reducible refine LeO.bind ?_ (fun _ => ?_))
   | exact ih0 _ _ _ _
   | exact plan_own.mono _ _
   | exact plan_refused.mono _ _ _ _ _ _ _ _ _
   | exact LeO.none _
   | refine LeO.ite ?_ ?_
   | refine LeO.bind ?_ (fun _ => ?_)
theorem plan_Apply.mono : ∀ a0 a1 k, LeO (plan_Apply.f k a0 a1) (plan_Apply.f (k + 1) a0 a1) := by
 intro a0 a1 k
 have ih0 := plan_Apply.mono_l k
 unfold plan_Apply.f
 repeat' first
   | (with_reducible exact ih0 _ _ _ _)
   | (with_reducible exact plan_own.mono _ _)
   | (with_reducible exact plan_refused.mono _ _ _ _ _ _ _ _ _)
   | (with_reducible exact LeO.refl _)
   | (with_reducible exact LeO.none _)
   | (with_reducible refine LeO.ite ?_ ?_)
   | (with_reducible refine LeO.bind ?_ (fun _ => ?_))
   | exact ih0 _ _ _ _
   | exact plan_own.mono _ _
   | exact plan_refused.mono _ _ _ _ _ _ _ _ _
   | exact LeO.none _
   | refine LeO.ite ?_ ?_
   | refine LeO.bind ?_ (fun _ => ?_)
set_option maxHeartbeats 8000000 in
set_option maxRecDepth 100000 in
theorem plan_Apply.calls (k : Nat) (P0_ : Nat → Prop) (A0 : Option Addr) (c0 : Nat) (l0 : List (S45)) (A1 : Option Addr) (c1 : Nat) (l1 : List (S72)) (r1 : List (S45)) (r2 : Int) (w : World) (hs0 : Kd.V k45 45 w w.heap.size (fun k_ => P0_ k_) (.slice A0 l0.length c0) l0) (hr1 : Kd.C k72 w A1 l1.length l1) (hc1 : l1.length ≤ c1) (h : plan_Apply.f k l0 l1 = some (r1, r2)) :
  Calls Tryd.prog 35 #[.slice A0 l0.length c0, .slice A1 l1.length c1] w fun e w' => ∃ v0_ : Value, e = .returned (.tuple #[v0_, .int .i64 r2]) ∧ Kd.N k45 45 w' w.heap.size (fun k_ => (P0_ k_ ∨ w.heap.size ≤ k_)) v0_ r1 ∧ Below w.heap.size w w' := by
 have hu72 := Tryd.underlying72
 have HO0 := Aside0.mk (show Kd.V k45 45 w w.heap.size (fun k_ => (P0_ k_ ∨ w.heap.size ≤ k_)) (.slice A0 l0.length c0) l0 from Kd.V_mono hs0 (fun k_ hk => .inl hk))
 have HR1 := Aside0.mk hr1
 have HC1 := Aside0.mk hc1
 clear hr1 hc1
 have HB := Aside0.mk (Below.refl w.heap.size w)
 have H : ((api_File.f l0).bind fun t171 => (plan_Apply.l0 k t171 l1 (l1.length : Int) 0)) = some (r1, r2) := h
 clear h
 replace H := Option.bind_eq_some_iff.mp H
 obtain ⟨t171, A30, H⟩ := H
 replace H : (plan_Apply.l0 k t171 l1 (l1.length : Int) 0) = some (r1, r2) := H
 have A3 := Aside0.mk A30
 clear A30
 have H' := Aside0.mk H
 clear H
 go_enter Tryd.func35, Tryd.ntmps35
 go_wp2_with (first | ((with_reducible refine gate_callee (f := 59) rfl ?_); refine goesL_ (some 10) rfl rfl Tryd.func59 (by kernel_rfl) rfl #[.slice A0 l0.length c0] rfl (by (try simp only [List.map_toArray, List.map_cons, List.map_nil]); first | done | rfl | (simp only [List.length_drop, List.length_take]; rfl)) ?_; (with_reducible refine (api_File.calls (fun k_ => (P0_ k_ ∨ w.heap.size ≤ k_)) _ _ l0 t171 _ ?side1 A3.out).mono ?_); (case side1 => exact HO0.out); rintro e w4 ⟨v172, rfl, ho0, hb⟩; refine ⟨_, rfl, ?_⟩; have n0_ := Aside0.mk (Kd.V_elder' (by (with_reducible repeat (first | apply Kd.V_alloc | apply Kd.V_drewN | apply Kd.V_drew)); exact HO0.out) (Kd.N_base ho0) hb); have n1_ := Aside0.mk (Kd.N_lower (Kd.N_mono (ok' := fun k_ => (P0_ k_ ∨ w.heap.size ≤ k_)) ho0 (fun k_ hk_ => Or.elim hk_ (fun hs_ => hs_) (fun hn_ => (.inr (Nat.le_trans (below_size (by repeat (first | (with_reducible first | exact HB.out | apply below_alloc | apply pw_below_drewN | apply below_drew1) | exact HB.out))) hn_))))) (below_size (by repeat (first | (with_reducible first | exact HB.out | apply below_alloc | apply pw_below_drewN | apply below_drew1) | exact HB.out)))); have n2_ := Aside0.mk (below_step (by repeat (first | (with_reducible first | exact HB.out | apply below_alloc | apply pw_below_drewN | apply below_drew1) | exact HB.out)) hb); clear HO0; clear HB; have HO0 := n0_; have HO173 := n1_; have HB := n2_; clear n0_ n1_ n2_; (try clear hb); (try clear hb2); (try clear hk); (try clear hi); (try clear ho0)))
 go_loopg [0, 13] k (fun kq v0 v13 w' => ∃ (x0_1 : List (S45)) (x13_1 : Int), v13 = .int .i64 x13_1 ∧ Aside0 (plan_Apply.l0 kq x0_1 l1 (l1.length : Int) x13_1 = some (r1, r2)) ∧ Aside0 (kq ≤ k) ∧ Aside0 (Kd.N k45 45 w' w.heap.size (fun k_ => (P0_ k_ ∨ w.heap.size ≤ k_)) v0 x0_1) ∧ Aside0 (Below w.heap.size w w'))
 case atStart => exact ⟨(t171), (0), (by first | rfl | (simp only [YtcfcbkcaondfcaaDoorMpHelp.leq_not, YtcfcbkcaondfcaaDoorMpHelp.gtr_less]; done) | (simp; done) | (simp [*]; done)), H', ⟨Nat.le_refl _⟩, ⟨by (with_reducible repeat (first | apply Kd.N_alloc | apply Kd.N_drewN | apply Kd.N_drew)); exact HO173.out⟩, ⟨by repeat (first | (with_reducible first | exact HB.out | apply below_alloc | apply pw_below_drewN | apply below_drew1) | exact HB.out)⟩⟩
 case round =>
  clear H'
  try clear c1
  try clear p2
  try clear c3
  obtain ⟨x0_1, x13_1, rfl, HA, HK1, HO_0, HB⟩ := hrel
  cases gk with
  | zero => exact absurd HA.out (by simp [plan_Apply.l0])
  | succ k1 =>
   have H := HA.out
   clear HA
   simp only [plan_Apply.l0] at H
   by_cases c5 : x13_1 < (l1.length : Int)
   ·rw [if_pos c5] at H
    have c5b0 : decide (x13_1 < (l1.length : Int)) = true := decide_eq_true c5
    clear c5
    by_cases c6 : 0 ≤ x13_1
    ·rw [if_pos c6] at H
     have c6b0 : decide (0 ≤ x13_1) = true := decide_eq_true c6
     clear c6
     by_cases c7 : x13_1 < (l1.length : Int)
     ·rw [if_pos c7] at H
      have c7b0 : decide (x13_1 < (l1.length : Int)) = true := decide_eq_true c7
      clear c7
      replace H := Option.bind_eq_some_iff.mp H
      obtain ⟨t179, A80, H⟩ := H
      replace H : (if t179 = 0 then (if ((rd_T72 l1 x13_1).f0) = 3 then ((model_With.f x0_1 ((rd_T72 l1 x13_1).f1) ((rd_T72 l1 x13_1).f2)).bind fun t180 => (plan_Apply.l0 k1 t180 l1 (l1.length : Int) (wrap64 (x13_1 + 1)))) else ((model_Without.f x0_1 ((rd_T72 l1 x13_1).f1)).bind fun t183 => (plan_Apply.l0 k1 t183 l1 (l1.length : Int) (wrap64 (x13_1 + 1))))) else (some (([] : List (S45)), t179))) = some (r1, r2) := H
      have A8 := Aside0.mk A80
      clear A80
      by_cases c9 : t179 = 0
      ·rw [if_pos c9] at H
       have c9b0 : (t179 == 0) = true := beq_iff_eq.mpr c9
       have c9b1 : (t179 != 0) = false := bne_eq_false_iff_eq.mpr c9
       clear c9
       by_cases c10 : ((rd_T72 l1 x13_1).f0) = 3
       ·rw [if_pos c10] at H
        have c10b0 : (((rd_T72 l1 x13_1).f0) == 3) = true := beq_iff_eq.mpr c10
        have c10b1 : (((rd_T72 l1 x13_1).f0) != 3) = false := bne_eq_false_iff_eq.mpr c10
        clear c10
        replace H := Option.bind_eq_some_iff.mp H
        obtain ⟨t180, A110, H⟩ := H
        replace H : (plan_Apply.l0 k1 t180 l1 (l1.length : Int) (wrap64 (x13_1 + 1))) = some (r1, r2) := H
        have A11 := Aside0.mk A110
        clear A110
        have H' := Aside0.mk H
        clear H
        have p177 : 0 ≤ (x13_1 : Int) := of_decide_eq_true (by first | (with_reducible assumption) | assumption)
        have q177 : x13_1 < (l1.length : Int) := of_decide_eq_true (by first | (with_reducible assumption) | assumption)
        obtain ⟨ad177, A177_2, c177_2, A177_4, c177_4, e177, hx177_0, hx177_1, hx177_2, hx177_3, hx177_4, hx177_5, hx177_6, hl177_2, hi177_2, hl177_4, hi177_4⟩ := at_T72 HR1.out x13_1 p177 q177
        cases e177
        replace hx177_0 := (HB.out.cell (World.block_lt_of_cell? w _ hx177_0)).trans hx177_0
        replace hx177_1 := (HB.out.cell (World.block_lt_of_cell? w _ hx177_1)).trans hx177_1
        replace hx177_2 := (HB.out.cell (World.block_lt_of_cell? w _ hx177_2)).trans hx177_2
        replace hx177_3 := (HB.out.cell (World.block_lt_of_cell? w _ hx177_3)).trans hx177_3
        replace hx177_4 := (HB.out.cell (World.block_lt_of_cell? w _ hx177_4)).trans hx177_4
        replace hx177_5 := (HB.out.cell (World.block_lt_of_cell? w _ hx177_5)).trans hx177_5
        replace hx177_6 := (HB.out.cell (World.block_lt_of_cell? w _ hx177_6)).trans hx177_6
        have HR177_2 := Aside0.mk hi177_2
        have HC177_2 := Aside0.mk hl177_2
        clear hi177_2 hl177_2
        have HR177_4 := Aside0.mk hi177_4
        have HC177_4 := Aside0.mk hl177_4
        clear hi177_4 hl177_4
        replace p177 := eq_true p177
        replace q177 := eq_true q177
        go_wp2_with (first | ((with_reducible refine gate_dst (N := 7) rfl ?_); refine box_event ?hg (N := 7) ?hd (cs := #[.int .i64 0, .string (⟨#[]⟩ : ByteArray), .slice none 0 0, .int .i64 0, .slice none 0 0, .int .i64 0, .int .u8 0]) (t := 72) ?hr ?_; (case hd => rfl); (case hg => rfl); (case hr => first | (go_simp; done) | (go_simp; rfl)); intro gb178 hg w12 hbox hb; have n0_ := Aside0.mk (Kd.N_below (Kd.N_elderB (by (with_reducible repeat (first | apply Kd.N_alloc | apply Kd.N_drewN | apply Kd.N_drew)); exact HO_0.out) gb178 (Nat.le_of_eq hg.symm)) hb); have n1_ := Aside0.mk (below_step (by repeat (first | (with_reducible first | exact HB.out | apply below_alloc | apply pw_below_drewN | apply below_drew1) | exact HB.out)) hb); have n2_ := Aside0.mk (hbox); have n3_ := Aside0.mk ((by rw [hg]; exact (below_size (by repeat (first | (with_reducible first | exact HB.out | apply below_alloc | apply pw_below_drewN | apply below_drew1) | exact HB.out))) : w.heap.size ≤ gb178)); have n4_ := Aside0.mk ((by rw [hg]; exact (below_size (by repeat (first | (with_reducible first | exact HB.out | apply below_alloc | apply pw_below_drewN | apply below_drew1) | exact HB.out))) : w.heap.size ≤ gb178)); clear HO_0; clear HB; have HO_0 := n0_; have HB := n1_; have BK178 := n2_; have GW178 := n3_; have GE178 := n4_; clear n0_ n1_ n2_ n3_ n4_; clear hb hbox hg; have hcz13_0 : w12.cell? ⟨gb178, 0, none⟩ = some (.int .i64 0) := (blk_cell BK178.out 0).trans rfl; have hcz13_1 : w12.cell? ⟨gb178, 1, none⟩ = some (.string (⟨#[]⟩ : ByteArray)) := (blk_cell BK178.out 1).trans rfl; have hcz13_2 : w12.cell? ⟨gb178, 2, none⟩ = some (.slice none 0 0) := (blk_cell BK178.out 2).trans rfl; have hcz13_3 : w12.cell? ⟨gb178, 3, none⟩ = some (.int .i64 0) := (blk_cell BK178.out 3).trans rfl; have hcz13_4 : w12.cell? ⟨gb178, 4, none⟩ = some (.slice none 0 0) := (blk_cell BK178.out 4).trans rfl; have hcz13_5 : w12.cell? ⟨gb178, 5, none⟩ = some (.int .i64 0) := (blk_cell BK178.out 5).trans rfl; have hcz13_6 : w12.cell? ⟨gb178, 6, none⟩ = some (.int .u8 0) := (blk_cell BK178.out 6).trans rfl; have hfz13_0 := blk_frozen BK178.out 0; have hfz13_1 := blk_frozen BK178.out 1; have hfz13_2 := blk_frozen BK178.out 2; have hfz13_3 := blk_frozen BK178.out 3; have hfz13_4 := blk_frozen BK178.out 4; have hfz13_5 := blk_frozen BK178.out 5; have hfz13_6 := blk_frozen BK178.out 6; obtain ⟨Ao14, co14, eo14⟩ := Kd.N_slice HO_0.out; subst eo14) | ((with_reducible refine gate_callee (f := 60) rfl ?_); refine goesL_ (some 19) rfl rfl Tryd.func60 (by kernel_rfl) rfl #[.slice Ao14 x0_1.length co14, .agg #[.int .i64 ((rd_T72 l1 x13_1).f0), .string ((rd_T72 l1 x13_1).f1), .slice A177_2 ((rd_T72 l1 x13_1).f2).length c177_2, .int .i64 ((rd_T72 l1 x13_1).f3), .slice A177_4 ((rd_T72 l1 x13_1).f4.f0).length c177_4, .int .i64 ((rd_T72 l1 x13_1).f4.f1), .int .u8 ((rd_T72 l1 x13_1).f4.f2)]] rfl (by (try simp only [List.map_toArray, List.map_cons, List.map_nil]); first | done | rfl | (simp only [List.length_drop, List.length_take]; rfl)) ?_; (with_reducible refine (plan_refused.calls k1 _ _ x0_1 ((rd_T72 l1 x13_1).f0) ((rd_T72 l1 x13_1).f1) _ _ ((rd_T72 l1 x13_1).f2) ((rd_T72 l1 x13_1).f3) _ _ ((rd_T72 l1 x13_1).f4.f0) ((rd_T72 l1 x13_1).f4.f1) ((rd_T72 l1 x13_1).f4.f2) t179 _ ?side1 ?side2 ?side3 ?side4 ?side5 ?side6 A8.out).mono ?_); (case side1 => refine (Kd.N_reads' (e := 45) (base := w.heap.size) (ok := fun k_ => (((P0_ k_ ∨ w.heap.size ≤ k_)) ∧ k_ ≠ gb178)) (n := x0_1.length) (c := co14) ?_).2.2; exact (by (with_reducible repeat (first | apply Kd.N_alloc | apply Kd.N_drewN | apply Kd.N_drew)); exact (Kd.N_mono (Kd.N_far (p := ⟨gb178, 6, none⟩) (Kd.N_far (p := ⟨gb178, 5, none⟩) (Kd.N_far (p := ⟨gb178, 4, none⟩) (Kd.N_far (p := ⟨gb178, 3, none⟩) (Kd.N_far (p := ⟨gb178, 2, none⟩) (Kd.N_far (p := ⟨gb178, 1, none⟩) (Kd.N_far (p := ⟨gb178, 0, none⟩) (Kd.N_mono HO_0.out (fun k_ hk => (⟨hk, hk.2⟩ : _ ∧ k_ ≠ gb178))) (fun _ hk => hk.2) (.int .i64 ((rd_T72 l1 x13_1).f0))) (fun _ hk => hk.2) (.string ((rd_T72 l1 x13_1).f1))) (fun _ hk => hk.2) (.slice A177_2 ((rd_T72 l1 x13_1).f2).length c177_2)) (fun _ hk => hk.2) (.int .i64 ((rd_T72 l1 x13_1).f3))) (fun _ hk => hk.2) (.slice A177_4 ((rd_T72 l1 x13_1).f4.f0).length c177_4)) (fun _ hk => hk.2) (.int .i64 ((rd_T72 l1 x13_1).f4.f1))) (fun _ hk => hk.2) (.int .u8 ((rd_T72 l1 x13_1).f4.f2))) (fun _ h_ => h_.1)))); (case side2 => exact (Kd.N_reads' HO_0.out).2.1); (case side3 => exact Kd.C_below HR177_2.out (by repeat (first | (with_reducible first | exact HB.out | apply below_alloc | apply pw_below_drewN | apply below_drew1 | refine below_set ?_ GE178.out) | exact HB.out))); (case side4 => exact HC177_2.out); (case side5 => exact Kd.C_below HR177_4.out (by repeat (first | (with_reducible first | exact HB.out | apply below_alloc | apply pw_below_drewN | apply below_drew1 | refine below_set ?_ GE178.out) | exact HB.out))); (case side6 => exact HC177_4.out); rintro e w15 ⟨rfl, hb⟩; refine ⟨_, rfl, ?_⟩; have n0_ := Aside0.mk (Kd.N_below (by (with_reducible repeat (first | apply Kd.N_alloc | apply Kd.N_drewN | apply Kd.N_drew)); exact (Kd.N_mono (Kd.N_far (p := ⟨gb178, 6, none⟩) (Kd.N_far (p := ⟨gb178, 5, none⟩) (Kd.N_far (p := ⟨gb178, 4, none⟩) (Kd.N_far (p := ⟨gb178, 3, none⟩) (Kd.N_far (p := ⟨gb178, 2, none⟩) (Kd.N_far (p := ⟨gb178, 1, none⟩) (Kd.N_far (p := ⟨gb178, 0, none⟩) (Kd.N_mono HO_0.out (fun k_ hk => (⟨hk, hk.2⟩ : _ ∧ k_ ≠ gb178))) (fun _ hk => hk.2) (.int .i64 ((rd_T72 l1 x13_1).f0))) (fun _ hk => hk.2) (.string ((rd_T72 l1 x13_1).f1))) (fun _ hk => hk.2) (.slice A177_2 ((rd_T72 l1 x13_1).f2).length c177_2)) (fun _ hk => hk.2) (.int .i64 ((rd_T72 l1 x13_1).f3))) (fun _ hk => hk.2) (.slice A177_4 ((rd_T72 l1 x13_1).f4.f0).length c177_4)) (fun _ hk => hk.2) (.int .i64 ((rd_T72 l1 x13_1).f4.f1))) (fun _ hk => hk.2) (.int .u8 ((rd_T72 l1 x13_1).f4.f2))) (fun _ h_ => h_.1))) hb); have n1_ := Aside0.mk (blk_below (g := gb178) (o := .cells #[.int .i64 ((rd_T72 l1 x13_1).f0), .string ((rd_T72 l1 x13_1).f1), .slice A177_2 ((rd_T72 l1 x13_1).f2).length c177_2, .int .i64 ((rd_T72 l1 x13_1).f3), .slice A177_4 ((rd_T72 l1 x13_1).f4.f0).length c177_4, .int .i64 ((rd_T72 l1 x13_1).f4.f1), .int .u8 ((rd_T72 l1 x13_1).f4.f2)] 72 (0, 0)) (by (with_reducible repeat (first | refine blk_drewN ?_ _ | refine blk_drew ?_ | refine blk_alloc ?_ _)); refine blk_put (cs := #[.int .i64 ((rd_T72 l1 x13_1).f0), .string ((rd_T72 l1 x13_1).f1), .slice A177_2 ((rd_T72 l1 x13_1).f2).length c177_2, .int .i64 ((rd_T72 l1 x13_1).f3), .slice A177_4 ((rd_T72 l1 x13_1).f4.f0).length c177_4, .int .i64 ((rd_T72 l1 x13_1).f4.f1), .int .u8 0]) ?_ 6 _ rfl; (with_reducible repeat (first | refine blk_drewN ?_ _ | refine blk_drew ?_ | refine blk_alloc ?_ _)); refine blk_put (cs := #[.int .i64 ((rd_T72 l1 x13_1).f0), .string ((rd_T72 l1 x13_1).f1), .slice A177_2 ((rd_T72 l1 x13_1).f2).length c177_2, .int .i64 ((rd_T72 l1 x13_1).f3), .slice A177_4 ((rd_T72 l1 x13_1).f4.f0).length c177_4, .int .i64 0, .int .u8 0]) ?_ 5 _ rfl; (with_reducible repeat (first | refine blk_drewN ?_ _ | refine blk_drew ?_ | refine blk_alloc ?_ _)); refine blk_put (cs := #[.int .i64 ((rd_T72 l1 x13_1).f0), .string ((rd_T72 l1 x13_1).f1), .slice A177_2 ((rd_T72 l1 x13_1).f2).length c177_2, .int .i64 ((rd_T72 l1 x13_1).f3), .slice none 0 0, .int .i64 0, .int .u8 0]) ?_ 4 _ rfl; (with_reducible repeat (first | refine blk_drewN ?_ _ | refine blk_drew ?_ | refine blk_alloc ?_ _)); refine blk_put (cs := #[.int .i64 ((rd_T72 l1 x13_1).f0), .string ((rd_T72 l1 x13_1).f1), .slice A177_2 ((rd_T72 l1 x13_1).f2).length c177_2, .int .i64 0, .slice none 0 0, .int .i64 0, .int .u8 0]) ?_ 3 _ rfl; (with_reducible repeat (first | refine blk_drewN ?_ _ | refine blk_drew ?_ | refine blk_alloc ?_ _)); refine blk_put (cs := #[.int .i64 ((rd_T72 l1 x13_1).f0), .string ((rd_T72 l1 x13_1).f1), .slice none 0 0, .int .i64 0, .slice none 0 0, .int .i64 0, .int .u8 0]) ?_ 2 _ rfl; (with_reducible repeat (first | refine blk_drewN ?_ _ | refine blk_drew ?_ | refine blk_alloc ?_ _)); refine blk_put (cs := #[.int .i64 ((rd_T72 l1 x13_1).f0), .string (⟨#[]⟩ : ByteArray), .slice none 0 0, .int .i64 0, .slice none 0 0, .int .i64 0, .int .u8 0]) ?_ 1 _ rfl; (with_reducible repeat (first | refine blk_drewN ?_ _ | refine blk_drew ?_ | refine blk_alloc ?_ _)); refine blk_put (cs := #[.int .i64 0, .string (⟨#[]⟩ : ByteArray), .slice none 0 0, .int .i64 0, .slice none 0 0, .int .i64 0, .int .u8 0]) ?_ 0 _ rfl; (with_reducible repeat (first | refine blk_drewN ?_ _ | refine blk_drew ?_ | refine blk_alloc ?_ _)); exact BK178.out) hb); have n2_ := Aside0.mk (below_step (by repeat (first | (with_reducible first | exact HB.out | apply below_alloc | apply pw_below_drewN | apply below_drew1 | refine below_set ?_ GE178.out) | exact HB.out)) hb); clear HO_0; clear BK178; clear HB; have HO_0 := n0_; have BK178 := n1_; have HB := n2_; clear n0_ n1_ n2_; (try clear hb); (try clear hb2); (try clear hk); (try clear hi); have hcz16_0 : w15.cell? ⟨gb178, 0, none⟩ = some (.int .i64 ((rd_T72 l1 x13_1).f0)) := (blk_cell BK178.out 0).trans rfl; have hcz16_1 : w15.cell? ⟨gb178, 1, none⟩ = some (.string ((rd_T72 l1 x13_1).f1)) := (blk_cell BK178.out 1).trans rfl; have hcz16_2 : w15.cell? ⟨gb178, 2, none⟩ = some (.slice A177_2 ((rd_T72 l1 x13_1).f2).length c177_2) := (blk_cell BK178.out 2).trans rfl; have hcz16_3 : w15.cell? ⟨gb178, 3, none⟩ = some (.int .i64 ((rd_T72 l1 x13_1).f3)) := (blk_cell BK178.out 3).trans rfl; have hcz16_4 : w15.cell? ⟨gb178, 4, none⟩ = some (.slice A177_4 ((rd_T72 l1 x13_1).f4.f0).length c177_4) := (blk_cell BK178.out 4).trans rfl; have hcz16_5 : w15.cell? ⟨gb178, 5, none⟩ = some (.int .i64 ((rd_T72 l1 x13_1).f4.f1)) := (blk_cell BK178.out 5).trans rfl; have hcz16_6 : w15.cell? ⟨gb178, 6, none⟩ = some (.int .u8 ((rd_T72 l1 x13_1).f4.f2)) := (blk_cell BK178.out 6).trans rfl; have hfz16_0 := blk_frozen BK178.out 0; have hfz16_1 := blk_frozen BK178.out 1; have hfz16_2 := blk_frozen BK178.out 2; have hfz16_3 := blk_frozen BK178.out 3; have hfz16_4 := blk_frozen BK178.out 4; have hfz16_5 := blk_frozen BK178.out 5; have hfz16_6 := blk_frozen BK178.out 6) | ((with_reducible refine gate_callee (f := 61) rfl ?_); refine goesL_ (some 31) rfl rfl Tryd.func61 (by kernel_rfl) rfl #[.slice Ao14 x0_1.length co14, .string ((rd_T72 l1 x13_1).f1), .slice A177_2 ((rd_T72 l1 x13_1).f2).length c177_2] rfl (by (try simp only [List.map_toArray, List.map_cons, List.map_nil]); first | done | rfl | (simp only [List.length_drop, List.length_take]; rfl)) ?_; (with_reducible refine (model_With.calls _ _ x0_1 ((rd_T72 l1 x13_1).f1) _ _ ((rd_T72 l1 x13_1).f2) t180 _ ?side1 ?side2 ?side3 ?side4 A11.out).mono ?_); (case side1 => repeat (first | exact (Kd.N_reads' HO_0.out).2.2 | (with_reducible refine Kd.C_alloc ?_ _) | (with_reducible refine Kd.C_drewN ?_ _) | (with_reducible refine Kd.C_drew ?_))); (case side2 => exact (Kd.N_reads' HO_0.out).2.1); (case side3 => repeat (first | exact (Kd.C_below HR177_2.out HB.out) | (with_reducible refine Kd.C_alloc ?_ _) | (with_reducible refine Kd.C_drewN ?_ _) | (with_reducible refine Kd.C_drew ?_))); (case side4 => exact HC177_2.out); rintro e w17 ⟨v181, rfl, ho0, hb⟩; refine ⟨_, rfl, ?_⟩; have n0_ := Aside0.mk (Kd.N_elder' (by (with_reducible repeat (first | apply Kd.N_alloc | apply Kd.N_drewN | apply Kd.N_drew)); exact HO_0.out) (Kd.N_base ho0) hb); have n1_ := Aside0.mk (Kd.N_lower (Kd.N_mono (ok' := fun k_ => (P0_ k_ ∨ w.heap.size ≤ k_) ∧ some k_ ≠ (.slice Ao14 x0_1.length co14 : Value).ownBlock ∧ k_ ≠ gb178) ho0 (fun k_ hk_ => ⟨(.inr (Nat.le_trans (below_size (by repeat (first | (with_reducible first | exact HB.out | apply below_alloc | apply pw_below_drewN | apply below_drew1 | refine below_set ?_ GE178.out) | exact HB.out))) hk_)), (Kd.fresh' (Kd.N_lt (by (with_reducible repeat (first | apply Kd.N_alloc | apply Kd.N_drewN | apply Kd.N_drew)); exact HO_0.out)) k_ hk_), (Kd.freshB (g := gb178) (o := .cells #[.int .i64 ((rd_T72 l1 x13_1).f0), .string ((rd_T72 l1 x13_1).f1), .slice A177_2 ((rd_T72 l1 x13_1).f2).length c177_2, .int .i64 ((rd_T72 l1 x13_1).f3), .slice A177_4 ((rd_T72 l1 x13_1).f4.f0).length c177_4, .int .i64 ((rd_T72 l1 x13_1).f4.f1), .int .u8 ((rd_T72 l1 x13_1).f4.f2)] 72 (0, 0)) (by (with_reducible repeat (first | refine blk_drewN ?_ _ | refine blk_drew ?_ | refine blk_alloc ?_ _)); exact BK178.out) k_ hk_)⟩)) (below_size (by repeat (first | (with_reducible first | exact HB.out | apply below_alloc | apply pw_below_drewN | apply below_drew1 | refine below_set ?_ GE178.out) | exact HB.out)))); have n2_ := Aside0.mk (blk_below (g := gb178) (o := .cells #[.int .i64 ((rd_T72 l1 x13_1).f0), .string ((rd_T72 l1 x13_1).f1), .slice A177_2 ((rd_T72 l1 x13_1).f2).length c177_2, .int .i64 ((rd_T72 l1 x13_1).f3), .slice A177_4 ((rd_T72 l1 x13_1).f4.f0).length c177_4, .int .i64 ((rd_T72 l1 x13_1).f4.f1), .int .u8 ((rd_T72 l1 x13_1).f4.f2)] 72 (0, 0)) (by (with_reducible repeat (first | refine blk_drewN ?_ _ | refine blk_drew ?_ | refine blk_alloc ?_ _)); exact BK178.out) hb); have n3_ := Aside0.mk (below_step (by repeat (first | (with_reducible first | exact HB.out | apply below_alloc | apply pw_below_drewN | apply below_drew1 | refine below_set ?_ GE178.out) | exact HB.out)) hb); clear HO_0; clear BK178; clear HB; have HO_0 := n0_; have HO182 := n1_; have BK178 := n2_; have HB := n3_; clear n0_ n1_ n2_ n3_; (try clear hb); (try clear hb2); (try clear hk); (try clear hi); (try clear ho0)))
        go_roundg k1
        case measure => have := HK1.out; omega
        case rel => exact ⟨(t180), (wrap64 (x13_1 + 1)), (by first | rfl | (simp only [YtcfcbkcaondfcaaDoorMpHelp.leq_not, YtcfcbkcaondfcaaDoorMpHelp.gtr_less]; done) | (simp; done) | (simp [*]; done)), H', ⟨by have := HK1.out; omega⟩, ⟨by (with_reducible repeat (first | apply Kd.N_alloc | apply Kd.N_drewN | apply Kd.N_drew)); exact Kd.N_mono HO182.out (fun _ hk => hk.1)⟩, ⟨by repeat (first | (with_reducible first | exact HB.out | apply below_alloc | apply pw_below_drewN | apply below_drew1 | refine below_set ?_ GE178.out) | exact HB.out)⟩⟩
       ·rw [if_neg c10] at H
        have c10b0 : (((rd_T72 l1 x13_1).f0) == 3) = false := beq_eq_false_iff_ne.mpr c10
        have c10b1 : (((rd_T72 l1 x13_1).f0) != 3) = true := bne_iff_ne.mpr c10
        replace H := Option.bind_eq_some_iff.mp H
        obtain ⟨t183, A180, H⟩ := H
        replace H : (plan_Apply.l0 k1 t183 l1 (l1.length : Int) (wrap64 (x13_1 + 1))) = some (r1, r2) := H
        have A18 := Aside0.mk A180
        clear A180
        have H' := Aside0.mk H
        clear H
        have p177 : 0 ≤ (x13_1 : Int) := of_decide_eq_true (by first | (with_reducible assumption) | assumption)
        have q177 : x13_1 < (l1.length : Int) := of_decide_eq_true (by first | (with_reducible assumption) | assumption)
        obtain ⟨ad177, A177_2, c177_2, A177_4, c177_4, e177, hx177_0, hx177_1, hx177_2, hx177_3, hx177_4, hx177_5, hx177_6, hl177_2, hi177_2, hl177_4, hi177_4⟩ := at_T72 HR1.out x13_1 p177 q177
        cases e177
        replace hx177_0 := (HB.out.cell (World.block_lt_of_cell? w _ hx177_0)).trans hx177_0
        replace hx177_1 := (HB.out.cell (World.block_lt_of_cell? w _ hx177_1)).trans hx177_1
        replace hx177_2 := (HB.out.cell (World.block_lt_of_cell? w _ hx177_2)).trans hx177_2
        replace hx177_3 := (HB.out.cell (World.block_lt_of_cell? w _ hx177_3)).trans hx177_3
        replace hx177_4 := (HB.out.cell (World.block_lt_of_cell? w _ hx177_4)).trans hx177_4
        replace hx177_5 := (HB.out.cell (World.block_lt_of_cell? w _ hx177_5)).trans hx177_5
        replace hx177_6 := (HB.out.cell (World.block_lt_of_cell? w _ hx177_6)).trans hx177_6
        have HR177_2 := Aside0.mk hi177_2
        have HC177_2 := Aside0.mk hl177_2
        clear hi177_2 hl177_2
        have HR177_4 := Aside0.mk hi177_4
        have HC177_4 := Aside0.mk hl177_4
        clear hi177_4 hl177_4
        replace p177 := eq_true p177
        replace q177 := eq_true q177
        go_wp2_with (first | ((with_reducible refine gate_dst (N := 7) rfl ?_); refine box_event ?hg (N := 7) ?hd (cs := #[.int .i64 0, .string (⟨#[]⟩ : ByteArray), .slice none 0 0, .int .i64 0, .slice none 0 0, .int .i64 0, .int .u8 0]) (t := 72) ?hr ?_; (case hd => rfl); (case hg => rfl); (case hr => first | (go_simp; done) | (go_simp; rfl)); intro gb178 hg w19 hbox hb; have n0_ := Aside0.mk (Kd.N_below (Kd.N_elderB (by (with_reducible repeat (first | apply Kd.N_alloc | apply Kd.N_drewN | apply Kd.N_drew)); exact HO_0.out) gb178 (Nat.le_of_eq hg.symm)) hb); have n1_ := Aside0.mk (below_step (by repeat (first | (with_reducible first | exact HB.out | apply below_alloc | apply pw_below_drewN | apply below_drew1) | exact HB.out)) hb); have n2_ := Aside0.mk (hbox); have n3_ := Aside0.mk ((by rw [hg]; exact (below_size (by repeat (first | (with_reducible first | exact HB.out | apply below_alloc | apply pw_below_drewN | apply below_drew1) | exact HB.out))) : w.heap.size ≤ gb178)); have n4_ := Aside0.mk ((by rw [hg]; exact (below_size (by repeat (first | (with_reducible first | exact HB.out | apply below_alloc | apply pw_below_drewN | apply below_drew1) | exact HB.out))) : w.heap.size ≤ gb178)); clear HO_0; clear HB; have HO_0 := n0_; have HB := n1_; have BK178 := n2_; have GW178 := n3_; have GE178 := n4_; clear n0_ n1_ n2_ n3_ n4_; clear hb hbox hg; have hcz20_0 : w19.cell? ⟨gb178, 0, none⟩ = some (.int .i64 0) := (blk_cell BK178.out 0).trans rfl; have hcz20_1 : w19.cell? ⟨gb178, 1, none⟩ = some (.string (⟨#[]⟩ : ByteArray)) := (blk_cell BK178.out 1).trans rfl; have hcz20_2 : w19.cell? ⟨gb178, 2, none⟩ = some (.slice none 0 0) := (blk_cell BK178.out 2).trans rfl; have hcz20_3 : w19.cell? ⟨gb178, 3, none⟩ = some (.int .i64 0) := (blk_cell BK178.out 3).trans rfl; have hcz20_4 : w19.cell? ⟨gb178, 4, none⟩ = some (.slice none 0 0) := (blk_cell BK178.out 4).trans rfl; have hcz20_5 : w19.cell? ⟨gb178, 5, none⟩ = some (.int .i64 0) := (blk_cell BK178.out 5).trans rfl; have hcz20_6 : w19.cell? ⟨gb178, 6, none⟩ = some (.int .u8 0) := (blk_cell BK178.out 6).trans rfl; have hfz20_0 := blk_frozen BK178.out 0; have hfz20_1 := blk_frozen BK178.out 1; have hfz20_2 := blk_frozen BK178.out 2; have hfz20_3 := blk_frozen BK178.out 3; have hfz20_4 := blk_frozen BK178.out 4; have hfz20_5 := blk_frozen BK178.out 5; have hfz20_6 := blk_frozen BK178.out 6; obtain ⟨Ao21, co21, eo21⟩ := Kd.N_slice HO_0.out; subst eo21) | ((with_reducible refine gate_callee (f := 60) rfl ?_); refine goesL_ (some 19) rfl rfl Tryd.func60 (by kernel_rfl) rfl #[.slice Ao21 x0_1.length co21, .agg #[.int .i64 ((rd_T72 l1 x13_1).f0), .string ((rd_T72 l1 x13_1).f1), .slice A177_2 ((rd_T72 l1 x13_1).f2).length c177_2, .int .i64 ((rd_T72 l1 x13_1).f3), .slice A177_4 ((rd_T72 l1 x13_1).f4.f0).length c177_4, .int .i64 ((rd_T72 l1 x13_1).f4.f1), .int .u8 ((rd_T72 l1 x13_1).f4.f2)]] rfl (by (try simp only [List.map_toArray, List.map_cons, List.map_nil]); first | done | rfl | (simp only [List.length_drop, List.length_take]; rfl)) ?_; (with_reducible refine (plan_refused.calls k1 _ _ x0_1 ((rd_T72 l1 x13_1).f0) ((rd_T72 l1 x13_1).f1) _ _ ((rd_T72 l1 x13_1).f2) ((rd_T72 l1 x13_1).f3) _ _ ((rd_T72 l1 x13_1).f4.f0) ((rd_T72 l1 x13_1).f4.f1) ((rd_T72 l1 x13_1).f4.f2) t179 _ ?side1 ?side2 ?side3 ?side4 ?side5 ?side6 A8.out).mono ?_); (case side1 => refine (Kd.N_reads' (e := 45) (base := w.heap.size) (ok := fun k_ => (((P0_ k_ ∨ w.heap.size ≤ k_)) ∧ k_ ≠ gb178)) (n := x0_1.length) (c := co21) ?_).2.2; exact (by (with_reducible repeat (first | apply Kd.N_alloc | apply Kd.N_drewN | apply Kd.N_drew)); exact (Kd.N_mono (Kd.N_far (p := ⟨gb178, 6, none⟩) (Kd.N_far (p := ⟨gb178, 5, none⟩) (Kd.N_far (p := ⟨gb178, 4, none⟩) (Kd.N_far (p := ⟨gb178, 3, none⟩) (Kd.N_far (p := ⟨gb178, 2, none⟩) (Kd.N_far (p := ⟨gb178, 1, none⟩) (Kd.N_far (p := ⟨gb178, 0, none⟩) (Kd.N_mono HO_0.out (fun k_ hk => (⟨hk, hk.2⟩ : _ ∧ k_ ≠ gb178))) (fun _ hk => hk.2) (.int .i64 ((rd_T72 l1 x13_1).f0))) (fun _ hk => hk.2) (.string ((rd_T72 l1 x13_1).f1))) (fun _ hk => hk.2) (.slice A177_2 ((rd_T72 l1 x13_1).f2).length c177_2)) (fun _ hk => hk.2) (.int .i64 ((rd_T72 l1 x13_1).f3))) (fun _ hk => hk.2) (.slice A177_4 ((rd_T72 l1 x13_1).f4.f0).length c177_4)) (fun _ hk => hk.2) (.int .i64 ((rd_T72 l1 x13_1).f4.f1))) (fun _ hk => hk.2) (.int .u8 ((rd_T72 l1 x13_1).f4.f2))) (fun _ h_ => h_.1)))); (case side2 => exact (Kd.N_reads' HO_0.out).2.1); (case side3 => exact Kd.C_below HR177_2.out (by repeat (first | (with_reducible first | exact HB.out | apply below_alloc | apply pw_below_drewN | apply below_drew1 | refine below_set ?_ GE178.out) | exact HB.out))); (case side4 => exact HC177_2.out); (case side5 => exact Kd.C_below HR177_4.out (by repeat (first | (with_reducible first | exact HB.out | apply below_alloc | apply pw_below_drewN | apply below_drew1 | refine below_set ?_ GE178.out) | exact HB.out))); (case side6 => exact HC177_4.out); rintro e w22 ⟨rfl, hb⟩; refine ⟨_, rfl, ?_⟩; have n0_ := Aside0.mk (Kd.N_below (by (with_reducible repeat (first | apply Kd.N_alloc | apply Kd.N_drewN | apply Kd.N_drew)); exact (Kd.N_mono (Kd.N_far (p := ⟨gb178, 6, none⟩) (Kd.N_far (p := ⟨gb178, 5, none⟩) (Kd.N_far (p := ⟨gb178, 4, none⟩) (Kd.N_far (p := ⟨gb178, 3, none⟩) (Kd.N_far (p := ⟨gb178, 2, none⟩) (Kd.N_far (p := ⟨gb178, 1, none⟩) (Kd.N_far (p := ⟨gb178, 0, none⟩) (Kd.N_mono HO_0.out (fun k_ hk => (⟨hk, hk.2⟩ : _ ∧ k_ ≠ gb178))) (fun _ hk => hk.2) (.int .i64 ((rd_T72 l1 x13_1).f0))) (fun _ hk => hk.2) (.string ((rd_T72 l1 x13_1).f1))) (fun _ hk => hk.2) (.slice A177_2 ((rd_T72 l1 x13_1).f2).length c177_2)) (fun _ hk => hk.2) (.int .i64 ((rd_T72 l1 x13_1).f3))) (fun _ hk => hk.2) (.slice A177_4 ((rd_T72 l1 x13_1).f4.f0).length c177_4)) (fun _ hk => hk.2) (.int .i64 ((rd_T72 l1 x13_1).f4.f1))) (fun _ hk => hk.2) (.int .u8 ((rd_T72 l1 x13_1).f4.f2))) (fun _ h_ => h_.1))) hb); have n1_ := Aside0.mk (blk_below (g := gb178) (o := .cells #[.int .i64 ((rd_T72 l1 x13_1).f0), .string ((rd_T72 l1 x13_1).f1), .slice A177_2 ((rd_T72 l1 x13_1).f2).length c177_2, .int .i64 ((rd_T72 l1 x13_1).f3), .slice A177_4 ((rd_T72 l1 x13_1).f4.f0).length c177_4, .int .i64 ((rd_T72 l1 x13_1).f4.f1), .int .u8 ((rd_T72 l1 x13_1).f4.f2)] 72 (0, 0)) (by (with_reducible repeat (first | refine blk_drewN ?_ _ | refine blk_drew ?_ | refine blk_alloc ?_ _)); refine blk_put (cs := #[.int .i64 ((rd_T72 l1 x13_1).f0), .string ((rd_T72 l1 x13_1).f1), .slice A177_2 ((rd_T72 l1 x13_1).f2).length c177_2, .int .i64 ((rd_T72 l1 x13_1).f3), .slice A177_4 ((rd_T72 l1 x13_1).f4.f0).length c177_4, .int .i64 ((rd_T72 l1 x13_1).f4.f1), .int .u8 0]) ?_ 6 _ rfl; (with_reducible repeat (first | refine blk_drewN ?_ _ | refine blk_drew ?_ | refine blk_alloc ?_ _)); refine blk_put (cs := #[.int .i64 ((rd_T72 l1 x13_1).f0), .string ((rd_T72 l1 x13_1).f1), .slice A177_2 ((rd_T72 l1 x13_1).f2).length c177_2, .int .i64 ((rd_T72 l1 x13_1).f3), .slice A177_4 ((rd_T72 l1 x13_1).f4.f0).length c177_4, .int .i64 0, .int .u8 0]) ?_ 5 _ rfl; (with_reducible repeat (first | refine blk_drewN ?_ _ | refine blk_drew ?_ | refine blk_alloc ?_ _)); refine blk_put (cs := #[.int .i64 ((rd_T72 l1 x13_1).f0), .string ((rd_T72 l1 x13_1).f1), .slice A177_2 ((rd_T72 l1 x13_1).f2).length c177_2, .int .i64 ((rd_T72 l1 x13_1).f3), .slice none 0 0, .int .i64 0, .int .u8 0]) ?_ 4 _ rfl; (with_reducible repeat (first | refine blk_drewN ?_ _ | refine blk_drew ?_ | refine blk_alloc ?_ _)); refine blk_put (cs := #[.int .i64 ((rd_T72 l1 x13_1).f0), .string ((rd_T72 l1 x13_1).f1), .slice A177_2 ((rd_T72 l1 x13_1).f2).length c177_2, .int .i64 0, .slice none 0 0, .int .i64 0, .int .u8 0]) ?_ 3 _ rfl; (with_reducible repeat (first | refine blk_drewN ?_ _ | refine blk_drew ?_ | refine blk_alloc ?_ _)); refine blk_put (cs := #[.int .i64 ((rd_T72 l1 x13_1).f0), .string ((rd_T72 l1 x13_1).f1), .slice none 0 0, .int .i64 0, .slice none 0 0, .int .i64 0, .int .u8 0]) ?_ 2 _ rfl; (with_reducible repeat (first | refine blk_drewN ?_ _ | refine blk_drew ?_ | refine blk_alloc ?_ _)); refine blk_put (cs := #[.int .i64 ((rd_T72 l1 x13_1).f0), .string (⟨#[]⟩ : ByteArray), .slice none 0 0, .int .i64 0, .slice none 0 0, .int .i64 0, .int .u8 0]) ?_ 1 _ rfl; (with_reducible repeat (first | refine blk_drewN ?_ _ | refine blk_drew ?_ | refine blk_alloc ?_ _)); refine blk_put (cs := #[.int .i64 0, .string (⟨#[]⟩ : ByteArray), .slice none 0 0, .int .i64 0, .slice none 0 0, .int .i64 0, .int .u8 0]) ?_ 0 _ rfl; (with_reducible repeat (first | refine blk_drewN ?_ _ | refine blk_drew ?_ | refine blk_alloc ?_ _)); exact BK178.out) hb); have n2_ := Aside0.mk (below_step (by repeat (first | (with_reducible first | exact HB.out | apply below_alloc | apply pw_below_drewN | apply below_drew1 | refine below_set ?_ GE178.out) | exact HB.out)) hb); clear HO_0; clear BK178; clear HB; have HO_0 := n0_; have BK178 := n1_; have HB := n2_; clear n0_ n1_ n2_; (try clear hb); (try clear hb2); (try clear hk); (try clear hi); have hcz23_0 : w22.cell? ⟨gb178, 0, none⟩ = some (.int .i64 ((rd_T72 l1 x13_1).f0)) := (blk_cell BK178.out 0).trans rfl; have hcz23_1 : w22.cell? ⟨gb178, 1, none⟩ = some (.string ((rd_T72 l1 x13_1).f1)) := (blk_cell BK178.out 1).trans rfl; have hcz23_2 : w22.cell? ⟨gb178, 2, none⟩ = some (.slice A177_2 ((rd_T72 l1 x13_1).f2).length c177_2) := (blk_cell BK178.out 2).trans rfl; have hcz23_3 : w22.cell? ⟨gb178, 3, none⟩ = some (.int .i64 ((rd_T72 l1 x13_1).f3)) := (blk_cell BK178.out 3).trans rfl; have hcz23_4 : w22.cell? ⟨gb178, 4, none⟩ = some (.slice A177_4 ((rd_T72 l1 x13_1).f4.f0).length c177_4) := (blk_cell BK178.out 4).trans rfl; have hcz23_5 : w22.cell? ⟨gb178, 5, none⟩ = some (.int .i64 ((rd_T72 l1 x13_1).f4.f1)) := (blk_cell BK178.out 5).trans rfl; have hcz23_6 : w22.cell? ⟨gb178, 6, none⟩ = some (.int .u8 ((rd_T72 l1 x13_1).f4.f2)) := (blk_cell BK178.out 6).trans rfl; have hfz23_0 := blk_frozen BK178.out 0; have hfz23_1 := blk_frozen BK178.out 1; have hfz23_2 := blk_frozen BK178.out 2; have hfz23_3 := blk_frozen BK178.out 3; have hfz23_4 := blk_frozen BK178.out 4; have hfz23_5 := blk_frozen BK178.out 5; have hfz23_6 := blk_frozen BK178.out 6) | ((with_reducible refine gate_callee (f := 62) rfl ?_); refine goesL_ (some 35) rfl rfl Tryd.func62 (by kernel_rfl) rfl #[.slice Ao21 x0_1.length co21, .string ((rd_T72 l1 x13_1).f1)] rfl (by (try simp only [List.map_toArray, List.map_cons, List.map_nil]); first | done | rfl | (simp only [List.length_drop, List.length_take]; rfl)) ?_; (with_reducible refine (model_Without.calls _ _ x0_1 ((rd_T72 l1 x13_1).f1) t183 _ ?side1 ?side2 A18.out).mono ?_); (case side1 => repeat (first | exact (Kd.N_reads' HO_0.out).2.2 | (with_reducible refine Kd.C_alloc ?_ _) | (with_reducible refine Kd.C_drewN ?_ _) | (with_reducible refine Kd.C_drew ?_))); (case side2 => exact (Kd.N_reads' HO_0.out).2.1); rintro e w24 ⟨v184, rfl, ho0, hb⟩; refine ⟨_, rfl, ?_⟩; have n0_ := Aside0.mk (Kd.N_elder' (by (with_reducible repeat (first | apply Kd.N_alloc | apply Kd.N_drewN | apply Kd.N_drew)); exact HO_0.out) (Kd.N_base ho0) hb); have n1_ := Aside0.mk (Kd.N_lower (Kd.N_mono (ok' := fun k_ => (P0_ k_ ∨ w.heap.size ≤ k_) ∧ some k_ ≠ (.slice Ao21 x0_1.length co21 : Value).ownBlock ∧ k_ ≠ gb178) ho0 (fun k_ hk_ => ⟨(.inr (Nat.le_trans (below_size (by repeat (first | (with_reducible first | exact HB.out | apply below_alloc | apply pw_below_drewN | apply below_drew1 | refine below_set ?_ GE178.out) | exact HB.out))) hk_)), (Kd.fresh' (Kd.N_lt (by (with_reducible repeat (first | apply Kd.N_alloc | apply Kd.N_drewN | apply Kd.N_drew)); exact HO_0.out)) k_ hk_), (Kd.freshB (g := gb178) (o := .cells #[.int .i64 ((rd_T72 l1 x13_1).f0), .string ((rd_T72 l1 x13_1).f1), .slice A177_2 ((rd_T72 l1 x13_1).f2).length c177_2, .int .i64 ((rd_T72 l1 x13_1).f3), .slice A177_4 ((rd_T72 l1 x13_1).f4.f0).length c177_4, .int .i64 ((rd_T72 l1 x13_1).f4.f1), .int .u8 ((rd_T72 l1 x13_1).f4.f2)] 72 (0, 0)) (by (with_reducible repeat (first | refine blk_drewN ?_ _ | refine blk_drew ?_ | refine blk_alloc ?_ _)); exact BK178.out) k_ hk_)⟩)) (below_size (by repeat (first | (with_reducible first | exact HB.out | apply below_alloc | apply pw_below_drewN | apply below_drew1 | refine below_set ?_ GE178.out) | exact HB.out)))); have n2_ := Aside0.mk (blk_below (g := gb178) (o := .cells #[.int .i64 ((rd_T72 l1 x13_1).f0), .string ((rd_T72 l1 x13_1).f1), .slice A177_2 ((rd_T72 l1 x13_1).f2).length c177_2, .int .i64 ((rd_T72 l1 x13_1).f3), .slice A177_4 ((rd_T72 l1 x13_1).f4.f0).length c177_4, .int .i64 ((rd_T72 l1 x13_1).f4.f1), .int .u8 ((rd_T72 l1 x13_1).f4.f2)] 72 (0, 0)) (by (with_reducible repeat (first | refine blk_drewN ?_ _ | refine blk_drew ?_ | refine blk_alloc ?_ _)); exact BK178.out) hb); have n3_ := Aside0.mk (below_step (by repeat (first | (with_reducible first | exact HB.out | apply below_alloc | apply pw_below_drewN | apply below_drew1 | refine below_set ?_ GE178.out) | exact HB.out)) hb); clear HO_0; clear BK178; clear HB; have HO_0 := n0_; have HO185 := n1_; have BK178 := n2_; have HB := n3_; clear n0_ n1_ n2_ n3_; (try clear hb); (try clear hb2); (try clear hk); (try clear hi); (try clear ho0)))
        go_roundg k1
        case measure => have := HK1.out; omega
        case rel => exact ⟨(t183), (wrap64 (x13_1 + 1)), (by first | rfl | (simp only [YtcfcbkcaondfcaaDoorMpHelp.leq_not, YtcfcbkcaondfcaaDoorMpHelp.gtr_less]; done) | (simp; done) | (simp [*]; done)), H', ⟨by have := HK1.out; omega⟩, ⟨by (with_reducible repeat (first | apply Kd.N_alloc | apply Kd.N_drewN | apply Kd.N_drew)); exact Kd.N_mono HO185.out (fun _ hk => hk.1)⟩, ⟨by repeat (first | (with_reducible first | exact HB.out | apply below_alloc | apply pw_below_drewN | apply below_drew1 | refine below_set ?_ GE178.out) | exact HB.out)⟩⟩
      ·rw [if_neg c9] at H
       have c9b0 : (t179 == 0) = false := beq_eq_false_iff_ne.mpr c9
       have c9b1 : (t179 != 0) = true := bne_iff_ne.mpr c9
       simp only [Option.some.injEq, Prod.mk.injEq] at H
       obtain ⟨rfl, rfl⟩ := H
       have p177 : 0 ≤ (x13_1 : Int) := of_decide_eq_true (by first | (with_reducible assumption) | assumption)
       have q177 : x13_1 < (l1.length : Int) := of_decide_eq_true (by first | (with_reducible assumption) | assumption)
       obtain ⟨ad177, A177_2, c177_2, A177_4, c177_4, e177, hx177_0, hx177_1, hx177_2, hx177_3, hx177_4, hx177_5, hx177_6, hl177_2, hi177_2, hl177_4, hi177_4⟩ := at_T72 HR1.out x13_1 p177 q177
       cases e177
       replace hx177_0 := (HB.out.cell (World.block_lt_of_cell? w _ hx177_0)).trans hx177_0
       replace hx177_1 := (HB.out.cell (World.block_lt_of_cell? w _ hx177_1)).trans hx177_1
       replace hx177_2 := (HB.out.cell (World.block_lt_of_cell? w _ hx177_2)).trans hx177_2
       replace hx177_3 := (HB.out.cell (World.block_lt_of_cell? w _ hx177_3)).trans hx177_3
       replace hx177_4 := (HB.out.cell (World.block_lt_of_cell? w _ hx177_4)).trans hx177_4
       replace hx177_5 := (HB.out.cell (World.block_lt_of_cell? w _ hx177_5)).trans hx177_5
       replace hx177_6 := (HB.out.cell (World.block_lt_of_cell? w _ hx177_6)).trans hx177_6
       have HR177_2 := Aside0.mk hi177_2
       have HC177_2 := Aside0.mk hl177_2
       clear hi177_2 hl177_2
       have HR177_4 := Aside0.mk hi177_4
       have HC177_4 := Aside0.mk hl177_4
       clear hi177_4 hl177_4
       replace p177 := eq_true p177
       replace q177 := eq_true q177
       go_wp2_with (first | ((with_reducible refine gate_dst (N := 7) rfl ?_); refine box_event ?hg (N := 7) ?hd (cs := #[.int .i64 0, .string (⟨#[]⟩ : ByteArray), .slice none 0 0, .int .i64 0, .slice none 0 0, .int .i64 0, .int .u8 0]) (t := 72) ?hr ?_; (case hd => rfl); (case hg => rfl); (case hr => first | (go_simp; done) | (go_simp; rfl)); intro gb178 hg w25 hbox hb; have n0_ := Aside0.mk (Kd.N_below (Kd.N_elderB (by (with_reducible repeat (first | apply Kd.N_alloc | apply Kd.N_drewN | apply Kd.N_drew)); exact HO_0.out) gb178 (Nat.le_of_eq hg.symm)) hb); have n1_ := Aside0.mk (below_step (by repeat (first | (with_reducible first | exact HB.out | apply below_alloc | apply pw_below_drewN | apply below_drew1) | exact HB.out)) hb); have n2_ := Aside0.mk (hbox); have n3_ := Aside0.mk ((by rw [hg]; exact (below_size (by repeat (first | (with_reducible first | exact HB.out | apply below_alloc | apply pw_below_drewN | apply below_drew1) | exact HB.out))) : w.heap.size ≤ gb178)); have n4_ := Aside0.mk ((by rw [hg]; exact (below_size (by repeat (first | (with_reducible first | exact HB.out | apply below_alloc | apply pw_below_drewN | apply below_drew1) | exact HB.out))) : w.heap.size ≤ gb178)); clear HO_0; clear HB; have HO_0 := n0_; have HB := n1_; have BK178 := n2_; have GW178 := n3_; have GE178 := n4_; clear n0_ n1_ n2_ n3_ n4_; clear hb hbox hg; have hcz26_0 : w25.cell? ⟨gb178, 0, none⟩ = some (.int .i64 0) := (blk_cell BK178.out 0).trans rfl; have hcz26_1 : w25.cell? ⟨gb178, 1, none⟩ = some (.string (⟨#[]⟩ : ByteArray)) := (blk_cell BK178.out 1).trans rfl; have hcz26_2 : w25.cell? ⟨gb178, 2, none⟩ = some (.slice none 0 0) := (blk_cell BK178.out 2).trans rfl; have hcz26_3 : w25.cell? ⟨gb178, 3, none⟩ = some (.int .i64 0) := (blk_cell BK178.out 3).trans rfl; have hcz26_4 : w25.cell? ⟨gb178, 4, none⟩ = some (.slice none 0 0) := (blk_cell BK178.out 4).trans rfl; have hcz26_5 : w25.cell? ⟨gb178, 5, none⟩ = some (.int .i64 0) := (blk_cell BK178.out 5).trans rfl; have hcz26_6 : w25.cell? ⟨gb178, 6, none⟩ = some (.int .u8 0) := (blk_cell BK178.out 6).trans rfl; have hfz26_0 := blk_frozen BK178.out 0; have hfz26_1 := blk_frozen BK178.out 1; have hfz26_2 := blk_frozen BK178.out 2; have hfz26_3 := blk_frozen BK178.out 3; have hfz26_4 := blk_frozen BK178.out 4; have hfz26_5 := blk_frozen BK178.out 5; have hfz26_6 := blk_frozen BK178.out 6; obtain ⟨Ao27, co27, eo27⟩ := Kd.N_slice HO_0.out; subst eo27) | ((with_reducible refine gate_callee (f := 60) rfl ?_); refine goesL_ (some 19) rfl rfl Tryd.func60 (by kernel_rfl) rfl #[.slice Ao27 x0_1.length co27, .agg #[.int .i64 ((rd_T72 l1 x13_1).f0), .string ((rd_T72 l1 x13_1).f1), .slice A177_2 ((rd_T72 l1 x13_1).f2).length c177_2, .int .i64 ((rd_T72 l1 x13_1).f3), .slice A177_4 ((rd_T72 l1 x13_1).f4.f0).length c177_4, .int .i64 ((rd_T72 l1 x13_1).f4.f1), .int .u8 ((rd_T72 l1 x13_1).f4.f2)]] rfl (by (try simp only [List.map_toArray, List.map_cons, List.map_nil]); first | done | rfl | (simp only [List.length_drop, List.length_take]; rfl)) ?_; (with_reducible refine (plan_refused.calls k1 _ _ x0_1 ((rd_T72 l1 x13_1).f0) ((rd_T72 l1 x13_1).f1) _ _ ((rd_T72 l1 x13_1).f2) ((rd_T72 l1 x13_1).f3) _ _ ((rd_T72 l1 x13_1).f4.f0) ((rd_T72 l1 x13_1).f4.f1) ((rd_T72 l1 x13_1).f4.f2) t179 _ ?side1 ?side2 ?side3 ?side4 ?side5 ?side6 A8.out).mono ?_); (case side1 => refine (Kd.N_reads' (e := 45) (base := w.heap.size) (ok := fun k_ => (((P0_ k_ ∨ w.heap.size ≤ k_)) ∧ k_ ≠ gb178)) (n := x0_1.length) (c := co27) ?_).2.2; exact (by (with_reducible repeat (first | apply Kd.N_alloc | apply Kd.N_drewN | apply Kd.N_drew)); exact (Kd.N_mono (Kd.N_far (p := ⟨gb178, 6, none⟩) (Kd.N_far (p := ⟨gb178, 5, none⟩) (Kd.N_far (p := ⟨gb178, 4, none⟩) (Kd.N_far (p := ⟨gb178, 3, none⟩) (Kd.N_far (p := ⟨gb178, 2, none⟩) (Kd.N_far (p := ⟨gb178, 1, none⟩) (Kd.N_far (p := ⟨gb178, 0, none⟩) (Kd.N_mono HO_0.out (fun k_ hk => (⟨hk, hk.2⟩ : _ ∧ k_ ≠ gb178))) (fun _ hk => hk.2) (.int .i64 ((rd_T72 l1 x13_1).f0))) (fun _ hk => hk.2) (.string ((rd_T72 l1 x13_1).f1))) (fun _ hk => hk.2) (.slice A177_2 ((rd_T72 l1 x13_1).f2).length c177_2)) (fun _ hk => hk.2) (.int .i64 ((rd_T72 l1 x13_1).f3))) (fun _ hk => hk.2) (.slice A177_4 ((rd_T72 l1 x13_1).f4.f0).length c177_4)) (fun _ hk => hk.2) (.int .i64 ((rd_T72 l1 x13_1).f4.f1))) (fun _ hk => hk.2) (.int .u8 ((rd_T72 l1 x13_1).f4.f2))) (fun _ h_ => h_.1)))); (case side2 => exact (Kd.N_reads' HO_0.out).2.1); (case side3 => exact Kd.C_below HR177_2.out (by repeat (first | (with_reducible first | exact HB.out | apply below_alloc | apply pw_below_drewN | apply below_drew1 | refine below_set ?_ GE178.out) | exact HB.out))); (case side4 => exact HC177_2.out); (case side5 => exact Kd.C_below HR177_4.out (by repeat (first | (with_reducible first | exact HB.out | apply below_alloc | apply pw_below_drewN | apply below_drew1 | refine below_set ?_ GE178.out) | exact HB.out))); (case side6 => exact HC177_4.out); rintro e w28 ⟨rfl, hb⟩; refine ⟨_, rfl, ?_⟩; have n0_ := Aside0.mk (Kd.N_below (by (with_reducible repeat (first | apply Kd.N_alloc | apply Kd.N_drewN | apply Kd.N_drew)); exact (Kd.N_mono (Kd.N_far (p := ⟨gb178, 6, none⟩) (Kd.N_far (p := ⟨gb178, 5, none⟩) (Kd.N_far (p := ⟨gb178, 4, none⟩) (Kd.N_far (p := ⟨gb178, 3, none⟩) (Kd.N_far (p := ⟨gb178, 2, none⟩) (Kd.N_far (p := ⟨gb178, 1, none⟩) (Kd.N_far (p := ⟨gb178, 0, none⟩) (Kd.N_mono HO_0.out (fun k_ hk => (⟨hk, hk.2⟩ : _ ∧ k_ ≠ gb178))) (fun _ hk => hk.2) (.int .i64 ((rd_T72 l1 x13_1).f0))) (fun _ hk => hk.2) (.string ((rd_T72 l1 x13_1).f1))) (fun _ hk => hk.2) (.slice A177_2 ((rd_T72 l1 x13_1).f2).length c177_2)) (fun _ hk => hk.2) (.int .i64 ((rd_T72 l1 x13_1).f3))) (fun _ hk => hk.2) (.slice A177_4 ((rd_T72 l1 x13_1).f4.f0).length c177_4)) (fun _ hk => hk.2) (.int .i64 ((rd_T72 l1 x13_1).f4.f1))) (fun _ hk => hk.2) (.int .u8 ((rd_T72 l1 x13_1).f4.f2))) (fun _ h_ => h_.1))) hb); have n1_ := Aside0.mk (blk_below (g := gb178) (o := .cells #[.int .i64 ((rd_T72 l1 x13_1).f0), .string ((rd_T72 l1 x13_1).f1), .slice A177_2 ((rd_T72 l1 x13_1).f2).length c177_2, .int .i64 ((rd_T72 l1 x13_1).f3), .slice A177_4 ((rd_T72 l1 x13_1).f4.f0).length c177_4, .int .i64 ((rd_T72 l1 x13_1).f4.f1), .int .u8 ((rd_T72 l1 x13_1).f4.f2)] 72 (0, 0)) (by (with_reducible repeat (first | refine blk_drewN ?_ _ | refine blk_drew ?_ | refine blk_alloc ?_ _)); refine blk_put (cs := #[.int .i64 ((rd_T72 l1 x13_1).f0), .string ((rd_T72 l1 x13_1).f1), .slice A177_2 ((rd_T72 l1 x13_1).f2).length c177_2, .int .i64 ((rd_T72 l1 x13_1).f3), .slice A177_4 ((rd_T72 l1 x13_1).f4.f0).length c177_4, .int .i64 ((rd_T72 l1 x13_1).f4.f1), .int .u8 0]) ?_ 6 _ rfl; (with_reducible repeat (first | refine blk_drewN ?_ _ | refine blk_drew ?_ | refine blk_alloc ?_ _)); refine blk_put (cs := #[.int .i64 ((rd_T72 l1 x13_1).f0), .string ((rd_T72 l1 x13_1).f1), .slice A177_2 ((rd_T72 l1 x13_1).f2).length c177_2, .int .i64 ((rd_T72 l1 x13_1).f3), .slice A177_4 ((rd_T72 l1 x13_1).f4.f0).length c177_4, .int .i64 0, .int .u8 0]) ?_ 5 _ rfl; (with_reducible repeat (first | refine blk_drewN ?_ _ | refine blk_drew ?_ | refine blk_alloc ?_ _)); refine blk_put (cs := #[.int .i64 ((rd_T72 l1 x13_1).f0), .string ((rd_T72 l1 x13_1).f1), .slice A177_2 ((rd_T72 l1 x13_1).f2).length c177_2, .int .i64 ((rd_T72 l1 x13_1).f3), .slice none 0 0, .int .i64 0, .int .u8 0]) ?_ 4 _ rfl; (with_reducible repeat (first | refine blk_drewN ?_ _ | refine blk_drew ?_ | refine blk_alloc ?_ _)); refine blk_put (cs := #[.int .i64 ((rd_T72 l1 x13_1).f0), .string ((rd_T72 l1 x13_1).f1), .slice A177_2 ((rd_T72 l1 x13_1).f2).length c177_2, .int .i64 0, .slice none 0 0, .int .i64 0, .int .u8 0]) ?_ 3 _ rfl; (with_reducible repeat (first | refine blk_drewN ?_ _ | refine blk_drew ?_ | refine blk_alloc ?_ _)); refine blk_put (cs := #[.int .i64 ((rd_T72 l1 x13_1).f0), .string ((rd_T72 l1 x13_1).f1), .slice none 0 0, .int .i64 0, .slice none 0 0, .int .i64 0, .int .u8 0]) ?_ 2 _ rfl; (with_reducible repeat (first | refine blk_drewN ?_ _ | refine blk_drew ?_ | refine blk_alloc ?_ _)); refine blk_put (cs := #[.int .i64 ((rd_T72 l1 x13_1).f0), .string (⟨#[]⟩ : ByteArray), .slice none 0 0, .int .i64 0, .slice none 0 0, .int .i64 0, .int .u8 0]) ?_ 1 _ rfl; (with_reducible repeat (first | refine blk_drewN ?_ _ | refine blk_drew ?_ | refine blk_alloc ?_ _)); refine blk_put (cs := #[.int .i64 0, .string (⟨#[]⟩ : ByteArray), .slice none 0 0, .int .i64 0, .slice none 0 0, .int .i64 0, .int .u8 0]) ?_ 0 _ rfl; (with_reducible repeat (first | refine blk_drewN ?_ _ | refine blk_drew ?_ | refine blk_alloc ?_ _)); exact BK178.out) hb); have n2_ := Aside0.mk (below_step (by repeat (first | (with_reducible first | exact HB.out | apply below_alloc | apply pw_below_drewN | apply below_drew1 | refine below_set ?_ GE178.out) | exact HB.out)) hb); clear HO_0; clear BK178; clear HB; have HO_0 := n0_; have BK178 := n1_; have HB := n2_; clear n0_ n1_ n2_; (try clear hb); (try clear hb2); (try clear hk); (try clear hi)))
       go_ret2
       exact ⟨_, by first | rfl | (simp [errW_none, errW_some] <;> rfl) | (simp [*, errW_none, errW_some] <;> rfl), by first | exact Kd.S_nil _ _ _ _ _ | exact Kd.N_nil _ _ _ _ _ | exact Kd.V_nil _ _ _ _ _ | exact Kd.Q_nil _ _ _ _ _ | exact Kd.R_nil _ _ _ _ _, by repeat (first | (with_reducible first | exact HB.out | apply below_alloc | apply pw_below_drewN | apply below_drew1 | refine below_set ?_ GE178.out) | exact HB.out)⟩
     ·rw [if_neg c7] at H
      exact absurd H (by simp)
    ·rw [if_neg c6] at H
     exact absurd H (by simp)
   ·rw [if_neg c5] at H
    have c5b0 : decide (x13_1 < (l1.length : Int)) = false := decide_eq_false c5
    clear c5
    replace H := Option.bind_eq_some_iff.mp H
    obtain ⟨t174, A290, H⟩ := H
    replace H : (some (t174, 0)) = some (r1, r2) := H
    have A29 := Aside0.mk A290
    clear A290
    simp only [Option.some.injEq, Prod.mk.injEq] at H
    obtain ⟨rfl, rfl⟩ := H
    obtain ⟨Ao30, co30, eo30⟩ := Kd.N_slice HO_0.out
    subst eo30
    go_wp2_with (first | ((with_reducible refine gate_callee (f := 63) rfl ?_); refine goesL_ (some 38) rfl rfl Tryd.func63 (by kernel_rfl) rfl #[.slice Ao30 x0_1.length co30] rfl (by (try simp only [List.map_toArray, List.map_cons, List.map_nil]); first | done | rfl | (simp only [List.length_drop, List.length_take]; rfl)) ?_; (with_reducible refine (plan_own.calls k1 _ _ x0_1 t174 _ ?side1 ?side2 A29.out).mono ?_); (case side1 => repeat (first | exact (Kd.N_reads' HO_0.out).2.2 | (with_reducible refine Kd.C_alloc ?_ _) | (with_reducible refine Kd.C_drewN ?_ _) | (with_reducible refine Kd.C_drew ?_))); (case side2 => exact (Kd.N_reads' HO_0.out).2.1); rintro e w31 ⟨v175, rfl, ho0, hb⟩; refine ⟨_, rfl, ?_⟩; have n0_ := Aside0.mk (Kd.N_elder' (by (with_reducible repeat (first | apply Kd.N_alloc | apply Kd.N_drewN | apply Kd.N_drew)); exact HO_0.out) (Kd.S_base ho0) hb); have n1_ := Aside0.mk (Kd.N_lower (Kd.N_mono (ok' := fun k_ => (P0_ k_ ∨ w.heap.size ≤ k_) ∧ some k_ ≠ (.slice Ao30 x0_1.length co30 : Value).ownBlock) (Kd.S_N (Kd.S_bound ho0)) (fun k_ hk_ => ⟨(.inr (Nat.le_trans (below_size (by repeat (first | (with_reducible first | exact HB.out | apply below_alloc | apply pw_below_drewN | apply below_drew1) | exact HB.out))) hk_.2.1)), (Kd.fresh' (Kd.N_lt (by (with_reducible repeat (first | apply Kd.N_alloc | apply Kd.N_drewN | apply Kd.N_drew)); exact HO_0.out)) k_ hk_.2.1)⟩)) (below_size (by repeat (first | (with_reducible first | exact HB.out | apply below_alloc | apply pw_below_drewN | apply below_drew1) | exact HB.out)))); have n2_ := Aside0.mk (below_step (by repeat (first | (with_reducible first | exact HB.out | apply below_alloc | apply pw_below_drewN | apply below_drew1) | exact HB.out)) hb); clear HO_0; clear HB; have HO_0 := n0_; have HO176 := n1_; have HB := n2_; clear n0_ n1_ n2_; (try clear hb); (try clear hb2); (try clear hk); (try clear hi); (try clear ho0)))
    go_ret2
    exact ⟨_, by first | rfl | (simp [errW_none, errW_some] <;> rfl) | (simp [*, errW_none, errW_some] <;> rfl), by (with_reducible repeat (first | apply Kd.N_alloc | apply Kd.N_drewN | apply Kd.N_drew)); exact Kd.N_mono HO176.out (fun _ hk => hk.1), by repeat (first | (with_reducible first | exact HB.out | apply below_alloc | apply pw_below_drewN | apply below_drew1) | exact HB.out)⟩

/-! ### bindleref15_Parts: function 15 -/
def bindleref15_Parts.l0 : Nat → ByteArray → List ByteArray → Int → Int → Option (List ByteArray)
 | 0, _, _, _, _ => none
 | k + 1, x0, x3, x4, x5 => if x5 < (x0.size : Int) then (if 0 ≤ x5 then (if (bt x0 x5) = 47 then (if 0 ≤ x4 then (if x4 ≤ x5 then (if x5 ≤ (x0.size : Int) then (if x3.length < 8796093022208 then (bindleref15_Parts.l0 k x0 (x3 ++ [x0.extract (x4 : Int).toNat (x5 : Int).toNat]) (wrap64 (x5 + 1)) (wrap64 (x5 + 1))) else (none)) else (none)) else (none)) else (none)) else (bindleref15_Parts.l0 k x0 x3 x4 (wrap64 (x5 + 1)))) else (none)) else (if 0 ≤ x4 then (if x4 ≤ (x0.size : Int) then (if x3.length < 8796093022208 then (some (x3 ++ [x0.extract (x4 : Int).toNat x0.size])) else (none)) else (none)) else (none))
def bindleref15_Parts.f (k : Nat) (a0 : ByteArray) : Option (List ByteArray) := bindleref15_Parts.l0 k a0 ([] : List ByteArray) 0 0
theorem bindleref15_Parts.mono_l : ∀ k, (∀ y0 y1 y2 y3, LeO (bindleref15_Parts.l0 k y0 y1 y2 y3) (bindleref15_Parts.l0 (k + 1) y0 y1 y2 y3))
 | 0 => fun _ _ _ _ r h => by simp [bindleref15_Parts.l0] at h
 | k + 1 => by
  have ih0 := bindleref15_Parts.mono_l k
  ·intro y0 y1 y2 y3
   unfold bindleref15_Parts.l0
   repeat' first
   | (with_reducible exact ih0 _ _ _ _)
   | (with_reducible exact LeO.refl _)
   | (with_reducible exact LeO.none _)
   | (with_reducible refine LeO.ite ?_ ?_)
   | (with_reducible refine LeO.bind ?_ (fun _ => ?_))
   | exact ih0 _ _ _ _
   | exact LeO.none _
   | refine LeO.ite ?_ ?_
   | refine LeO.bind ?_ (fun _ => ?_)
theorem bindleref15_Parts.mono : ∀ a0 k, LeO (bindleref15_Parts.f k a0) (bindleref15_Parts.f (k + 1) a0) := by
 intro a0 k
 have ih0 := bindleref15_Parts.mono_l k
 unfold bindleref15_Parts.f
 repeat' first
   | (with_reducible exact ih0 _ _ _ _)
   | (with_reducible exact LeO.refl _)
   | (with_reducible exact LeO.none _)
   | (with_reducible refine LeO.ite ?_ ?_)
   | (with_reducible refine LeO.bind ?_ (fun _ => ?_))
   | exact ih0 _ _ _ _
   | exact LeO.none _
   | refine LeO.ite ?_ ?_
   | refine LeO.bind ?_ (fun _ => ?_)
set_option maxHeartbeats 8000000 in
set_option maxRecDepth 100000 in
theorem bindleref15_Parts.calls (k : Nat) (a0 : ByteArray) (r : List ByteArray) (w : World) (h : bindleref15_Parts.f k a0 = some r) :
  Calls Tryd.prog 15 #[.string a0] w fun e w' => ∃ v0_ : Value, e = .returned (v0_) ∧ Kd.R Kd.string 9 w' w.heap.size (fun _ => True) v0_ r ∧ Below w.heap.size w w' := by
 have HB := Aside0.mk (Below.refl w.heap.size w)
 have H : (bindleref15_Parts.l0 k a0 ([] : List ByteArray) 0 0) = some r := h
 clear h
 have H' := Aside0.mk H
 clear H
 go_enter Tryd.func15, Tryd.ntmps15
 go_wp2
 go_loopg [3, 4, 5] k (fun kq v3 v4 v5 w' => ∃ (x3_1 : List ByteArray) (x4_1 : Int) (x5_1 : Int), v4 = .int .i64 x4_1 ∧ v5 = .int .i64 x5_1 ∧ Aside0 (bindleref15_Parts.l0 kq a0 x3_1 x4_1 x5_1 = some r) ∧ Aside0 (kq ≤ k) ∧ Aside0 (Kd.R Kd.string 9 w' w.heap.size (fun _ => True) v3 x3_1) ∧ Aside0 (Below w.heap.size w w'))
 case atStart => exact ⟨(([] : List ByteArray)), (0), (0), (by first | rfl | (simp only [YtcfcbkcaondfcaaDoorMpHelp.leq_not, YtcfcbkcaondfcaaDoorMpHelp.gtr_less]; done) | (simp; done) | (simp [*]; done)), (by first | rfl | (simp only [YtcfcbkcaondfcaaDoorMpHelp.leq_not, YtcfcbkcaondfcaaDoorMpHelp.gtr_less]; done) | (simp; done) | (simp [*]; done)), H', ⟨Nat.le_refl _⟩, ⟨by first | exact Kd.R_nil _ _ _ _ _ | exact Kd.N_nil _ _ _ _ _ | exact Kd.V_nil _ _ _ _ _ | exact Kd.Q_nil _ _ _ _ _ | exact Kd.S_nil _ _ _ _ _⟩, ⟨by repeat (first | (with_reducible first | exact HB.out | apply below_alloc | apply pw_below_drewN | apply below_drew1) | exact HB.out)⟩⟩
 case round =>
  clear H'
  try clear c1
  obtain ⟨x3_1, x4_1, x5_1, rfl, rfl, HA, HK1, HO_3, HB⟩ := hrel
  cases gk with
  | zero => exact absurd HA.out (by simp [bindleref15_Parts.l0])
  | succ k1 =>
   have H := HA.out
   clear HA
   simp only [bindleref15_Parts.l0] at H
   by_cases c2 : x5_1 < (a0.size : Int)
   ·rw [if_pos c2] at H
    have c2b0 : decide (x5_1 < (a0.size : Int)) = true := decide_eq_true c2
    clear c2
    by_cases c3 : 0 ≤ x5_1
    ·rw [if_pos c3] at H
     have c3b0 : decide (0 ≤ x5_1) = true := decide_eq_true c3
     clear c3
     by_cases c5 : (bt a0 x5_1) = 47
     ·rw [if_pos c5] at H
      have c5b0 : ((bt a0 x5_1) == 47) = true := beq_iff_eq.mpr c5
      have c5b1 : ((bt a0 x5_1) != 47) = false := bne_eq_false_iff_eq.mpr c5
      clear c5
      by_cases c6 : 0 ≤ x4_1
      ·rw [if_pos c6] at H
       have c6b0 := eq_true c6
       have c6b1 : decide (0 ≤ x4_1) = true := decide_eq_true c6
       clear c6
       by_cases c7 : x4_1 ≤ x5_1
       ·rw [if_pos c7] at H
        have c7b0 := eq_true c7
        have c7b1 : decide (x4_1 ≤ x5_1) = true := decide_eq_true c7
        clear c7
        by_cases c8 : x5_1 ≤ (a0.size : Int)
        ·rw [if_pos c8] at H
         have c8b0 := eq_true c8
         have c8b1 : decide (x5_1 ≤ (a0.size : Int)) = true := decide_eq_true c8
         clear c8
         by_cases c9 : x3_1.length < 8796093022208
         ·rw [if_pos c9] at H
          have LMc9 := Aside0.mk c9
          clear c9
          obtain ⟨y186, hy186⟩ : ∃ y_ : List ByteArray, y_ = (x3_1 ++ [a0.extract (x4_1 : Int).toNat (x5_1 : Int).toNat]) := ⟨_, rfl⟩
          replace H : (bindleref15_Parts.l0 k1 a0 y186 (wrap64 (x5_1 + 1)) (wrap64 (x5_1 + 1))) = some r := by first | (rw [hy186]; with_reducible exact H) | (have H2_ := (Option.bind_some _ _).symm.trans H; rw [hy186]; with_reducible exact H2_) | (have H2_ := (Option.bind_some _ _).symm.trans H; with_reducible exact H2_) | with_reducible exact H | (rw [hy186]; exact H) | exact H
          have Ny186 := Aside0.mk hy186
          clear hy186
          have H' := Aside0.mk H
          clear H
          have p4 : 0 ≤ (x5_1 : Int) := of_decide_eq_true (by first | (with_reducible assumption) | assumption)
          have q4 : x5_1 < (a0.size : Int) := of_decide_eq_true (by first | (with_reducible assumption) | assumption)
          have hx4 := bt_at a0 x5_1
          replace p4 := eq_true p4
          replace q4 := eq_true q4
          go_wp2_with (first | ((with_reducible refine gate_builtin (b := .append) (xs := #[.tmp 16, .tmp 21]) rfl ?_); at_builtin; refine Kd.R_append Kd.string (w0 := w) w.heap.size rfl (.tmp 16) (.tmp 21) 22 9 (.string ⟨#[]⟩) 16 rfl Tryd.underlying22 info9 rfl (by decide) (by omega) u3 x3_1 (a0.extract (x4_1 : Int).toNat (x5_1 : Int).toNat) [.string (a0.extract (x4_1 : Int).toNat (x5_1 : Int).toNat)] (fun _ => True) (fun _ => False) rfl rfl ?aP (fun _ hk => hk.elim) ?aF ?aO ?aB ?aS ?aL ?_; (case aP => exact rfl); (case aB => exact (by repeat (first | (with_reducible first | exact HB.out | apply below_alloc | apply pw_below_drewN | apply below_drew1) | exact HB.out))); (case aF => exact (fun _ _ => trivial)); (case aO => exact (by (with_reducible repeat (first | apply Kd.R_alloc | apply Kd.R_drewN | apply Kd.R_drew)); exact HO_3.out)); (case aS => exact (below_size (by repeat (first | (with_reducible first | exact HB.out | apply below_alloc | apply pw_below_drewN | apply below_drew1) | exact HB.out)))); (case aL => have := LMc9.out; omega); intro v187 w10 ho hb hg hat; rw [← Ny186.out] at ho; have n0_ := Aside0.mk (hb); have n1_ := Aside0.mk (ho); clear HB; clear HO_3; have HB := n0_; have HO188 := n1_; clear n0_ n1_; clear ho hb hg hat))
          go_roundg k1
          case measure => have := HK1.out; omega
          case rel => exact ⟨(y186), (wrap64 (x5_1 + 1)), (wrap64 (x5_1 + 1)), (by first | rfl | (simp only [YtcfcbkcaondfcaaDoorMpHelp.leq_not, YtcfcbkcaondfcaaDoorMpHelp.gtr_less]; done) | (simp; done) | (simp [*]; done)), (by first | rfl | (simp only [YtcfcbkcaondfcaaDoorMpHelp.leq_not, YtcfcbkcaondfcaaDoorMpHelp.gtr_less]; done) | (simp; done) | (simp [*]; done)), H', ⟨by have := HK1.out; omega⟩, ⟨by (with_reducible repeat (first | apply Kd.R_alloc | apply Kd.R_drewN | apply Kd.R_drew)); exact HO188.out⟩, ⟨by repeat (first | (with_reducible first | exact HB.out | apply below_alloc | apply pw_below_drewN | apply below_drew1) | exact HB.out)⟩⟩
         ·rw [if_neg c9] at H
          exact absurd H (by simp)
        ·rw [if_neg c8] at H
         exact absurd H (by simp)
       ·rw [if_neg c7] at H
        exact absurd H (by simp)
      ·rw [if_neg c6] at H
       exact absurd H (by simp)
     ·rw [if_neg c5] at H
      have c5b0 : ((bt a0 x5_1) == 47) = false := beq_eq_false_iff_ne.mpr c5
      have c5b1 : ((bt a0 x5_1) != 47) = true := bne_iff_ne.mpr c5
      have H' := Aside0.mk H
      clear H
      have p4 : 0 ≤ (x5_1 : Int) := of_decide_eq_true (by first | (with_reducible assumption) | assumption)
      have q4 : x5_1 < (a0.size : Int) := of_decide_eq_true (by first | (with_reducible assumption) | assumption)
      have hx4 := bt_at a0 x5_1
      replace p4 := eq_true p4
      replace q4 := eq_true q4
      go_wp2
      go_roundg k1
      case measure => have := HK1.out; omega
      case rel => exact ⟨(x3_1), (x4_1), (wrap64 (x5_1 + 1)), (by first | rfl | (simp only [YtcfcbkcaondfcaaDoorMpHelp.leq_not, YtcfcbkcaondfcaaDoorMpHelp.gtr_less]; done) | (simp; done) | (simp [*]; done)), (by first | rfl | (simp only [YtcfcbkcaondfcaaDoorMpHelp.leq_not, YtcfcbkcaondfcaaDoorMpHelp.gtr_less]; done) | (simp; done) | (simp [*]; done)), H', ⟨by have := HK1.out; omega⟩, ⟨by (with_reducible repeat (first | apply Kd.R_alloc | apply Kd.R_drewN | apply Kd.R_drew)); exact HO_3.out⟩, ⟨by repeat (first | (with_reducible first | exact HB.out | apply below_alloc | apply pw_below_drewN | apply below_drew1) | exact HB.out)⟩⟩
    ·rw [if_neg c3] at H
     exact absurd H (by simp)
   ·rw [if_neg c2] at H
    have c2b0 : decide (x5_1 < (a0.size : Int)) = false := decide_eq_false c2
    clear c2
    by_cases c11 : 0 ≤ x4_1
    ·rw [if_pos c11] at H
     have c11b0 := eq_true c11
     have c11b1 : decide (0 ≤ x4_1) = true := decide_eq_true c11
     clear c11
     by_cases c12 : x4_1 ≤ (a0.size : Int)
     ·rw [if_pos c12] at H
      have c12b0 := eq_true c12
      have c12b1 : decide (x4_1 ≤ (a0.size : Int)) = true := decide_eq_true c12
      clear c12
      by_cases c13 : x3_1.length < 8796093022208
      ·rw [if_pos c13] at H
       have LMc13 := Aside0.mk c13
       clear c13
       obtain ⟨y189, hy189⟩ : ∃ y_ : List ByteArray, y_ = (x3_1 ++ [a0.extract (x4_1 : Int).toNat a0.size]) := ⟨_, rfl⟩
       replace H : (some y189) = some r := by first | (rw [hy189]; with_reducible exact H) | (have H2_ := (Option.bind_some _ _).symm.trans H; rw [hy189]; with_reducible exact H2_) | (have H2_ := (Option.bind_some _ _).symm.trans H; with_reducible exact H2_) | with_reducible exact H | (rw [hy189]; exact H) | exact H
       have Ny189 := Aside0.mk hy189
       clear hy189
       obtain rfl := Option.some.inj H
       go_wp2_with (first | ((with_reducible refine gate_builtin (b := .append) (xs := #[.tmp 25, .tmp 29]) rfl ?_); at_builtin; refine Kd.R_append Kd.string (w0 := w) w.heap.size rfl (.tmp 25) (.tmp 29) 22 9 (.string ⟨#[]⟩) 16 rfl Tryd.underlying22 info9 rfl (by decide) (by omega) u3 x3_1 (a0.extract (x4_1 : Int).toNat a0.size) [.string (a0.extract (x4_1 : Int).toNat a0.size)] (fun _ => True) (fun _ => False) rfl rfl ?aP (fun _ hk => hk.elim) ?aF ?aO ?aB ?aS ?aL ?_; (case aP => exact rfl); (case aB => exact (by repeat (first | (with_reducible first | exact HB.out | apply below_alloc | apply pw_below_drewN | apply below_drew1) | exact HB.out))); (case aF => exact (fun _ _ => trivial)); (case aO => exact (by (with_reducible repeat (first | apply Kd.R_alloc | apply Kd.R_drewN | apply Kd.R_drew)); exact HO_3.out)); (case aS => exact (below_size (by repeat (first | (with_reducible first | exact HB.out | apply below_alloc | apply pw_below_drewN | apply below_drew1) | exact HB.out)))); (case aL => have := LMc13.out; omega); intro v190 w14 ho hb hg hat; rw [← Ny189.out] at ho; have n0_ := Aside0.mk (hb); have n1_ := Aside0.mk (ho); clear HB; clear HO_3; have HB := n0_; have HO191 := n1_; clear n0_ n1_; clear ho hb hg hat))
       go_ret
       exact ⟨_, by first | rfl | (simp [errW_none, errW_some] <;> rfl) | (simp [*, errW_none, errW_some] <;> rfl), by (with_reducible repeat (first | apply Kd.R_alloc | apply Kd.R_drewN | apply Kd.R_drew)); exact HO191.out, by repeat (first | (with_reducible first | exact HB.out | apply below_alloc | apply pw_below_drewN | apply below_drew1) | exact HB.out)⟩
      ·rw [if_neg c13] at H
       exact absurd H (by simp)
     ·rw [if_neg c12] at H
      exact absurd H (by simp)
    ·rw [if_neg c11] at H
     exact absurd H (by simp)

end Go.Proofs.YtcfcbkcaondfcaaDoor.PPlanApplies
