/- The machine side of a law: for each Go function that it uses a Lean function with the same answers, and the proof that the Go code comes to them; or the row of the law over these. Written by a program of this session. -/
import Derived.Test.YtcfcbkcaondfcaaDoorPPlanJoinsx0
import Derived.Test.YtcfcbkcaondfcaaDoorPPlanJoinsx2
import Derived.Test.YtcfcbkcaondfcaaDoorPPlanJoinsx4
namespace Go.Proofs.YtcfcbkcaondfcaaDoor.PPlanJoins
open Go.RowKit Go.Proofs.YtcfcbkcaondfcaaDoorW.PrintWords Go.Proofs.YtcfcbkcaondfcaaDoorW.PrintLast Go.Proofs.YtcfcbkcaondfcaaDoorW.PrintMore
attribute [local go_sem] max2_int min2_int max_two min_two max_three min_three max_four min_four   -- for this text's walks alone
set_option linter.unusedVariables false
set_option linter.unusedSimpArgs false

/-! ### model_With: function 61 (told by hand) -/
def model_With.Stop (p : Prop) : Prop := p
theorem model_With.stop {p : Prop} (h : model_With.Stop p) : p := h
theorem model_With.info2 : ∃ i0 : TypeInfo, Tryd.prog.info? 45 = some i0 ∧ i0.zero = some (.agg #[.string ByteArray.empty, .slice none 0 0]) ∧ i0.size = 2 ∧ i0.bytes = 40 := by
  obtain ⟨i0, hi, hzz⟩ := Option.map_eq_some_iff.1 (show (Tryd.prog.info? 45).map (fun i => (i.zero, i.size, i.bytes)) = some (some (.agg #[.string ByteArray.empty, .slice none 0 0]), 2, 40) from by kernel_rfl)
  simp only [Prod.mk.injEq] at hzz
  exact ⟨i0, hi, hzz.1, hzz.2.1, hzz.2.2⟩
/-- What slices.Insert leaves. -/
def model_With.Ins (n i : Nat) (w : World) (cl : List Value) (c0 c1 : Value) (e : Ending) (w' : World) : Prop :=
  ∃ cap2 cur2, e = .returned (.slice (some ⟨w.heap.size, 0, none⟩) (n + 1) cap2) ∧ w'.heap[w.heap.size]? = some (.cells cur2 45 (0, 0)) ∧ n + 1 ≤ cap2 ∧ cap2 ≤ maxLen ∧ cur2.size = cap2 * 2 ∧
      cur2.toList.take ((n + 1) * 2) = cl.take (i * 2) ++ [c0, c1] ++ cl.drop (i * 2) ∧ (∀ u ∈ cur2.toList, u.oneCell' = true) ∧ Below w.heap.size w w'
set_option maxRecDepth 100000 in
set_option maxHeartbeats 4000000 in
/-- slices.Insert where there is no room, not at the end: a new block. -/
theorem model_With.ins_mid (g n i av : Nat) (cur : Array Value) (c0 c1 : Value) (w : World) (hi : i < n) (hn : n ≤ 1000000) (hg : w.heap[g]? = some (.cells cur 45 (0, 0))) (hcs : cur.size = n * 2) (h1 : ∀ u ∈ cur.toList, u.oneCell' = true) (hv : w.heap[av]? = some (.cells #[c0, c1] 45 (0, 0))) (h2 : ∀ u ∈ [c0, c1], u.oneCell' = true) :
    Calls Tryd.prog 82 #[.slice (some ⟨g, 0, none⟩) n n, .int .i64 i, .slice (some ⟨av, 0, none⟩) 1 1] w fun e w' => model_With.Ins n i w cur.toList c0 c1 e w' := by
  obtain ⟨i0, hi0, hz0, hz1, hz2⟩ := model_With.info2
  have haz := fun ty => YtcfcbkcaondfcaaDoorMpRows.run_append_zeros_grow (P := Tryd.prog) w 36 3 ty 45 i0 (.agg #[.string ByteArray.empty, .slice none 0 0]) 2 40 Tryd.underlying36 Tryd.underlying3 hi0 hz0 hz1 hz2 rfl (by decide) (by decide) (some ⟨g, 0, none⟩) i n (cur.toList.take (i * 2)) (by rw [List.length_take, Array.length_toList]; omega) (fun ad had j u hj => by
    injection had with had
    subst had
    rw [add_plain, cell_of_row w g j _ _ (0, 0) hg]
    have hj2 : j < i * 2 := by
      have := (List.getElem?_eq_some_iff.1 hj).1
      rw [List.length_take] at this
      omega
    rw [List.getElem?_take_of_lt hj2] at hj
    simpa using hj) (by intro h; cases h) .i64 (n + 1 - i) (by omega) (by omega) (by omega)
  have hcap2 := grownCap_ge w (i + (n + 1 - i)) n 45
  have hcap3 := grownCap_le_maxLen w (i + (n + 1 - i)) n 45 (by simp only [maxLen]; omega)
  rw [show i + (n + 1 - i) = n + 1 from by omega] at haz hcap2 hcap3
  generalize grownCap w (n + 1) n 45 = cap2 at haz hcap2 hcap3
  have HAZ := Aside0.mk haz
  clear haz
  have hw1 : IntKind.i64.wrap ((n : Int) + 1) = (n : Int) + 1 := by rw [IntKind.wrap_i64]; omega
  have hne : ¬ ((i : Int) = (n : Int)) := by omega
  have hni : ¬ n = i := by omega
  go_enter Tryd.func82, Tryd.ntmps82
  go_wp2_with (at_builtin; refine model_With.stop ?_)
  unfold model_With.Stop
  have hcast : ((n + 1 - i : Nat) : Int) = (n : Int) + 1 - (i : Int) := by omega
  refine YtcfcbkcaondfcaaDoorMpRows.wpList_append_run rfl _ _ _ _ rfl _ _ rfl rfl (by have := HAZ.out 36; rw [hcast] at this; exact this) ?_
  clear HAZ hcast
  generalize hA : ((cur.toList.take (i * 2)).toArray ++ Builtin.zeroCells (Value.agg #[.string ByteArray.empty, .slice none 0 0]).cells (n + 1 - i) ++ Builtin.zeroCells (Value.agg #[.string ByteArray.empty, .slice none 0 0]).cells (cap2 - (n + 1))) = curA
  have hzc : ∀ m, (Builtin.zeroCells (Value.agg #[.string ByteArray.empty, .slice none 0 0]).cells m).size = m * 2 := fun m => by rw [size_zeroCells]; rfl
  have hAl : curA.size = cap2 * 2 := by
    rw [← hA, Array.size_append, Array.size_append, hzc, hzc, List.size_toArray, List.length_take, Array.length_toList]
    omega
  have hAt : curA.toList.take (i * 2) = cur.toList.take (i * 2) := by
    rw [← hA, Array.toList_append, Array.toList_append, List.append_assoc]
    exact List.take_left' (by rw [List.length_take, Array.length_toList]; omega)
  have hzo : ∀ m, ∀ u ∈ (Builtin.zeroCells (Value.agg #[.string ByteArray.empty, .slice none 0 0]).cells m).toList, u.oneCell' = true := YtcfcbkcaondfcaaDoorMpRows.zeroCells_one _ 2 rfl (by decide) (by intro u hu; rcases hu with _ | ⟨_, hu⟩; rfl; rcases hu with _ | ⟨_, hu⟩; rfl; cases hu)
  have hA1' : ∀ u ∈ curA.toList, u.oneCell' = true := by
    rw [← hA, Array.toList_append, Array.toList_append]
    intro u hu
    rcases List.mem_append.1 hu with hu | hu
    · rcases List.mem_append.1 hu with hu | hu
      · exact h1 u (List.mem_of_mem_take hu)
      · exact hzo _ u hu
    · exact hzo _ u hu
  clear hzo
  have h1g : (w.drew.alloc (.cells curA 45)).heap[w.heap.size]? = some (.cells curA 45 (0, 0)) := YtcfcbkcaondfcaaDoorMpHelp.heap_new w.drew _
  have h1b : Below w.heap.size w (w.drew.alloc (.cells curA 45)) := below_alloc (below_drew1 (Below.refl _ _)) _
  generalize w.drew.alloc (.cells curA 45) = w1 at h1g h1b ⊢
  have hgv := blk_below hv h1b
  have hgg := blk_below hg h1b
  have hcp1 := fun ty dc => YtcfcbkcaondfcaaDoorMpRows.run_copy_cells (P := Tryd.prog) w1 36 36 ty 45 w.heap.size (i * 2) (n + 1 - i) dc ⟨av, 0, none⟩ 1 1 curA 45 [c0, c1] 2 Tryd.underlying36 (by rw [hi0]; simp [hz1]) h1g (by rw [show Nat.min 1 (n + 1 - i) = 1 from Nat.min_eq_left (by omega)]; rfl)
    (fun j v hj => by rw [add_plain, cell_of_row w1 av j _ _ (0, 0) hgv]; simpa using hj) (by rw [hAl]; simp; omega) h2
  have hc2 : ¬ cap2 = i := by omega
  have hc3 : ¬ cap2 = i + 1 := by omega
  have HCP1 := Aside0.mk hcp1
  have HGG := Aside0.mk hgg
  have HB1 := Aside0.mk h1b
  have H1G := Aside0.mk h1g
  have HG := Aside0.mk hg
  have HV := Aside0.mk hv
  clear hcp1 hgg h1b h1g hg hv hgv hA
  go_wp2_with ((with_reducible refine gate_builtin (b := .copy) (xs := #[.tmp 43, .tmp 44]) rfl ?_); refine model_With.stop ?_)
  unfold model_With.Stop
  refine YtcfcbkcaondfcaaDoorMpRows.wpList_copy_run rfl _ _ _ _ rfl _ _ rfl rfl (HCP1.out _ _) ?_
  have hlt : w.heap.size < w1.heap.size := (Array.getElem?_eq_some_iff.1 H1G.out).1
  have h2g := setRow_heap w1 w.heap.size curA (curA.toList.take (i * 2) ++ [c0, c1] ++ curA.toList.drop (i * 2 + [c0, c1].length)).toArray 45 (0, 0) H1G.out
  have h2b : Below w.heap.size w (w1.setRow w.heap.size (curA.toList.take (i * 2) ++ [c0, c1] ++ curA.toList.drop (i * 2 + [c0, c1].length)).toArray) := below_setRow HB1.out (Nat.le_refl _) _
  generalize hB : (curA.toList.take (i * 2) ++ [c0, c1] ++ curA.toList.drop (i * 2 + [c0, c1].length)).toArray = curB at h2g h2b ⊢
  generalize w1.setRow w.heap.size curB = w2 at h2g h2b ⊢
  have hBl : curB.size = cap2 * 2 := by
    rw [← hB, List.size_toArray]
    simp only [List.length_append, List.length_take, List.length_drop, Array.length_toList, List.length_cons, List.length_nil]
    omega
  have hBt : curB.toList.take ((i + 1) * 2) = cur.toList.take (i * 2) ++ [c0, c1] := by
    rw [← hB, hAt]
    exact List.take_left' (by simp only [List.length_append, List.length_take, Array.length_toList, List.length_cons, List.length_nil]; omega)
  have hB1' : ∀ u ∈ curB.toList, u.oneCell' = true := by
    rw [← hB]
    intro u hu
    rcases List.mem_append.1 hu with hu | hu
    · rcases List.mem_append.1 hu with hu | hu
      · exact hA1' u (List.mem_of_mem_take hu)
      · exact h2 u hu
    · exact hA1' u (List.mem_of_mem_drop hu)
  have hgg2 := blk_below HG.out h2b
  have hcp2 := fun ty dc sc => YtcfcbkcaondfcaaDoorMpRows.run_copy_cells (P := Tryd.prog) w2.drew 36 36 ty 45 w.heap.size ((i + 1) * 2) (n - i) dc ⟨g, i * 2, none⟩ (n - i) sc curB 45 (cur.toList.drop (i * 2)) 2 Tryd.underlying36 (by rw [hi0]; simp [hz1]) h2g (by rw [List.length_drop, Array.length_toList, show Nat.min (n - i) (n - i) = n - i from Nat.min_self _]; omega)
    (fun j v hj => by
      rw [add_at]
      rw [show w2.drew.cell? ⟨g, i * 2 + j, none⟩ = w2.cell? ⟨g, i * 2 + j, none⟩ from rfl, cell_of_row w2 g _ _ _ (0, 0) hgg2]
      rw [List.getElem?_drop] at hj
      simpa using hj) (by rw [hBl, List.length_drop, Array.length_toList]; omega) (fun u hu => h1 u (List.mem_of_mem_drop hu))
  generalize hC : (curB.toList.take ((i + 1) * 2) ++ cur.toList.drop (i * 2) ++ curB.toList.drop ((i + 1) * 2 + (cur.toList.drop (i * 2)).length)).toArray = curC at hcp2
  have hCl : curC.size = cap2 * 2 := by
    have hBl' : curB.toList.length = cap2 * 2 := by rw [Array.length_toList]; exact hBl
    have hl : cur.toList.length = n * 2 := by rw [Array.length_toList]; exact hcs
    rw [← hC, List.size_toArray]
    simp only [List.length_append, List.length_take, List.length_drop]
    omega
  have hCt : curC.toList.take ((n + 1) * 2) = cur.toList.take (i * 2) ++ [c0, c1] ++ cur.toList.drop (i * 2) := by
    have hl : cur.toList.length = n * 2 := by rw [Array.length_toList]; exact hcs
    rw [← hC, hBt]
    refine (List.take_left' ?_)
    simp only [List.length_append, List.length_take, List.length_drop, List.length_cons, List.length_nil]
    omega
  have hC1 : ∀ u ∈ curC.toList, u.oneCell' = true := by
    rw [← hC]
    intro u hu
    rcases List.mem_append.1 hu with hu | hu
    · rcases List.mem_append.1 hu with hu | hu
      · rw [hBt] at hu
        rcases List.mem_append.1 hu with hu | hu
        · exact h1 u (List.mem_of_mem_take hu)
        · exact h2 u hu
      · exact h1 u (List.mem_of_mem_drop hu)
    · exact hB1' u (List.mem_of_mem_drop hu)
  have HCX := Aside0.mk (And.intro hCl (And.intro hCt hC1))
  clear hC hCl hCt hC1 hB1'
  have HCP2 := Aside0.mk hcp2
  have HB2 := Aside0.mk h2b
  have H2G := Aside0.mk h2g
  clear hcp2 h2b h2g hgg2 hB HCP1 hBt hAt hA1' hBl hAl h1 h2
  go_wp2_with fail
  have hwi : IntKind.i64.wrap ((i : Int) + 1) = (i : Int) + 1 := by rw [IntKind.wrap_i64]; omega
  have hi0' : ¬ ((i : Int) < 0) := by omega
  have hi1' : ¬ ((i : Int) + 1 < 0) := by omega
  have hi2' : ¬ ((n : Int) < (i : Int)) := by omega
  have hi3' : ¬ ((n : Int) + 1 < (i : Int) + 1) := by omega
  have hi4' : i ≤ n := by omega
  have hi5' : i + 1 ≤ n + 1 := by omega
  have hi6' : n + 1 ≤ cap2 := hcap2
  have hz1' : (0 : Int) ≤ (i : Int) + 1 := by omega
  have hz2' : (i : Int) + 1 ≤ ((n + 1 : Nat) : Int) := by omega
  have hz3' : ((i : Int) + 1).toNat = i + 1 := by omega
  have hz4' : (0 : Int) ≤ (i : Int) := by omega
  have hz5' : (i : Int) ≤ (n : Int) := by omega
  go_region_held3 (fun W => True) (trivial) (first | (rw [if_pos (by rfl)]; refine YtcfcbkcaondfcaaDoorMpRows.wp_copy_run (v := .slice (some ⟨w.heap.size, (i + 1) * 2, none⟩) (n - i) (cap2 - (i + 1))) (u := .slice (some ⟨g, i * 2, none⟩) (n - i) (n - i)) (.tmp 50) (.tmp 53) _ _ rfl (by kernel_rfl) (by kernel_rfl) (HCP2.out _ _ _) ?_))
  go_wp2
  go_ret
  exact ⟨cap2, curC, rfl, setRow_heap w2.drew w.heap.size curB _ 45 (0, 0) H2G.out, hcap2, hcap3, HCX.out.1, HCX.out.2.1, HCX.out.2.2, below_setRow (below_drew1 HB2.out) (Nat.le_refl _) _⟩
set_option maxRecDepth 100000 in
set_option maxHeartbeats 4000000 in
/-- slices.Insert at the end where there is no room: a new block. -/
theorem model_With.ins_end (g n av : Nat) (cur : Array Value) (c0 c1 : Value) (w : World) (hn : n ≤ 1000000) (hg : w.heap[g]? = some (.cells cur 45 (0, 0))) (hcs : cur.size = n * 2) (h1 : ∀ u ∈ cur.toList, u.oneCell' = true) (hv : w.heap[av]? = some (.cells #[c0, c1] 45 (0, 0))) (h2 : ∀ u ∈ [c0, c1], u.oneCell' = true) :
    Calls Tryd.prog 82 #[.slice (some ⟨g, 0, none⟩) n n, .int .i64 n, .slice (some ⟨av, 0, none⟩) 1 1] w fun e w' => model_With.Ins n n w cur.toList c0 c1 e w' := by
  obtain ⟨i0, hi0, hz0, hz1, hz2⟩ := model_With.info2
  have hl : cur.toList.length = n * 2 := by rw [Array.length_toList]; exact hcs
  have haz := fun ty => run_append_grow (P := Tryd.prog) (w := w) 36 ty 45 i0 (.agg #[.string ByteArray.empty, .slice none 0 0]) Tryd.underlying36 hi0 hz0 ⟨g, 0, none⟩ n n cur.toList (by rw [hz1]; exact hl) (fun j v hj => by rw [add_plain, cell_of_row w g j _ _ (0, 0) hg]; simpa using hj)
    ⟨av, 0, none⟩ 1 1 [c0, c1] (by rw [hz1]; rfl) (fun j v hj => by rw [add_plain, cell_of_row w av j _ _ (0, 0) hv]; simpa using hj) (by omega) (by omega) (growslice_fits (by omega) (by rw [hz2]; omega))
  have hcap2 := grownCap_ge w (n + 1) n 45
  have hcap3 := grownCap_le_maxLen w (n + 1) n 45 (by simp only [maxLen]; omega)
  generalize grownCap w (n + 1) n 45 = cap2 at haz hcap2 hcap3
  have hzc : ∀ m, (Builtin.zeroCells (Value.agg #[.string ByteArray.empty, .slice none 0 0]).cells m).size = m * 2 := fun m => by rw [size_zeroCells]; rfl
  have hzo : ∀ m, ∀ u ∈ (Builtin.zeroCells (Value.agg #[.string ByteArray.empty, .slice none 0 0]).cells m).toList, u.oneCell' = true := YtcfcbkcaondfcaaDoorMpRows.zeroCells_one _ 2 rfl (by decide) (by intro u hu; rcases hu with _ | ⟨_, hu⟩; rfl; rcases hu with _ | ⟨_, hu⟩; rfl; cases hu)
  generalize hA : (cur.toList.toArray ++ [c0, c1].toArray ++ Builtin.zeroCells (Value.agg #[.string ByteArray.empty, .slice none 0 0]).cells (cap2 - (n + 1))) = curA at haz
  have hAl : curA.size = cap2 * 2 := by
    rw [← hA, Array.size_append, Array.size_append, hzc, List.size_toArray, hl, List.size_toArray]
    simp only [List.length_cons, List.length_nil]
    omega
  have hAt : curA.toList.take ((n + 1) * 2) = cur.toList.take (n * 2) ++ [c0, c1] ++ cur.toList.drop (n * 2) := by
    rw [← hA, Array.toList_append, Array.toList_append, List.take_of_length_le (by omega : cur.toList.length ≤ n * 2), List.drop_of_length_le (by omega : cur.toList.length ≤ n * 2), List.append_nil]
    refine List.take_left' ?_
    simp only [List.length_append, hl, List.length_cons, List.length_nil]
    omega
  have hA1 : ∀ u ∈ curA.toList, u.oneCell' = true := by
    rw [← hA, Array.toList_append, Array.toList_append]
    intro u hu
    rcases List.mem_append.1 hu with hu | hu
    · rcases List.mem_append.1 hu with hu | hu
      · exact h1 u hu
      · exact h2 u hu
    · exact hzo _ u hu
  have HAZ := Aside0.mk haz
  have HAX := Aside0.mk (And.intro hAl (And.intro hAt hA1))
  have HG := Aside0.mk hg
  clear haz hA hzc hzo hAl hAt hA1 hl h1 h2 hg hv hcs
  go_enter Tryd.func82, Tryd.ntmps82
  go_wp2_with (at_builtin; refine model_With.stop ?_)
  unfold model_With.Stop
  refine YtcfcbkcaondfcaaDoorMpRows.wpList_append_run rfl _ _ _ _ rfl _ _ rfl rfl (HAZ.out _) ?_
  go_wp2
  go_ret
  exact ⟨cap2, curA, rfl, YtcfcbkcaondfcaaDoorMpHelp.heap_new w.drew _, hcap2, hcap3, HAX.out.1, HAX.out.2.1, HAX.out.2.2, below_alloc (below_drew1 (Below.refl _ _)) _⟩
/-- What model.With does. -/
def model_With.f (l0 : List S45) (a1 : ByteArray) (l2 : List Int) : Option (List S45) :=
  if l0.length ≤ 1000000 ∧ (∀ y ∈ l0, y.f1.length ≤ 140737488355328) ∧ l2.length ≤ 140737488355328 then
    (model_place.f l0 a1).bind fun r => if 0 ≤ r.1 ∧ r.1 ≤ l0.length then (if r.2 = true then (if r.1 < l0.length then some (l0.set r.1.toNat ⟨a1, l2⟩) else none) else some (l0.take r.1.toNat ++ (⟨a1, l2⟩ : S45) :: l0.drop r.1.toNat)) else none
  else none
theorem model_With.sz : (Tryd.prog.info? 45).map (·.size) = some 2 := by kernel_rfl
set_option maxRecDepth 100000 in
set_option maxHeartbeats 4000000 in
theorem model_With.calls (A0 : Option Addr) (c0 : Nat) (l0 : List S45) (a1 : ByteArray) (A2 : Option Addr) (c2 : Nat) (l2 : List Int) (r : List S45) (w : World) (hr0 : Kd.C k45 w A0 l0.length l0) (hc0 : l0.length ≤ c0) (hr2 : (Kd.int .u8).C w A2 l2.length l2) (hc2 : l2.length ≤ c2) (h : model_With.f l0 a1 l2 = some r) :
    Calls Tryd.prog 61 #[.slice A0 l0.length c0, .string a1, .slice A2 l2.length c2] w fun e w' => ∃ v0_ : Value, e = .returned (v0_) ∧ Kd.N k45 45 w' w.heap.size (fun k_ => (w.heap.size ≤ k_)) v0_ r ∧ Below w.heap.size w w' := by
  unfold model_With.f at h
  by_cases hg : l0.length ≤ 1000000 ∧ (∀ y ∈ l0, y.f1.length ≤ 140737488355328) ∧ l2.length ≤ 140737488355328
  case neg => rw [if_neg hg] at h; cases h
  rw [if_pos hg] at h
  obtain ⟨hg1, hg2, hg3⟩ := hg
  cases hpl : model_place.f l0 a1 with
  | none => rw [hpl] at h; cases h
  | some pr =>
    obtain ⟨i, there⟩ := pr
    rw [hpl] at h
    simp only [Option.bind_some] at h
    by_cases hib : 0 ≤ i ∧ i ≤ l0.length
    case neg => rw [if_neg hib] at h; cases h
    rw [if_pos hib] at h
    obtain ⟨hi0, hi1⟩ := hib
    obtain ⟨m, rfl⟩ := Int.eq_ofNat_of_zero_le hi0
    simp only [Int.toNat_natCast] at h
    have hc1 := model_copied.go A0 c0 l0 w hr0 hg1 hg2
    have HC1 := Aside0.mk hc1
    have HR2 := Aside0.mk hr2
    have HPL := Aside0.mk hpl
    have hcl := fun W (hW : Below w.heap.size w W) => slices_Clone_byte_byte.calls A2 c2 l2 l2 W (Kd.C_below hr2 hW) hc2 (by unfold slices_Clone_byte_byte.f; rw [if_pos hg3])
    have HCL := Aside0.mk hcl
    have H := Aside0.mk h
    have HLM := Aside0.mk hg1
    clear hc1 hr2 hpl hcl hr0 hc0 h hg1 hg2 hg3
    go_enter Tryd.func61, Tryd.ntmps61
    go_wp2_with (first | (go_at_call 79; refine HC1.out.mono ?_; rintro e w1 ⟨g, rfl, hg, hN1, hB1⟩) | (go_at_call 80; refine model_With.stop ?_))
    unfold model_With.Stop
    have HN1 := Aside0.mk hN1
    have HB1 := Aside0.mk hB1
    have hge := hg
    clear hN1 hB1 hg HC1
    refine (HCL.out _ HB1.out).mono ?_
    rintro e w2 ⟨v2, rfl, hR2, hB2⟩
    obtain ⟨A3, c3, rfl⟩ := Kd.R_slice hR2
    have hNa := Kd.N_below HN1.out hB2
    have hBa := HB1.out.trans (hB2.mono HB1.out.size)
    have HNA := Aside0.mk hNa
    have HBA := Aside0.mk hBa
    have hel := Kd.FK_bound (model_copied.elem (⟨a1, l2⟩ : S45) hR2)
    have HEL := Aside0.mk (Kd.FK_mono hel (fun k hk => (⟨Nat.le_trans HB1.out.size hk.1, hk.2, hk.1⟩ : w.heap.size ≤ k ∧ k < w2.heap.size ∧ w1.heap.size ≤ k)))
    have hlt1 : g < w1.heap.size := Kd.N_lt HN1.out g rfl
    have hlt2 : g < w2.heap.size := Nat.lt_of_lt_of_le hlt1 hB2.size
    clear hNa hBa hel hR2 hB2 HN1 HB1
    go_wp2_with ((with_reducible refine gate_ (.store 45 (.tmp 8) (.tmp 16)) rfl ?_); refine model_With.stop ?_)
    unfold model_With.Stop
    have hBg : Below w.heap.size w (w2.alloc (Obj.cells #[Value.string { data := #[] }, Value.slice none 0 0] 45)) := below_alloc HBA.out _
    have hW2 : w.heap.size ≤ w2.heap.size := HBA.out.size
    refine YtcfcbkcaondfcaaDoorMpHelp.wpList_store_blk rfl rfl 45 _ _ rfl 45 w2.heap.size #[Value.string { data := #[] }, Value.slice none 0 0] #[.string a1, .slice A3 l2.length c3] (YtcfcbkcaondfcaaDoorMpHelp.heap_new w2 _) rfl rfl model_With.sz rfl (by intro q hq; rcases hq with _ | ⟨_, hq⟩; rfl; rcases hq with _ | ⟨_, hq⟩; rfl; cases hq) hBg hW2 ?_
    intro w3 h3 hb3 hk3
    have h23 : ∀ k, k < w2.heap.size → w3.heap[k]? = w2.heap[k]? := fun k hk => by
      rw [hk3 k (by omega)]
      exact (below_alloc (Below.refl w2.heap.size w2) _).block k hk
    have hN3 := Kd.N_step HNA.out (fun k _ hk => h23 k hk)
    have hE3 := Kd.FK_step HEL.out (fun k _ hk => h23 k hk)
    have HN3 := Aside0.mk hN3
    have HE3 := Aside0.mk hE3
    have H3 := Aside0.mk h3
    have HB3 := Aside0.mk hb3
    have hlt3 : w2.heap.size < w3.heap.size := (Array.getElem?_eq_some_iff.1 h3).1
    have hp := model_place.calls (some ⟨g, 0, none⟩) l0.length l0 a1 m there w3 (Kd.N_reads' hN3).2.2 (Nat.le_refl _) HPL.out
    have HP := Aside0.mk hp
    clear hN3 hE3 h3 hb3 hk3 h23 hp hBg HNA HBA HEL HPL
    generalize w2.heap.size = gb at *
    have hwi : (m : Int).toNat = m := rfl
    cases there with
    | true =>
      have h := H.out
      rw [if_pos rfl] at h
      by_cases hml : (m : Int) < (l0.length : Int)
      case neg => rw [if_neg hml] at h; cases h
      rw [if_pos hml] at h
      obtain rfl := Option.some.inj h
      clear h
      go_wp2_with (first | (go_at_call 81; refine HP.out.mono ?_; rintro e w4 ⟨rfl, hb4⟩; have HB4 := Aside0.mk (HB3.out.trans (hb4.mono HB3.out.size)); have HN4 := Aside0.mk (Kd.N_below HN3.out hb4); have HE4 := Aside0.mk (Kd.FK_below HE3.out hb4); have H4 := Aside0.mk (blk_below H3.out hb4); have hx0 : w4.cell? ⟨gb, 0, none⟩ = some (.string a1) := (by rw [cell_of_row w4 gb 0 _ _ (0, 0) H4.out]; rfl); have hx1 : w4.cell? ⟨gb, 1, none⟩ = some (.slice A3 l2.length c3) := (by rw [cell_of_row w4 gb 1 _ _ (0, 0) H4.out]; rfl); have hlt4 : gb < w4.heap.size := Nat.lt_of_lt_of_le hlt3 hb4.size; clear hb4 HN3 HE3 H3 HB3 HP) | ((with_reducible refine gate_ (.store 45 (.tmp 27) (.tmp 26)) rfl ?_); refine model_With.stop ?_))
      unfold model_With.Stop
      obtain ⟨cur, hg4, hcs, _, _, _⟩ := YtcfcbkcaondfcaaDoorMpRows.N_cells k45 HN4.out (by decide)
      have hcs' : cur.toList.length = l0.length * 2 := by rw [Array.length_toList]; exact hcs
      have hcl : ((cur.toList.drop (m * 2)).take 2).length = 2 := by rw [List.length_take, List.length_drop]; omega
      have hcc : ∀ j u, ((cur.toList.drop (m * 2)).take 2)[j]? = some u → w4.cell? ⟨g, m * 2 + j, none⟩ = some u := fun j u hj => by
        rw [cell_of_row w4 g _ _ _ (0, 0) hg4]
        have hj2 : j < 2 := by have := (List.getElem?_eq_some_iff.1 hj).1; omega
        rw [List.getElem?_take_of_lt hj2, List.getElem?_drop] at hj
        simpa using hj
      generalize (cur.toList.drop (m * 2)).take 2 = c at hcl hcc
      have hM : Kd.FK k45 w4 (fun k => w.heap.size ≤ k ∧ k < gb ∧ w1.heap.size ≤ k) (⟨a1, l2⟩ : S45) (c.take 0 ++ [.string a1, .slice A3 l2.length c3] ++ c.drop (0 + [Value.string a1, .slice A3 l2.length c3].length)) := by
        rw [List.take_zero, List.nil_append, List.drop_of_length_le (by rw [hcl]; exact Nat.le_refl _), List.append_nil]
        exact HE4.out
      refine Kd.N_store k45 (w0 := w) w.heap.size rfl rfl 45 _ _ rfl 45 (m : Int) 0 l0 (⟨a1, l2⟩ : S45) (.agg #[.string a1, .slice A3 l2.length c3]) [.string a1, .slice A3 l2.length c3] c (fun k_ => (w.heap.size ≤ k_)) (fun k => w.heap.size ≤ k ∧ k < gb ∧ w1.heap.size ≤ k) rfl rfl rfl rfl model_With.sz (by intro q hq; rcases hq with _ | ⟨_, hq⟩; rfl; rcases hq with _ | ⟨_, hq⟩; rfl; cases hq) HN4.out hi0 hml hcl hcc (Nat.le_refl 2) hM (fun k hk => ⟨hk.1, by have := hk.2.2; omega⟩) HB4.out ?_
      intro w5 hN5 hB5 hg5
      have HN5 := Aside0.mk hN5
      have HB5 := Aside0.mk hB5
      clear hN5 hB5 hg5 hM hcc hcl hg4 hcs hcs'
      go_wp2
      go_ret
      exact ⟨_, rfl, HN5.out, HB5.out⟩
    | false =>
      have h := H.out
      rw [if_neg (by decide)] at h
      obtain rfl := Option.some.inj h
      clear h
      go_wp2_with (first | (go_at_call 81; refine HP.out.mono ?_; rintro e w4 ⟨rfl, hb4⟩; have HB4 := Aside0.mk (HB3.out.trans (hb4.mono HB3.out.size)); have HN4 := Aside0.mk (Kd.N_below HN3.out hb4); have HE4 := Aside0.mk (Kd.FK_below HE3.out hb4); have H4 := Aside0.mk (blk_below H3.out hb4); have hx0 : w4.cell? ⟨gb, 0, none⟩ = some (.string a1) := (by rw [cell_of_row w4 gb 0 _ _ (0, 0) H4.out]; rfl); have hx1 : w4.cell? ⟨gb, 1, none⟩ = some (.slice A3 l2.length c3) := (by rw [cell_of_row w4 gb 1 _ _ (0, 0) H4.out]; rfl); have hlt4 : gb < w4.heap.size := Nat.lt_of_lt_of_le hlt3 hb4.size; clear hb4 HN3 HE3 H3 HB3 HP) | (go_at_call 82; refine model_With.stop ?_))
      unfold model_With.Stop
      have hbx : (w4.alloc (.cells #[.string a1, .slice A3 l2.length c3] 45)).heap[w4.heap.size]? = some (.cells #[.string a1, .slice A3 l2.length c3] 45 (0, 0)) := YtcfcbkcaondfcaaDoorMpHelp.heap_new w4 _
      have hN5 := Kd.N_alloc HN4.out (.cells #[.string a1, .slice A3 l2.length c3] 45)
      have hE5 := Kd.FK_below HE4.out (below_alloc (Below.refl w4.heap.size w4) (.cells #[.string a1, .slice A3 l2.length c3] 45))
      have hB5 := below_alloc HB4.out (.cells #[.string a1, .slice A3 l2.length c3] 45)
      generalize w4.alloc (.cells #[.string a1, .slice A3 l2.length c3] 45) = w5 at hbx hN5 hE5 hB5 ⊢
      generalize w4.heap.size = av at hbx ⊢
      obtain ⟨cur, hg5, hcs, _, h15, hbg⟩ := YtcfcbkcaondfcaaDoorMpRows.N_cells k45 hN5 (by decide)
      have hml' : m ≤ l0.length := by omega
      have hins : Calls Tryd.prog 82 #[.slice (some ⟨g, 0, none⟩) l0.length l0.length, .int .i64 m, .slice (some ⟨av, 0, none⟩) 1 1] w5 fun e w' => model_With.Ins l0.length m w5 cur.toList (.string a1) (.slice A3 l2.length c3) e w' := by
        have h2 : ∀ u ∈ [Value.string a1, .slice A3 l2.length c3], u.oneCell' = true := by intro q hq; rcases hq with _ | ⟨_, hq⟩; rfl; rcases hq with _ | ⟨_, hq⟩; rfl; cases hq
        rcases Nat.lt_or_ge m l0.length with hlt | hge'
        · exact model_With.ins_mid g l0.length m av cur _ _ w5 hlt HLM.out hg5 hcs h15 hbx h2
        · obtain rfl : m = l0.length := by omega
          exact model_With.ins_end g l0.length av cur _ _ w5 HLM.out hg5 hcs h15 hbx h2
      have HINS := Aside0.mk hins
      have HN5 := Aside0.mk hN5
      have HE5 := Aside0.mk hE5
      have HB5 := Aside0.mk hB5
      have HG5 := Aside0.mk hg5
      clear hins hN5 hE5 hB5 hg5 hbx h15
      refine HINS.out.mono ?_
      rintro e w6 ⟨cap2, cur2, rfl, hq1, hq2, hq3, hq4, hq5, hq6, hq7⟩
      have HN6 := Aside0.mk (YtcfcbkcaondfcaaDoorMpRows.N_inserted k45 HN5.out HG5.out hcs hml' HE5.out (fun k hk => hk.1) hq7 hq1 hq2 hq3 hq4 hq5 HB5.out.size HB5.out.size)
      have HB6 := Aside0.mk (HB5.out.trans (hq7.mono HB5.out.size))
      clear hq1 hq4 hq5 hq6 hq7 HINS HN5 HE5 HB5 HG5
      go_wp2
      go_ret
      exact ⟨_, rfl, HN6.out, HB6.out⟩


/-! ### model_Without: function 62 (told by hand) -/
theorem model_Without.tail (base g n m : Nat) (ok : Nat → Prop) (xs : List S45) (w w1 : World) (h1 : Kd.N k45 45 w1 base ok (.slice (some ⟨g, 0, none⟩) m n) xs) (hmn : m + 1 = n) (hb : Below base w w1) (hbg : base ≤ g) :
    ∃ w2, (∀ ty, (Builtin.clear_ #[36] ty #[.slice (some ⟨g, m * 2, none⟩) 1 1]).run Tryd.prog w1 = .ok (.tuple #[]) w2) ∧ Kd.N k45 45 w2 base ok (.slice (some ⟨g, 0, none⟩) m n) xs ∧ Below base w w2 := by
  obtain ⟨i0, hi0, hz0, hz1, hz2⟩ := model_With.info2
  have h1' := h1
  obtain ⟨h0, rows, hl, ⟨_, inner, hown, hr⟩, hfk⟩ := h1'
  rcases hown.2 with ⟨hv, _⟩ | ⟨g', cap', cur, hv, hbg', hg', hnc, hcm, hsz, htk⟩
  · cases hv
  injection hv with e1 hrn e3
  injection e1 with e1
  injection e1 with e1
  subst e1 e3
  have hsz' : cur.size = n * 2 := hsz
  have hzl : (Builtin.zeroCells (Value.agg #[.string ByteArray.empty, .slice none 0 0]).cells 1).toList.length = 2 := by rw [Array.length_toList, size_zeroCells]; rfl
  have hzo := YtcfcbkcaondfcaaDoorMpRows.zeroCells_one (Value.agg #[.string ByteArray.empty, .slice none 0 0]) 2 rfl (by decide) (by intro u hu; rcases hu with _ | ⟨_, hu⟩; rfl; rcases hu with _ | ⟨_, hu⟩; rfl; cases hu) 1
  have hrun := fun ty => YtcfcbkcaondfcaaDoorMpRows.run_clear_cells (P := Tryd.prog) w1 36 ty 45 i0 (.agg #[.string ByteArray.empty, .slice none 0 0]) Tryd.underlying36 hi0 hz0 g (m * 2) 1 1 (by decide) cur 45 hg' (by rw [hzl]; omega) hzo
  refine ⟨_, hrun, ?_, below_setRow hb hbg _⟩
  refine YtcfcbkcaondfcaaDoorMpRows.N_behind k45 h1 hg' (fun k hk => setRow_other _ _ _ _ hk) (setRow_heap w1 g cur _ 45 (0, 0) hg') ?_ ?_
  · rw [List.size_toArray]
    simp only [List.length_append, List.length_take, List.length_drop, Array.length_toList, hzl]
    omega
  · show List.take (m * 2) (_ ++ _ ++ _) = List.take (m * 2) cur.toList
    rw [List.append_assoc]
    refine List.take_left' ?_
    rw [List.length_take, Array.length_toList]
    omega
set_option maxRecDepth 100000 in
set_option maxHeartbeats 4000000 in
/-- slices.Delete of the last element. -/
theorem model_Without.del_last (base g m : Nat) (ok : Nat → Prop) (xs : List S45) (w : World) (hO : Kd.N k45 45 w base ok (.slice (some ⟨g, 0, none⟩) (m + 1) (m + 1)) xs) (hn : m + 1 ≤ 1000000) (hbw : base ≤ w.heap.size) (hbg : base ≤ g) :
    Calls Tryd.prog 83 #[.slice (some ⟨g, 0, none⟩) (m + 1) (m + 1), .int .i64 m, .int .i64 ((m : Int) + 1)] w fun e w' => e = .returned (.slice (some ⟨g, 0, none⟩) m (m + 1)) ∧ Kd.N k45 45 w' base ok (.slice (some ⟨g, 0, none⟩) m (m + 1)) (xs.eraseIdx m) ∧ Below base w w' := by
  have HO := Aside0.mk hO
  clear hO
  have hnz : (m : Int) ≤ 1000000 := by omega
  have hf1 : ¬ ((m : Int) = (m : Int) + 1) := by omega
  have hf2 : ¬ ((m : Int) < 0) := by omega
  have hf3 : ¬ ((m : Int) + 1 < 0) := by omega
  have hf4 : ¬ ((m : Int) + 1 < (m : Int)) := by omega
  have hf7 : ((m : Int) + 1).toNat = m + 1 := by omega
  go_enter Tryd.func83, Tryd.ntmps83
  go_wp2_with fail
  go_region_held3 (fun W => True) (trivial) (first | (refine Kd.N_delete_step k45 (w0 := w) base (by rfl) (.tmp 22) (.tmp 25) 36 45 (by rfl) Tryd.underlying36 model_With.sz (g := g) (n := m + 1) (c := m + 1) (k := m) (m := 0) (c2 := 0) (A := some ⟨g, 0, none⟩) (by rfl) (by rfl) (by rw [if_pos rfl]) (by omega) (Kd.N_drew HO.out) (by omega) (below_drew1 (Below.refl _ _)) hbw ?_; intro w5 hN5 hB5 hg5))
  obtain ⟨w6, hrun, hN6, hB6⟩ := model_Without.tail base g (m + 1) m ok _ w w5 hN5 rfl hB5 hbg
  have HRUN := Aside0.mk hrun
  have HN6 := Aside0.mk hN6
  have HB6 := Aside0.mk hB6
  clear hrun hN6 hB6 hN5 hB5 hg5
  go_wp2_with ((with_reducible refine gate_builtin (b := .clear) (xs := #[.tmp 31]) rfl ?_); refine model_With.stop ?_)
  unfold model_With.Stop
  refine YtcfcbkcaondfcaaDoorMpRows.wpList_clear_run rfl _ _ rfl _ rfl (HRUN.out _) ?_
  go_wp2
  go_ret
  exact ⟨rfl, HN6.out, HB6.out⟩
set_option maxRecDepth 100000 in
set_option maxHeartbeats 4000000 in
/-- slices.Delete of an element ahead of the last. -/
theorem model_Without.del_mid (base g m q : Nat) (hmq : m < q) (ok : Nat → Prop) (xs : List S45) (w : World) (hO : Kd.N k45 45 w base ok (.slice (some ⟨g, 0, none⟩) (q + 1) (q + 1)) xs) (hn : q + 1 ≤ 1000000) (hbw : base ≤ w.heap.size) (hbg : base ≤ g) :
    Calls Tryd.prog 83 #[.slice (some ⟨g, 0, none⟩) (q + 1) (q + 1), .int .i64 m, .int .i64 ((m : Int) + 1)] w fun e w' => e = .returned (.slice (some ⟨g, 0, none⟩) q (q + 1)) ∧ Kd.N k45 45 w' base ok (.slice (some ⟨g, 0, none⟩) q (q + 1)) (xs.eraseIdx m) ∧ Below base w w' := by
  have HO := Aside0.mk hO
  clear hO
  have hnz : (q : Int) ≤ 1000000 := by omega
  have hmz : (m : Int) < (q : Int) := by omega
  have hg1 : ¬ q = m := by omega
  have hg2 : ¬ q + 1 = m := by omega
  have hg3 : ¬ (q : Int) + 1 < (m : Int) + 1 := by omega
  have hg4 : ¬ (q : Int) + 1 < (m : Int) := by omega
  have hg5 : ¬ (m : Int) = (q : Int) := by omega
  have hg6 : m + 1 ≤ q + 1 := by omega
  have hg7 : m ≤ q + 1 := by omega
  have HNE := Aside0.mk hg1
  have hf1 : ¬ ((m : Int) = (m : Int) + 1) := by omega
  have hf2 : ¬ ((m : Int) < 0) := by omega
  have hf3 : ¬ ((m : Int) + 1 < 0) := by omega
  have hf4 : ¬ ((m : Int) + 1 < (m : Int)) := by omega
  have hf7 : ((m : Int) + 1).toNat = m + 1 := by omega
  go_enter Tryd.func83, Tryd.ntmps83
  go_wp2_with fail
  go_region_held3 (fun W => True) (trivial) (first | (refine Kd.N_delete_step k45 (w0 := w) base (by rfl) (.tmp 22) (.tmp 25) 36 45 (by rfl) Tryd.underlying36 model_With.sz (g := g) (n := q + 1) (c := q + 1) (k := m) (m := q - m) (c2 := q - m) (A := some ⟨g, (m + 1) * 2, none⟩) (by rfl) (by rfl) (by rw [if_neg (by have := HNE.out; omega)]; simp [Addr.add]; rfl) (by omega) (Kd.N_drew HO.out) (by omega) (below_drew1 (Below.refl _ _)) hbw ?_; intro w5 hN5 hB5 hg5))
  obtain ⟨w6, hrun, hN6, hB6⟩ := model_Without.tail base g (q + 1) q ok _ w w5 hN5 rfl hB5 hbg
  have HRUN := Aside0.mk hrun
  have HN6 := Aside0.mk hN6
  have HB6 := Aside0.mk hB6
  clear hrun hN6 hB6 hN5 hB5 hg5
  go_wp2_with ((with_reducible refine gate_builtin (b := .clear) (xs := #[.tmp 31]) rfl ?_); refine model_With.stop ?_)
  unfold model_With.Stop
  refine YtcfcbkcaondfcaaDoorMpRows.wpList_clear_run rfl _ _ rfl _ rfl (HRUN.out _) ?_
  go_wp2
  go_ret
  exact ⟨rfl, HN6.out, HB6.out⟩
/-- What model.Without does. -/
def model_Without.f (l0 : List S45) (a1 : ByteArray) : Option (List S45) :=
  if l0.length ≤ 1000000 ∧ (∀ y ∈ l0, y.f1.length ≤ 140737488355328) then
    (model_place.f l0 a1).bind fun r => if r.2 = true then (if 0 ≤ r.1 ∧ r.1 < l0.length then some (l0.eraseIdx r.1.toNat) else none) else some l0
  else none
set_option maxRecDepth 100000 in
set_option maxHeartbeats 4000000 in
theorem model_Without.calls (A0 : Option Addr) (c0 : Nat) (l0 : List S45) (a1 : ByteArray) (r : List S45) (w : World) (hr0 : Kd.C k45 w A0 l0.length l0) (hc0 : l0.length ≤ c0) (h : model_Without.f l0 a1 = some r) :
    Calls Tryd.prog 62 #[.slice A0 l0.length c0, .string a1] w fun e w' => ∃ v0_ : Value, e = .returned (v0_) ∧ Kd.N k45 45 w' w.heap.size (fun k_ => (w.heap.size ≤ k_)) v0_ r ∧ Below w.heap.size w w' := by
  unfold model_Without.f at h
  by_cases hg : l0.length ≤ 1000000 ∧ (∀ y ∈ l0, y.f1.length ≤ 140737488355328)
  case neg => rw [if_neg hg] at h; cases h
  rw [if_pos hg] at h
  obtain ⟨hg1, hg2⟩ := hg
  cases hpl : model_place.f l0 a1 with
  | none => rw [hpl] at h; cases h
  | some pr =>
    obtain ⟨i, there⟩ := pr
    rw [hpl] at h
    simp only [Option.bind_some] at h
    have hc1 := model_copied.go A0 c0 l0 w hr0 hg1 hg2
    have HC1 := Aside0.mk hc1
    have HPL := Aside0.mk hpl
    have H := Aside0.mk h
    have HLM := Aside0.mk hg1
    clear hc1 hpl hr0 hc0 h hg1 hg2
    go_enter Tryd.func62, Tryd.ntmps62
    go_wp2_with (first | (go_at_call 79; refine HC1.out.mono ?_; rintro e w1 ⟨g, rfl, hg, hN1, hB1⟩; have HN1 := Aside0.mk hN1; have HB1 := Aside0.mk hB1; clear hN1 hB1 HC1) | (go_at_call 81; refine model_With.stop ?_))
    unfold model_With.Stop
    have hp := model_place.calls (some ⟨g, 0, none⟩) l0.length l0 a1 i there w1 (Kd.N_reads' HN1.out).2.2 (Nat.le_refl _) HPL.out
    refine hp.mono ?_
    rintro e w2 ⟨rfl, hb2⟩
    have HN2 := Aside0.mk (Kd.N_below HN1.out hb2)
    have HB2 := Aside0.mk (HB1.out.trans (hb2.mono HB1.out.size))
    clear hb2 hp HN1 HB1 HPL
    cases there with
    | false =>
      have h := H.out
      rw [if_neg (by decide)] at h
      obtain rfl := Option.some.inj h
      clear h
      go_wp2
      go_ret
      exact ⟨_, rfl, HN2.out, HB2.out⟩
    | true =>
      have h := H.out
      rw [if_pos rfl] at h
      by_cases hml : 0 ≤ i ∧ i < (l0.length : Int)
      case neg => rw [if_neg hml] at h; cases h
      rw [if_pos hml] at h
      obtain rfl := Option.some.inj h
      clear h
      obtain ⟨hi0, hi1⟩ := hml
      obtain ⟨m, rfl⟩ := Int.eq_ofNat_of_zero_le hi0
      have hw1 : IntKind.i64.wrap ((m : Int) + 1) = (m : Int) + 1 := by rw [IntKind.wrap_i64]; have := HLM.out; omega
      have hml' : m < l0.length := by omega
      have hdel : Calls Tryd.prog 83 #[.slice (some ⟨g, 0, none⟩) l0.length l0.length, .int .i64 m, .int .i64 ((m : Int) + 1)] w2 fun e w' => e = .returned (.slice (some ⟨g, 0, none⟩) (l0.length - 1) l0.length) ∧ Kd.N k45 45 w' w.heap.size (fun k_ => (w.heap.size ≤ k_)) (.slice (some ⟨g, 0, none⟩) (l0.length - 1) l0.length) (l0.eraseIdx m) ∧ Below w.heap.size w2 w' := by
        obtain ⟨q, hq⟩ : ∃ q, l0.length = q + 1 := ⟨l0.length - 1, by omega⟩
        have hN2 := HN2.out
        have hlm := HLM.out
        rw [hq] at hN2 hlm ⊢
        rcases Nat.lt_or_ge m q with hlt | hge
        · exact model_Without.del_mid w.heap.size g m q hlt _ l0 w2 hN2 hlm HB2.out.size hg
        · obtain rfl : m = q := by omega
          exact model_Without.del_last w.heap.size g m _ l0 w2 hN2 hlm HB2.out.size hg
      have HDEL := Aside0.mk hdel
      clear hdel
      go_wp2_with (go_at_call 83; refine HDEL.out.mono ?_; rintro e w3 ⟨rfl, hN3, hB3⟩)
      go_ret
      exact ⟨_, rfl, hN3, HB2.out.trans hB3⟩


/-! ### plan_own: function 63 -/
def plan_own.l0 : Nat → List (S45) → List (S45) → Int → Int → Option ((List (S45)))
 | 0, _, _, _, _ => none
 | k + 1, x3, x6, x7, x8 => if x8 < x7 then (if 0 ≤ x8 then (if x8 < (x6.length : Int) then ((slices_Clone_byte_byte.f ((rd_T45 x6 x8).f1)).bind fun t137 => (if x3.length < 3518437208883 then (plan_own.l0 k (x3 ++ [(⟨(rd_T45 x6 x8).f0, t137⟩ : S45)]) x6 x7 (wrap64 (x8 + 1))) else (none))) else (none)) else (none)) else (some x3)
def plan_own.f (k : Nat) (l0 : List (S45)) : Option ((List (S45))) := plan_own.l0 k ([] : List (S45)) l0 (l0.length : Int) 0
theorem plan_own.mono_l : ∀ k, (∀ y0 y1 y2 y3, LeO (plan_own.l0 k y0 y1 y2 y3) (plan_own.l0 (k + 1) y0 y1 y2 y3))
 | 0 => fun _ _ _ _ r h => by simp [plan_own.l0] at h
 | k + 1 => by
  have ih0 := plan_own.mono_l k
  ·intro y0 y1 y2 y3
   unfold plan_own.l0
   repeat' first
   | (with_reducible exact ih0 _ _ _ _)
   | (with_reducible exact LeO.refl _)
   | (with_reducible exact LeO.none _)
   | (with_reducible refine LeO.ite ?_ ?_)
   | (with_reducible refine LeO.bind ?_ (fun _ => ?_))
   | exact ih0 _ _ _ _
   | exact LeO.none _
   | refine LeO.ite ?_ ?_
   | refine LeO.bind ?_ (fun _ => ?_)
theorem plan_own.mono : ∀ a0 k, LeO (plan_own.f k a0) (plan_own.f (k + 1) a0) := by
 intro a0 k
 have ih0 := plan_own.mono_l k
 unfold plan_own.f
 repeat' first
   | (with_reducible exact ih0 _ _ _ _)
   | (with_reducible exact LeO.refl _)
   | (with_reducible exact LeO.none _)
   | (with_reducible refine LeO.ite ?_ ?_)
   | (with_reducible refine LeO.bind ?_ (fun _ => ?_))
   | exact ih0 _ _ _ _
   | exact LeO.none _
   | refine LeO.ite ?_ ?_
   | refine LeO.bind ?_ (fun _ => ?_)
def plan_own.T5 : Bool × List (List Nat × List Nat) := (true, [([], []), ([], []), ([1], [1]), ([], []), ([3], [3]), ([4], [4]), ([2, 5], [2, 5]), ([6], [6]), ([0, 7, 5], [0, 7]), ([8, 8, 0, 1, 2, 3, 4, 5, 6, 7, 8], [0, 8])])
def plan_own.B5 : List Nat := [0, 0, 2, 0, 8, 24, 62, 126, 255, 511]
theorem plan_own.tab5 : rtab .any (opsOf Tryd.f63 5) = plan_own.T5 := by kernel_rfl
theorem plan_own.bits5 : waitsOk plan_own.T5.2 plan_own.B5 = true := by kernel_rfl
set_option maxHeartbeats 8000000 in
set_option maxRecDepth 100000 in
theorem plan_own.calls (k : Nat) (A0 : Option Addr) (c0 : Nat) (l0 : List (S45)) (r : List (S45)) (w : World) (hr0 : Kd.C k45 w A0 l0.length l0) (hc0 : l0.length ≤ c0) (h : plan_own.f k l0 = some r) :
  Calls Tryd.prog 63 #[.slice A0 l0.length c0] w fun e w' => ∃ v0_ : Value, e = .returned (v0_) ∧ Kd.S k45 45 w' w.heap.size (fun _ => True) v0_ r ∧ Below w.heap.size w w' := by
 have hu45 := Tryd.underlying45
 have HR0 := Aside0.mk hr0
 have HC0 := Aside0.mk hc0
 clear hr0 hc0
 have HB := Aside0.mk (Below.refl w.heap.size w)
 have H : (plan_own.l0 k ([] : List (S45)) l0 (l0.length : Int) 0) = some r := h
 clear h
 have H' := Aside0.mk H
 clear H
 go_enter Tryd.func63, Tryd.ntmps63
 go_wp2
 go_loopg [3, 8] k (fun kq v3 v8 w' => ∃ (x3_1 : List (S45)) (x8_1 : Int), v8 = .int .i64 x8_1 ∧ Aside0 (plan_own.l0 kq x3_1 l0 (l0.length : Int) x8_1 = some r) ∧ Aside0 (kq ≤ k) ∧ Aside0 (Kd.S k45 45 w' w.heap.size (fun _ => True) v3 x3_1) ∧ Aside0 (Below w.heap.size w w'))
 case atStart => exact ⟨(([] : List (S45))), (0), (by first | rfl | (simp only [YtcfcbkcaondfcaaDoorMpHelp.leq_not, YtcfcbkcaondfcaaDoorMpHelp.gtr_less]; done) | (simp; done) | (simp [*]; done)), H', ⟨Nat.le_refl _⟩, ⟨by first | exact Kd.S_nil _ _ _ _ _ | exact Kd.N_nil _ _ _ _ _ | exact Kd.V_nil _ _ _ _ _ | exact Kd.Q_nil _ _ _ _ _ | exact Kd.R_nil _ _ _ _ _⟩, ⟨by repeat (first | (with_reducible first | exact HB.out | apply below_alloc | apply pw_below_drewN | apply below_drew1) | exact HB.out)⟩⟩
 case round =>
  clear H'
  obtain ⟨x3_1, x8_1, rfl, HA, HK1, HO_3, HB⟩ := hrel
  cases gk with
  | zero => exact absurd HA.out (by simp [plan_own.l0])
  | succ k1 =>
   have H := HA.out
   clear HA
   simp only [plan_own.l0] at H
   by_cases c2 : x8_1 < (l0.length : Int)
   ·rw [if_pos c2] at H
    have c2b0 : decide (x8_1 < (l0.length : Int)) = true := decide_eq_true c2
    clear c2
    by_cases c3 : 0 ≤ x8_1
    ·rw [if_pos c3] at H
     have c3b0 : decide (0 ≤ x8_1) = true := decide_eq_true c3
     clear c3
     by_cases c4 : x8_1 < (l0.length : Int)
     ·rw [if_pos c4] at H
      have c4b0 : decide (x8_1 < (l0.length : Int)) = true := decide_eq_true c4
      clear c4
      replace H := Option.bind_eq_some_iff.mp H
      obtain ⟨t137, A50, H⟩ := H
      replace H : (if x3_1.length < 3518437208883 then (plan_own.l0 k1 (x3_1 ++ [(⟨(rd_T45 l0 x8_1).f0, t137⟩ : S45)]) l0 (l0.length : Int) (wrap64 (x8_1 + 1))) else (none)) = some r := H
      have A5 := Aside0.mk A50
      clear A50
      by_cases c6 : x3_1.length < 3518437208883
      ·rw [if_pos c6] at H
       have LMc6 := Aside0.mk c6
       clear c6
       obtain ⟨y140, hy140⟩ : ∃ y_ : List (S45), y_ = (x3_1 ++ [(⟨(rd_T45 l0 x8_1).f0, t137⟩ : S45)]) := ⟨_, rfl⟩
       replace H : (plan_own.l0 k1 y140 l0 (l0.length : Int) (wrap64 (x8_1 + 1))) = some r := by first | (rw [hy140]; with_reducible exact H) | (have H2_ := (Option.bind_some _ _).symm.trans H; rw [hy140]; with_reducible exact H2_) | (have H2_ := (Option.bind_some _ _).symm.trans H; with_reducible exact H2_) | with_reducible exact H | (rw [hy140]; exact H) | exact H
       have Ny140 := Aside0.mk hy140
       clear hy140
       have H' := Aside0.mk H
       clear H
       have p135 : 0 ≤ (x8_1 : Int) := of_decide_eq_true (by first | (with_reducible assumption) | assumption)
       have q135 : x8_1 < (l0.length : Int) := of_decide_eq_true (by first | (with_reducible assumption) | assumption)
       obtain ⟨ad135, A135_1, c135_1, e135, hx135_0, hx135_1, hl135_1, hi135_1⟩ := at_T45 HR0.out x8_1 p135 q135
       cases e135
       replace hx135_0 := (HB.out.cell (World.block_lt_of_cell? w _ hx135_0)).trans hx135_0
       replace hx135_1 := (HB.out.cell (World.block_lt_of_cell? w _ hx135_1)).trans hx135_1
       have HR135_1 := Aside0.mk hi135_1
       have HC135_1 := Aside0.mk hl135_1
       clear hi135_1 hl135_1
       replace p135 := eq_true p135
       replace q135 := eq_true q135
       try go_wp2_with (first | ((with_reducible refine gate_dst (N := 5) rfl ?_); refine box_event ?hg (N := 5) ?hd (cs := #[.string (⟨#[]⟩ : ByteArray), .slice none 0 0]) (t := 45) ?hr ?_; (case hd => rfl); (case hg => rfl); (case hr => first | (go_simp; done) | (go_simp; rfl)); intro gb136 hg w7 hbox hb; have n0_ := Aside0.mk (Kd.S_below (Kd.S_elderB (by (with_reducible repeat (first | apply Kd.S_alloc | apply Kd.S_drewN | apply Kd.S_drew)); exact HO_3.out) gb136 (Nat.le_of_eq hg.symm)) hb); have n1_ := Aside0.mk (below_step (by repeat (first | (with_reducible first | exact HB.out | apply below_alloc | apply pw_below_drewN | apply below_drew1) | exact HB.out)) hb); have n2_ := Aside0.mk (hbox); have n3_ := Aside0.mk ((by rw [hg]; exact (below_size (by repeat (first | (with_reducible first | exact HB.out | apply below_alloc | apply pw_below_drewN | apply below_drew1) | exact HB.out))) : w.heap.size ≤ gb136)); have n4_ := Aside0.mk ((by rw [hg]; exact (below_size (by repeat (first | (with_reducible first | exact HB.out | apply below_alloc | apply pw_below_drewN | apply below_drew1) | exact HB.out))) : w.heap.size ≤ gb136)); clear HO_3; clear HB; have HO_3 := n0_; have HB := n1_; have BK136 := n2_; have GW136 := n3_; have GE136 := n4_; clear n0_ n1_ n2_ n3_ n4_; clear hb hbox hg; have hcz8_0 : w7.cell? ⟨gb136, 0, none⟩ = some (.string (⟨#[]⟩ : ByteArray)) := (blk_cell BK136.out 0).trans rfl; have hcz8_1 : w7.cell? ⟨gb136, 1, none⟩ = some (.slice none 0 0) := (blk_cell BK136.out 1).trans rfl; have hfz8_0 := blk_frozen BK136.out 0; have hfz8_1 := blk_frozen BK136.out 1))
       have n0_ : Aside0 (Kd.S k45 45 ((w7.setCell ⟨gb136, 0, none⟩ (.string ((rd_T45 l0 x8_1).f0))).setCell ⟨gb136, 1, none⟩ (.slice A135_1 ((rd_T45 l0 x8_1).f1).length c135_1)) w.heap.size (fun k_ => k_ ≠ gb136) u3 x3_1) := ⟨by (with_reducible repeat (first | apply Kd.S_alloc | apply Kd.S_drewN | apply Kd.S_drew)); exact Kd.S_mono (Kd.S_far (p := ⟨gb136, 1, none⟩) (Kd.S_far (p := ⟨gb136, 0, none⟩) (Kd.S_mono HO_3.out (fun k_ hk => (⟨hk, hk.2⟩ : _ ∧ k_ ≠ gb136))) (fun _ hk => hk.2) (.string ((rd_T45 l0 x8_1).f0))) (fun _ hk => hk.2) (.slice A135_1 ((rd_T45 l0 x8_1).f1).length c135_1)) (fun _ hk => hk.1.2)⟩
       have n1_ : Aside0 (((w7.setCell ⟨gb136, 0, none⟩ (.string ((rd_T45 l0 x8_1).f0))).setCell ⟨gb136, 1, none⟩ (.slice A135_1 ((rd_T45 l0 x8_1).f1).length c135_1)).heap[gb136]? = some (.cells #[.string ((rd_T45 l0 x8_1).f0), .slice A135_1 ((rd_T45 l0 x8_1).f1).length c135_1] 45 (0, 0))) := ⟨by (with_reducible repeat (first | refine blk_drewN ?_ _ | refine blk_drew ?_ | refine blk_alloc ?_ _)); refine blk_put (cs := #[.string ((rd_T45 l0 x8_1).f0), .slice none 0 0]) ?_ 1 _ rfl; (with_reducible repeat (first | refine blk_drewN ?_ _ | refine blk_drew ?_ | refine blk_alloc ?_ _)); refine blk_put (cs := #[.string (⟨#[]⟩ : ByteArray), .slice none 0 0]) ?_ 0 _ rfl; (with_reducible repeat (first | refine blk_drewN ?_ _ | refine blk_drew ?_ | refine blk_alloc ?_ _)); exact BK136.out⟩
       have n2_ : Aside0 (Below w.heap.size w ((w7.setCell ⟨gb136, 0, none⟩ (.string ((rd_T45 l0 x8_1).f0))).setCell ⟨gb136, 1, none⟩ (.slice A135_1 ((rd_T45 l0 x8_1).f1).length c135_1))) := ⟨by repeat (first | (with_reducible first | exact HB.out | apply below_alloc | apply pw_below_drewN | apply below_drew1 | refine below_set ?_ GE136.out) | exact HB.out)⟩
       (try clear HO_3)
       (try clear BK136)
       (try clear HB)
       generalize ((w7.setCell ⟨gb136, 0, none⟩ (.string ((rd_T45 l0 x8_1).f0))).setCell ⟨gb136, 1, none⟩ (.slice A135_1 ((rd_T45 l0 x8_1).f1).length c135_1)) = w9 at n0_ n1_ n2_ ⊢
       have HO_3 := n0_
       have BK136 := n1_
       have HB := n2_
       clear n0_ n1_ n2_
       have n0_ := Aside0.mk (Kd.S_drew HO_3.out)
       have n1_ := Aside0.mk (blk_drew BK136.out)
       have n2_ := Aside0.mk (below_drew1 HB.out)
       clear HO_3
       clear BK136
       clear HB
       have HO_3 := n0_
       have BK136 := n1_
       have HB := n2_
       clear n0_ n1_ n2_
       refine start_ (n := 10) (S := fun w' => w'.cell? ⟨gb136, 0, none⟩ = some (.string ((rd_T45 l0 x8_1).f0)) ∧ w'.cell? ⟨gb136, 1, none⟩ = some (.slice A135_1 ((rd_T45 l0 x8_1).f1).length c135_1)) (ds := []) #[false, false, false, false, false, false, false, false, false, false] (by kernel_rfl) rfl rfl ⟨(blk_cell BK136.out 0).trans rfl, (blk_cell BK136.out 1).trans rfl⟩ (fun hHeld => ?_); refine with_tabW plan_own.tab5 plan_own.bits5 (fun HT_ HW_ => ?_)
       generalize w9.drew = w10 at HO_3 BK136 HB hHeld ⊢
       refine pure_ (i := 0) (N := some 12) (v := ?_) (a' := ?_) #[true, false, false, false, false, false, false, false, false, false] rfl rfl (any_of HT_.out (by kernel_rfl)) (fun _ _ _ h => h) (Or.inl ⟨by rfl, ?_⟩) ?_ ?_
       rotate_left
       ·intro w'
        go_simp
        with_reducible rfl
       rotate_left
       ·simp only [Act.put, List.setIfInBounds_toArray, List.set_cons_zero, List.set_cons_succ, i64_w, i32_w]
        rfl
       refine pure_ (i := 1) (N := some 13) (v := ?_) (a' := ?_) #[true, true, false, false, false, false, false, false, false, false] rfl rfl (any_of HT_.out (by kernel_rfl)) (fun _ _ _ h => h) (Or.inl ⟨by rfl, ?_⟩) ?_ ?_
       rotate_left
       ·intro w'
        go_simp
        with_reducible rfl
       rotate_left
       ·simp only [Act.put, List.setIfInBounds_toArray, List.set_cons_zero, List.set_cons_succ, i64_w, i32_w]
        rfl
       refine pure_ (i := 3) (N := some 15) (v := ?_) (a' := ?_) #[true, true, false, true, false, false, false, false, false, false] rfl rfl (any_of HT_.out (by kernel_rfl)) (fun _ _ _ h => h) (Or.inl ⟨by rfl, ?_⟩) ?_ ?_
       rotate_left
       ·intro w'
        go_simp
        with_reducible rfl
       rotate_left
       ·simp only [Act.put, List.setIfInBounds_toArray, List.set_cons_zero, List.set_cons_succ, i64_w, i32_w]
        rfl
       refine take_ (i := 2) (N := some 14) (v := ?_) (a' := ?_) #[true, true, true, true, false, false, false, false, false, false] rfl rfl (take_ofW HT_.out HW_.out (by kernel_rfl)) (fun _ _ _ h => h) (Or.inl ⟨by rfl, ?_⟩) hHeld ?_ ?_
       rotate_left
       ·rintro w' ⟨s0, s1⟩
        go_simp
        with_reducible rfl
       rotate_left
       ·simp only [Act.put, List.setIfInBounds_toArray, List.set_cons_zero, List.set_cons_succ, i64_w, i32_w]
        rfl
       refine take_ (i := 4) (N := some 16) (v := ?_) (a' := ?_) #[true, true, true, true, true, false, false, false, false, false] rfl rfl (take_ofW HT_.out HW_.out (by kernel_rfl)) (fun _ _ _ h => h) (Or.inl ⟨by rfl, ?_⟩) hHeld ?_ ?_
       rotate_left
       ·rintro w' ⟨s0, s1⟩
        go_simp
        with_reducible rfl
       rotate_left
       ·simp only [Act.put, List.setIfInBounds_toArray, List.set_cons_zero, List.set_cons_succ, i64_w, i32_w]
        rfl
       refine one_ (i := 5) (N := some 17) #[true, true, true, true, true, true, false, false, false, false] rfl rfl (one_of HT_.out (by kernel_rfl)) (by decide) (fun K hK => ?_)
       refine goes_ Tryd.func80 (by kernel_rfl) rfl #[.slice A135_1 ((rd_T45 l0 x8_1).f1).length c135_1] (by rfl) rfl rfl (by (try simp only [List.map_toArray, List.map_cons, List.map_nil]); first | done | rfl | (simp only [List.length_drop, List.length_take]; rfl)) ?_
       with_reducible refine (slices_Clone_byte_byte.calls _ _ ((rd_T45 l0 x8_1).f1) t137 _ ?side1 ?side2 A5.out).mono ?_
       (case side1 => repeat (first | exact (Kd.C_below HR135_1.out HB.out) | (with_reducible refine Kd.C_alloc ?_ _) | (with_reducible refine Kd.C_drewN ?_ _) | (with_reducible refine Kd.C_drew ?_)))
       (case side2 => exact HC135_1.out)
       rintro e w11 ⟨v138, rfl, ho0, hb⟩
       refine ⟨_, rfl, ?_⟩
       have n0_ := Aside0.mk (Kd.S_elder' (by (with_reducible repeat (first | apply Kd.S_alloc | apply Kd.S_drewN | apply Kd.S_drew)); exact HO_3.out) (Kd.R_base ho0) hb)
       have n1_ := Aside0.mk (Kd.R_lower ho0 (below_size (by repeat (first | (with_reducible first | exact HB.out | apply below_alloc | apply pw_below_drewN | apply below_drew1 | refine below_set ?_ GE136.out) | exact HB.out))))
       have n2_ := Aside0.mk (blk_below (g := gb136) (o := .cells #[.string ((rd_T45 l0 x8_1).f0), .slice A135_1 ((rd_T45 l0 x8_1).f1).length c135_1] 45 (0, 0)) (by (with_reducible repeat (first | refine blk_drewN ?_ _ | refine blk_drew ?_ | refine blk_alloc ?_ _)); exact BK136.out) hb)
       have n3_ := Aside0.mk (below_step (by repeat (first | (with_reducible first | exact HB.out | apply below_alloc | apply pw_below_drewN | apply below_drew1 | refine below_set ?_ GE136.out) | exact HB.out)) hb)
       clear HO_3
       clear BK136
       clear HB
       have HO_3 := n0_
       have HO139 := n1_
       have BK136 := n2_
       have HB := n3_
       clear n0_ n1_ n2_ n3_
       (try clear hb)
       (try clear hb2)
       (try clear hk)
       (try clear hi)
       (try clear ho0)
       obtain ⟨Ao12, co12, eo12⟩ := Kd.R_slice HO139.out
       (first | subst eo12 | (injection eo12 with f1_ f2_ f3_; have f4_ := f1_.symm; have f5_ := f3_.symm; clear f1_ f2_ f3_; subst f4_; subst f5_))
       refine hK.out _ _ ⟨(blk_cell BK136.out 0).trans rfl, (blk_cell BK136.out 1).trans rfl⟩ (fun hHeld => ?_)
       clear hK K
       refine norm_ (a' := ?_) ?_ ?_
       rotate_left
       ·show Act.put _ (some 17) _ = _
        simp only [Act.put, List.setIfInBounds_toArray, List.set_cons_zero, List.set_cons_succ, i64_w, i32_w]
        rfl
       refine pure_ (i := 6) (N := some 18) (v := ?_) (a' := ?_) #[true, true, true, true, true, true, true, false, false, false] rfl rfl (any_of HT_.out (by kernel_rfl)) (fun _ _ _ h => h) (Or.inl ⟨by rfl, ?_⟩) ?_ ?_
       rotate_left
       ·intro w'
        go_simp
        with_reducible rfl
       rotate_left
       ·simp only [Act.put, List.setIfInBounds_toArray, List.set_cons_zero, List.set_cons_succ, i64_w, i32_w]
        rfl
       refine one_ (i := 7) (N := some 19) #[true, true, true, true, true, true, true, true, false, false] rfl rfl (one_of HT_.out (by kernel_rfl)) (by decide) (fun K hK => ?_)
       refine value_ (w1 := ?_) (v := ?_) (by rfl) rfl ?_ ?_
       rotate_left 2
       ·go_simp
        constructor
        ·rfl
        ·rfl
       refine hK.out _ _ ⟨(blk_cell (blk_alloc BK136.out _) 0).trans rfl, (blk_cell (blk_alloc BK136.out _) 1).trans rfl⟩ (fun hHeld => ?_)
       clear hK K
       refine norm_ (a' := ?_) ?_ ?_
       rotate_left
       ·show Act.put _ (some 19) _ = _
        simp only [Act.put, List.setIfInBounds_toArray, List.set_cons_zero, List.set_cons_succ, i64_w, i32_w]
        rfl
       refine one_ (i := 8) (N := some 20) #[true, true, true, true, true, true, true, true, true, false] rfl rfl (one_of HT_.out (by kernel_rfl)) (by decide) (fun K hK => ?_)
       refine Kd.S_append_step k45 (w0 := w) w.heap.size (by rfl) (.tmp 12) (.tmp 19) 36 45 (.agg #[(.string ⟨#[]⟩), (.slice none 0 0)]) 40 rfl Tryd.underlying36 info45 rfl (by decide) (by omega) u3 x3_1 (⟨(rd_T45 l0 x8_1).f0, t137⟩ : S45) [.string ((rd_T45 l0 x8_1).f0), .slice Ao12 t137.length co12] (fun k_ => k_ ≠ gb136) (fun k_ => some k_ = (.slice Ao12 t137.length co12 : Value).ownBlock) rfl rfl ?aP (fun k_ hk_ => ((Kd.R_mono (ok' := fun k_ => ((fun k_ => k_ ≠ gb136)) k_ ∧ some k_ ≠ (u3 : Value).ownBlock) (Kd.R_types (Kd.R_apart' (HO139.out) (Kd.S_typed HO_3.out) (by decide)) BK136.out (by decide)) (fun k_ hk => ⟨hk.2, hk.1.2⟩))).1 k_ hk_.symm) ?aF ?aO ?aB ?aS ?aL ?_
       (case aP => exact k45_mkM _ _ _ (⟨(rd_T45 l0 x8_1).f0, t137⟩ : S45) (Kd.R_mono (Kd.R_tight rfl (Kd.R_mono (ok' := fun k_ => ((fun k_ => k_ ≠ gb136)) k_ ∧ some k_ ≠ (u3 : Value).ownBlock) (Kd.R_types (Kd.R_apart' (HO139.out) (Kd.S_typed HO_3.out) (by decide)) BK136.out (by decide)) (fun k_ hk => ⟨hk.2, hk.1.2⟩))) (fun _ h_ => h_)))
       (case aB => exact (by repeat (first | (with_reducible first | exact HB.out | apply below_alloc | apply pw_below_drewN | apply below_drew1 | refine below_set ?_ GE136.out) | exact HB.out)))
       (case aF => exact (fun k_ hk => Kd.freshB (g := gb136) (o := .cells #[.string ((rd_T45 l0 x8_1).f0), .slice A135_1 ((rd_T45 l0 x8_1).f1).length c135_1] 45 (0, 0)) (by (with_reducible repeat (first | refine blk_drewN ?_ _ | refine blk_drew ?_ | refine blk_alloc ?_ _)); exact BK136.out) k_ hk))
       (case aO => exact (by (with_reducible repeat (first | apply Kd.S_alloc | apply Kd.S_drewN | apply Kd.S_drew)); exact Kd.S_mono HO_3.out (fun k_ hk => ⟨hk.1, fun e_ => hk.2 e_⟩)))
       (case aS => exact (below_size (by repeat (first | (with_reducible first | exact HB.out | apply below_alloc | apply pw_below_drewN | apply below_drew1 | refine below_set ?_ GE136.out) | exact HB.out))))
       (case aL => have := LMc6.out; omega)
       intro v141 w13 ho hb hg hat
       rw [← Ny140.out] at ho
       have n0_ := Aside0.mk (blk_grown (g := gb136) (o := .cells #[.string ((rd_T45 l0 x8_1).f0), .slice A135_1 ((rd_T45 l0 x8_1).f1).length c135_1] 45 (0, 0)) (by (with_reducible repeat (first | refine blk_drewN ?_ _ | refine blk_drew ?_ | refine blk_alloc ?_ _)); exact BK136.out) hg (Kd.S_away HO_3.out (fun _ hk => hk.1)))
       have n1_ := Aside0.mk (hb)
       have n2_ := Aside0.mk (ho)
       clear BK136
       clear HB
       clear HO_3
       clear HO139
       have BK136 := n0_
       have HB := n1_
       have HO142 := n2_
       clear n0_ n1_ n2_
       clear ho hb hg hat
       refine hK.out _ _ ⟨(blk_cell BK136.out 0).trans rfl, (blk_cell BK136.out 1).trans rfl⟩ (fun hHeld => ?_)
       clear hK K
       refine norm_ (a' := ?_) ?_ ?_
       rotate_left
       ·show Act.put _ (some 20) _ = _
        simp only [Act.put, List.setIfInBounds_toArray, List.set_cons_zero, List.set_cons_succ, i64_w, i32_w]
        rfl
       refine pure_ (i := 9) (N := some 3) (v := ?_) (a' := ?_) #[true, true, true, true, true, true, true, true, true, true] rfl rfl (any_of HT_.out (by kernel_rfl)) (fun _ _ _ h => h) (Or.inl ⟨by rfl, ?_⟩) ?_ ?_
       rotate_left
       ·intro w'
        go_simp
        with_reducible rfl
       rotate_left
       ·simp only [Act.put, List.setIfInBounds_toArray, List.set_cons_zero, List.set_cons_succ, i64_w, i32_w]
        rfl
       refine done_ (done_of HT_.out (by kernel_rfl)) ?_
       try go_wp2
       go_roundg k1
       case measure => have := HK1.out; omega
       case rel => exact ⟨(y140), (wrap64 (x8_1 + 1)), (by first | rfl | (simp only [YtcfcbkcaondfcaaDoorMpHelp.leq_not, YtcfcbkcaondfcaaDoorMpHelp.gtr_less]; done) | (simp; done) | (simp [*]; done)), H', ⟨by have := HK1.out; omega⟩, ⟨by (with_reducible repeat (first | apply Kd.S_alloc | apply Kd.S_drewN | apply Kd.S_drew)); exact Kd.S_mono HO142.out (fun _ hk => trivial)⟩, ⟨by repeat (first | (with_reducible first | exact HB.out | apply below_alloc | apply pw_below_drewN | apply below_drew1 | refine below_set ?_ GE136.out) | exact HB.out)⟩⟩
      ·rw [if_neg c6] at H
       exact absurd H (by simp)
     ·rw [if_neg c4] at H
      exact absurd H (by simp)
    ·rw [if_neg c3] at H
     exact absurd H (by simp)
   ·rw [if_neg c2] at H
    have c2b0 : decide (x8_1 < (l0.length : Int)) = false := decide_eq_false c2
    clear c2
    obtain rfl := Option.some.inj H
    go_wp2
    go_ret
    exact ⟨_, by first | rfl | (simp [errW_none, errW_some] <;> rfl) | (simp [*, errW_none, errW_some] <;> rfl), by (with_reducible repeat (first | apply Kd.S_alloc | apply Kd.S_drewN | apply Kd.S_drew)); exact HO_3.out, by repeat (first | (with_reducible first | exact HB.out | apply below_alloc | apply pw_below_drewN | apply below_drew1) | exact HB.out)⟩

end Go.Proofs.YtcfcbkcaondfcaaDoor.PPlanJoins
