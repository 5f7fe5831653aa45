/- Statement 33.2: the sums of a report are the counts of its steps. -/
import Derived.Test.YtodifojhegbjaaaDoorPReportSumsx5
import Derived.OpenShut
namespace Go.Proofs.YtodifojhegbjaaaDoor.Pure
open Go.RowKit Go.Proofs.YtodifojhegbjaaaDoor.PReportSums Go.Proofs.YtodifojhegbjaaaDoorW.PrintWords Go.Proofs.YtodifojhegbjaaaDoorW.PrintLast
theorem w64 {n : Int} (h : -9223372036854775808 ≤ n) (h' : n ≤ 9223372036854775807) : wrap64 n = n := by
  unfold wrap64
  omega
theorem w64_l (a b : Int) : wrap64 (wrap64 a + b) = wrap64 (a + b) := by
  unfold wrap64
  omega
theorem w64_r (a b : Int) : wrap64 (a + wrap64 b) = wrap64 (a + b) := by
  unfold wrap64
  omega
theorem i64_bounds {n : Int} (h : (Lit.int .i64 n).wf = true) : -9223372036854775808 ≤ n ∧ n ≤ 9223372036854775807 := Go.bounds_i64 h
theorem ev_const {α : Type} {o : Option α} {a : α} (h : o = some a) : Ev (fun _ => o) a := ⟨0, fun _ _ => h⟩
theorem ev_pos {α : Type} {c : Prop} [Decidable c] {g h : Nat → Option α} {r : α} (hc : c) (hg : Ev g r) : Ev (fun k => if c then g k else h k) r := by
  obtain ⟨K, hg⟩ := hg
  exact ⟨K, fun k hk => by simp only [if_pos hc]; exact hg k hk⟩
theorem ev_neg {α : Type} {c : Prop} [Decidable c] {g h : Nat → Option α} {r : α} (hc : ¬ c) (hg : Ev h r) : Ev (fun k => if c then g k else h k) r := by
  obtain ⟨K, hg⟩ := hg
  exact ⟨K, fun k hk => by simp only [if_neg hc]; exact hg k hk⟩
theorem ev_from {α : Type} {g : Nat → Option α} {r : α} (K : Nat) (h : ∀ k, K ≤ k → g k = some r) : Ev g r := ⟨K, h⟩
theorem ev_bind {α β : Type} {g : Nat → Option α} {f : Nat → α → Option β} {a : α} {r : β} (h : Ev g a) (k : Ev (fun n => f n a) r) : Ev (fun n => (g n).bind (f n)) r := h.bind k
theorem ev_bindc {α β : Type} {o : Option α} {f : Nat → α → Option β} {a : α} {r : β} (h : o = some a) (k : Ev (fun n => f n a) r) : Ev (fun n => o.bind (f n)) r := (ev_const h).bind k
theorem wadd (i : Nat) (h : i < 9000000000000000000) : wrap64 ((i : Int) + 1) = ((i + 1 : Nat) : Int) := by
  rw [w64 (by omega) (by omega)]
  omega
abbrev P66 := S66
abbrev P47 := S47
abbrev P51 := S51
theorem great_loop (l : List P66) : ∀ n i : Nat, i + n = 100 → ∃ w : Bool, Ev (fun k => bindlelaw33_great.l0 k l i) w ∧ (w = false → l.length ≤ 100)
  | 0, i, hi => by
    have hfin : ∃ w : Bool, Ev (fun k => bindlelaw33_great.j1 k l i false) w ∧ (w = false → l.length ≤ 100) := by
      refine ⟨_, Ev.step (fun k => by unfold bindlelaw33_great.j1; exact rfl) (ev_neg (by decide) (Ev.now _)), fun h => ?_⟩
      have := of_decide_eq_false h
      omega
    obtain ⟨w, h1, h2⟩ := hfin
    refine ⟨w, Ev.step (fun k => by unfold bindlelaw33_great.l0; exact rfl) ?_, h2⟩
    by_cases hl : (i : Int) < (l.length : Int)
    · have hd : decide ((i : Int) < 100) = false := decide_eq_false (by omega)
      rw [hd]
      exact ev_pos hl h1
    · exact ev_neg hl h1
  | n + 1, i, hi => by
    by_cases hl : (i : Int) < (l.length : Int)
    · have hd : decide ((i : Int) < 100) = true := decide_eq_true (by omega)
      obtain ⟨w, h1, h2⟩ := great_loop l n (i + 1) (by omega)
      by_cases c1 : (((rd_T66 l i).f0.f1).size : Int) > 300
      · refine ⟨true, Ev.step (fun k => by unfold bindlelaw33_great.l0; exact rfl) (ev_pos hl ?_), fun h => by cases h⟩
        rw [hd]
        exact Ev.step (fun k => by unfold bindlelaw33_great.j1; exact rfl) (ev_pos rfl (ev_pos (by omega) (ev_pos hl (ev_pos c1 (Ev.now _)))))
      · refine ⟨w, Ev.step (fun k => by unfold bindlelaw33_great.l0; exact rfl) (ev_pos hl ?_), h2⟩
        rw [hd]
        refine Ev.step (fun k => by unfold bindlelaw33_great.j1; exact rfl) (ev_pos rfl (ev_pos (by omega) (ev_pos hl (ev_neg c1 ?_))))
        rw [wadd i (by omega)]
        exact h1
    · have hd : ∃ w : Bool, Ev (fun k => bindlelaw33_great.j1 k l i false) w ∧ (w = false → l.length ≤ 100) := by
        refine ⟨_, Ev.step (fun k => by unfold bindlelaw33_great.j1; exact rfl) (ev_neg (by decide) (Ev.now _)), fun h => ?_⟩
        have := of_decide_eq_false h
        omega
      obtain ⟨w, h1, h2⟩ := hd
      exact ⟨w, Ev.step (fun k => by unfold bindlelaw33_great.l0; exact rfl) (ev_neg hl h1), h2⟩
theorem parts_loop (l : List P66) (hs : l.length ≤ 100) : ∀ n i : Nat, i + n = l.length → Ev (fun k => bindlelaw33_parts.l0 k l ((l.take i).map (·.f0)) ((l.take i).map (·.f1)) i) (l.map (·.f0), l.map (·.f1))
  | 0, i, hi => by
    refine Ev.step (fun k => by unfold bindlelaw33_parts.l0; exact rfl) (ev_neg (by omega) ?_)
    rw [List.take_of_length_le (by omega)]
    exact Ev.now _
  | n + 1, i, hi => by
    refine Ev.step (fun k => by unfold bindlelaw33_parts.l0; exact rfl) (ev_pos (by omega) (ev_pos (by omega) (ev_pos (by rw [List.length_map, List.length_take]; omega) (ev_pos (by rw [List.length_map, List.length_take]; omega) ?_))))
    have h := parts_loop l hs n (i + 1) (by omega)
    have hr : rd_T66 l i = l[i]'(by omega) := by
      unfold rd_T66
      rw [Int.toNat_natCast, List.getD_eq_getElem?_getD, List.getElem?_eq_getElem (by omega), Option.getD_some]
    have ht : l.take (i + 1) = l.take i ++ [l[i]'(by omega)] := (List.take_append_getElem (by omega)).symm
    rw [ht, List.map_append, List.map_append, List.map_cons, List.map_cons, List.map_nil, List.map_nil] at h
    rw [wadd i (by omega), hr]
    exact h
theorem lives_ev : Ev (fun k => bindlelaw33_lives.f k) true := Ev.of bindlelaw33_lives.mono (k := 9) (by decide +kernel)
/-! The counts. -/
theorem at_set (xs : List Int) (i j : Nat) (v : Int) (h : i ≠ j) : report_Sum.at_ (xs.set i v) j = report_Sum.at_ xs j := by
  show (xs.set i v).getD j 0 = xs.getD j 0
  rw [List.getD_eq_getElem?_getD, List.getD_eq_getElem?_getD, List.getElem?_set_ne h]
theorem at_set_self (xs : List Int) (i : Nat) (v : Int) (h : i < xs.length) : report_Sum.at_ (xs.set i v) i = v := by
  show (xs.set i v).getD i 0 = v
  rw [List.getD_eq_getElem?_getD, List.getElem?_set_self h]
  rfl
theorem set_at (xs : List Int) (j : Nat) : xs.set j (report_Sum.at_ xs j) = xs := by
  apply List.ext_getElem?
  intro i
  by_cases h : j = i
  · subst h
    by_cases hl : j < xs.length
    · rw [List.getElem?_set_self hl, List.getElem?_eq_getElem hl]
      show some (xs.getD j 0) = _
      rw [List.getD_eq_getElem?_getD, List.getElem?_eq_getElem hl]
      rfl
    · rw [List.set_eq_of_length_le (by omega)]
  · rw [List.getElem?_set_ne h]
theorem inc_len (xs : List Int) (j : Nat) : (report_Sum.inc xs j).length = xs.length := List.length_set
theorem inc_set0 (xs : List Int) (N : Int) (j : Nat) (h : j ≠ 0) : report_Sum.inc (xs.set 0 N) j = (report_Sum.inc xs j).set 0 N := by
  show (xs.set 0 N).set j (wrap64 (report_Sum.at_ (xs.set 0 N) j + 1)) = (xs.set j (wrap64 (report_Sum.at_ xs j + 1))).set 0 N
  rw [at_set _ _ _ _ (Ne.symm h), List.set_comm _ _ (Ne.symm h)]
theorem inc0_set0 (xs : List Int) (N : Int) : (report_Sum.inc xs 0).set 0 N = xs.set 0 N := List.set_set ..
theorem inc_at0 (xs : List Int) (j : Nat) (h : j ≠ 0) : report_Sum.at_ (report_Sum.inc xs j) 0 = report_Sum.at_ xs 0 := at_set _ _ _ _ h
theorem ite_inc (c : Prop) [Decidable c] (xs : List Int) (N : Int) (j : Nat) (h : j ≠ 0) : (if c then report_Sum.inc (xs.set 0 N) j else xs.set 0 N) = (if c then report_Sum.inc xs j else xs).set 0 N := by
  by_cases hc : c
  · rw [if_pos hc, if_pos hc, inc_set0 _ _ _ h]
  · rw [if_neg hc, if_neg hc]
theorem fin_set (xs : List Int) (m : Int) : (if report_Sum.at_ xs 3 < m then xs.set 3 m else xs) = xs.set 3 (max (report_Sum.at_ xs 3) m) := by
  by_cases h : report_Sum.at_ xs 3 < m
  · rw [if_pos h, Int.max_eq_right (by omega)]
  · rw [if_neg h, Int.max_eq_left (by omega), set_at]
theorem step_eq (xs : List Int) (N : Int) (o : P47) (a : P51) : bindlelaw33_ReportSums.wstep (xs.set 0 N) o a = (report_Sum.stepL xs o a).set 0 N := by
  unfold bindlelaw33_ReportSums.wstep bindlelaw33_ReportSums.wstepF report_Sum.stepL report_Sum.addL
  dsimp only
  rw [← inc0_set0 xs N, inc_set0 _ _ _ (by omega), ite_inc _ _ _ _ (by omega), ite_inc _ _ _ _ (by omega), ite_inc _ _ _ _ (by omega), fin_set, at_set _ 0 3 _ (by omega), List.set_comm _ _ (by omega : (0 : Nat) ≠ 3)]
/-- Forty numbers in bounds. -/
def Bd (M : Int) (xs : List Int) : Prop := xs.length = 40 ∧ ∀ x ∈ xs, 0 ≤ x ∧ x ≤ M
theorem Bd.at_ {M : Int} {xs : List Int} (h : Bd M xs) (hM : 0 ≤ M) (j : Nat) : 0 ≤ report_Sum.at_ xs j ∧ report_Sum.at_ xs j ≤ M := by
  show 0 ≤ xs.getD j 0 ∧ xs.getD j 0 ≤ M
  rw [List.getD_eq_getElem?_getD]
  by_cases hl : j < xs.length
  · rw [List.getElem?_eq_getElem hl]
    exact h.2 _ (List.getElem_mem hl)
  · rw [List.getElem?_eq_none (by omega)]
    exact ⟨Int.le_refl _, hM⟩
theorem Bd.mono {M M' : Int} {xs : List Int} (h : Bd M xs) (hm : M ≤ M') : Bd M' xs := ⟨h.1, fun x hx => ⟨(h.2 x hx).1, Int.le_trans (h.2 x hx).2 hm⟩⟩
theorem Bd.set {M : Int} {xs : List Int} (h : Bd M xs) (j : Nat) (v : Int) (h0 : 0 ≤ v) (h1 : v ≤ M) : Bd M (xs.set j v) := by
  refine ⟨by rw [List.length_set]; exact h.1, fun x hx => ?_⟩
  rcases List.mem_or_eq_of_mem_set hx with hx | hx
  · exact h.2 x hx
  · subst hx
    exact ⟨h0, h1⟩
theorem Bd.inc {M : Int} {xs : List Int} (h : Bd M xs) (hM : 0 ≤ M) (hM2 : M ≤ 1000000000000000000) (j : Nat) : Bd (M + 1) (report_Sum.inc xs j) := by
  have hb := h.at_ hM j
  refine Bd.set (h.mono (by omega)) j _ ?_ ?_
  · show 0 ≤ wrap64 (report_Sum.at_ xs j + 1)
    rw [w64 (by omega) (by omega)]; omega
  · show wrap64 (report_Sum.at_ xs j + 1) ≤ M + 1
    rw [w64 (by omega) (by omega)]; omega
theorem Bd.ite {M : Int} {xs : List Int} (h : Bd M xs) (hM : 0 ≤ M) (hM2 : M ≤ 1000000000000000000) (j : Nat) (c : Prop) [Decidable c] : Bd (M + 1) (if c then report_Sum.inc xs j else xs) := by
  by_cases hc : c
  · rw [if_pos hc]; exact h.inc hM hM2 j
  · rw [if_neg hc]; exact h.mono (by omega)
theorem ite_at0 (c : Prop) [Decidable c] (xs : List Int) (j : Nat) (h : j ≠ 0) : report_Sum.at_ (if c then report_Sum.inc xs j else xs) 0 = report_Sum.at_ xs 0 := by
  by_cases hc : c
  · rw [if_pos hc, inc_at0 _ _ h]
  · rw [if_neg hc]
theorem step_bd (M : Int) (xs : List Int) (o : P47) (a : P51) (h : Bd M xs) (h0 : 140737488351232 ≤ M) (h1 : M ≤ 900000000000000000) (ha : a.f1.length ≤ 140737488351232) : Bd (M + 5) (report_Sum.stepL xs o a) := by
  unfold report_Sum.stepL report_Sum.addL
  dsimp only
  have b1 := h.inc (by omega) (by omega) 0
  have b2 := b1.inc (by omega) (by omega) (4 + report_Sum.kN o.f0)
  have b3 := b2.ite (by omega) (by omega) (23 + report_Sum.eN a.f0) (report_Sum.eB a.f0 = true)
  have b4 := b3.ite (by omega) (by omega) 1 (a.f5 = true)
  have b5 := b4.ite (by omega) (by omega) 2 (a.f6 = true)
  have b6 := b5.at_ (by omega) 3
  have hm : (max (report_Sum.at_ _ 3) (a.f1.length : Int)) ≤ M + 5 := Int.max_le.2 ⟨Int.le_trans b6.2 (by omega), by omega⟩
  exact (b5.mono (by omega)).set 3 _ (Int.le_trans b6.1 (Int.le_max_left _ _)) hm
theorem step_at0 (M : Int) (xs : List Int) (o : P47) (a : P51) (h : Bd M xs) (h0 : 0 ≤ M) (h1 : M ≤ 900000000000000000) : report_Sum.at_ (report_Sum.stepL xs o a) 0 = report_Sum.at_ xs 0 + 1 := by
  unfold report_Sum.stepL report_Sum.addL
  dsimp only
  have hb := h.at_ h0 0
  refine (at_set _ _ _ _ (by omega)).trans ((ite_at0 _ _ _ (by omega)).trans ((ite_at0 _ _ _ (by omega)).trans ((ite_at0 _ _ _ (by omega)).trans ((inc_at0 _ _ (by omega)).trans ?_))))
  refine (at_set_self _ _ _ (by rw [h.1]; omega)).trans ?_
  exact w64 (by omega) (by omega)
theorem counts (N : Nat) (o : List P47) (a : List P51) (ha : ∀ x ∈ a, x.f1.length ≤ 140737488351232) : ∀ k : Nat, k ≤ a.length → k ≤ 100 → bindlelaw33_ReportSums.wantTo N o a k = (report_Sum.sumTo o a k).set 0 (N : Int) ∧ Bd (140737488351232 + 5 * (k : Int)) (report_Sum.sumTo o a k) ∧ report_Sum.at_ (report_Sum.sumTo o a k) 0 = (k : Int)
  | 0, _, _ => by
    refine ⟨rfl, ⟨rfl, fun x hx => ?_⟩, rfl⟩
    have hx : x ∈ List.replicate 40 (0 : Int) := hx
    have := List.eq_of_mem_replicate hx
    omega
  | k + 1, hk, hk2 => by
    obtain ⟨h1, h2, h3⟩ := counts N o a ha k (by omega) (by omega)
    have hr : (rd_T51 a (k : Int)).f1.length ≤ 140737488351232 := by
      have he : rd_T51 a (k : Int) = a[k]'(by omega) := by
        unfold rd_T51
        rw [Int.toNat_natCast, List.getD_eq_getElem?_getD, List.getElem?_eq_getElem (by omega), Option.getD_some]
      rw [he]
      exact ha _ (List.getElem_mem _)
    refine ⟨?_, ?_, ?_⟩
    · show bindlelaw33_ReportSums.wstep (bindlelaw33_ReportSums.wantTo N o a k) _ _ = _
      rw [h1, step_eq]
      rfl
    · exact (step_bd _ _ (rd_T47 o (k : Int)) _ h2 (by omega) (by omega) hr).mono (by omega)
    · refine (step_at0 _ _ (rd_T47 o (k : Int)) _ h2 (by omega) (by omega)).trans ?_
      rw [h3]
      omega
theorem ReportSums : bindlelaw33_ReportSums.Pure := by
  intro l hg
  obtain ⟨t, hgr, hlen⟩ := great_loop l 100 0 (by omega)
  have main : Ev (fun k => bindlelaw33_ReportSums.f k l) true := by
    unfold bindlelaw33_ReportSums.f
    refine ev_bind hgr ?_
    by_cases ht : t = true
    · exact ev_pos ht lives_ev
    · have hl := hlen (by simpa using ht)
      refine ev_neg ht (ev_bind (parts_loop l hl l.length 0 (by omega)) (ev_pos ?_ lives_ev))
      have hc := counts l.length (l.map (·.f0)) (l.map (·.f1)) (fun x hx => by
        obtain ⟨y, hy, rfl⟩ := List.mem_map.1 hx
        have := (hg.2.2 y hy).2.2.1.2.1
        omega) l.length (by rw [List.length_map]; exact Nat.le_refl _) hl
      dsimp only
      rw [List.length_map, List.length_map]
      refine ⟨rfl, rfl, by omega, ?_, hc.2.1.1, fun x hx => ?_⟩
      · rw [hc.1]
        have h3 := set_at (report_Sum.sumTo (l.map (·.f0)) (l.map (·.f1)) l.length) 0
        rw [hc.2.2] at h3
        exact h3
      · have := hc.2.1.2 x hx
        exact (by simp [Lit.wf, IntKind.min, IntKind.max, IntKind.signed, IntKind.bits]; omega)
  obtain ⟨K, hK⟩ := main
  exact ⟨K, hK K (Nat.le_refl _)⟩
end Go.Proofs.YtodifojhegbjaaaDoor.Pure
