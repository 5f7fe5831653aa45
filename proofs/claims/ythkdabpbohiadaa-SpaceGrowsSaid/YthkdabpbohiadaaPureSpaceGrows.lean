/- Statement 26.3, the theorem of stage 26: whatever is done but Vacuum, the bound doesn't fall; Vacuum of files that were put never raises it. -/
import Derived.Test.YthkdabpbohiadaaPSpaceGrowsx3
import Derived.OpenShut
namespace Go.Proofs.Ythkdabpbohiadaa.Pure
open Go.RowKit Go.Proofs.Ythkdabpbohiadaa.PSpaceGrows Go.Proofs.YthkdabpbohiadaaW.PrintWords Go.Proofs.YthkdabpbohiadaaW.PrintLast Go.Proofs.YthkdabpbohiadaaW.PrintMore
set_option linter.unusedVariables false

theorem w64 {n : Int} (h : -9223372036854775808 ≤ n) (h' : n ≤ 9223372036854775807) : wrap64 n = n := by
  unfold wrap64
  omega
theorem w64_l (a b : Int) : wrap64 (wrap64 a + b) = wrap64 (a + b) := by
  unfold wrap64
  omega
theorem w64_r (a b : Int) : wrap64 (a + wrap64 b) = wrap64 (a + b) := by
  unfold wrap64
  omega
theorem i64_bounds {n : Int} (h : (Lit.int .i64 n).wf = true) : -9223372036854775808 ≤ n ∧ n ≤ 9223372036854775807 := Go.bounds_i64 h
theorem ev_const {α : Type} {o : Option α} {a : α} (h : o = some a) : Ev (fun _ => o) a := ⟨0, fun _ _ => h⟩
theorem ev_pos {α : Type} {c : Prop} [Decidable c] {g h : Nat → Option α} {r : α} (hc : c) (hg : Ev g r) : Ev (fun k => if c then g k else h k) r := by
  obtain ⟨K, hg⟩ := hg
  exact ⟨K, fun k hk => by simp only [if_pos hc]; exact hg k hk⟩
theorem ev_neg {α : Type} {c : Prop} [Decidable c] {g h : Nat → Option α} {r : α} (hc : ¬ c) (hg : Ev h r) : Ev (fun k => if c then g k else h k) r := by
  obtain ⟨K, hg⟩ := hg
  exact ⟨K, fun k hk => by simp only [if_neg hc]; exact hg k hk⟩
theorem ev_from {α : Type} {g : Nat → Option α} {r : α} (K : Nat) (h : ∀ k, K ≤ k → g k = some r) : Ev g r := ⟨K, h⟩
theorem ev_bind {α β : Type} {g : Nat → Option α} {f : Nat → α → Option β} {a : α} {r : β} (h : Ev g a) (k : Ev (fun n => f n a) r) : Ev (fun n => (g n).bind (f n)) r := h.bind k
theorem ev_bindc {α β : Type} {o : Option α} {f : Nat → α → Option β} {a : α} {r : β} (h : o = some a) (k : Ev (fun n => f n a) r) : Ev (fun n => o.bind (f n)) r := (ev_const h).bind k
/-- A file that is not too great. -/
def Small (x : S44) : Prop := x.f0.size ≤ 300 ∧ x.f1.length ≤ 70000
def Fine (l : List S44) : Prop := l.length ≤ 250 ∧ ∀ x ∈ l, Small x

theorem rd_get (l : List S44) (i : Int) (h0 : 0 ≤ i) (h : i < l.length) : l[i.toNat]? = some (rd_T44 l i) := by
  unfold rd_T44
  rw [List.getD_eq_getElem?_getD, List.getElem?_eq_getElem (by omega)]
  rfl

theorem wide_l (l : List S44) (hl : l.length ≤ 9223372036854775000) (d : Nat) : ∀ i : Int, 0 ≤ i → i + d = l.length → ∃ b, Ev (fun k => bindlelaw26_wide.l0 k l i) b ∧ (b = false → l.length ≤ 250 ∧ ∀ (j : Nat) x, i ≤ j → l[j]? = some x → Small x) := by
  induction d with
  | zero =>
    intro i h0 hi
    refine ⟨decide ((l.length : Int) > 250), Ev.step (fun k => by rw [bindlelaw26_wide.l0]) (ev_neg (by omega) (Ev.step (fun k => by rw [bindlelaw26_wide.j1]) (ev_neg (by simp) (Ev.now _)))), fun hb => ⟨by have := of_decide_eq_false hb; omega, fun j x hj hx => ?_⟩⟩
    have := (List.getElem?_eq_some_iff.1 hx).1
    omega
  | succ d ih =>
    intro i h0 hi
    have hlt : i < (l.length : Int) := by omega
    by_cases h3 : i < 300
    · by_cases hs : Small (rd_T44 l i)
      · obtain ⟨b, hb, hf⟩ := ih (i + 1) (by omega) (by omega)
        refine ⟨b, Ev.step (fun k => by rw [bindlelaw26_wide.l0]) (ev_pos hlt (Ev.step (fun k => by rw [bindlelaw26_wide.j1]) (ev_pos (by simpa using h3) (ev_pos h0 (ev_pos hlt (ev_neg (by have := hs.1; omega) (ev_neg (by have := hs.2; omega) (by rw [w64 (by omega) (by omega)]; exact hb)))))))), fun h => ⟨(hf h).1, fun j x hj hx => ?_⟩⟩
        by_cases e : i = j
        · subst e
          have := rd_get l j h0 hlt
          rw [Int.toNat_natCast, hx] at this
          rw [Option.some.inj this]
          exact hs
        · exact (hf h).2 j x (by omega) hx
      · refine ⟨true, Ev.step (fun k => by rw [bindlelaw26_wide.l0]) (ev_pos hlt (Ev.step (fun k => by rw [bindlelaw26_wide.j1]) (ev_pos (by simpa using h3) (ev_pos h0 (ev_pos hlt ?_))))), fun h => by simp at h⟩
        by_cases h5 : ((rd_T44 l i).f0.size : Int) > 300
        · exact ev_pos h5 (Ev.now _)
        · exact ev_neg h5 (ev_pos (by unfold Small at hs; omega) (Ev.now _))
    · refine ⟨decide ((l.length : Int) > 250), Ev.step (fun k => by rw [bindlelaw26_wide.l0]) (ev_pos hlt (Ev.step (fun k => by rw [bindlelaw26_wide.j1]) (ev_neg (by simpa using h3) (Ev.now _)))), fun hb => ?_⟩
      have := of_decide_eq_false hb
      omega

theorem wide_ev (l : List S44) (hl : l.length ≤ 9223372036854775000) : ∃ b, Ev (fun k => bindlelaw26_wide.f k l) b ∧ (b = false → Fine l) := by
  obtain ⟨b, hb, hf⟩ := wide_l l hl l.length 0 (by omega) (by omega)
  refine ⟨b, hb, fun h => ⟨(hf h).1, fun x hx => ?_⟩⟩
  obtain ⟨j, hj⟩ := List.getElem?_of_mem hx
  exact (hf h).2 j x (by omega) hj

/-- An act that is not too great. -/
def Small2 (x : S32) : Prop := x.f1.size ≤ 300 ∧ Fine x.f3
def Fine2 (l : List S32) : Prop := l.length ≤ 250 ∧ ∀ x ∈ l, Small2 x
def GoodL (l : List S44) : Prop := l.length ≤ 9223372036854775000
def GoodA (l : List S32) : Prop := l.length ≤ 9223372036854775000 ∧ ∀ x ∈ l, GoodL x.f3

theorem rd_get2 (l : List S32) (i : Int) (h0 : 0 ≤ i) (h : i < l.length) : l[i.toNat]? = some (rd_T32 l i) := by
  unfold rd_T32
  rw [List.getD_eq_getElem?_getD, List.getElem?_eq_getElem (by omega)]
  rfl

theorem great_l (l : List S32) (hl : GoodA l) (d : Nat) : ∀ i : Int, 0 ≤ i → i + d = l.length → ∃ b, Ev (fun k => bindlelaw26_great.l0 k l i) b ∧ (b = false → l.length ≤ 250 ∧ ∀ (j : Nat) x, i ≤ j → l[j]? = some x → Small2 x) := by
  have hl1 := hl.1
  induction d with
  | zero =>
    intro i h0 hi
    refine ⟨decide ((l.length : Int) > 250), Ev.step (fun k => by rw [bindlelaw26_great.l0]) (ev_neg (by omega) (Ev.step (fun k => by rw [bindlelaw26_great.j1]) (ev_neg (by simp) (Ev.now _)))), fun hb => ⟨by have := of_decide_eq_false hb; omega, fun j x hj hx => ?_⟩⟩
    have := (List.getElem?_eq_some_iff.1 hx).1
    omega
  | succ d ih =>
    intro i h0 hi
    have hlt : i < (l.length : Int) := by omega
    by_cases h3 : i < 300
    · have hget := rd_get2 l i h0 hlt
      obtain ⟨w, hw, hwf⟩ := wide_ev (rd_T32 l i).f3 (hl.2 _ (List.mem_of_getElem? hget))
      by_cases h5 : ((rd_T32 l i).f1.size : Int) > 300
      · exact ⟨true, Ev.step (fun k => by rw [bindlelaw26_great.l0]) (ev_pos hlt (Ev.step (fun k => by rw [bindlelaw26_great.j1]) (ev_pos (by simpa using h3) (ev_pos h0 (ev_pos hlt (ev_pos h5 (Ev.now _))))))), fun h => by simp at h⟩
      · cases w with
        | true => exact ⟨true, Ev.step (fun k => by rw [bindlelaw26_great.l0]) (ev_pos hlt (Ev.step (fun k => by rw [bindlelaw26_great.j1]) (ev_pos (by simpa using h3) (ev_pos h0 (ev_pos hlt (ev_neg h5 (ev_bind hw (ev_pos rfl (Ev.now _))))))))), fun h => by simp at h⟩
        | false =>
          obtain ⟨b, hb, hf⟩ := ih (i + 1) (by omega) (by omega)
          rw [← w64 (n := i + 1) (by omega) (by omega)] at hb
          refine ⟨b, Ev.step (fun k => by rw [bindlelaw26_great.l0]) (ev_pos hlt (Ev.step (fun k => by rw [bindlelaw26_great.j1]) (ev_pos (by simpa using h3) (ev_pos h0 (ev_pos hlt (ev_neg h5 (ev_bind hw (ev_neg (c := false = true) (by simp) hb)))))))), fun h => ⟨(hf h).1, fun j x hj hx => ?_⟩⟩
          by_cases e : i = j
          · subst e
            rw [Int.toNat_natCast, hx] at hget
            rw [Option.some.inj hget]
            exact ⟨by omega, hwf rfl⟩
          · exact (hf h).2 j x (by omega) hx
    · refine ⟨decide ((l.length : Int) > 250), Ev.step (fun k => by rw [bindlelaw26_great.l0]) (ev_pos hlt (Ev.step (fun k => by rw [bindlelaw26_great.j1]) (ev_neg (by simpa using h3) (Ev.now _)))), fun hb => ?_⟩
      have := of_decide_eq_false hb
      omega

theorem great_ev (l : List S32) (hl : GoodA l) : ∃ b, Ev (fun k => bindlelaw26_great.f k l) b ∧ (b = false → Fine2 l) := by
  obtain ⟨b, hb, hf⟩ := great_l l hl l.length 0 (by omega) (by omega)
  refine ⟨b, hb, fun h => ⟨(hf h).1, fun x hx => ?_⟩⟩
  obtain ⟨j, hj⟩ := List.getElem?_of_mem hx
  exact (hf h).2 j x (by omega) hj
/-! ### What each step comes to -/
def cut (n : Int) : Int := if n < 0 then 0 else if n > 65536 then 65536 else n
theorem cut_bd (n : Int) : 0 ≤ cut n ∧ cut n ≤ 65536 := by
  unfold cut
  split
  · omega
  · split <;> omega
theorem size_f (n : Int) : space_size.f n = some (cut n) := by
  unfold space_size.f mx mn cut
  congr 1
  split <;> split <;> (try split) <;> (try split) <;> omega
theorem add3 (s a b c : Int) : Ev (fun k => space_Ledger_add.f k s [a, b, c]) (wrap64 (s + a + b + c)) := by
  refine ev_from 4 fun k hk => ?_
  obtain ⟨k, rfl⟩ : ∃ m, k = m + 4 := ⟨k - 4, by omega⟩
  unfold space_Ledger_add.f
  simp only [space_Ledger_add.l0, List.length_cons, List.length_nil]
  simp [w64, rd, w64_l]
theorem add2 (s a b : Int) : Ev (fun k => space_Ledger_add.f k s [a, b]) (wrap64 (s + a + b)) := by
  refine ev_from 3 fun k hk => ?_
  obtain ⟨k, rfl⟩ : ∃ m, k = m + 3 := ⟨k - 3, by omega⟩
  unfold space_Ledger_add.f
  simp only [space_Ledger_add.l0, List.length_cons, List.length_nil]
  simp [w64, rd, w64_l]
/-- How many pieces a size that is cut has. -/
def pcs (n : Int) : Int := if n < 1 then 0 else (n - 1) / 65535 + 1
theorem pieces_f (n : Int) (h : 0 ≤ n) (h' : n ≤ 65536) : space_Pieces.f n = some (pcs n) := by
  unfold space_Pieces.f space_parts.f pcs
  by_cases h1 : n < 1
  · rw [if_pos h1, if_pos h1]
    rfl
  · rw [if_neg h1, if_neg (by omega), if_neg h1, w64 (n := n - 1) (by omega) (by omega), Int.tdiv_eq_ediv_of_nonneg (by omega), w64 (n := (n - 1) / 65535) (by omega) (by omega), w64 (by omega) (by omega)]
    rfl
theorem pcs_bd (n : Int) (h : 0 ≤ n) (h' : n ≤ 65536) : 0 ≤ pcs n ∧ pcs n ≤ 2 := by
  unfold pcs
  split <;> omega
theorem put_ev (s : Int) (a : ByteArray) (n : Int) : Ev (fun k => space_Ledger_Put.f k s a n) (wrap64 (s + (22 + (a.size : Int) + cut n))) := by
  unfold space_Ledger_Put.f
  refine ev_bindc (size_f n) ?_
  refine ev_bind (add3 s 22 a.size (cut n)) ?_
  rw [show s + (22 + (a.size : Int) + cut n) = s + 22 + (a.size : Int) + cut n from by omega]
  exact Ev.now _
theorem delete_ev (s : Int) (a : ByteArray) : Ev (fun k => space_Ledger_Delete.f k s a) (wrap64 (s + (22 + (a.size : Int)))) := by
  unfold space_Ledger_Delete.f
  refine ev_bind (add2 s 22 a.size) ?_
  rw [show s + (22 + (a.size : Int)) = s + 22 + (a.size : Int) from by omega]
  exact Ev.now _
theorem stream_ev (s : Int) (a : ByteArray) : Ev (fun k => space_Ledger_Stream.f k s a) (wrap64 (s + (44 + (a.size : Int)))) := by
  unfold space_Ledger_Stream.f
  refine ev_bind (add3 s 22 22 a.size) ?_
  rw [show s + (44 + (a.size : Int)) = s + 22 + 22 + (a.size : Int) from by omega]
  exact Ev.now _
theorem more_ev (s n : Int) : Ev (fun k => space_Ledger_More.f k s n) (wrap64 (s + (cut n + 2 * pcs (cut n)))) := by
  unfold space_Ledger_More.f
  refine ev_bindc (size_f n) ?_
  refine ev_bindc (size_f n) ?_
  have hc := cut_bd n
  have hp := pcs_bd (cut n) hc.1 hc.2
  refine ev_bindc (pieces_f (cut n) hc.1 hc.2) ?_
  rw [w64 (n := 2 * pcs (cut n)) (by omega) (by omega)]
  refine ev_bind (add2 s (cut n) (2 * pcs (cut n))) ?_
  rw [show s + (cut n + 2 * pcs (cut n)) = s + cut n + 2 * pcs (cut n) from by omega]
  exact Ev.now _
/-- What the records of files take, from the i-th on. -/
def takes : List S44 → Int
  | [] => 0
  | x :: r => 22 + (x.f0.size : Int) + cut (x.f1.length : Int) + takes r
theorem vacuum_l (l : List S44) (hl : GoodL l) (d : Nat) : ∀ (i : Int) (s : Int), 0 ≤ i → i + d = l.length → s = wrap64 s → Ev (fun k => space_Ledger_Vacuum.l0 k l (l.length : Int) i s) (wrap64 (s + takes (l.drop i.toNat))) := by
  have hl1 : l.length ≤ 9223372036854775000 := hl
  induction d with
  | zero =>
    intro i s h0 hi hs
    rw [List.drop_eq_nil_of_le (by omega)]
    simp only [takes, Int.add_zero]
    rw [← hs]
    exact Ev.step (fun k => by rw [space_Ledger_Vacuum.l0]) (ev_neg (by omega) (Ev.now _))
  | succ d ih =>
    intro i s h0 hi hs
    have hlt : i < (l.length : Int) := by omega
    have hg := rd_get l i h0 hlt
    have hd : l.drop i.toNat = rd_T44 l i :: l.drop (i + 1).toNat := by
      have hn : i.toNat < l.length := by omega
      rw [List.drop_eq_getElem_cons hn, show (i + 1).toNat = i.toNat + 1 from by omega]
      rw [List.getElem?_eq_getElem hn] at hg
      rw [Option.some.inj hg]
    have hr := ih (i + 1) (wrap64 (s + (22 + ((rd_T44 l i).f0.size : Int) + cut ((rd_T44 l i).f1.length : Int)))) (by omega) (by omega) (by unfold wrap64; omega)
    rw [w64_l] at hr
    rw [hd]
    simp only [takes]
    rw [show s + (22 + ((rd_T44 l i).f0.size : Int) + cut ((rd_T44 l i).f1.length : Int) + takes (l.drop (i + 1).toNat)) = s + (22 + ((rd_T44 l i).f0.size : Int) + cut ((rd_T44 l i).f1.length : Int)) + takes (l.drop (i + 1).toNat) from by omega]
    refine Ev.step (fun k => by rw [space_Ledger_Vacuum.l0]) (ev_pos hlt (ev_pos h0 (ev_pos hlt ?_)))
    refine ev_bind (put_ev s _ _) ?_
    rw [w64 (n := i + 1) (by omega) (by omega)]
    exact hr
theorem vacuum_ev (l : List S44) (hl : GoodL l) (s : Int) : Ev (fun k => space_Ledger_Vacuum.f k s l) (wrap64 (takes l)) := by
  have h := vacuum_l l hl l.length 0 0 (by omega) (by omega) (by unfold wrap64; omega)
  unfold space_Ledger_Vacuum.f
  simpa using h
/-- What the rows of a directory take. -/
def rows : List S44 → Int
  | [] => 0
  | x :: r => 18 + (x.f0.size : Int) + rows r
theorem drop_rd (l : List S44) (i : Int) (h0 : 0 ≤ i) (hlt : i < (l.length : Int)) : l.drop i.toNat = rd_T44 l i :: l.drop (i + 1).toNat := by
  have hg := rd_get l i h0 hlt
  have hn : i.toNat < l.length := by omega
  rw [List.drop_eq_getElem_cons hn, show (i + 1).toNat = i.toNat + 1 from by omega]
  rw [List.getElem?_eq_getElem hn] at hg
  rw [Option.some.inj hg]
theorem bound_l (l : List S44) (hl : GoodL l) (s : Int) (d : Nat) : ∀ (i x : Int), 0 ≤ i → i + d = l.length → x = wrap64 x → Ev (fun k => space_Ledger_Bound.l0 k x l (l.length : Int) i s) (wrap64 (x + rows (l.drop i.toNat)), s) := by
  have hl1 : l.length ≤ 9223372036854775000 := hl
  induction d with
  | zero =>
    intro i x h0 hi hx
    rw [List.drop_eq_nil_of_le (by omega)]
    simp only [rows, Int.add_zero]
    rw [← hx]
    exact Ev.step (fun k => by rw [space_Ledger_Bound.l0]) (ev_neg (by omega) (Ev.now _))
  | succ d ih =>
    intro i x h0 hi hx
    have hlt : i < (l.length : Int) := by omega
    have hr := ih (i + 1) (wrap64 (x + wrap64 (18 + ((rd_T44 l i).f0.size : Int)))) (by omega) (by omega) (by unfold wrap64; omega)
    rw [drop_rd l i h0 hlt]
    simp only [rows]
    rw [show wrap64 (x + (18 + ((rd_T44 l i).f0.size : Int) + rows (l.drop (i + 1).toNat))) = wrap64 (wrap64 (x + wrap64 (18 + ((rd_T44 l i).f0.size : Int))) + rows (l.drop (i + 1).toNat)) from by unfold wrap64; omega]
    refine Ev.step (fun k => by rw [space_Ledger_Bound.l0]) (ev_pos hlt (ev_pos h0 (ev_pos hlt ?_)))
    rw [w64 (n := i + 1) (by omega) (by omega)]
    exact hr
theorem bound_ev (l : List S44) (hl : GoodL l) (s : Int) : Ev (fun k => space_Ledger_Bound.f k s l) (wrap64 (1044 + s + rows l), s) := by
  have h := bound_l l hl s l.length 0 (wrap64 (wrap64 (1024 + s) + 20)) (by omega) (by omega) (by unfold wrap64; omega)
  rw [show wrap64 (1044 + s + rows l) = wrap64 (wrap64 (wrap64 (1024 + s) + 20) + rows l) from by unfold wrap64; omega]
  unfold space_Ledger_Bound.f
  simpa using h
/-! ### The document's -/
theorem cut_f (n : Int) : bindleref26_Cut.f n = some (cut n) := by
  unfold bindleref26_Cut.f cut
  split
  · rfl
  · split <;> rfl
theorem rput_f (a : ByteArray) (n : Int) : bindleref26_Put.f a n = some (wrap64 (22 + (a.size : Int) + cut n)) := by
  unfold bindleref26_Put.f
  rw [cut_f, Option.bind_some, w64_l]
theorem parts_l (n : Int) (h1 : 0 ≤ n) (hn : n ≤ 65536) (d : Nat) : ∀ (k : Nat) (x : Int), 0 ≤ x → x + d = pcs n → d < k → bindleref26_Parts.l0 k n 65535 x = some (pcs n) := by
  have hp := pcs_bd n h1 hn
  have hv : pcs n = if n < 1 then 0 else (n - 1) / 65535 + 1 := rfl
  induction d with
  | zero =>
    intro k x h0 hx hk
    obtain ⟨k, rfl⟩ : ∃ m, k = m + 1 := ⟨k - 1, by omega⟩
    simp only [bindleref26_Parts.l0]
    have hx' : x = pcs n := by omega
    have hw : wrap64 (x * 65535) = x * 65535 := w64 (by omega) (by omega)
    rw [hw, if_neg (by split at hv <;> omega), hx']
  | succ d ih =>
    intro k x h0 hx hk
    obtain ⟨k, rfl⟩ : ∃ m, k = m + 1 := ⟨k - 1, by omega⟩
    simp only [bindleref26_Parts.l0]
    have hw : wrap64 (x * 65535) = x * 65535 := w64 (by omega) (by omega)
    rw [hw, if_pos (by split at hv <;> omega), w64 (by omega) (by omega)]
    exact ih k (x + 1) (by omega) (by omega) (by omega)
theorem rmore_ev (n : Int) : Ev (fun k => bindleref26_More.f k n) (wrap64 (cut n + 2 * pcs (cut n))) := by
  have hc := cut_bd n
  have hp := pcs_bd (cut n) hc.1 hc.2
  unfold bindleref26_More.f
  refine ev_bindc (cut_f n) ?_
  refine ev_bindc (cut_f n) ?_
  refine ev_bind (a := pcs (cut n)) (ev_from 5 fun k hk => parts_l (cut n) hc.1 hc.2 (pcs (cut n)).toNat k 0 (by omega) (by omega) (by omega)) ?_
  rw [show wrap64 (cut n + 2 * pcs (cut n)) = wrap64 (cut n + wrap64 (2 * pcs (cut n))) from by rw [w64_r]]
  exact Ev.now _
theorem takes_bd : ∀ l : List S44, (∀ x ∈ l, Small x) → 0 ≤ takes l ∧ takes l ≤ 70000 * l.length
  | [], _ => by simp [takes]
  | x :: r, h => by
    have hr := takes_bd r (fun y hy => h y (List.mem_cons_of_mem _ hy))
    have hx := h x List.mem_cons_self
    have hc := cut_bd (x.f1.length : Int)
    have h1 := hx.1
    simp only [takes, List.length_cons]
    omega
theorem rows_bd : ∀ l : List S44, (∀ x ∈ l, Small x) → 0 ≤ rows l ∧ rows l ≤ 70000 * l.length
  | [], _ => by simp [rows]
  | x :: r, h => by
    have hr := rows_bd r (fun y hy => h y (List.mem_cons_of_mem _ hy))
    have h1 := (h x List.mem_cons_self).1
    simp only [rows, List.length_cons]
    omega
theorem does_ev (x : S32) (hx : x.f1.size ≤ 300) (h0 : 0 ≤ x.f0) (h3 : x.f0 ≤ 3) (s : Int) : ∃ n inc, Ev (fun k => bindlelaw26_does.f k s x.f0 x.f1 x.f2 x.f3 0) (n, wrap64 (s + inc)) ∧ 0 ≤ inc ∧ inc ≤ 70000 := by
  have hc := cut_bd x.f2
  have hp := pcs_bd (cut x.f2) hc.1 hc.2
  unfold bindlelaw26_does.f
  by_cases h0 : x.f0 = 0
  · refine ⟨wrap64 (0 + wrap64 (22 + (x.f1.size : Int) + cut x.f2)), 22 + (x.f1.size : Int) + cut x.f2, ev_pos h0 ?_, by omega, by omega⟩
    refine ev_bind (put_ev s x.f1 x.f2) ?_
    exact ev_bindc (rput_f x.f1 x.f2) (Ev.now _)
  · refine (fun ⟨n, inc, h, g⟩ => ⟨n, inc, ev_neg h0 h, g⟩ : (∃ n inc, Ev _ (n, wrap64 (s + inc)) ∧ _) → _) ?_
    by_cases h1 : x.f0 = 1
    · refine ⟨wrap64 (0 + wrap64 (22 + (x.f1.size : Int) + cut 0)), 22 + (x.f1.size : Int), ev_pos h1 ?_, by omega, by omega⟩
      refine ev_bind (delete_ev s x.f1) ?_
      exact ev_bindc (rput_f x.f1 0) (Ev.now _)
    · refine (fun ⟨n, inc, h, g⟩ => ⟨n, inc, ev_neg h1 h, g⟩ : (∃ n inc, Ev _ (n, wrap64 (s + inc)) ∧ _) → _) ?_
      by_cases h2 : x.f0 = 2
      · refine ⟨wrap64 (wrap64 (0 + 22) + wrap64 (22 + (x.f1.size : Int) + cut 0)), 44 + (x.f1.size : Int), ev_pos h2 ?_, by omega, by omega⟩
        refine ev_bind (stream_ev s x.f1) ?_
        exact ev_bindc (rput_f x.f1 0) (Ev.now _)
      · refine (fun ⟨n, inc, h, g⟩ => ⟨n, inc, ev_neg h2 h, g⟩ : (∃ n inc, Ev _ (n, wrap64 (s + inc)) ∧ _) → _) ?_
        refine ⟨wrap64 (0 + wrap64 (cut x.f2 + 2 * pcs (cut x.f2))), cut x.f2 + 2 * pcs (cut x.f2), ev_pos (by omega) ?_, by omega, by omega⟩
        refine ev_bind (more_ev s x.f2) ?_
        exact ev_bind (rmore_ev x.f2) (Ev.now _)

theorem bound_nil (s : Int) (h0 : 0 ≤ s) (h1 : s ≤ 100000000) : Ev (fun k => space_Ledger_Bound.f k s ([] : List S44)) (1044 + s, s) := by
  have h := bound_ev ([] : List S44) (by unfold GoodL; simp) s
  rw [w64 (by simp [rows]; omega) (by simp [rows]; omega)] at h
  simpa [rows] using h
theorem bound_fine (l : List S44) (hl : l.length ≤ 250 ∧ ∀ x ∈ l, Small x) (s : Int) (h0 : 0 ≤ s) (h1 : s ≤ 100000000) : Ev (fun k => space_Ledger_Bound.f k s l) (1044 + s + rows l, s) := by
  have hr := rows_bd l hl.2
  have h := bound_ev l (by unfold GoodL; omega) s
  rwa [w64 (by omega) (by omega)] at h

theorem last_j (l : List S44) (hl : l.length ≤ 250 ∧ ∀ x ∈ l, Small x) (s : Int) (h0 : takes l ≤ s) (h1 : s ≤ 100000000) : Ev (fun k => bindlelaw26_SpaceGrows.j4 k l s) true := by
  have ht := takes_bd l hl.2
  have hr := rows_bd l hl.2
  refine Ev.step (fun k => by rw [bindlelaw26_SpaceGrows.j4]) ?_
  refine ev_bind (bound_fine l hl s (by omega) h1) ?_
  refine ev_bind (vacuum_ev l (by unfold GoodL; omega) s) ?_
  rw [w64 (by omega) (by omega)]
  refine ev_bind (bound_fine l hl (takes l) (by omega) (by omega)) ?_
  refine ev_pos (c := 1044 + takes l + rows l ≤ 1044 + s + rows l) (by omega) ?_
  exact ev_bindc (a := true) rfl (Ev.now _)

theorem puts_l (l : List S44) (hl : l.length ≤ 250 ∧ ∀ x ∈ l, Small x) (d : Nat) : ∀ (i s : Int), 0 ≤ i → i + d = l.length → 0 ≤ s → takes l ≤ s + takes (l.drop i.toNat) → s + takes (l.drop i.toNat) ≤ 90000000 → Ev (fun k => bindlelaw26_SpaceGrows.l1 k l i s) true := by
  induction d with
  | zero =>
    intro i s h0 hi hs h1 h2
    rw [List.drop_eq_nil_of_le (by omega)] at h1 h2
    simp only [takes, Int.add_zero] at h1 h2
    refine Ev.step (fun k => by rw [bindlelaw26_SpaceGrows.l1]) (ev_neg (by omega) ?_)
    refine ev_bind (bound_fine l hl s hs (by omega)) ?_
    by_cases hp : (l.length : Int) > 0
    · refine ev_pos hp (ev_pos hp ?_)
      have hd := drop_rd l 0 (by omega) hp
      simp only [Int.toNat_zero, List.drop_zero, Int.zero_add, Int.toNat_one] at hd
      have hsm : Small (rd_T44 l 0) := hl.2 _ (by rw [hd]; exact List.mem_cons_self)
      have hsz := hsm.1
      have hrow : rows l = 18 + ((rd_T44 l 0).f0.size : Int) + rows (l.drop 1) := by
        conv => lhs; rw [hd]
        rfl
      refine ev_bind (delete_ev s _) ?_
      rw [w64 (by omega) (by omega)]
      refine ev_pos (by omega) ?_
      refine ev_bind (bound_fine (l.drop 1) ⟨by rw [List.length_drop]; omega, fun x hx => hl.2 x (List.mem_of_mem_drop hx)⟩ _ (by omega) (by omega)) ?_
      refine ev_neg (c := 1044 + (s + (22 + ((rd_T44 l 0).f0.size : Int))) + rows (l.drop 1) < 1044 + s + rows l) (by omega) ?_
      exact last_j l hl _ (by omega) (by omega)
    · exact ev_neg hp (last_j l hl s (by omega) (by omega))
  | succ d ih =>
    intro i s h0 hi hs h1 h2
    have hlt : i < (l.length : Int) := by omega
    have hd := drop_rd l i h0 hlt
    have hc := cut_bd ((rd_T44 l i).f1.length : Int)
    have htl := takes_bd (l.drop (i + 1).toNat) (fun x hx => hl.2 x (List.mem_of_mem_drop hx))
    rw [hd] at h1 h2
    simp only [takes] at h1 h2
    refine Ev.step (fun k => by rw [bindlelaw26_SpaceGrows.l1]) (ev_pos hlt (ev_pos h0 ?_))
    refine ev_bind (put_ev s _ _) ?_
    rw [w64 (n := i + 1) (by omega) (by omega), w64 (by omega) (by omega)]
    exact ih (i + 1) _ (by omega) (by omega) (by omega) (by omega) (by omega)

theorem grows_l (l : List S32) (hl : Fine2 l) (live : List S44) (hv : Fine live) (d : Nat) : ∀ (i s : Int), 0 ≤ i → i + d = l.length → 0 ≤ s → s ≤ 70000 * i → Ev (fun k => bindlelaw26_SpaceGrows.l0 k l live (1044 + s) i s) true := by
  have hl1 := hl.1
  have hv1 := hv.1
  induction d with
  | zero =>
    intro i s h0 hi hs h1
    have ht := takes_bd live hv.2
    refine Ev.step (fun k => by rw [bindlelaw26_SpaceGrows.l0]) (ev_neg (by omega) ?_)
    exact puts_l live hv live.length 0 s (by omega) (by omega) hs (by simp; omega) (by simp; omega)
  | succ d ih =>
    intro i s h0 hi hs h1
    have hlt : i < (l.length : Int) := by omega
    have hnext : Ev (fun k => bindlelaw26_SpaceGrows.l0 k l live (1044 + s) (wrap64 (i + 1)) s) true := by
      rw [w64 (n := i + 1) (by omega) (by omega)]
      exact ih (i + 1) s (by omega) (by omega) hs (by omega)
    refine Ev.step (fun k => by rw [bindlelaw26_SpaceGrows.l0]) (ev_pos hlt (ev_pos h0 ?_))
    by_cases hn : (rd_T32 l i).f0 < 0
    · refine ev_pos hn ?_
      refine Ev.step (fun k => by rw [bindlelaw26_SpaceGrows.j2]) ?_
      exact ev_pos rfl hnext
    · refine ev_neg hn ?_
      by_cases h3 : (rd_T32 l i).f0 > 3
      · rw [decide_eq_true h3]
        refine Ev.step (fun k => by rw [bindlelaw26_SpaceGrows.j2]) ?_
        exact ev_pos rfl hnext
      · rw [decide_eq_false h3]
        have hsm := hl.2 _ (List.mem_of_getElem? (rd_get2 l i h0 hlt))
        obtain ⟨n, inc, he, hi0, hi1⟩ := does_ev (rd_T32 l i) hsm.1 (by omega) (by omega) s
        rw [w64 (n := s + inc) (by omega) (by omega)] at he
        refine Ev.step (fun k => by rw [bindlelaw26_SpaceGrows.j2]) ?_
        refine ev_neg (c := false = true) (by simp) (ev_pos h0 (ev_pos hlt ?_))
        refine ev_bind he ?_
        refine ev_bind (bound_nil (s + inc) (by omega) (by omega)) ?_
        refine ev_neg (c := 1044 + (s + inc) < 1044 + s) (by omega) ?_
        refine ev_bind (bound_nil (s + inc) (by omega) (by omega)) ?_
        rw [w64 (n := i + 1) (by omega) (by omega)]
        exact ih (i + 1) (s + inc) (by omega) (by omega) (by omega) (by omega)

theorem SpaceGrows : bindlelaw26_SpaceGrows.Pure := by
  intro l live hl hv
  have ha : GoodA l := ⟨by have := hl.2.1; omega, fun x hx => by have := (hl.2.2 x hx).2.2.2.2.1; unfold GoodL; omega⟩
  have hb : GoodL live := by have := hv.2.1; unfold GoodL; omega
  refine Ev.rounds ?_
  unfold bindlelaw26_SpaceGrows.f
  obtain ⟨g, hg, hgf⟩ := great_ev l ha
  obtain ⟨w, hw, hwf⟩ := wide_ev live hb
  have hj : Ev (fun k => bindlelaw26_SpaceGrows.j0 k l live true) true := by
    refine Ev.step (fun k => by rw [bindlelaw26_SpaceGrows.j0]) ?_
    exact ev_pos rfl (ev_bindc (a := true) rfl (Ev.now _))
  refine ev_bind hg ?_
  cases g with
  | true => exact ev_pos rfl hj
  | false =>
    refine ev_neg (c := false = true) (by simp) ?_
    refine ev_bind hw ?_
    cases w with
    | true => exact hj
    | false =>
      refine Ev.step (fun k => by rw [bindlelaw26_SpaceGrows.j0]) ?_
      refine ev_neg (c := false = true) (by simp) ?_
      refine ev_bind (bound_nil 0 (by omega) (by omega)) ?_
      exact grows_l l (hgf rfl) live (hwf rfl) l.length 0 0 (by omega) (by omega) (by omega) (by omega)
end Go.Proofs.Ythkdabpbohiadaa.Pure
