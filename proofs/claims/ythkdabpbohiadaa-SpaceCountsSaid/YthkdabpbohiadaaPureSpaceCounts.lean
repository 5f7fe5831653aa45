/- Statement 26.1: how many pieces, and sectors, any number of bytes is, how many sectors are enough for any bound, and whether any bytes have room, is the document's, for every three whole numbers. -/
import Derived.Test.YthkdabpbohiadaaPSpaceCountsx2
import Derived.OpenShut
namespace Go.Proofs.Ythkdabpbohiadaa.Pure
open Go.RowKit Go.Proofs.Ythkdabpbohiadaa.PSpaceCounts Go.Proofs.YthkdabpbohiadaaW.PrintWords Go.Proofs.YthkdabpbohiadaaW.PrintLast

theorem w64 {n : Int} (h : -9223372036854775808 ≤ n) (h' : n ≤ 9223372036854775807) : wrap64 n = n := by
  unfold wrap64
  omega

theorem i64_bounds {n : Int} (h : (Lit.int .i64 n).wf = true) : -9223372036854775808 ≤ n ∧ n ≤ 9223372036854775807 := by
  exact Go.bounds_i64 h

/-- The reference's parts, from x on. -/
theorem parts_l (of n : Int) (hof : of = 512 ∨ of = 65535) (h1 : 1 ≤ n) (hn : n ≤ 2097152) (d : Nat) : ∀ (k : Nat) (x : Int), 0 ≤ x → x + d = (n - 1) / of + 1 → d < k → bindleref26_Parts.l0 k n of x = some ((n - 1) / of + 1) := by
  induction d with
  | zero =>
    intro k x h0 hx hk
    obtain ⟨k, rfl⟩ : ∃ m, k = m + 1 := ⟨k - 1, by omega⟩
    simp only [bindleref26_Parts.l0]
    have hx' : x = (n - 1) / of + 1 := by omega
    have hw : wrap64 (x * of) = x * of := by
      rcases hof with rfl | rfl <;> exact w64 (by omega) (by omega)
    rw [hw, if_neg (by rcases hof with rfl | rfl <;> omega), hx']
  | succ d ih =>
    intro k x h0 hx hk
    obtain ⟨k, rfl⟩ : ∃ m, k = m + 1 := ⟨k - 1, by omega⟩
    simp only [bindleref26_Parts.l0]
    have hw : wrap64 (x * of) = x * of := by
      rcases hof with rfl | rfl <;> exact w64 (by omega) (by omega)
    rw [hw, if_pos (by rcases hof with rfl | rfl <;> omega), w64 (by omega) (by rcases hof with rfl | rfl <;> omega)]
    exact ih k (x + 1) (by omega) (by omega) (by omega)

theorem parts_f (of n : Int) (hof : of = 512 ∨ of = 65535) (h1 : 1 ≤ n) (hn : n ≤ 2097152) (k : Nat) (hk : 5000 ≤ k) : bindleref26_Parts.f k n of = some ((n - 1) / of + 1) := by
  unfold bindleref26_Parts.f
  refine parts_l of n hof h1 hn ((n - 1) / of + 1).toNat k 0 (by omega) ?_ ?_ <;> rcases hof with rfl | rfl <;> omega

theorem parts_s (of n : Int) (hof : of = 512 ∨ of = 65535) (h1 : 1 ≤ n) (hn : n ≤ 9223372036854775807) : space_parts.f n of = some ((n - 1) / of + 1) := by
  unfold space_parts.f
  rw [if_neg (by omega), if_neg (by rcases hof with rfl | rfl <;> omega), w64 (n := n - 1) (by omega) (by omega)]
  rw [Int.tdiv_eq_ediv_of_nonneg (by omega)]
  rw [w64 (n := (n - 1) / of) (by rcases hof with rfl | rfl <;> omega) (by rcases hof with rfl | rfl <;> omega), w64 (by rcases hof with rfl | rfl <;> omega) (by rcases hof with rfl | rfl <;> omega)]

theorem parts_small (of n : Int) (h1 : n < 1) : space_parts.f n of = some 0 := by
  unfold space_parts.f
  rw [if_pos h1]

theorem join (a b c : Int) (x7 : Bool) (hx : x7 = decide (0 ≤ a ∧ a ≤ 2097152 ∧ 0 ≤ b ∧ b ≤ 2097152 - a ∧ 0 ≤ c ∧ c ≤ 2097152 - a - b)) (ha : a ≤ 9223372036854775807) : bindlelaw26_SpaceCounts.j0 5001 a b c x7 = some true := by
  subst hx
  simp only [bindlelaw26_SpaceCounts.j0, space_Fits.f, Option.bind_some, bne_self_eq_false, Bool.false_eq_true, if_false]
  by_cases h1 : a < 1
  · rw [if_pos h1]
    simp only [space_Pieces.f, space_Sectors.f, space_Capacity.f, parts_small _ _ h1, Option.bind_some, if_true]
    rw [if_neg (by omega : ¬ a > 2097152)]
    simp [bindlelaw26_lives.f, w64]
  · rw [if_neg h1]
    by_cases h2 : a > 2097152
    · rw [if_pos h2]
      simp [space_Capacity.f, h2, bindlelaw26_lives.f]
    · rw [if_neg h2, parts_f 512 a (.inl rfl) (by omega) (by omega) 5000 (by omega), parts_f 65535 a (.inr rfl) (by omega) (by omega) 5000 (by omega)]
      simp only [space_Pieces.f, space_Sectors.f, space_Capacity.f, parts_s 65535 a (.inr rfl) (by omega) ha, parts_s 512 a (.inl rfl) (by omega) ha, Option.bind_some, if_true, if_neg h2]
      simp [bindlelaw26_lives.f]

theorem SpaceCounts : bindlelaw26_SpaceCounts.Pure := by
  intro a b c ha hb hc
  have ba := i64_bounds ha
  have bb := i64_bounds hb
  have bc := i64_bounds hc
  refine ⟨5001, ?_⟩
  unfold bindlelaw26_SpaceCounts.f
  by_cases h1 : a ≥ 0
  · rw [if_pos h1]
    by_cases h2 : b ≥ 0
    · rw [if_pos h2]
      by_cases h3 : c ≥ 0
      · rw [if_pos h3]
        by_cases h4 : a ≤ 2097152
        · rw [if_pos h4, w64 (n := 2097152 - a) (by omega) (by omega)]
          by_cases h5 : b ≤ 2097152 - a
          · rw [if_pos h5, w64 (by omega) (by omega)]
            exact join a b c _ (by rw [decide_eq_decide]; omega) ba.2
          · rw [if_neg h5]
            exact join a b c _ (by rw [decide_eq_false]; omega) ba.2
        · rw [if_neg h4]
          exact join a b c _ (by rw [decide_eq_false]; omega) ba.2
      · rw [if_neg h3]
        exact join a b c _ (by rw [decide_eq_false]; omega) ba.2
    · rw [if_neg h2]
      exact join a b c _ (by rw [decide_eq_false]; omega) ba.2
  · rw [if_neg h1]
    exact join a b c _ (by rw [decide_eq_false]; omega) ba.2

end Go.Proofs.Ythkdabpbohiadaa.Pure
