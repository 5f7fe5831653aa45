/- Small lemmas for functions that are told by hand. -/
import Derived.Test.YthkdabpbohiadaaWWords
import Derived.Test.YthkdabpbohiadaaWMore
import Derived.WalkKit
import Derived.WalkLawsBesides
import Derived.WalkSpells
import Derived.Handy
import Derived.Lib.Hide
namespace Go.Proofs.YthkdabpbohiadaaMpHelp
open Go.RowKit Go.Proofs.YthkdabpbohiadaaW.PrintWords
set_option linter.unusedVariables false
/-- A block's cells, read as a row. -/
theorem C_of_block {α : Type} {d : Kd α} {W : World} {b : Nat} {cells : Array Value} {t : TypeId} {xs : List α} {fr : Nat × Nat} (h : W.heap[b]? = some (.cells cells t fr)) (hl : xs.length ≤ 9223372036854775807)
    (hK : ∀ j p, xs[j]? = some p → ∃ c, c.length = d.sz ∧ d.K W p c ∧ ∀ i u, c[i]? = some u → cells[j * d.sz + i]? = some u) : Kd.C d W (some ⟨b, 0, none⟩) xs.length xs :=
  ⟨rfl, hl, fun _ => ⟨_, rfl, fun j p hj => by
    obtain ⟨c, h1, h2, h3⟩ := hK j p hj
    refine ⟨c, h1, h2, fun i u hu => ?_⟩
    rw [add_plain, cell_of_row W b _ cells t fr h]
    exact h3 i u hu⟩⟩
/-- A block of numbers, read as a row. -/
theorem C_nums {k : IntKind} {W : World} {b : Nat} {t : TypeId} {xs : List Int} {fr : Nat × Nat} (h : W.heap[b]? = some (.cells (nums k xs).toArray t fr)) (hl : xs.length ≤ 9223372036854775807) : Kd.C (Kd.int k) W (some ⟨b, 0, none⟩) xs.length xs :=
  C_of_block h hl fun j p hj => ⟨[.int k p], rfl, rfl, fun i u hu => by
    have hi := (List.getElem?_eq_some_iff.1 hu).1
    obtain rfl : i = 0 := by simpa using hi
    have e : (Kd.int k).sz = 1 := rfl
    simp only [List.getElem?_cons_zero, Option.some.injEq] at hu
    subst hu
    rw [e, Nat.mul_one, Nat.add_zero]
    simp [nums, hj]⟩
theorem heap_new (w : World) (o : Obj) : (w.alloc o).heap[w.heap.size]? = some o := by
  show (w.heap.push o)[w.heap.size]? = some o
  simp
theorem heap_old (w : World) (o : Obj) {b : Nat} {x : Obj} (h : w.heap[b]? = some x) : (w.alloc o).heap[b]? = some x := by
  have hb := (Array.getElem?_eq_some_iff.1 h).1
  show (w.heap.push o)[b]? = some x
  rw [Array.getElem?_push]
  rw [if_neg (by omega)]
  exact h
theorem size_new (w : World) (o : Obj) : (w.alloc o).heap.size = w.heap.size + 1 := by
  show (w.heap.push o).size = _
  simp
end Go.Proofs.YthkdabpbohiadaaMpHelp
