/- Words of a claim's machine side, laid by the kit's print and taken here as far as this claim names them; or this session's own. -/
/- Small lemmas for functions that are told by hand. -/
import Derived.Test.YtkccjohhakljnaaGreatDoorWWords
import Derived.Test.YtkccjohhakljnaaGreatDoorWMore
import Derived.WalkKit
import Derived.WalkLawsBesides
import Derived.WalkSpells
import Derived.Handy
import Derived.Lib.Hide
import Derived.Laws.RangeAny
import Derived.Deep.WholeRow
import Derived.Lib.SplitLaws
import Derived.Lib.IndexBytes
import Derived.Lib.ConvBytes
namespace Go.Proofs.YtkccjohhakljnaaGreatDoorMpHelp
open Go.RowKit Go.Proofs.YtkccjohhakljnaaGreatDoorW.PrintWords
set_option linter.unusedVariables false
theorem C_of_block {α : Type} {d : Kd α} {W : World} {b : Nat} {cells : Array Value} {t : TypeId} {xs : List α} {fr : Nat × Nat} (h : W.heap[b]? = some (.cells cells t fr)) (hl : xs.length ≤ 9223372036854775807)
    (hK : ∀ j p, xs[j]? = some p → ∃ c, c.length = d.sz ∧ d.K W p c ∧ ∀ i u, c[i]? = some u → cells[j * d.sz + i]? = some u) : Kd.C d W (some ⟨b, 0, none⟩) xs.length xs :=
  ⟨rfl, hl, fun _ => ⟨_, rfl, fun j p hj => by
    obtain ⟨c, h1, h2, h3⟩ := hK j p hj
    refine ⟨c, h1, h2, fun i u hu => ?_⟩
    rw [add_plain, cell_of_row W b _ cells t fr h]
    exact h3 i u hu⟩⟩
theorem C_nums {k : IntKind} {W : World} {b : Nat} {t : TypeId} {xs : List Int} {fr : Nat × Nat} (h : W.heap[b]? = some (.cells (nums k xs).toArray t fr)) (hl : xs.length ≤ 9223372036854775807) : Kd.C (Kd.int k) W (some ⟨b, 0, none⟩) xs.length xs :=
  C_of_block h hl fun j p hj => ⟨[.int k p], rfl, rfl, fun i u hu => by
    have hi := (List.getElem?_eq_some_iff.1 hu).1
    obtain rfl : i = 0 := by simpa using hi
    have e : (Kd.int k).sz = 1 := rfl
    simp only [List.getElem?_cons_zero, Option.some.injEq] at hu
    subst hu
    rw [e, Nat.mul_one, Nat.add_zero]
    simp [nums, hj]⟩
theorem heap_new (w : World) (o : Obj) : (w.alloc o).heap[w.heap.size]? = some o := by
  show (w.heap.push o)[w.heap.size]? = some o
  simp
theorem heap_old (w : World) (o : Obj) {b : Nat} {x : Obj} (h : w.heap[b]? = some x) : (w.alloc o).heap[b]? = some x := by
  have hb := (Array.getElem?_eq_some_iff.1 h).1
  show (w.heap.push o)[b]? = some x
  rw [Array.getElem?_push]
  rw [if_neg (by omega)]
  exact h
section
variable {P : Program} {ops : Array Oper} {rest : List Oper} {o : Oper} {a : Act} {w : World} {Q : Exit → Act → World → Prop}
end
section
variable {P : Program} {ops : Array Oper} {rest : List Oper} {o : Oper} {a : Act} {Q : Exit → Act → World → Prop}
end
section
variable {P : Program} {ops : Array Oper} {rest : List Oper} {o : Oper} {a : Act} {Q : Exit → Act → World → Prop}
end
theorem leq_not : ∀ a b : List UInt8, (Op.bytesLess a b || a == b) = !(Op.bytesLess b a)
  | [], [] => rfl
  | [], _ :: _ => rfl
  | _ :: _, [] => rfl
  | a :: x, b :: y => by
    have ih := leq_not x y
    unfold Op.bytesLess
    by_cases h1 : a < b
    · have h2 : ¬ b < a := UInt8.lt_asymm h1
      have h3 : ¬ b = a := fun e => by subst e; exact UInt8.lt_irrefl _ h1
      simp [h1, h2, h3]
    · by_cases h2 : b < a
      · have h3 : ¬ a = b := fun e => by subst e; exact UInt8.lt_irrefl _ h2
        simp [h1, h2, h3]
      · have e : a = b := UInt8.le_antisymm (UInt8.not_lt.1 h2) (UInt8.not_lt.1 h1)
        subst e
        have h4 : (a :: x == a :: y) = (x == y) := by simp
        rw [h4]
        simpa [h1] using ih
theorem gtr_less (a b : List UInt8) : (!(Op.bytesLess a b || a == b)) = Op.bytesLess b a := by rw [leq_not, Bool.not_not]
def splitL (c : UInt8) : List UInt8 → List (List UInt8)
  | [] => [[]]
  | x :: r => if x = c then [] :: splitL c r else match splitL c r with
    | h :: t => (x :: h) :: t
    | [] => [[x]]
def partB (l : List UInt8) : Bool := l.all (fun c => decide (33 ≤ c.toNat) && decide (c.toNat ≤ 126)) && !l.isEmpty && !(l == [46]) && !(l == [46, 46])
def rightB (l : List UInt8) : Bool := decide (l.length ≤ 64) && (splitL 47 l).all partB
theorem miss_count (c : UInt8) : ∀ l : List UInt8, Lib.indexByte l c = -1 → l.count c = 0
  | [], _ => rfl
  | b :: l, h => by
    have hge := Lib.indexByte_ge l c
    unfold Lib.indexByte at h
    by_cases hb : b = c
    · simp [hb] at h
    · rw [if_neg (by simpa using hb)] at h
      by_cases hm : Lib.indexByte l c = -1
      · rw [List.count_cons_of_ne hb]
        exact miss_count c l hm
      · rw [if_neg (by simpa using hm)] at h
        omega
theorem splitL_ne (c : UInt8) (l : List UInt8) : splitL c l ≠ [] := by
  cases l with
  | nil => simp [splitL]
  | cons x r =>
    unfold splitL
    split
    · simp
    · split <;> simp
theorem splitK_one (c : UInt8) : ∀ l : List UInt8, Lib.splitK [c] 0 (l.count c) l = splitL c l
  | [] => rfl
  | b :: l => by
    have ih := splitK_one c l
    by_cases hb : b = c
    · subst hb
      rw [List.count_cons_self]
      unfold Lib.splitK splitL
      have h0 : Lib.index (b :: l) [b] = 0 := by
        rw [Lib.index_one]
        simp [Lib.indexByte]
      rw [h0, if_neg (by decide), if_pos rfl]
      simpa using ih
    · rw [List.count_cons_of_ne hb]
      unfold splitL
      rw [if_neg hb]
      cases hk : l.count c with
      | zero =>
        rw [hk] at ih
        rw [← ih]
        rfl
      | succ k =>
        rw [hk] at ih
        have hm : Lib.index l [c] ≠ -1 := by
          rw [Lib.index_one]
          intro h
          have := miss_count c l h
          omega
        have hge := Lib.index_ge l [c]
        have h1 : Lib.index (b :: l) [c] = Lib.index l [c] + 1 := by
          rw [Lib.index_one, Lib.index_one] at *
          conv => lhs; unfold Lib.indexByte
          rw [if_neg (by simpa using hb), if_neg (by simpa using hm)]
        unfold Lib.splitK at ih ⊢
        rw [if_neg (by simpa using hm)] at ih
        rw [h1, if_neg (by simp; omega), ← ih]
        simp only [Nat.add_zero]
        rw [show (Lib.index l [c] + 1).toNat = (Lib.index l [c]).toNat + 1 from by omega]
        simp [List.take_succ_cons]
theorem splitB_one (c : UInt8) (s : ByteArray) : Lib.splitB ⟨#[c]⟩ 0 (s.data.toList.count c) s = (splitL c s.data.toList).map fun l => ⟨l.toArray⟩ := by
  have h := Lib.splitB_data ⟨#[c]⟩ 0 (s.data.toList.count c) s
  rw [show (⟨#[c]⟩ : ByteArray).data.toList = [c] from rfl, splitK_one] at h
  rw [← h, List.map_map]
  conv => lhs; rw [← List.map_id (Lib.splitB _ _ _ _)]
  exact List.map_congr_left fun x _ => rfl
end Go.Proofs.YtkccjohhakljnaaGreatDoorMpHelp
