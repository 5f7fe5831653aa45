/- How an argument that is read as data is opened as the kinds of the printed words: whole numbers, bools, strings, slices and structs of these, nested as they may be. -/
import Derived.Test.YtkccjohhakljnaaGreatDoorWWords
import Derived.Deep.Slices
import Derived.ProofKit
import Derived.SizedLaws
namespace Go.Proofs.YtkccjohhakljnaaGreatDoorRowOpen
open Go.ChangeShapes Go.WideShapes Go.ChangeAt Go.RowKit Go.Proofs.YtkccjohhakljnaaGreatDoorW.PrintWords
set_option linter.unusedVariables false

theorem weightsAll_mem {H : Type} {P : Program} {e : TypeId} : ∀ {l : List (DataW H)} {d : DataW H}, d ∈ l → ∀ n ∈ d.weights P e, n ∈ DataW.weightsAll P e l
  | d' :: r, d, hd, n, hn => by
    simp only [DataW.weightsAll, List.mem_append]
    rcases List.mem_cons.1 hd with rfl | h
    · exact Or.inl hn
    · exact Or.inr (weightsAll_mem h n hn)

/-- Data of type t, read as the kind d; G: what is known of it. -/
structure Opens (P : Program) (t : TypeId) {α : Type} (d : Kd α) (G : α → Prop) : Prop where
  cells : P.cellsOf t = d.sz
  opened : ∀ {H : Type} {enc : TypeId × Value → H} {w : World} {base : Nat} {spare : Nat → Bool} {held : Bool} {fuel : Nat} {cs : List Value} {x : DataW H} {ps : List MemPlace},
    DataW.trod enc P w base spare held fuel t cs = some (x, ps) → (∀ n ∈ x.weights P t, n ≤ reachBytes) → ∃ a, d.K w a cs ∧ G a

section
variable {P : Program} {t : TypeId}

theorem opens_int {k : IntKind} (ht : P.underlying t = some (.int k)) (hc : P.cellsOf t = 1) : Opens P t (Kd.int k) (fun x => (Lit.int k x).wf = true) :=
  ⟨hc, fun h _ => by
    obtain ⟨n, rfl, _, hw⟩ := DataW.trod_int ht h
    exact ⟨n, rfl, hw⟩⟩

theorem opens_bool (ht : P.underlying t = some .bool) (hc : P.cellsOf t = 1) : Opens P t Kd.bool (fun _ => True) :=
  ⟨hc, fun h _ => by
    obtain ⟨b, rfl, _⟩ := DataW.trod_bool ht h
    exact ⟨b, rfl, trivial⟩⟩

theorem opens_string (ht : P.underlying t = some .string) (hc : P.cellsOf t = 1) : Opens P t Kd.string (fun s => s.size ≤ 140737488351232) :=
  ⟨hc, fun h hw => by
    obtain ⟨s, rfl, hx, _⟩ := DataW.trod_string ht h
    obtain ⟨rfl, rfl⟩ := Prod.mk.inj hx
    refine ⟨s, rfl, ?_⟩
    have hn : s.data.toList.length ≤ reachBytes := hw _ (by simp only [DataW.weights, List.mem_singleton])
    rw [Array.length_toList] at hn
    exact Nat.le_trans hn (by decide)⟩

theorem list_of {α : Type} (Q : Nat → α → Prop) : ∀ (n : Nat), (∀ i, i < n → ∃ x, Q i x) → ∃ xs : List α, xs.length = n ∧ ∀ j p, xs[j]? = some p → Q j p
  | 0, _ => ⟨[], rfl, fun j p h => by simp at h⟩
  | n + 1, h => by
    obtain ⟨xs, hl, hq⟩ := list_of Q n (fun i hi => h i (by omega))
    obtain ⟨x, hx⟩ := h n (by omega)
    refine ⟨xs ++ [x], by simp [hl], fun j p hj => ?_⟩
    by_cases hlt : j < xs.length
    · rw [List.getElem?_append_left hlt] at hj
      exact hq j p hj
    · have e : j = n := by
        have := (List.getElem?_eq_some_iff.1 hj).1
        simp at this
        omega
      subst e
      rw [List.getElem?_append_right (by omega), hl] at hj
      simp at hj
      subst hj
      exact hx

theorem opens_slice {α : Type} {e : TypeId} {d : Kd α} {G : α → Prop} (E : Nat) (ht : P.underlying t = some (.slice e)) (hc : P.cellsOf t = 1) {B : Nat} (hB : P.bytesOf e = B) (he : Opens P e d G) :
    Opens P t (Kd.slice E d) (fun xs => xs.length ≤ maxLen ∧ xs.length * B ≤ 140737488351232 ∧ ∀ x ∈ xs, G x) :=
  ⟨hc, fun {H} {enc} {w} {base} {spare} {held} {fuel} {cs} {x} {ps} h hw => by
    rcases Deep.open_slice ht h with ⟨rfl, hx⟩ | ⟨a, len, cap, m, n, D, Pl, rfl, hb, hl, hm, hmm, hx, hel⟩
    · refine ⟨[], ⟨none, 0, rfl, Nat.le_refl _, rfl, by simp, fun h => absurd h (by simp)⟩, by simp, by simp, by simp⟩
    · obtain ⟨rfl, _⟩ := Prod.mk.inj hx
      have hlm : len ≤ m := by rw [hmm]; split <;> omega
      have hw0 : (len + (m - len)) * P.bytesOf e ≤ reachBytes := hw _ (by simp [DataW.weights, ht])
      obtain ⟨xs, hxl, hxq⟩ := list_of (fun i (p : α) => ∃ cs', w.cells? base (a.add (i * P.cellsOf e)) (P.cellsOf e) = some cs' ∧ d.K w p cs' ∧ G p) len (fun i hi => by
        obtain ⟨cs', h1, h2⟩ := hel i (by omega)
        obtain ⟨p, hp, hg⟩ := he.opened h2 (fun q hq => hw q (by
          simp only [DataW.weights, ht, List.mem_cons, List.mem_append]
          exact Or.inr (Or.inl (weightsAll_mem (List.mem_map.2 ⟨i, List.mem_range.2 hi, rfl⟩) q hq))))
        exact ⟨p, cs', h1, hp, hg⟩)
      subst hxl
      refine ⟨xs, ⟨some a, cap, rfl, hl, rfl, ?_, fun _ => ⟨a, rfl, fun j p hj => ?_⟩⟩, Nat.le_trans hl hm, ?_, fun x hx => ?_⟩
      · exact Nat.le_trans (Nat.le_trans hl hm) (by decide)
      · obtain ⟨cs', h1, hk, _⟩ := hxq j p hj
        obtain ⟨_, hcl, hcc⟩ := World.cells?_some h1
        refine ⟨cs', d.K_len hk, hk, fun i u hu => ?_⟩
        have hi : i < P.cellsOf e := by
          rw [← hcl]
          exact (List.getElem?_eq_some_iff.1 hu).1
        have := hcc i hi
        rw [Deep.add_add, he.cells] at this
        rw [this]
        exact hu
      · rw [hB] at hw0
        refine Nat.le_trans ?_ hw0
        exact Nat.mul_le_mul_right _ (Nat.le_add_right _ _)
      · obtain ⟨i, hi, rfl⟩ := List.mem_iff_getElem.1 hx
        obtain ⟨_, _, _, hg⟩ := hxq i _ (List.getElem?_eq_getElem hi)
        exact hg⟩

/-- Fields, one behind the other, from cell o on. -/
structure OpensF (P : Program) (fs : List Field) (o : Nat) {α : Type} (d : Kd α) (G : α → Prop) : Prop where
  opened : ∀ {H : Type} {enc : TypeId × Value → H} {w : World} {base : Nat} {spare : Nat → Bool} {held : Bool} {fuel : Nat} {cs : List Value} {xs : List (DataW H × List MemPlace)},
    cs.length = o + d.sz → xs.length = fs.length →
    (∀ (i : Nat) (f : Field), fs[i]? = some f → DataW.trod enc P w base spare held fuel f.type ((cs.drop f.offset).take (P.cellsOf f.type)) = xs[i]?) →
    (∀ n ∈ DataW.weightsEach P (fs.map (·.type)) (xs.map (·.1)), n ≤ reachBytes) → ∃ a, d.K w a (cs.drop o) ∧ G a

theorem opensF_one {α : Type} {d : Kd α} {G : α → Prop} (f : Field) {o : Nat} (ho : f.offset = o) (h : Opens P f.type d G) : OpensF P [f] o d G := by
  refine ⟨?_⟩
  intro H enc w base spare held fuel cs xs hl hx hel hw
  match xs, hx with
  | [x], _ =>
    have h0 := hel 0 f rfl
    rw [ho, h.cells, List.take_of_length_le (by rw [List.length_drop]; omega)] at h0
    obtain ⟨d0, p0⟩ := x
    exact h.opened (x := d0) (ps := p0) (by simpa using h0) (fun n hn => hw n (by simpa [DataW.weightsEach] using hn))

theorem opensF_cons {α β : Type} {d : Kd α} {G : α → Prop} {d2 : Kd β} {G2 : β → Prop} (f : Field) {fs : List Field} {o o2 : Nat} (ho : f.offset = o) (ho2 : o + d.sz = o2) (h : Opens P f.type d G) (hf : OpensF P fs o2 d2 G2) :
    OpensF P (f :: fs) o (Kd.pair d d2) (fun x => G x.1 ∧ G2 x.2) := by
  refine ⟨?_⟩
  intro H enc w base spare held fuel cs xs hl hx hel hw
  have hl' : cs.length = o + (d.sz + d2.sz) := hl
  match xs, hx with
  | x :: xs, hx =>
    have h0 := hel 0 f rfl
    rw [ho, h.cells] at h0
    obtain ⟨d0, p0⟩ := x
    obtain ⟨a, ha, hga⟩ := h.opened (x := d0) (ps := p0) (by simpa using h0) (fun n hn => hw n (by simp [DataW.weightsEach]; exact Or.inl hn))
    obtain ⟨b, hb, hgb⟩ := hf.opened (cs := cs) (xs := xs) (by omega) (by simpa using hx) (fun i g hg => by simpa using hel (i + 1) g (by simpa using hg)) (fun n hn => hw n (by simp [DataW.weightsEach]; exact Or.inr hn))
    refine ⟨(a, b), ⟨(cs.drop o).take d.sz, cs.drop o2, ?_, ha, hb⟩, hga, hgb⟩
    rw [← ho2, ← List.drop_drop, List.take_append_drop]

theorem opens_struct {α β : Type} {d : Kd α} {G : α → Prop} {fs : Array Field} (ht : P.underlying t = some (.struct fs)) (hc : P.cellsOf t = d.sz) (hF : OpensF P fs.toList 0 d G) (f : β → α) (g : α → β) (hfg : ∀ y, f (g y) = y) :
    Opens P t (Kd.iso d f) (fun x => G (f x)) :=
  ⟨hc, fun h hw => by
    obtain ⟨xs, n, _, hx, hcl, hxl, hel⟩ := DataW.trod_struct ht h
    obtain ⟨rfl, _⟩ := Prod.mk.inj hx
    obtain ⟨a, ha, hg⟩ := hF.opened (by rw [hcl, hc]; omega) (by simpa using hxl) (fun i f hf => hel i f (by simpa using hf)) (fun n hn => hw n (by simpa [DataW.weights, ht] using hn))
    refine ⟨g a, ?_, ?_⟩
    · show d.K _ (f (g a)) _
      rw [hfg]
      exact ha
    · rw [hfg]
      exact hg⟩

/-- An argument. -/
theorem Opens.arg {α : Type} {d : Kd α} {G : α → Prop} (h : Opens P t d G) {H : Type} {enc : TypeId × Value → H} {w : World} {base : Nat} {spare : Nat → Bool} {held : Bool} {v : Value} {x : DataW H} {ps : List MemPlace} {ts : List TypeId} {ds : List (DataW H)} {j : Nat}
    (hk : DataW.Trod enc P w base spare held t v x ps) (hsz : (DataW.weightsEach P ts ds).all (· ≤ reachBytes) = true) (ht : ts[j]? = some t) (hd : ds[j]? = some x) : ∃ a, d.K w a v.cells.toList ∧ G a := by
  obtain ⟨fuel, hf⟩ := hk
  exact h.opened hf (fun n hn => by simpa using List.all_eq_true.1 hsz _ (DataW.weights_mem_each ht hd n hn))

/-- An argument's places are old ones. -/
theorem places_lt {H : Type} {enc : TypeId × Value → H} {w : World} {base : Nat} {spare : Nat → Bool} {held : Bool} {v : Value} {x : DataW H} {ps : List MemPlace} (hk : DataW.Trod enc P w base spare held t v x ps) : ∀ p ∈ ps, p.block < w.heap.size := by
  obtain ⟨m, hm⟩ := hk
  exact DataW.trod_lt m _ _ _ hm
end
end Go.Proofs.YtkccjohhakljnaaGreatDoorRowOpen
