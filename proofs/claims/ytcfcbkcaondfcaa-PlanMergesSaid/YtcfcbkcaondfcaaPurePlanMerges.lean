/- Statement 38.3: what two maps, and a base, are put together to, and which names clash, is the document's, of any three lists of files. -/
import Derived.Test.YtcfcbkcaondfcaaPPlanMergesx7
import Derived.Sort.Walk0
import Derived.OpenShut
namespace Go.Proofs.Ytcfcbkcaondfcaa.Pure
open Go.RowKit Go.Proofs.Ytcfcbkcaondfcaa.PPlanMerges Go.Proofs.YtcfcbkcaondfcaaW.PrintWords Go.Proofs.YtcfcbkcaondfcaaW.PrintLast Go.Proofs.YtcfcbkcaondfcaaW.PrintMore
theorem w64 {n : Int} (h : -9223372036854775808 ≤ n) (h' : n ≤ 9223372036854775807) : wrap64 n = n := by
  unfold wrap64
  omega
theorem w64_l (a b : Int) : wrap64 (wrap64 a + b) = wrap64 (a + b) := by
  unfold wrap64
  omega
theorem w64_r (a b : Int) : wrap64 (a + wrap64 b) = wrap64 (a + b) := by
  unfold wrap64
  omega
theorem i64_bounds {n : Int} (h : (Lit.int .i64 n).wf = true) : -9223372036854775808 ≤ n ∧ n ≤ 9223372036854775807 := Go.bounds_i64 h
theorem ev_const {α : Type} {o : Option α} {a : α} (h : o = some a) : Ev (fun _ => o) a := ⟨0, fun _ _ => h⟩
theorem ev_pos {α : Type} {c : Prop} [Decidable c] {g h : Nat → Option α} {r : α} (hc : c) (hg : Ev g r) : Ev (fun k => if c then g k else h k) r := by
  obtain ⟨K, hg⟩ := hg
  exact ⟨K, fun k hk => by simp only [if_pos hc]; exact hg k hk⟩
theorem ev_neg {α : Type} {c : Prop} [Decidable c] {g h : Nat → Option α} {r : α} (hc : ¬ c) (hg : Ev h r) : Ev (fun k => if c then g k else h k) r := by
  obtain ⟨K, hg⟩ := hg
  exact ⟨K, fun k hk => by simp only [if_neg hc]; exact hg k hk⟩
theorem ev_from {α : Type} {g : Nat → Option α} {r : α} (K : Nat) (h : ∀ k, K ≤ k → g k = some r) : Ev g r := ⟨K, h⟩
theorem ev_bind {α β : Type} {g : Nat → Option α} {f : Nat → α → Option β} {a : α} {r : β} (h : Ev g a) (k : Ev (fun n => f n a) r) : Ev (fun n => (g n).bind (f n)) r := h.bind k
theorem ev_bindc {α β : Type} {o : Option α} {f : Nat → α → Option β} {a : α} {r : β} (h : o = some a) (k : Ev (fun n => f n a) r) : Ev (fun n => o.bind (f n)) r := (ev_const h).bind k
theorem toList_inj {a b : ByteArray} (h : a.toList = b.toList) : a = b := by
  rw [ByteArray.toList_eq, ByteArray.toList_eq] at h
  exact Go.WideShapes.bytes_inj h
/-- A text's bytes as a list. -/
abbrev ls (a : ByteArray) : List UInt8 := a.data.toList
abbrev mk (l : List UInt8) : ByteArray := ⟨l.toArray⟩
theorem ls_len (a : ByteArray) : (ls a).length = a.size := Array.length_toList
theorem ls_mk (l : List UInt8) : ls (mk l) = l := rfl
theorem mk_ls (a : ByteArray) : mk (ls a) = a := rfl
theorem ls_inj {a b : ByteArray} (h : ls a = ls b) : a = b := Go.WideShapes.bytes_inj h
theorem mk_append (x y : List UInt8) : mk (x ++ y) = mk x ++ mk y := by
  apply ls_inj
  simp [ls, mk]
theorem mk_size (l : List UInt8) : (mk l).size = l.length := by
  show l.toArray.size = _
  rw [List.size_toArray]
theorem extract_ls (a : ByteArray) (i j : Nat) : ls (a.extract i j) = ((ls a).drop i).take (j - i) := by
  show (a.extract i j).data.toList = _
  rw [ByteArray.data_extract, Array.toList_extract]
theorem extract_mk (a : ByteArray) (i j : Nat) : a.extract i j = mk (((ls a).drop i).take (j - i)) := ls_inj (by rw [extract_ls])
theorem bt_nat (a : ByteArray) (i : Nat) (h : i < a.size) : bt a (i : Int) = (((ls a)[i]'(by rw [ls_len]; exact h)).toNat : Int) := by
  unfold bt
  rw [dif_pos (by simpa using h)]
  rfl
theorem str_lt_of {x y : List UInt8} (h : x ≤ y) (hne : x ≠ y) : x < y := by
  by_cases hl : x < y
  · exact hl
  · exact absurd (List.le_antisymm h hl) hne
theorem str_irrefl (x : List UInt8) : ¬ x < x := List.lt_irrefl x
theorem str_trans {x y z : List UInt8} (h : x < y) (h' : y < z) : x < z := List.lt_trans h h'
theorem str_lt_le {x y : List UInt8} (h : x < y) : x ≤ y := fun h' => str_irrefl x (str_trans h h')
theorem str_le_lt {x y z : List UInt8} (h : x ≤ y) (h' : y < z) : x < z := by
  by_cases e : x = y
  · rwa [e]
  · exact str_trans (str_lt_of h e) h'
theorem strict_ext {l m : List (List UInt8)} (hl : l.Pairwise (· < ·)) (hm : m.Pairwise (· < ·)) (h : ∀ x, x ∈ l ↔ x ∈ m) : l = m := by
  have nl : l.Nodup := hl.imp (fun {a b} hx (e : a = b) => str_irrefl b (by rw [e] at hx; exact hx))
  have nm : m.Nodup := hm.imp (fun {a b} hx (e : a = b) => str_irrefl b (by rw [e] at hx; exact hx))
  exact List.Perm.eq_of_pairwise (le := fun a b => a < b) (fun a b _ _ h1 h2 => absurd (str_trans h1 h2) (str_irrefl a)) hl hm ((List.perm_ext_iff_of_nodup nl nm).2 h)
theorem get_bang (zs : List (List UInt8)) (j : Nat) (h : j < zs.length) : zs.toArray[j]! = zs[j] := by
  simp [h]
theorem compact_upto (zs : List (List UInt8)) (h : zs.Pairwise (· ≤ ·)) : ∀ m : Nat, m ≤ zs.length →
    (Lib.compactUpTo zs.toArray m).Pairwise (· < ·) ∧ ∀ x, x ∈ Lib.compactUpTo zs.toArray m ↔ ∃ j, j < m ∧ zs.toArray[j]! = x
  | 0, _ => by
    refine ⟨by simp [Lib.compactUpTo], fun x => ?_⟩
    simp [Lib.compactUpTo]
  | m + 1, hm => by
    obtain ⟨h1, h2⟩ := compact_upto zs h m (by omega)
    have hle : ∀ i j, i ≤ j → j < zs.length → zs.toArray[i]! ≤ zs.toArray[j]! := fun i j hij hj => by
      rw [get_bang _ _ (by omega), get_bang _ _ hj]
      rcases Nat.lt_or_eq_of_le hij with hlt | rfl
      · exact List.pairwise_iff_getElem.1 h i j (by omega) hj hlt
      · exact List.le_refl _
    rw [Lib.compactUpTo_succ]
    by_cases hk : Lib.keeps zs.toArray m = true
    · rw [if_pos hk]
      have hk' : m = 0 ∨ zs.toArray[m]! ≠ zs.toArray[m - 1]! := of_decide_eq_true hk
      refine ⟨List.pairwise_append.2 ⟨h1, by simp, fun a ha b hb => ?_⟩, fun x => ?_⟩
      · rw [List.mem_singleton] at hb
        subst hb
        obtain ⟨j, hj, rfl⟩ := (h2 a).1 ha
        rcases hk' with h0 | hne
        · omega
        · exact str_le_lt (hle j (m - 1) (by omega) (by omega)) (str_lt_of (hle (m - 1) m (by omega) (by omega)) (Ne.symm hne))
      · rw [List.mem_append, h2, List.mem_singleton]
        constructor
        · rintro (⟨j, hj, e⟩ | e)
          · exact ⟨j, by omega, e⟩
          · exact ⟨m, by omega, e.symm⟩
        · rintro ⟨j, hj, e⟩
          by_cases hjm : j = m
          · subst hjm; exact .inr e.symm
          · exact .inl ⟨j, by omega, e⟩
    · rw [if_neg hk, List.append_nil]
      have hk' : ¬ (m = 0 ∨ zs.toArray[m]! ≠ zs.toArray[m - 1]!) := fun e => hk (decide_eq_true e)
      refine ⟨h1, fun x => ?_⟩
      rw [h2]
      constructor
      · rintro ⟨j, hj, e⟩
        exact ⟨j, by omega, e⟩
      · rintro ⟨j, hj, e⟩
        by_cases hjm : j = m
        · subst hjm
          refine ⟨j - 1, by omega, ?_⟩
          rw [← e]
          by_cases e2 : zs.toArray[j]! = zs.toArray[j - 1]!
          · exact e2.symm
          · exact absurd (.inr e2) hk'
        · exact ⟨j, by omega, e⟩
/-- A text put where it belongs. -/
def ins (x : List UInt8) : List (List UInt8) → List (List UInt8)
  | [] => [x]
  | y :: r => if y < x then y :: ins x r else if y = x then y :: r else x :: y :: r
theorem ins_mem (x : List UInt8) : ∀ (o : List (List UInt8)) (z : List UInt8), z ∈ ins x o ↔ z = x ∨ z ∈ o
  | [], z => by simp [ins]
  | y :: r, z => by
    have ih := ins_mem x r z
    unfold ins
    by_cases h : y < x
    · rw [if_pos h, List.mem_cons, ih, List.mem_cons]
      constructor
      · rintro (h | h | h)
        · exact .inr (.inl h)
        · exact .inl h
        · exact .inr (.inr h)
      · rintro (h | h | h)
        · exact .inr (.inl h)
        · exact .inl h
        · exact .inr (.inr h)
    · rw [if_neg h]
      by_cases e : y = x
      · rw [if_pos e, ← e, List.mem_cons]
        constructor
        · exact .inr
        · rintro (h | h)
          · exact .inl h
          · exact h
      · rw [if_neg e, List.mem_cons]
theorem ins_strict (x : List UInt8) : ∀ o : List (List UInt8), o.Pairwise (· < ·) → (ins x o).Pairwise (· < ·)
  | [], _ => by simp [ins]
  | y :: r, h => by
    obtain ⟨h1, h2⟩ := List.pairwise_cons.1 h
    unfold ins
    by_cases hl : y < x
    · rw [if_pos hl]
      refine List.pairwise_cons.2 ⟨fun z hz => ?_, ins_strict x r h2⟩
      rcases (ins_mem x r z).1 hz with rfl | hz
      · exact hl
      · exact h1 z hz
    · rw [if_neg hl]
      by_cases e : y = x
      · rw [if_pos e]; exact h
      · rw [if_neg e]
        have hxy : x < y := str_lt_of hl (Ne.symm e)
        refine List.pairwise_cons.2 ⟨fun z hz => ?_, h⟩
        rcases List.mem_cons.1 hz with rfl | hz
        · exact hxy
        · exact str_trans hxy (h1 z hz)
theorem ins_app (x : List UInt8) : ∀ p q : List (List UInt8), (∀ z ∈ p, z < x) → ins x (p ++ q) = p ++ ins x q
  | [], _, _ => rfl
  | y :: p, q, h => by
    rw [List.cons_append, ins, if_pos (h y List.mem_cons_self), ins_app x p q fun z hz => h z (List.mem_cons_of_mem _ hz)]
    rfl
theorem ins_len (x : List UInt8) (o : List (List UInt8)) : (ins x o).length ≤ o.length + 1 := by
  induction o with
  | nil => simp [ins]
  | cons y r ih =>
    unfold ins
    by_cases h : y < x
    · rw [if_pos h]; simp only [List.length_cons]; omega
    · rw [if_neg h]
      by_cases e : y = x
      · rw [if_pos e]; simp only [List.length_cons]; omega
      · rw [if_neg e]; simp only [List.length_cons]; omega
def insAll : List (List UInt8) → List (List UInt8) → List (List UInt8)
  | o, [] => o
  | o, x :: r => insAll (ins x o) r
theorem insAll_spec : ∀ (l o : List (List UInt8)), o.Pairwise (· < ·) → (insAll o l).Pairwise (· < ·) ∧ ∀ z, z ∈ insAll o l ↔ z ∈ o ∨ z ∈ l
  | [], o, h => ⟨h, fun z => by simp [insAll]⟩
  | x :: r, o, h => by
    obtain ⟨h1, h2⟩ := insAll_spec r (ins x o) (ins_strict x o h)
    refine ⟨h1, fun z => (h2 z).trans ?_⟩
    rw [ins_mem, List.mem_cons]
    constructor
    · rintro ((h | h) | h)
      · exact .inr (.inl h)
      · exact .inl h
      · exact .inr (.inr h)
    · rintro (h | h | h)
      · exact .inl (.inr h)
      · exact .inl (.inl h)
      · exact .inr h
/-- Sorted by bytes, each once: what stands in it. -/
theorem sorted_spec (l : List (List UInt8)) : (Lib.compact (l.mergeSort fun x y => decide (x ≤ y))).Pairwise (· < ·) ∧ ∀ x, x ∈ Lib.compact (l.mergeSort fun x y => decide (x ≤ y)) ↔ x ∈ l := by
  have tr : ∀ a b c : List UInt8, decide (a ≤ b) = true → decide (b ≤ c) = true → decide (a ≤ c) = true := fun a b c h1 h2 => by simp only [decide_eq_true_eq] at *; exact List.le_trans h1 h2
  have tt : ∀ a b : List UInt8, (decide (a ≤ b) || decide (b ≤ a)) = true := fun a b => by simp only [Bool.or_eq_true, decide_eq_true_eq]; exact List.le_total a b
  have hs : (l.mergeSort fun x y => decide (x ≤ y)).Pairwise (· ≤ ·) := (List.pairwise_mergeSort tr tt l).imp fun h => of_decide_eq_true h
  have hm : ∀ x, x ∈ (l.mergeSort fun x y => decide (x ≤ y)) ↔ x ∈ l := fun x => (List.mergeSort_perm l _).mem_iff
  generalize (l.mergeSort fun x y => decide (x ≤ y)) = m at hs hm
  obtain ⟨h1, h2⟩ := compact_upto m hs m.length (Nat.le_refl _)
  refine ⟨h1, fun x => (h2 x).trans ?_⟩
  rw [← hm, List.mem_iff_getElem]
  constructor
  · rintro ⟨j, hj, e⟩
    exact ⟨j, hj, by rw [← get_bang _ _ hj]; exact e⟩
  · rintro ⟨j, hj, e⟩
    exact ⟨j, hj, by rw [get_bang _ _ hj]; exact e⟩
theorem rd_nat (l : List ByteArray) (i : Nat) (h : i < l.length) : rdOf ByteArray.empty l (i : Int) = l[i] := by
  rw [rdOf, Int.toNat_natCast, List.getD_eq_getElem?_getD, List.getElem?_eq_getElem h, Option.getD_some]
theorem rd_mk (l : List (List UInt8)) (i : Nat) (h : i < l.length) : rdOf ByteArray.empty (l.map mk) (i : Int) = mk l[i] := by
  rw [rd_nat _ _ (by rw [List.length_map]; exact h), List.getElem_map]
theorem same_loop (l m : List ByteArray) (hlen : l.length = m.length) (hs : l.length ≤ 9000000) : ∀ n i : Nat, i + n = l.length → Ev (fun k => bindleref15_Same.l0 k l m i) (decide (l.drop i = m.drop i))
  | 0, i, hi => by
    refine Ev.step (fun k => rfl) ?_
    rw [List.drop_of_length_le (by omega), List.drop_of_length_le (by omega)]
    exact ev_neg (by omega) (Ev.now _)
  | n + 1, i, hi => by
    refine Ev.step (fun k => rfl) ?_
    refine ev_pos (by omega) (ev_pos (by omega) (ev_pos (by omega) ?_))
    have dl : l.drop i = l[i] :: l.drop (i + 1) := List.drop_eq_getElem_cons (by omega)
    have dm : m.drop i = m[i] :: m.drop (i + 1) := List.drop_eq_getElem_cons (by omega)
    rw [rd_nat l i (by omega), rd_nat m i (by omega), dl, dm]
    have hw : wrap64 ((i : Int) + 1) = ((i + 1 : Nat) : Int) := by rw [w64 (by omega) (by omega)]; omega
    rw [hw]
    by_cases h : l[i].toList = m[i].toList
    · have ih := same_loop l m hlen hs n (i + 1) (by omega)
      rw [toList_inj h]
      rw [show decide (m[i] :: l.drop (i + 1) = m[i] :: m.drop (i + 1)) = decide (l.drop (i + 1) = m.drop (i + 1)) from decide_eq_decide.2 ⟨fun e => (List.cons.inj e).2, fun e => by rw [e]⟩]
      exact ev_pos rfl ih
    · rw [decide_eq_false (fun e => h (by rw [(List.cons.inj e).1]))]
      exact ev_neg h (Ev.now _)
theorem same (l m : List ByteArray) (hs : l.length ≤ 9000000) : Ev (fun k => bindleref15_Same.f k l m) (decide (l = m)) := by
  by_cases h : (l.length : Int) = (m.length : Int)
  · have := same_loop l m (by omega) hs l.length 0 (by omega)
    rw [List.drop_zero, List.drop_zero] at this
    exact ev_pos h this
  · rw [decide_eq_false (fun e => h (by rw [e]))]
    exact ev_neg h (Ev.now _)
theorem toList_ls (a : ByteArray) : a.toList = ls a := ByteArray.toList_eq a
/-- A file's name. -/
abbrev nm (x : S33) : List UInt8 := ls x.f0
/-- Files that are a map. -/
def Asc (l : List S33) : Prop := (l.map nm).Pairwise (· < ·)
theorem rdF (l : List S33) (i : Nat) (h : i < l.length) : rd_T33 l (i : Int) = l[i] := by
  simp [rd_T33, h]
/-- What a map has for a name. -/
def look (l : List S33) (s : List UInt8) : Option S33 := l.find? fun y => nm y == s
theorem look_nm {l : List S33} {s : List UInt8} {y : S33} (h : look l s = some y) : nm y = s ∧ y ∈ l := ⟨by
  have := List.find?_some h
  simpa using this, List.mem_of_find?_eq_some h⟩
theorem look_none {l : List S33} {s : List UInt8} (h : ∀ y ∈ l, nm y ≠ s) : look l s = none := by
  unfold look
  rw [List.find?_eq_none]
  intro y hy
  simpa using h y hy
theorem wadd (i : Nat) (h : i ≤ 9000000000000000000) : wrap64 ((i : Int) + 1) = ((i + 1 : Nat) : Int) := by rw [w64 (by omega) (by omega)]; omega
theorem strOf_bytes (s : ByteArray) : strOfNums (bytesOf s) = s := by
  apply ls_inj
  unfold strOfNums bytesOf
  show (List.map (fun n : Int => UInt8.ofNat n.toNat) (List.map (fun b : UInt8 => (b.toNat : Int)) s.data.toList)) = s.data.toList
  rw [List.map_map]
  conv => rhs; rw [← List.map_id s.data.toList]
  exact List.map_congr_left fun b _ => by simp
theorem strOf_size (l : List Int) : (strOfNums l).size = l.length := by
  unfold strOfNums
  show (Array.size _) = _
  simp
/-- Same: of a list told anew. -/
def anew (y : S33) : S33 := ⟨y.f0, bytesOf (strOfNums y.f1)⟩
theorem find_loop (l : List S33) (s : ByteArray) (hs : l.length ≤ 9000000) : ∀ n i : Nat, i + n = l.length → ∃ r : Int, Ev (fun k => bindleref25_Find.l0 k l s i) r ∧ ((r = -1 ∧ look (l.drop i) (ls s) = none) ∨ ∃ (j : Nat) (h : j < l.length), r = (j : Int) ∧ look (l.drop i) (ls s) = some l[j])
  | 0, i, hi => by
    refine ⟨-1, Ev.step (fun k => rfl) (ev_neg (by omega) (Ev.now _)), .inl ⟨rfl, ?_⟩⟩
    rw [List.drop_of_length_le (by omega)]
    rfl
  | n + 1, i, hi => by
    have dl : l.drop i = l[i] :: l.drop (i + 1) := List.drop_eq_getElem_cons (by omega)
    by_cases h : nm l[i] = ls s
    · refine ⟨(i : Int), Ev.step (fun k => rfl) (ev_pos (by omega) (ev_pos (by omega) ?_)), .inr ⟨i, by omega, rfl, ?_⟩⟩
      · rw [rdF l i (by omega)]
        exact ev_pos (by rw [toList_ls, toList_ls]; exact h) (Ev.now _)
      · rw [dl]
        unfold look
        rw [List.find?_cons_of_pos (by simpa using h)]
    · obtain ⟨r, h1, h2⟩ := find_loop l s hs n (i + 1) (by omega)
      refine ⟨r, Ev.step (fun k => rfl) (ev_pos (by omega) (ev_pos (by omega) ?_)), ?_⟩
      · rw [rdF l i (by omega), wadd i (by omega)]
        exact ev_neg (by rw [toList_ls, toList_ls]; exact h) h1
      · have e : look (l.drop i) (ls s) = look (l.drop (i + 1)) (ls s) := by
          rw [dl]
          unfold look
          rw [List.find?_cons_of_neg (by simpa using h)]
        rw [e]
        exact h2
theorem find_ev (l : List S33) (s : ByteArray) (hs : l.length ≤ 9000000) : ∃ r : Int, Ev (fun k => bindleref25_Find.f k l s) r ∧ ((r = -1 ∧ look l (ls s) = none) ∨ ∃ (j : Nat) (h : j < l.length), r = (j : Int) ∧ look l (ls s) = some l[j]) := by
  have := find_loop l s hs l.length 0 (by omega)
  rwa [List.drop_zero] at this
/-- Do two maps have the same? -/
def likeO : Option S33 → Option S33 → Bool
  | none, none => true
  | some x, some y => (strOfNums x.f1).toList == (strOfNums y.f1).toList
  | _, _ => false
theorem like_ev (a b : List S33) (s : ByteArray) (ha : a.length ≤ 9000000) (hb : b.length ≤ 9000000) : Ev (fun k => bindleref38_Like.f k a b s) (likeO (look a (ls s)) (look b (ls s))) := by
  obtain ⟨r, h1, h2⟩ := find_ev a s ha
  obtain ⟨q, h3, h4⟩ := find_ev b s hb
  refine Ev.congr (fun k => rfl) (ev_bind h1 (ev_bind h3 ?_))
  rcases h2 with ⟨rfl, e1⟩ | ⟨i, hi, rfl, e1⟩
  · rcases h4 with ⟨rfl, e2⟩ | ⟨j, hj, rfl, e2⟩
    · rw [e1, e2]
      exact ev_pos (by omega) (Ev.now _)
    · rw [e1, e2]
      refine ev_pos (by omega) ?_
      have : decide ((j : Int) < 0) = false := decide_eq_false (by omega)
      rw [this]
      exact Ev.now _
  · rcases h4 with ⟨rfl, e2⟩ | ⟨j, hj, rfl, e2⟩
    · rw [e1, e2]
      exact ev_neg (by omega) (ev_pos (by omega) (Ev.now _))
    · rw [e1, e2]
      refine ev_neg (by omega) (ev_neg (by omega) (ev_pos (by omega) (ev_pos (by omega) (ev_pos (by omega) (ev_pos (by omega) ?_)))))
      rw [rdF a i hi, rdF b j hj]
      exact Ev.now _
/-- A name's value. -/
def valO : Option S33 → Bool × ByteArray
  | none => (false, strOfNums [])
  | some y => (true, strOfNums y.f1)
theorem val_like (o p : Option S33) : ((valO o).1 == (valO p).1 && ((valO o).2.toList == (valO p).2.toList)) = likeO o p := by
  cases o <;> cases p <;> simp [valO, likeO]
theorem place_look (s : ByteArray) : ∀ l : List S33, Asc l → look l (ls s) = match l[model_place.less l s]? with | some y => if (y.f0.data.toList == s.data.toList) = true then some y else none | none => none
  | [], _ => rfl
  | y :: r, h => by
    obtain ⟨h1, h2⟩ := List.pairwise_cons.1 (show (nm y :: r.map nm).Pairwise (· < ·) from h)
    have ih := place_look s r h2
    by_cases hl : nm y < ls s
    · have e1 : model_place.less (y :: r) s = model_place.less r s + 1 := by unfold model_place.less; rw [List.countP_cons_of_pos (by simpa using hl)]
      rw [e1, List.getElem?_cons_succ, ← ih]
      unfold look
      rw [List.find?_cons_of_neg (by simpa using fun e : nm y = ls s => str_irrefl _ (by rw [e] at hl; exact hl))]
    · have e0 : model_place.less r s = 0 := by
        unfold model_place.less
        rw [List.countP_eq_zero]
        intro z hz
        have := h1 (nm z) (List.mem_map_of_mem hz)
        simp only [decide_eq_true_eq]
        exact fun hzs => hl (str_trans this hzs)
      have e1 : model_place.less (y :: r) s = 0 := by
        unfold model_place.less at e0 ⊢
        rw [List.countP_cons_of_neg (by simpa using hl)]
        exact e0
      rw [e1, List.getElem?_cons_zero]
      dsimp only
      by_cases e : nm y = ls s
      · have e2 : (y.f0.data.toList == s.data.toList) = true := by simpa using e
        rw [if_pos e2]
        unfold look
        rw [List.find?_cons_of_pos (by simpa using e)]
      · have e2 : ¬ (y.f0.data.toList == s.data.toList) = true := by simpa using e
        rw [if_neg e2]
        refine look_none fun z hz => ?_
        rcases List.mem_cons.1 hz with rfl | hz
        · exact e
        · intro ez
          have := h1 (nm z) (List.mem_map_of_mem hz)
          rw [ez] at this
          exact hl this
theorem of_eq (l : List S33) (s : ByteArray) (h : Asc l) (hl : l.length ≤ 1000000) (hd : ∀ y ∈ l, y.f1.length ≤ 140737488351232) : plan_of.f l s = some (valO (look l (ls s))) := by
  have hp : (l.map (·.f0.data.toList)).Pairwise (· ≤ ·) := h.imp fun hx => str_lt_le hx
  have e1 : model_place.f l s = some (((model_place.less l s : Nat) : Int), match l[model_place.less l s]? with | some y => y.f0.data.toList == s.data.toList | none => false) := by
    unfold model_place.f
    rw [if_pos ⟨hl, hp⟩]
    rfl
  unfold plan_of.f model_Find.f
  rw [e1, place_look s l h, Option.bind_some]
  cases hy : l[model_place.less l s]? with
  | none => rfl
  | some y =>
    obtain ⟨hj, hy2⟩ := List.getElem?_eq_some_iff.1 hy
    dsimp only
    by_cases e : (y.f0.data.toList == s.data.toList) = true
    · rw [if_pos e, if_pos e, if_pos (by omega), if_pos (by omega), rdF l _ hj, hy2]
      have hm : y ∈ l := by rw [← hy2]; exact List.getElem_mem hj
      have e3 : slices_Clone_byte_byte.f y.f1 = some y.f1 := by
        unfold slices_Clone_byte_byte.f
        rw [if_pos (by have := hd y hm; omega)]
      rw [e3]
      rfl
    · rw [if_neg e, if_neg e]
      rfl
theorem names_eq (ls3 : List (List S33)) (h : (plan_names.all_ ls3).length ≤ 1000000) : ∃ N : List (List UInt8), plan_names.f ls3 = some (N.map mk) ∧ N.Pairwise (· < ·) ∧ (∀ x, x ∈ N ↔ ∃ l ∈ ls3, x ∈ l.map nm) ∧ N.length ≤ (plan_names.all_ ls3).length := by
  obtain ⟨h1, h2⟩ := sorted_spec ((plan_names.all_ ls3).map ls)
  refine ⟨_, by unfold plan_names.f; rw [if_pos h]; rfl, h1, fun x => (h2 x).trans ?_, ?_⟩
  · unfold plan_names.all_
    simp only [List.mem_map, List.mem_flatMap]
    constructor
    · rintro ⟨b, ⟨l, hl, y, hy, rfl⟩, rfl⟩
      exact ⟨l, hl, y, hy, rfl⟩
    · rintro ⟨l, hl, y, hy, rfl⟩
      exact ⟨y.f0, ⟨l, hl, y, hy, rfl⟩, rfl⟩
  · have := Lib.compact_length_le (((plan_names.all_ ls3).map ls).mergeSort fun x y => decide (x ≤ y))
    rw [List.length_mergeSort, List.length_map] at this
    exact this
/-- Behind the name that was put. -/
theorem with_rest (l : List S33) (s : ByteArray) (hl : l.length ≤ 100000) (f0 : ByteArray) (f1 : List Int) : ∀ (n i : Nat) (out : List S33), i + n = l.length → out.length ≤ i + 1 → ∃ l', Ev (fun k => bindleref25_With.l0 k l s out true i f0 f1) l' ∧ l'.map nm = out.map nm ++ ((l.drop i).map nm).filter (fun x => !(x == ls s)) ∧ l'.length ≤ out.length + n
  | 0, i, out, hi, ho => by
    refine ⟨out, Ev.step (fun k => rfl) (ev_neg (by omega) (ev_pos rfl (Ev.now _))), ?_, by omega⟩
    rw [List.drop_of_length_le (by omega)]
    simp
  | n + 1, i, out, hi, ho => by
    have dl : l.drop i = l[i] :: l.drop (i + 1) := List.drop_eq_getElem_cons (by omega)
    by_cases h : nm l[i] = ls s
    · obtain ⟨l', h1, h2, h3⟩ := with_rest l s hl f0 f1 n (i + 1) out (by omega) (by omega)
      refine ⟨l', Ev.step (fun k => rfl) (ev_pos (by omega) (ev_pos rfl ?_)), ?_, by omega⟩
      · refine Ev.step (fun k => by unfold bindleref25_With.j1; exact rfl) ?_
        refine ev_neg (by decide) (ev_pos (by omega) (ev_pos (by omega) ?_))
        rw [rdF l i (by omega), wadd i (by omega)]
        exact ev_pos (by rw [toList_ls, toList_ls]; exact h) h1
      · rw [h2, dl, List.map_cons, List.filter_cons_of_neg (by simpa using h)]
    · obtain ⟨l', h1, h2, h3⟩ := with_rest l s hl f0 f1 n (i + 1) (out ++ [l[i]]) (by omega) (by rw [List.length_append]; simp; omega)
      refine ⟨l', Ev.step (fun k => rfl) (ev_pos (by omega) (ev_pos rfl ?_)), ?_, by rw [List.length_append] at h3; simp at h3; omega⟩
      · refine Ev.step (fun k => by unfold bindleref25_With.j1; exact rfl) ?_
        refine ev_neg (by decide) (ev_pos (by omega) (ev_pos (by omega) ?_))
        rw [rdF l i (by omega), wadd i (by omega)]
        exact ev_neg (by rw [toList_ls, toList_ls]; exact h) (ev_pos (by omega) h1)
      · rw [h2, dl, List.map_cons, List.filter_cons_of_pos (by simpa using h), List.map_append, List.append_assoc]
        rfl
theorem filter_above (s : List UInt8) (l : List (List UInt8)) (h : ∀ x ∈ l, s < x) : l.filter (fun x => !(x == s)) = l := by
  rw [List.filter_eq_self]
  intro x hx
  have := h x hx
  have hne : x ≠ s := fun e => str_irrefl s (by rw [e] at this; exact this)
  simpa using hne
theorem with_loop (l : List S33) (s : ByteArray) (hl : l.length ≤ 100000) (f1 : List Int) : ∀ (n i : Nat) (out : List S33), i + n = l.length → out.length ≤ i → ((l.drop i).map nm).Pairwise (· < ·) → ∃ l', Ev (fun k => bindleref25_With.l0 k l s out false i s f1) l' ∧ l'.map nm = out.map nm ++ ins (ls s) ((l.drop i).map nm) ∧ l'.length ≤ out.length + n + 1
  | 0, i, out, hi, ho, _ => by
    refine ⟨out ++ [⟨s, f1⟩], Ev.step (fun k => rfl) (ev_neg (by omega) (ev_neg (by decide) (ev_pos (by omega) (Ev.now _)))), ?_, by rw [List.length_append]; simp⟩
    rw [List.drop_of_length_le (by omega), List.map_append]
    rfl
  | n + 1, i, out, hi, ho, hp => by
    have dl : l.drop i = l[i] :: l.drop (i + 1) := List.drop_eq_getElem_cons (by omega)
    rw [dl, List.map_cons] at hp
    obtain ⟨p1, p2⟩ := List.pairwise_cons.1 hp
    by_cases hlt : nm l[i] < ls s
    · obtain ⟨l', h1, h2, h3⟩ := with_loop l s hl f1 n (i + 1) (out ++ [l[i]]) (by omega) (by rw [List.length_append]; simp; omega) p2
      have hb : (!(Op.bytesLess (l[i].f0.toList) s.toList)) = false := by rw [toList_ls, toList_ls, Go.Proofs.bytesLess_eq, decide_eq_true hlt]; rfl
      have hne : ¬ nm l[i] = ls s := fun e => str_irrefl _ (by rw [e] at hlt; exact hlt)
      refine ⟨l', Ev.step (fun k => rfl) (ev_pos (by omega) (ev_neg (by decide) (ev_pos (by omega) ?_))), ?_, by rw [List.length_append] at h3; simp at h3; omega⟩
      · rw [rdF l i (by omega), hb]
        refine Ev.step (fun k => by unfold bindleref25_With.j1; exact rfl) ?_
        refine ev_neg (by decide) (ev_pos (by omega) (ev_pos (by omega) ?_))
        rw [rdF l i (by omega), wadd i (by omega)]
        exact (ev_neg (by rw [toList_ls, toList_ls]; exact hne) (ev_pos (by omega) h1))
      · rw [h2, dl, List.map_cons, ins, if_pos hlt, List.map_append, List.append_assoc]
        rfl
    · have hb : (!(Op.bytesLess (l[i].f0.toList) s.toList)) = true := by rw [toList_ls, toList_ls, Go.Proofs.bytesLess_eq, decide_eq_false hlt]; rfl
      by_cases h : nm l[i] = ls s
      · obtain ⟨l', h1, h2, h3⟩ := with_rest l s hl s f1 n (i + 1) (out ++ [⟨s, f1⟩]) (by omega) (by rw [List.length_append]; simp; omega)
        refine ⟨l', Ev.step (fun k => rfl) (ev_pos (by omega) (ev_neg (by decide) (ev_pos (by omega) ?_))), ?_, by rw [List.length_append] at h3; simp at h3; omega⟩
        · rw [rdF l i (by omega), hb]
          refine Ev.step (fun k => by unfold bindleref25_With.j1; exact rfl) ?_
          refine ev_pos rfl (ev_pos (by omega) (ev_bindc rfl (ev_pos (by omega) (ev_pos (by omega) ?_))))
          rw [rdF l i (by omega), wadd i (by omega)]
          exact ev_pos (by rw [toList_ls, toList_ls]; exact h) h1
        · rw [h2, dl, List.map_cons, ins, if_neg hlt, if_pos h, List.map_append, List.append_assoc, filter_above _ _ (by rw [← h]; exact p1), h]
          rfl
      · have hgt : ls s < nm l[i] := str_lt_of hlt (Ne.symm h)
        obtain ⟨l', h1, h2, h3⟩ := with_rest l s hl s f1 n (i + 1) (out ++ [⟨s, f1⟩] ++ [l[i]]) (by omega) (by rw [List.length_append, List.length_append]; simp; omega)
        refine ⟨l', Ev.step (fun k => rfl) (ev_pos (by omega) (ev_neg (by decide) (ev_pos (by omega) ?_))), ?_, by rw [List.length_append, List.length_append] at h3; simp at h3; omega⟩
        · rw [rdF l i (by omega), hb]
          refine Ev.step (fun k => by unfold bindleref25_With.j1; exact rfl) ?_
          refine ev_pos rfl (ev_pos (by omega) (ev_bindc rfl (ev_pos (by omega) (ev_pos (by omega) ?_))))
          rw [rdF l i (by omega), wadd i (by omega)]
          exact ev_neg (by rw [toList_ls, toList_ls]; exact h) (ev_pos (by rw [List.length_append]; simp; omega) h1)
        · rw [h2, dl, List.map_cons, ins, if_neg hlt, if_neg h, List.map_append, List.map_append, List.append_assoc, List.append_assoc, filter_above _ _ (fun x hx => str_trans hgt (p1 x hx))]
          rfl
theorem with_ev (l : List S33) (s : ByteArray) (d : ByteArray) (hd : d.size ≤ 9223372036854775807) (hl : l.length ≤ 100000) (h : Asc l) : ∃ l', Ev (fun k => bindleref25_With.f k l s d) l' ∧ l'.map nm = ins (ls s) (l.map nm) ∧ l'.length ≤ l.length + 1 := by
  obtain ⟨l', h1, h2, h3⟩ := with_loop l s hl (bytesOf d) l.length 0 [] (by omega) (by simp) (by rw [List.drop_zero]; exact h)
  rw [List.drop_zero] at h2
  refine ⟨l', Ev.congr (fun k => rfl) (ev_pos hd h1), h2, by simpa using h3⟩
/-- What a name has, when three maps are put together. -/
def fromN (x0 x1 x2 : List S33) (s : List UInt8) : Option S33 :=
  if likeO (look x1 s) (look x2 s) = true then look x1 s else if likeO (look x0 s) (look x2 s) = true then look x1 s else if likeO (look x0 s) (look x1 s) = true then look x2 s else look x0 s
def clashN (x0 x1 x2 : List S33) (s : List UInt8) : Bool := !(likeO (look x1 s) (look x2 s)) && !(likeO (look x0 s) (look x2 s)) && !(likeO (look x0 s) (look x1 s))
theorem fromN_nm {x0 x1 x2 : List S33} {s : List UInt8} {y : S33} (h : fromN x0 x1 x2 s = some y) : nm y = s ∧ (y ∈ x0 ∨ y ∈ x1 ∨ y ∈ x2) := by
  unfold fromN at h
  split at h
  · exact ⟨(look_nm h).1, .inr (.inl (look_nm h).2)⟩
  · split at h
    · exact ⟨(look_nm h).1, .inr (.inl (look_nm h).2)⟩
    · split at h
      · exact ⟨(look_nm h).1, .inr (.inr (look_nm h).2)⟩
      · exact ⟨(look_nm h).1, .inl (look_nm h).2⟩
section
variable (x0 x1 x2 : List S33)
theorem asc_of {l : List S33} {N : List (List UInt8)} (h : l.map nm = N) (hN : N.Pairwise (· < ·)) : Asc l := by
  unfold Asc
  rw [h]
  exact hN
theorem ref_l0 (r : List S33 × List ByteArray) (h1 : x1.length ≤ 1000) : ∀ (n i : Nat) (x8 : List S33), i + n = x1.length → x8.length ≤ 1000 + i → Asc x8 →
    (∀ all : List S33, all.map nm = insAll (x8.map nm) ((x1.drop i).map nm) → Asc all → all.length ≤ 1000 + x1.length → Ev (fun k => bindleref38_Merge.l1 k x0 x1 x2 all 0) r) → Ev (fun k => bindleref38_Merge.l0 k x0 x1 x2 x8 i) r
  | 0, i, x8, hi, hl, ha, hc => by
    refine Ev.step (fun k => by unfold bindleref38_Merge.l0; exact rfl) ?_
    refine ev_neg (by omega) (hc x8 ?_ ha (by omega))
    rw [List.drop_of_length_le (by omega)]
    rfl
  | n + 1, i, x8, hi, hl, ha, hc => by
    have dl : x1.drop i = x1[i] :: x1.drop (i + 1) := List.drop_eq_getElem_cons (by omega)
    obtain ⟨l', e1, e2, e3⟩ := with_ev x8 x1[i].f0 (⟨#[]⟩ : ByteArray) (by decide) (by omega) ha
    refine Ev.step (fun k => by unfold bindleref38_Merge.l0; exact rfl) ?_
    refine ev_pos (by omega) (ev_pos (by omega) ?_)
    rw [rdF x1 i (by omega), wadd i (by omega)]
    refine ev_bind e1 (ref_l0 r h1 n (i + 1) l' (by omega) (by omega) (asc_of e2 (ins_strict _ _ ha)) fun all h2 h3 h4 => hc all ?_ h3 h4)
    rw [h2, e2, dl, List.map_cons, insAll]
theorem ref_l1 (r : List S33 × List ByteArray) (h2 : x2.length ≤ 1000) : ∀ (n i : Nat) (x8 : List S33), i + n = x2.length → x8.length ≤ 2000 + i → Asc x8 →
    (∀ all : List S33, all.map nm = insAll (x8.map nm) ((x2.drop i).map nm) → Asc all → all.length ≤ 2000 + x2.length → Ev (fun k => bindleref38_Merge.l2 k x0 x1 x2 all [] [] 0) r) → Ev (fun k => bindleref38_Merge.l1 k x0 x1 x2 x8 i) r
  | 0, i, x8, hi, hl, ha, hc => by
    refine Ev.step (fun k => by unfold bindleref38_Merge.l1; exact rfl) ?_
    refine ev_neg (by omega) (hc x8 ?_ ha (by omega))
    rw [List.drop_of_length_le (by omega)]
    rfl
  | n + 1, i, x8, hi, hl, ha, hc => by
    have dl : x2.drop i = x2[i] :: x2.drop (i + 1) := List.drop_eq_getElem_cons (by omega)
    obtain ⟨l', e1, e2, e3⟩ := with_ev x8 x2[i].f0 (⟨#[]⟩ : ByteArray) (by decide) (by omega) ha
    refine Ev.step (fun k => by unfold bindleref38_Merge.l1; exact rfl) ?_
    refine ev_pos (by omega) (ev_pos (by omega) ?_)
    rw [rdF x2 i (by omega), wadd i (by omega)]
    refine ev_bind e1 (ref_l1 r h2 n (i + 1) l' (by omega) (by omega) (asc_of e2 (ins_strict _ _ ha)) fun all h2 h3 h4 => hc all ?_ h3 h4)
    rw [h2, e2, dl, List.map_cons, insAll]
/-- One more, if it is there. -/
theorem put_found {α : Type} (x : List S33) (s : ByteArray) (hx : x.length ≤ 9000000) (out : List S33) (ho : out.length ≤ 1000000) (G : Nat → List S33 → Option α) (r : α) (h : Ev (fun k => G k (out ++ (look x (ls s)).toList)) r) :
    Ev (fun k => (bindleref25_Find.f k x s).bind fun t => if t ≥ 0 then (if 0 ≤ t then (if t < (x.length : Int) then (if out.length < 3518437208883 then G k (out ++ [(⟨(rd_T33 x t).f0, (rd_T33 x t).f1⟩ : S33)]) else none) else none) else none) else G k out) r := by
  obtain ⟨t, h1, h2⟩ := find_ev x s hx
  rcases h2 with ⟨rfl, e⟩ | ⟨j, hj, rfl, e⟩
  · refine ev_bind h1 (ev_neg (by omega) ?_)
    rw [e] at h
    simpa using h
  · refine ev_bind h1 (ev_pos (by omega) (ev_pos (by omega) (ev_pos (by omega) (ev_pos (by omega) ?_))))
    rw [rdF x j hj]
    rw [e] at h
    exact h
theorem ref_l2 (all : List S33) (h0 : x0.length ≤ 1000) (h1 : x1.length ≤ 1000) (h2 : x2.length ≤ 1000) (ha : all.length ≤ 5000) : ∀ (n i : Nat) (out : List S33) (cl : List ByteArray), i + n = all.length → out.length ≤ i → cl.length ≤ i →
    Ev (fun k => bindleref38_Merge.l2 k x0 x1 x2 all out cl i) (out ++ ((all.drop i).map nm).filterMap (fromN x0 x1 x2), cl ++ (((all.drop i).map nm).filter (clashN x0 x1 x2)).map mk)
  | 0, i, out, cl, hi, ho, hc => by
    refine Ev.step (fun k => by unfold bindleref38_Merge.l2; exact rfl) (ev_neg (by omega) ?_)
    rw [List.drop_of_length_le (by omega)]
    simpa using Ev.now (out, cl)
  | n + 1, i, out, cl, hi, ho, hc => by
    have dl : all.drop i = all[i] :: all.drop (i + 1) := List.drop_eq_getElem_cons (by omega)
    have hlen : ∀ o : Option S33, (out ++ o.toList).length ≤ i + 1 := fun o => by
      rw [List.length_append]
      cases o <;> simp <;> omega
    have hfm : ∀ o : Option S33, fromN x0 x1 x2 (nm all[i]) = o → (out ++ ((all.drop i).map nm).filterMap (fromN x0 x1 x2)) = (out ++ o.toList) ++ ((all.drop (i + 1)).map nm).filterMap (fromN x0 x1 x2) := fun o ho => by
      rw [dl, List.map_cons, List.append_assoc]
      congr 1
      cases o with
      | none => rw [List.filterMap_cons_none ho]; rfl
      | some y => rw [List.filterMap_cons_some ho]; rfl
    refine Ev.step (fun k => by unfold bindleref38_Merge.l2; exact rfl) (ev_pos (by omega) (ev_pos (by omega) ?_))
    rw [rdF all i (by omega)]
    by_cases c12 : likeO (look x1 (nm all[i])) (look x2 (nm all[i])) = true
    · have hcl : clashN x0 x1 x2 (nm all[i]) = false := by unfold clashN; rw [c12]; rfl
      have hfr : fromN x0 x1 x2 (nm all[i]) = look x1 (nm all[i]) := by unfold fromN; rw [if_pos c12]
      refine ev_bind (like_ev x1 x2 all[i].f0 (by omega) (by omega)) (ev_pos c12 ?_)
      refine Ev.step (fun k => by unfold bindleref38_Merge.j3; exact rfl) (ev_pos rfl ?_)
      refine put_found x1 all[i].f0 (by omega) out (by omega) (fun k o => bindleref38_Merge.l2 k x0 x1 x2 all o cl (wrap64 ((i : Int) + 1))) _ ?_
      rw [wadd i (by omega), hfm _ hfr, dl, List.map_cons, List.filter_cons_of_neg (by rw [hcl]; decide)]
      exact ref_l2 all h0 h1 h2 ha n (i + 1) _ cl (by omega) (hlen _) (by omega)
    · have c12' : likeO (look x1 (nm all[i])) (look x2 (nm all[i])) = false := by simpa using c12
      refine ev_bind (like_ev x1 x2 all[i].f0 (by omega) (by omega)) (ev_neg (by rw [c12']; decide) ?_)
      refine ev_bind (like_ev x0 x2 all[i].f0 (by omega) (by omega)) ?_
      by_cases c02 : likeO (look x0 (nm all[i])) (look x2 (nm all[i])) = true
      · have hcl : clashN x0 x1 x2 (nm all[i]) = false := by unfold clashN; rw [c12', c02]; rfl
        have hfr : fromN x0 x1 x2 (nm all[i]) = look x1 (nm all[i]) := by unfold fromN; rw [if_neg c12, if_pos c02]
        rw [c02]
        refine Ev.step (fun k => by unfold bindleref38_Merge.j3; exact rfl) (ev_pos rfl ?_)
        refine put_found x1 all[i].f0 (by omega) out (by omega) (fun k o => bindleref38_Merge.l2 k x0 x1 x2 all o cl (wrap64 ((i : Int) + 1))) _ ?_
        rw [wadd i (by omega), hfm _ hfr, dl, List.map_cons, List.filter_cons_of_neg (by rw [hcl]; decide)]
        exact ref_l2 all h0 h1 h2 ha n (i + 1) _ cl (by omega) (hlen _) (by omega)
      · have c02' : likeO (look x0 (nm all[i])) (look x2 (nm all[i])) = false := by simpa using c02
        rw [c02']
        refine Ev.step (fun k => by unfold bindleref38_Merge.j3; exact rfl) (ev_neg (by decide) ?_)
        by_cases c01 : likeO (look x0 (nm all[i])) (look x1 (nm all[i])) = true
        · have hcl : clashN x0 x1 x2 (nm all[i]) = false := by unfold clashN; rw [c12', c02', c01]; rfl
          have hfr : fromN x0 x1 x2 (nm all[i]) = look x2 (nm all[i]) := by unfold fromN; rw [if_neg c12, if_neg c02, if_pos c01]
          refine ev_bind (like_ev x0 x1 all[i].f0 (by omega) (by omega)) (ev_pos c01 ?_)
          refine put_found x2 all[i].f0 (by omega) out (by omega) (fun k o => bindleref38_Merge.l2 k x0 x1 x2 all o cl (wrap64 ((i : Int) + 1))) _ ?_
          rw [wadd i (by omega), hfm _ hfr, dl, List.map_cons, List.filter_cons_of_neg (by rw [hcl]; decide)]
          exact ref_l2 all h0 h1 h2 ha n (i + 1) _ cl (by omega) (hlen _) (by omega)
        · have c01' : likeO (look x0 (nm all[i])) (look x1 (nm all[i])) = false := by simpa using c01
          have hcl : clashN x0 x1 x2 (nm all[i]) = true := by unfold clashN; rw [c12', c02', c01']; rfl
          have hfr : fromN x0 x1 x2 (nm all[i]) = look x0 (nm all[i]) := by unfold fromN; rw [if_neg c12, if_neg c02, if_neg c01]
          refine ev_bind (like_ev x0 x1 all[i].f0 (by omega) (by omega)) (ev_neg (by rw [c01']; decide) (ev_pos (by omega) (ev_bindc rfl ?_)))
          refine put_found x0 all[i].f0 (by omega) out (by omega) (fun k o => bindleref38_Merge.l2 k x0 x1 x2 all o (cl ++ [all[i].f0]) (wrap64 ((i : Int) + 1))) _ ?_
          rw [wadd i (by omega), hfm _ hfr, dl, List.map_cons, List.filter_cons_of_pos (by rw [hcl]), List.map_cons]
          have := ref_l2 all h0 h1 h2 ha n (i + 1) (out ++ (look x0 (nm all[i])).toList) (cl ++ [all[i].f0]) (by omega) (hlen _) (by rw [List.length_append]; simp; omega)
          rw [List.append_assoc cl] at this
          exact this
/-- What the document puts together. -/
theorem ref_merge (h0 : x0.length ≤ 1000) (h1 : x1.length ≤ 1000) (h2 : x2.length ≤ 1000) (ha : Asc x0) : ∃ N : List (List UInt8), N.Pairwise (· < ·) ∧ (∀ x, x ∈ N ↔ x ∈ x0.map nm ∨ x ∈ x1.map nm ∨ x ∈ x2.map nm) ∧ N.length ≤ 5000 ∧
    Ev (fun k => bindleref38_Merge.f k x0 x1 x2) (N.filterMap (fromN x0 x1 x2), (N.filter (clashN x0 x1 x2)).map mk) := by
  have hs1 := insAll_spec (x1.map nm) (x0.map nm) ha
  have hs2 := insAll_spec (x2.map nm) (insAll (x0.map nm) (x1.map nm)) hs1.1
  refine ⟨insAll (insAll (x0.map nm) (x1.map nm)) (x2.map nm), hs2.1, fun x => ?_, ?_, ?_⟩
  · rw [hs2.2, hs1.2, or_assoc]
  · have : ∀ (l o : List (List UInt8)), (insAll o l).length ≤ o.length + l.length := by
      intro l
      induction l with
      | nil => intro o; simp [insAll]
      | cons x r ih =>
        intro o
        have := ih (ins x o)
        have := ins_len x o
        simp only [insAll, List.length_cons]
        omega
    have e1 := this (x2.map nm) (insAll (x0.map nm) (x1.map nm))
    have e2 := this (x1.map nm) (x0.map nm)
    simp only [List.length_map] at e1 e2
    omega
  · refine Ev.congr (fun k => rfl) (ref_l0 x0 x1 x2 _ h1 x1.length 0 x0 (by omega) (by omega) ha fun all e1 e2 e3 => ?_)
    refine ref_l1 x0 x1 x2 _ h2 x2.length 0 all (by omega) (by omega) e2 fun all2 e4 e5 e6 => ?_
    rw [List.drop_zero] at e1 e4
    have := ref_l2 x0 x1 x2 all2 h0 h1 h2 (by omega) all2.length 0 [] [] (by omega) (by simp) (by simp)
    rw [List.drop_zero, e4, e1, List.nil_append, List.nil_append] at this
    exact this
end
section
variable (x0 x1 x2 : List S33)
/-- Files whose data is that of texts. -/
def okF (l : List S33) : Prop := ∀ y ∈ l, y.f1.length ≤ 140737488351232
theorem choose_ev (o p q : Option S33) : Ev (fun k => plan_choose.f k (valO o).1 (valO o).2 (valO p).1 (valO p).2 (valO q).1 (valO q).2)
    (let z := if likeO p q = true then p else if likeO o q = true then p else if likeO o p = true then q else o; ((valO z).1, (valO z).2, !(!(likeO p q) && !(likeO o q) && !(likeO o p)))) := by
  have e1 := val_like p q
  have e2 := val_like o q
  have e3 := val_like o p
  refine Ev.congr (fun k => by unfold plan_choose.f; exact rfl) ?_
  rw [e1]
  by_cases c12 : likeO p q = true
  · refine ev_pos c12 (Ev.step (fun k => by unfold plan_choose.j0; exact rfl) (ev_pos rfl ?_))
    simp only [c12, if_true]
    exact Ev.now _
  · have c12' : likeO p q = false := by simpa using c12
    refine ev_neg (by rw [c12']; decide) ?_
    rw [e2]
    by_cases c02 : likeO o q = true
    · rw [c02]
      refine Ev.step (fun k => by unfold plan_choose.j0; exact rfl) (ev_pos rfl ?_)
      simp only [c12', if_true]
      exact Ev.now _
    · have c02' : likeO o q = false := by simpa using c02
      rw [c02']
      refine Ev.step (fun k => by unfold plan_choose.j0; exact rfl) (ev_neg (by decide) ?_)
      rw [e3]
      by_cases c01 : likeO o p = true
      · refine ev_pos c01 ?_
        simp only [c12', c01, if_true]
        exact Ev.now _
      · have c01' : likeO o p = false := by simpa using c01
        refine ev_neg (by rw [c01']; decide) ?_
        simp only [c12', c01']
        exact Ev.now _
def planN (s : List UInt8) : Option S33 := (fromN x0 x1 x2 s).map fun y => ⟨mk s, bytesOf (strOfNums y.f1)⟩
theorem plan_l0 (N : List (List UInt8)) (hN : N.length ≤ 5000) (h0 : x0.length ≤ 1000) (h1 : x1.length ≤ 1000) (h2 : x2.length ≤ 1000) (a0 : Asc x0) (a1 : Asc x1) (a2 : Asc x2) (d0 : okF x0) (d1 : okF x1) (d2 : okF x2) : ∀ (n i : Nat) (out : List S33) (cl : List ByteArray), i + n = N.length → out.length ≤ i → cl.length ≤ i →
    Ev (fun k => plan_Merge.l0 k x0 x1 x2 out cl (N.map mk) ((N.map mk).length : Int) i) (out ++ (N.drop i).filterMap (planN x0 x1 x2), cl ++ ((N.drop i).filter (clashN x0 x1 x2)).map mk)
  | 0, i, out, cl, hi, ho, hc => by
    refine Ev.step (fun k => by unfold plan_Merge.l0; exact rfl) (ev_neg (by rw [List.length_map]; omega) ?_)
    rw [List.drop_of_length_le (by omega)]
    simpa using Ev.now (out, cl)
  | n + 1, i, out, cl, hi, ho, hc => by
    have dl : N.drop i = N[i] :: N.drop (i + 1) := List.drop_eq_getElem_cons (by omega)
    refine Ev.step (fun k => by unfold plan_Merge.l0; exact rfl) (ev_pos (by rw [List.length_map]; omega) (ev_pos (by omega) (ev_pos (by rw [List.length_map]; omega) ?_)))
    rw [rd_mk N i (by omega)]
    generalize hs : N[i] = s at dl
    have q0 := of_eq x0 (mk s) a0 (by omega) d0
    have q1 := of_eq x1 (mk s) a1 (by omega) d1
    have q2 := of_eq x2 (mk s) a2 (by omega) d2
    refine ev_bindc q0 (ev_bindc q1 (ev_bindc q2 (ev_bind (choose_ev (look x0 s) (look x1 s) (look x2 s)) ?_)))
    have hz : (if likeO (look x1 s) (look x2 s) = true then look x1 s else if likeO (look x0 s) (look x2 s) = true then look x1 s else if likeO (look x0 s) (look x1 s) = true then look x2 s else look x0 s) = fromN x0 x1 x2 s := rfl
    dsimp only
    rw [hz]
    have hw : wrap64 ((i : Int) + 1) = ((i + 1 : Nat) : Int) := wadd i (by omega)
    rw [hw]
    have ih := plan_l0 N hN h0 h1 h2 a0 a1 a2 d0 d1 d2 n (i + 1)
    have hfm : ∀ o : Option S33, planN x0 x1 x2 s = o → (out ++ (N.drop i).filterMap (planN x0 x1 x2)) = (out ++ o.toList) ++ (N.drop (i + 1)).filterMap (planN x0 x1 x2) := fun o ho => by
      rw [dl, List.append_assoc]
      congr 1
      cases o with
      | none => rw [List.filterMap_cons_none ho]; rfl
      | some y => rw [List.filterMap_cons_some ho]; rfl
    have hval : ∀ y, fromN x0 x1 x2 s = some y → (strOfNums y.f1).size ≤ 9223372036854775807 := fun y hy => by
      rw [strOf_size]
      rcases (fromN_nm hy).2 with h | h | h
      · have := d0 y h; omega
      · have := d1 y h; omega
      · have := d2 y h; omega
    by_cases hcl : clashN x0 x1 x2 s = true
    · have hb : (!(!(likeO (look x1 s) (look x2 s)) && !(likeO (look x0 s) (look x2 s)) && !(likeO (look x0 s) (look x1 s)))) = false := by
        rw [show (!(likeO (look x1 s) (look x2 s)) && !(likeO (look x0 s) (look x2 s)) && !(likeO (look x0 s) (look x1 s))) = true from hcl]; rfl
      rw [hb]
      refine ev_neg (by decide) (ev_pos (by omega) (ev_bindc rfl ?_))
      have hcs : cl ++ ((N.drop i).filter (clashN x0 x1 x2)).map mk = (cl ++ [mk s]) ++ ((N.drop (i + 1)).filter (clashN x0 x1 x2)).map mk := by
        rw [dl, List.filter_cons_of_pos hcl, List.append_assoc]
        rfl
      rw [hcs]
      cases hy : fromN x0 x1 x2 s with
      | none =>
        rw [hfm none (by unfold planN; rw [hy]; rfl)]
        refine ev_neg (by decide) ?_
        have := ih (out ++ []) (cl ++ [mk s]) (by omega) (by simp; omega) (by rw [List.length_append]; simp; omega)
        simpa using this
      | some y =>
        rw [hfm (some ⟨mk s, bytesOf (strOfNums y.f1)⟩) (by unfold planN; rw [hy]; rfl)]
        refine ev_pos rfl (ev_pos (hval y hy) (ev_pos (by omega) ?_))
        exact ih _ _ (by omega) (by rw [List.length_append]; simp; omega) (by rw [List.length_append]; simp; omega)
    · have hcl' : clashN x0 x1 x2 s = false := by simpa using hcl
      have hb : (!(!(likeO (look x1 s) (look x2 s)) && !(likeO (look x0 s) (look x2 s)) && !(likeO (look x0 s) (look x1 s)))) = true := by
        rw [show (!(likeO (look x1 s) (look x2 s)) && !(likeO (look x0 s) (look x2 s)) && !(likeO (look x0 s) (look x1 s))) = false from hcl']; rfl
      rw [hb]
      refine ev_pos rfl ?_
      have hcs : cl ++ ((N.drop i).filter (clashN x0 x1 x2)).map mk = cl ++ ((N.drop (i + 1)).filter (clashN x0 x1 x2)).map mk := by
        rw [dl, List.filter_cons_of_neg hcl]
      rw [hcs]
      cases hy : fromN x0 x1 x2 s with
      | none =>
        rw [hfm none (by unfold planN; rw [hy]; rfl)]
        refine ev_neg (by decide) ?_
        have := ih (out ++ []) cl (by omega) (by simp; omega) (by omega)
        simpa using this
      | some y =>
        rw [hfm (some ⟨mk s, bytesOf (strOfNums y.f1)⟩) (by unfold planN; rw [hy]; rfl)]
        refine ev_pos rfl (ev_pos (hval y hy) (ev_pos (by omega) ?_))
        exact ih _ _ (by omega) (by rw [List.length_append]; simp; omega) (by omega)
theorem plan_merge (h0 : x0.length ≤ 1000) (h1 : x1.length ≤ 1000) (h2 : x2.length ≤ 1000) (a0 : Asc x0) (a1 : Asc x1) (a2 : Asc x2) (d0 : okF x0) (d1 : okF x1) (d2 : okF x2) : ∃ N : List (List UInt8), N.Pairwise (· < ·) ∧ (∀ x, x ∈ N ↔ x ∈ x0.map nm ∨ x ∈ x1.map nm ∨ x ∈ x2.map nm) ∧
    Ev (fun k => plan_Merge.f k x0 x1 x2) (N.filterMap (planN x0 x1 x2), (N.filter (clashN x0 x1 x2)).map mk) := by
  have hl : (plan_names.all_ [x0, x1, x2]).length = x0.length + (x1.length + x2.length) := by
    unfold plan_names.all_
    simp
  obtain ⟨N, e1, e2, e3, e4⟩ := names_eq [x0, x1, x2] (by omega)
  refine ⟨N, e2, fun x => (e3 x).trans (by simp), Ev.congr (fun k => rfl) (ev_bindc e1 ?_)⟩
  have := plan_l0 x0 x1 x2 N (by omega) h0 h1 h2 a0 a1 a2 d0 d1 d2 N.length 0 [] [] (by omega) (by simp) (by simp)
  rw [List.drop_zero, List.nil_append, List.nil_append] at this
  exact this
end
/-- Two lists of files, alike. -/
theorem same_files (l m : List S33) (hlen : l.length = m.length) (hs : l.length ≤ 9000000) (h : ∀ (j : Nat) (hj : j < l.length), nm l[j] = nm (m[j]'(by omega)) ∧ strOfNums l[j].f1 = strOfNums (m[j]'(by omega)).f1) : ∀ n i : Nat, i + n = l.length → Ev (fun k => bindleref25_Same.l0 k l m i) true
  | 0, i, hi => Ev.step (fun k => by unfold bindleref25_Same.l0; exact rfl) (ev_neg (by omega) (Ev.now _))
  | n + 1, i, hi => by
    obtain ⟨e1, e2⟩ := h i (by omega)
    refine Ev.step (fun k => by unfold bindleref25_Same.l0; exact rfl) (ev_pos (by omega) (ev_pos (by omega) (ev_pos (by omega) ?_)))
    rw [rdF l i (by omega), rdF m i (by omega), wadd i (by omega)]
    exact ev_pos (by rw [toList_ls, toList_ls]; exact e1) (ev_pos (by rw [e2]) (same_files l m hlen hs h n (i + 1) (by omega)))
theorem same_anew (l : List S33) (hs : l.length ≤ 9000000) : Ev (fun k => bindleref25_Same.f k (l.map anew) l) true := by
  have hl : (l.map anew).length = l.length := List.length_map _
  refine Ev.congr (fun k => rfl) (ev_pos (by rw [hl]) ?_)
  exact same_files (l.map anew) l hl (by omega) (fun j hj => by
    rw [List.getElem_map]
    exact ⟨rfl, strOf_bytes _⟩) (l.map anew).length 0 (by omega)
theorem planN_map (x0 x1 x2 : List S33) : ∀ N : List (List UInt8), N.filterMap (planN x0 x1 x2) = (N.filterMap (fromN x0 x1 x2)).map anew
  | [] => rfl
  | s :: r => by
    have ih := planN_map x0 x1 x2 r
    cases hy : fromN x0 x1 x2 s with
    | none => rw [List.filterMap_cons_none (by unfold planN; rw [hy]; rfl), List.filterMap_cons_none hy, ih]
    | some y =>
      have : planN x0 x1 x2 s = some (anew y) := by
        unfold planN anew
        rw [hy, ← (fromN_nm hy).1]
        rfl
      rw [List.filterMap_cons_some this, List.filterMap_cons_some hy, List.map_cons, ih]
theorem wide_loop (l : List S33) : ∀ n i : Nat, i + n = 300 → ∃ w : Bool, Ev (fun k => bindlelaw38_wide.l0 k l i) w ∧ (w = false → l.length ≤ 250)
  | 0, i, hi => by
    have hfin : ∃ w : Bool, Ev (fun k => bindlelaw38_wide.j1 k l i false) w ∧ (w = false → l.length ≤ 250) := by
      refine ⟨_, Ev.step (fun k => by unfold bindlelaw38_wide.j1; exact rfl) (ev_neg (by decide) (Ev.now _)), fun h => ?_⟩
      have := of_decide_eq_false h
      omega
    obtain ⟨w, h1, h2⟩ := hfin
    refine ⟨w, Ev.step (fun k => by unfold bindlelaw38_wide.l0; exact rfl) ?_, h2⟩
    by_cases hl : (i : Int) < (l.length : Int)
    · have hd : decide ((i : Int) < 300) = false := decide_eq_false (by omega)
      rw [hd]
      exact ev_pos hl h1
    · exact ev_neg hl h1
  | n + 1, i, hi => by
    by_cases hl : (i : Int) < (l.length : Int)
    · have hd : decide ((i : Int) < 300) = true := decide_eq_true (by omega)
      obtain ⟨w, h1, h2⟩ := wide_loop l n (i + 1) (by omega)
      by_cases c1 : (((rd_T33 l i).f0).size : Int) > 300
      · refine ⟨true, Ev.step (fun k => by unfold bindlelaw38_wide.l0; exact rfl) (ev_pos hl ?_), fun h => by cases h⟩
        rw [hd]
        exact Ev.step (fun k => by unfold bindlelaw38_wide.j1; exact rfl) (ev_pos rfl (ev_pos (by omega) (ev_pos hl (ev_pos c1 (Ev.now _)))))
      · by_cases c2 : (((rd_T33 l i).f1).length : Int) > 70000
        · refine ⟨true, Ev.step (fun k => by unfold bindlelaw38_wide.l0; exact rfl) (ev_pos hl ?_), fun h => by cases h⟩
          rw [hd]
          exact Ev.step (fun k => by unfold bindlelaw38_wide.j1; exact rfl) (ev_pos rfl (ev_pos (by omega) (ev_pos hl (ev_neg c1 (ev_pos c2 (Ev.now _))))))
        · refine ⟨w, Ev.step (fun k => by unfold bindlelaw38_wide.l0; exact rfl) (ev_pos hl ?_), h2⟩
          rw [hd]
          refine Ev.step (fun k => by unfold bindlelaw38_wide.j1; exact rfl) (ev_pos rfl (ev_pos (by omega) (ev_pos hl (ev_neg c1 (ev_neg c2 ?_)))))
          rw [wadd i (by omega)]
          exact h1
    · have hd : ∃ w : Bool, Ev (fun k => bindlelaw38_wide.j1 k l i false) w ∧ (w = false → l.length ≤ 250) := by
        refine ⟨_, Ev.step (fun k => by unfold bindlelaw38_wide.j1; exact rfl) (ev_neg (by decide) (Ev.now _)), fun h => ?_⟩
        have := of_decide_eq_false h
        omega
      obtain ⟨w, h1, h2⟩ := hd
      exact ⟨w, Ev.step (fun k => by unfold bindlelaw38_wide.l0; exact rfl) (ev_neg hl h1), h2⟩
theorem wide_ev (l : List S33) : ∃ w : Bool, Ev (fun k => bindlelaw38_wide.f k l) w ∧ (w = false → l.length ≤ 250) := wide_loop l 300 0 (by omega)
theorem map_loop (l : List S33) (hs : l.length ≤ 9000000) : ∀ n i : Nat, 1 ≤ i → i + n = l.length → ∃ m : Bool, Ev (fun k => bindleref25_Map.l0 k l i) m ∧ (m = true → ((l.drop (i - 1)).map nm).Pairwise (· < ·)) ∧ (m = false → ¬ ((l.drop (i - 1)).map nm).Pairwise (· < ·))
  | 0, i, h1, hi => by
    refine ⟨true, Ev.step (fun k => by unfold bindleref25_Map.l0; exact rfl) (ev_neg (by omega) (Ev.now _)), fun _ => ?_, fun h => by cases h⟩
    rw [List.drop_eq_getElem_cons (by omega), List.drop_of_length_le (by omega)]
    simp
  | n + 1, i, h1, hi => by
    have dl : l.drop (i - 1) = l[i - 1] :: l.drop i := by
      have := List.drop_eq_getElem_cons (l := l) (i := i - 1) (by omega)
      rwa [show i - 1 + 1 = i by omega] at this
    have dl2 : l.drop i = l[i] :: l.drop (i + 1) := List.drop_eq_getElem_cons (by omega)
    obtain ⟨m, e1, e2, e3⟩ := map_loop l hs n (i + 1) (by omega) (by omega)
    rw [show i + 1 - 1 = i by omega] at e2 e3
    have hw : wrap64 ((i : Int) - 1) = ((i - 1 : Nat) : Int) := by rw [w64 (by omega) (by omega)]; omega
    by_cases hlt : nm l[i - 1] < nm l[i]
    · refine ⟨m, Ev.step (fun k => by unfold bindleref25_Map.l0; exact rfl) (ev_pos (by omega) ?_), fun h => ?_, fun h hp => e3 h ?_⟩
      · rw [hw]
        refine ev_pos (by omega) (ev_pos (by omega) (ev_pos (by omega) ?_))
        rw [rdF l i (by omega), rdF l (i - 1) (by omega), wadd i (by omega)]
        exact ev_pos (by rw [toList_ls, toList_ls, Go.Proofs.bytesLess_eq]; exact decide_eq_true hlt) e1
      · have hp := e2 h
        rw [dl, List.map_cons]
        refine List.pairwise_cons.2 ⟨fun z hz => ?_, hp⟩
        rw [dl2, List.map_cons] at hz hp
        rcases List.mem_cons.1 hz with rfl | hz
        · exact hlt
        · exact str_trans hlt ((List.pairwise_cons.1 hp).1 z hz)
      · rw [dl, List.map_cons] at hp
        exact (List.pairwise_cons.1 hp).2
    · refine ⟨false, Ev.step (fun k => by unfold bindleref25_Map.l0; exact rfl) (ev_pos (by omega) ?_), (fun h => by cases h), fun _ hp => ?_⟩
      · rw [hw]
        refine ev_pos (by omega) (ev_pos (by omega) (ev_pos (by omega) ?_))
        rw [rdF l i (by omega), rdF l (i - 1) (by omega)]
        exact ev_neg (by rw [toList_ls, toList_ls, Go.Proofs.bytesLess_eq]; simpa using hlt) (Ev.now _)
      · rw [dl, List.map_cons] at hp
        exact hlt ((List.pairwise_cons.1 hp).1 _ (by rw [dl2, List.map_cons]; exact List.mem_cons_self))
theorem map_ev (l : List S33) (hs : l.length ≤ 9000000) : ∃ m : Bool, Ev (fun k => bindleref25_Map.f k l) m ∧ (m = true ↔ Asc l) := by
  cases l with
  | nil => exact ⟨true, Ev.congr (fun k => by unfold bindleref25_Map.f; exact rfl) (Ev.step (fun k => by unfold bindleref25_Map.l0; exact rfl) (ev_neg (by simp) (Ev.now _))), fun _ => List.Pairwise.nil, fun _ => rfl⟩
  | cons y r =>
    obtain ⟨m, e1, e2, e3⟩ := map_loop (y :: r) hs r.length 1 (by omega) (by simp; omega)
    refine ⟨m, e1, e2, fun h => ?_⟩
    cases hm : m with
    | true => rfl
    | false => exact absurd h (e3 hm)
/-- The chapter's example. -/
theorem lives_names : plan_names.f [[(⟨(⟨#[97]⟩ : ByteArray), ([] : List Int)⟩ : S33)], [(⟨(⟨#[98]⟩ : ByteArray), ([] : List Int)⟩ : S33)]] = some [(⟨#[97]⟩ : ByteArray), (⟨#[98]⟩ : ByteArray)] := by
  obtain ⟨N, e1, e2, e3, _⟩ := names_eq [[(⟨(⟨#[97]⟩ : ByteArray), ([] : List Int)⟩ : S33)], [(⟨(⟨#[98]⟩ : ByteArray), ([] : List Int)⟩ : S33)]] (by decide)
  have : N = [[97], [98]] := strict_ext e2 (by simp; decide) fun x => by
    rw [e3]
    simp [nm, ls, eq_comm]
  rw [e1, this]
  rfl
theorem lives_a (s : ByteArray) (c : UInt8) : plan_of.f [(⟨(⟨#[c]⟩ : ByteArray), ([] : List Int)⟩ : S33)] s = some (decide ([c] = ls s), strOfNums []) := by
  rw [of_eq _ s (by unfold Asc; simp) (by simp) (by simp)]
  unfold look
  rw [List.find?_cons]
  by_cases h : [c] = ls s
  · have e : (nm (⟨(⟨#[c]⟩ : ByteArray), ([] : List Int)⟩ : S33) == ls s) = true := by simpa [nm, ls] using h
    rw [e, decide_eq_true h]
    rfl
  · have e : (nm (⟨(⟨#[c]⟩ : ByteArray), ([] : List Int)⟩ : S33) == ls s) = false := by simpa [nm, ls] using h
    rw [e, decide_eq_false h]
    rfl
theorem lives_diff : plan_Diff.f [(⟨(⟨#[97]⟩ : ByteArray), ([] : List Int)⟩ : S33)] [(⟨(⟨#[98]⟩ : ByteArray), ([] : List Int)⟩ : S33)] = some [plan_Diff.op 11 (⟨#[97]⟩ : ByteArray) [], plan_Diff.op 3 (⟨#[98]⟩ : ByteArray) []] := by
  unfold plan_Diff.f
  rw [lives_names, Option.bind_some, if_pos (by decide)]
  simp only [plan_Diff.pick, plan_Diff.gone, plan_Diff.put, lives_a, Option.bind_some]
  rfl
theorem lives : bindlelaw38_lives.f = some true := by
  unfold bindlelaw38_lives.f
  rw [lives_diff, Option.bind_some]
  simp [rd_T40, plan_Diff.op, toList_ls, ls]
theorem data_ok {l : List S33} (h : ∀ e ∈ l, good33 e) : okF l := fun y hy => by
  have := (h y hy).2.2.1
  omega
theorem merges (x0 x1 x2 : List S33) (h0 : x0.length ≤ 250) (h1 : x1.length ≤ 250) (h2 : x2.length ≤ 250) (a0 : Asc x0) (a1 : Asc x1) (a2 : Asc x2) (d0 : okF x0) (d1 : okF x1) (d2 : okF x2) : Ev (fun k => bindlelaw38_PlanMerges.j0 k x0 x1 x2 false) true := by
  obtain ⟨N, e1, e2, e3⟩ := plan_merge x0 x1 x2 (by omega) (by omega) (by omega) a0 a1 a2 d0 d1 d2
  obtain ⟨M, f1, f2, f3, f4⟩ := ref_merge x0 x1 x2 (by omega) (by omega) (by omega) a0
  have hNM : N = M := strict_ext e1 f1 fun x => (e2 x).trans (f2 x).symm
  subst hNM
  have hlen : (N.filterMap (fromN x0 x1 x2)).length ≤ 5000 := Nat.le_trans (List.length_filterMap_le _ _) f3
  have hlen2 : ((N.filter (clashN x0 x1 x2)).map mk).length ≤ 5000 := by
    rw [List.length_map]
    exact Nat.le_trans (List.length_filter_le _ _) f3
  refine Ev.step (fun k => by unfold bindlelaw38_PlanMerges.j0; exact rfl) (ev_neg (by decide) (ev_bind e3 (ev_bind f4 ?_)))
  have s1 := same_anew (N.filterMap (fromN x0 x1 x2)) (by omega)
  rw [← planN_map] at s1
  have s2 := same ((N.filter (clashN x0 x1 x2)).map mk) ((N.filter (clashN x0 x1 x2)).map mk) (by omega)
  rw [decide_eq_true rfl] at s2
  exact ev_bind s1 (ev_pos rfl (ev_bind s2 (ev_pos rfl (ev_bindc lives (Ev.now _)))))
theorem alive (x0 x1 x2 : List S33) : Ev (fun k => bindlelaw38_PlanMerges.j0 k x0 x1 x2 true) true :=
  Ev.step (fun k => by unfold bindlelaw38_PlanMerges.j0; exact rfl) (ev_pos rfl (ev_bindc lives (Ev.now _)))
theorem PlanMerges : bindlelaw38_PlanMerges.Pure := by
  intro x0 x1 x2 g0 g1 g2
  refine Ev.rounds (g := fun k => bindlelaw38_PlanMerges.f k x0 x1 x2) ?_
  refine Ev.congr (fun k => by unfold bindlelaw38_PlanMerges.f; exact rfl) ?_
  obtain ⟨w0, q0, r0⟩ := wide_ev x0
  obtain ⟨w1, q1, r1⟩ := wide_ev x1
  obtain ⟨w2, q2, r2⟩ := wide_ev x2
  refine ev_bind q0 ?_
  cases w0 with
  | true => exact ev_pos rfl (alive x0 x1 x2)
  | false =>
    refine ev_neg (by decide) (ev_bind q1 ?_)
    cases w1 with
    | true => exact ev_pos rfl (alive x0 x1 x2)
    | false =>
      refine ev_neg (by decide) (ev_bind q2 ?_)
      cases w2 with
      | true => exact ev_pos rfl (alive x0 x1 x2)
      | false =>
        have b0 := r0 rfl
        have b1 := r1 rfl
        have b2 := r2 rfl
        obtain ⟨m0, p0, s0⟩ := map_ev x0 (by omega)
        obtain ⟨m1, p1, s1⟩ := map_ev x1 (by omega)
        obtain ⟨m2, p2, s2⟩ := map_ev x2 (by omega)
        refine ev_neg (by decide) (ev_bind p0 ?_)
        cases m0 with
        | false => exact ev_neg (by decide) (alive x0 x1 x2)
        | true =>
          refine ev_pos rfl (ev_bind p1 ?_)
          cases m1 with
          | false => exact ev_neg (by decide) (alive x0 x1 x2)
          | true =>
            refine ev_pos rfl (ev_bind p2 ?_)
            cases m2 with
            | false => exact alive x0 x1 x2
            | true => exact merges x0 x1 x2 b0 b1 b2 (s0.1 rfl) (s1.1 rfl) (s2.1 rfl) (data_ok g0.2.2) (data_ok g1.2.2) (data_ok g2.2.2)
end Go.Proofs.Ytcfcbkcaondfcaa.Pure
