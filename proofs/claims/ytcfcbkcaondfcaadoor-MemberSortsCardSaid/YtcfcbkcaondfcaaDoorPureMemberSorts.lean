/- Statement 15.2: texts sorted by bytes, each once, and where a text stands among them. -/
import Derived.Test.YtcfcbkcaondfcaaDoorPMemberSortsx4
import Derived.Sort.Walk0
import Derived.OpenShut
namespace Go.Proofs.YtcfcbkcaondfcaaDoor.Pure
open Go.RowKit Go.Proofs.YtcfcbkcaondfcaaDoor.PMemberSorts Go.Proofs.YtcfcbkcaondfcaaDoorW.PrintWords Go.Proofs.YtcfcbkcaondfcaaDoorW.PrintLast Go.Proofs.YtcfcbkcaondfcaaDoorW.PrintMore
theorem w64 {n : Int} (h : -9223372036854775808 ≤ n) (h' : n ≤ 9223372036854775807) : wrap64 n = n := by
  unfold wrap64
  omega
theorem w64_l (a b : Int) : wrap64 (wrap64 a + b) = wrap64 (a + b) := by
  unfold wrap64
  omega
theorem w64_r (a b : Int) : wrap64 (a + wrap64 b) = wrap64 (a + b) := by
  unfold wrap64
  omega
theorem i64_bounds {n : Int} (h : (Lit.int .i64 n).wf = true) : -9223372036854775808 ≤ n ∧ n ≤ 9223372036854775807 := Go.bounds_i64 h
theorem ev_const {α : Type} {o : Option α} {a : α} (h : o = some a) : Ev (fun _ => o) a := ⟨0, fun _ _ => h⟩
theorem ev_pos {α : Type} {c : Prop} [Decidable c] {g h : Nat → Option α} {r : α} (hc : c) (hg : Ev g r) : Ev (fun k => if c then g k else h k) r := by
  obtain ⟨K, hg⟩ := hg
  exact ⟨K, fun k hk => by simp only [if_pos hc]; exact hg k hk⟩
theorem ev_neg {α : Type} {c : Prop} [Decidable c] {g h : Nat → Option α} {r : α} (hc : ¬ c) (hg : Ev h r) : Ev (fun k => if c then g k else h k) r := by
  obtain ⟨K, hg⟩ := hg
  exact ⟨K, fun k hk => by simp only [if_neg hc]; exact hg k hk⟩
theorem ev_from {α : Type} {g : Nat → Option α} {r : α} (K : Nat) (h : ∀ k, K ≤ k → g k = some r) : Ev g r := ⟨K, h⟩
theorem ev_bind {α β : Type} {g : Nat → Option α} {f : Nat → α → Option β} {a : α} {r : β} (h : Ev g a) (k : Ev (fun n => f n a) r) : Ev (fun n => (g n).bind (f n)) r := h.bind k
theorem ev_bindc {α β : Type} {o : Option α} {f : Nat → α → Option β} {a : α} {r : β} (h : o = some a) (k : Ev (fun n => f n a) r) : Ev (fun n => o.bind (f n)) r := (ev_const h).bind k
theorem toList_inj {a b : ByteArray} (h : a.toList = b.toList) : a = b := by
  rw [ByteArray.toList_eq, ByteArray.toList_eq] at h
  exact Go.WideShapes.bytes_inj h
/-- A text's bytes as a list. -/
abbrev ls (a : ByteArray) : List UInt8 := a.data.toList
abbrev mk (l : List UInt8) : ByteArray := ⟨l.toArray⟩
theorem ls_len (a : ByteArray) : (ls a).length = a.size := Array.length_toList
theorem ls_mk (l : List UInt8) : ls (mk l) = l := rfl
theorem mk_ls (a : ByteArray) : mk (ls a) = a := rfl
theorem ls_inj {a b : ByteArray} (h : ls a = ls b) : a = b := Go.WideShapes.bytes_inj h
theorem mk_append (x y : List UInt8) : mk (x ++ y) = mk x ++ mk y := by
  apply ls_inj
  simp [ls, mk]
theorem mk_size (l : List UInt8) : (mk l).size = l.length := by
  show l.toArray.size = _
  rw [List.size_toArray]
theorem extract_ls (a : ByteArray) (i j : Nat) : ls (a.extract i j) = ((ls a).drop i).take (j - i) := by
  show (a.extract i j).data.toList = _
  rw [ByteArray.data_extract, Array.toList_extract]
theorem extract_mk (a : ByteArray) (i j : Nat) : a.extract i j = mk (((ls a).drop i).take (j - i)) := ls_inj (by rw [extract_ls])
theorem bt_nat (a : ByteArray) (i : Nat) (h : i < a.size) : bt a (i : Int) = (((ls a)[i]'(by rw [ls_len]; exact h)).toNat : Int) := by
  unfold bt
  rw [dif_pos (by simpa using h)]
  rfl
/-- A text's parts put together, with bytes 47 between. -/
def joinP : List (List UInt8) → List UInt8
  | [] => []
  | x :: r => x ++ r.flatMap (47 :: ·)
theorem joinP_snoc (l : List (List UInt8)) (h : l ≠ []) (x : List UInt8) : joinP (l ++ [x]) = joinP l ++ 47 :: x := by
  cases l with
  | nil => exact absurd rfl h
  | cons a r => simp [joinP]
theorem split_cons (x : UInt8) (r : List UInt8) : YtcfcbkcaondfcaaDoorMpHelp.splitL 47 (x :: r) = if x = 47 then [] :: YtcfcbkcaondfcaaDoorMpHelp.splitL 47 r else match YtcfcbkcaondfcaaDoorMpHelp.splitL 47 r with
    | h :: t => (x :: h) :: t
    | [] => [[x]] := rfl
def pre (p : List UInt8) : List (List UInt8) → List (List UInt8)
  | h :: t => (p ++ h) :: t
  | [] => [p]
theorem pre_nil {l : List (List UInt8)} (h : l ≠ []) : pre [] l = l := by
  cases l with
  | nil => exact absurd rfl h
  | cons a r => rfl
theorem pre_pre (p q : List UInt8) (l : List (List UInt8)) : pre p (pre q l) = pre (p ++ q) l := by
  cases l <;> simp [pre]
theorem split_ne {x : UInt8} (h : x ≠ 47) (r : List UInt8) : YtcfcbkcaondfcaaDoorMpHelp.splitL 47 (x :: r) = pre [x] (YtcfcbkcaondfcaaDoorMpHelp.splitL 47 r) := by
  rw [split_cons, if_neg h]
  cases YtcfcbkcaondfcaaDoorMpHelp.splitL 47 r <;> rfl
theorem split_eq (r : List UInt8) : YtcfcbkcaondfcaaDoorMpHelp.splitL 47 (47 :: r) = [] :: YtcfcbkcaondfcaaDoorMpHelp.splitL 47 r := by rw [split_cons, if_pos rfl]
theorem split_pos (s : List UInt8) : YtcfcbkcaondfcaaDoorMpHelp.splitL 47 s ≠ [] := YtcfcbkcaondfcaaDoorMpHelp.splitL_ne 47 s
theorem split_all (p : UInt8 → Bool) (hp : p 47 = true) : ∀ s : List UInt8, ((YtcfcbkcaondfcaaDoorMpHelp.splitL 47 s).all fun l => l.all p) = s.all p
  | [] => by rfl
  | x :: r => by
    have ih := split_all p hp r
    by_cases hx : x = 47
    · subst hx
      rw [split_eq, List.all_cons, ih, List.all_cons, hp]
      rfl
    · rw [split_ne hx, List.all_cons, ← ih]
      have := split_pos r
      cases h : YtcfcbkcaondfcaaDoorMpHelp.splitL 47 r with
      | nil => exact absurd h this
      | cons a t => simp [pre, Bool.and_assoc]
theorem split_join : ∀ s : List UInt8, joinP (YtcfcbkcaondfcaaDoorMpHelp.splitL 47 s) = s
  | [] => by rfl
  | x :: r => by
    have ih := split_join r
    have hn := split_pos r
    by_cases hx : x = 47
    · subst hx
      rw [split_eq]
      cases h : YtcfcbkcaondfcaaDoorMpHelp.splitL 47 r with
      | nil => exact absurd h hn
      | cons a t =>
        rw [h] at ih
        rw [← ih]
        simp [joinP]
    · rw [split_ne hx]
      cases h : YtcfcbkcaondfcaaDoorMpHelp.splitL 47 r with
      | nil => exact absurd h hn
      | cons a t =>
        rw [h] at ih
        rw [← ih]
        simp [joinP, pre]
theorem split_no : ∀ (s : List UInt8), ∀ l ∈ YtcfcbkcaondfcaaDoorMpHelp.splitL 47 s, (47 : UInt8) ∉ l
  | [] => by simp [YtcfcbkcaondfcaaDoorMpHelp.splitL]
  | x :: r => by
    have ih := split_no r
    by_cases hx : x = 47
    · subst hx
      rw [split_eq]
      intro l hl
      rcases List.mem_cons.1 hl with rfl | hl
      · simp
      · exact ih l hl
    · rw [split_ne hx]
      have hn := split_pos r
      cases h : YtcfcbkcaondfcaaDoorMpHelp.splitL 47 r with
      | nil => exact absurd h hn
      | cons a t =>
        rw [h] at ih
        intro l hl
        rcases List.mem_cons.1 hl with rfl | hl
        · simp only [List.cons_append, List.nil_append, List.mem_cons, not_or]
          exact ⟨fun e => hx e.symm, ih a List.mem_cons_self⟩
        · exact ih l (List.mem_cons_of_mem _ hl)
theorem split_len (s : List UInt8) : (YtcfcbkcaondfcaaDoorMpHelp.splitL 47 s).length ≤ s.length + 1 := by
  induction s with
  | nil => simp [YtcfcbkcaondfcaaDoorMpHelp.splitL]
  | cons x r ih =>
    by_cases hx : x = 47
    · subst hx
      rw [split_eq]
      simp only [List.length_cons]
      omega
    · rw [split_ne hx]
      cases h : YtcfcbkcaondfcaaDoorMpHelp.splitL 47 r with
      | nil => simp [pre]
      | cons a t => rw [h] at ih; simp only [pre, List.length_cons] at ih ⊢; omega
theorem split_part (s : List UInt8) : ∀ l ∈ YtcfcbkcaondfcaaDoorMpHelp.splitL 47 s, l.length ≤ s.length := by
  induction s with
  | nil => simp [YtcfcbkcaondfcaaDoorMpHelp.splitL]
  | cons x r ih =>
    intro l hl
    by_cases hx : x = 47
    · subst hx
      rw [split_eq] at hl
      rcases List.mem_cons.1 hl with rfl | hl
      · simp
      · have := ih l hl; simp only [List.length_cons]; omega
    · rw [split_ne hx] at hl
      cases h : YtcfcbkcaondfcaaDoorMpHelp.splitL 47 r with
      | nil => exact absurd h (split_pos r)
      | cons a t =>
        rw [h] at ih hl
        rcases List.mem_cons.1 hl with rfl | hl
        · have := ih a List.mem_cons_self; simp only [List.cons_append, List.nil_append, List.length_cons]; omega
        · have := ih l (List.mem_cons_of_mem _ hl); simp only [List.length_cons]; omega
/-- The document's parts. -/
def partsB (a : ByteArray) : List ByteArray := (YtcfcbkcaondfcaaDoorMpHelp.splitL 47 (ls a)).map mk
theorem rd_nat (l : List ByteArray) (i : Nat) (h : i < l.length) : rdOf ByteArray.empty l (i : Int) = l[i] := by
  rw [rdOf, Int.toNat_natCast, List.getD_eq_getElem?_getD, List.getElem?_eq_getElem h, Option.getD_some]
theorem rd_mk (l : List (List UInt8)) (i : Nat) (h : i < l.length) : rdOf ByteArray.empty (l.map mk) (i : Int) = mk l[i] := by
  rw [rd_nat _ _ (by rw [List.length_map]; exact h), List.getElem_map]
theorem same_loop (l m : List ByteArray) (hlen : l.length = m.length) (hs : l.length ≤ 9000000) : ∀ n i : Nat, i + n = l.length → Ev (fun k => bindleref15_Same.l0 k l m i) (decide (l.drop i = m.drop i))
  | 0, i, hi => by
    refine Ev.step (fun k => rfl) ?_
    rw [List.drop_of_length_le (by omega), List.drop_of_length_le (by omega)]
    exact ev_neg (by omega) (Ev.now _)
  | n + 1, i, hi => by
    refine Ev.step (fun k => rfl) ?_
    refine ev_pos (by omega) (ev_pos (by omega) (ev_pos (by omega) ?_))
    have dl : l.drop i = l[i] :: l.drop (i + 1) := List.drop_eq_getElem_cons (by omega)
    have dm : m.drop i = m[i] :: m.drop (i + 1) := List.drop_eq_getElem_cons (by omega)
    rw [rd_nat l i (by omega), rd_nat m i (by omega), dl, dm]
    have hw : wrap64 ((i : Int) + 1) = ((i + 1 : Nat) : Int) := by rw [w64 (by omega) (by omega)]; omega
    rw [hw]
    by_cases h : l[i].toList = m[i].toList
    · have ih := same_loop l m hlen hs n (i + 1) (by omega)
      rw [toList_inj h]
      rw [show decide (m[i] :: l.drop (i + 1) = m[i] :: m.drop (i + 1)) = decide (l.drop (i + 1) = m.drop (i + 1)) from decide_eq_decide.2 ⟨fun e => (List.cons.inj e).2, fun e => by rw [e]⟩]
      exact ev_pos rfl ih
    · rw [decide_eq_false (fun e => h (by rw [(List.cons.inj e).1]))]
      exact ev_neg h (Ev.now _)
theorem same (l m : List ByteArray) (hs : l.length ≤ 9000000) : Ev (fun k => bindleref15_Same.f k l m) (decide (l = m)) := by
  by_cases h : (l.length : Int) = (m.length : Int)
  · have := same_loop l m (by omega) hs l.length 0 (by omega)
    rw [List.drop_zero, List.drop_zero] at this
    exact ev_pos h this
  · rw [decide_eq_false (fun e => h (by rw [e]))]
    exact ev_neg h (Ev.now _)
theorem outs_two : YtcfcbkcaondfcaaDoorMSort.outs [mk [98], mk [99]] = [[98], [99]] := by
  have e : YtcfcbkcaondfcaaDoorMSort.sorted [mk [98], mk [99]] = [[98], [99]] := by
    refine List.mergeSort_of_pairwise ?_
    simp [YtcfcbkcaondfcaaDoorMSort.texts]
    decide
  unfold YtcfcbkcaondfcaaDoorMSort.outs
  rw [e]
  decide +kernel
theorem lives_children : member_Children.f 9 [(⟨#[97, 47, 98]⟩ : ByteArray), (⟨#[97, 47, 99, 47, 100]⟩ : ByteArray)] (⟨#[97]⟩ : ByteArray) = (member_Sort.f [mk [98], mk [99]]).bind fun t => some t := by kernel_rfl
theorem lives_true : bindlelaw15_lives.f 9 = some true := by
  unfold bindlelaw15_lives.f
  rw [lives_children]
  unfold member_Sort.f
  rw [if_pos (by decide), outs_two]
  decide +kernel
theorem lives : Ev (fun k => bindlelaw15_lives.f k) true := Ev.of (fun k => bindlelaw15_lives.mono k) lives_true
theorem toList_ls (a : ByteArray) : a.toList = ls a := ByteArray.toList_eq a
theorem str_lt_of {x y : List UInt8} (h : x ≤ y) (hne : x ≠ y) : x < y := by
  by_cases hl : x < y
  · exact hl
  · exact absurd (List.le_antisymm h hl) hne
theorem str_irrefl (x : List UInt8) : ¬ x < x := List.lt_irrefl x
theorem str_trans {x y z : List UInt8} (h : x < y) (h' : y < z) : x < z := List.lt_trans h h'
theorem str_lt_le {x y : List UInt8} (h : x < y) : x ≤ y := fun h' => str_irrefl x (str_trans h h')
theorem str_le_lt {x y z : List UInt8} (h : x ≤ y) (h' : y < z) : x < z := by
  by_cases e : x = y
  · rwa [e]
  · exact str_trans (str_lt_of h e) h'
theorem strict_ext {l m : List (List UInt8)} (hl : l.Pairwise (· < ·)) (hm : m.Pairwise (· < ·)) (h : ∀ x, x ∈ l ↔ x ∈ m) : l = m := by
  have nl : l.Nodup := hl.imp (fun {a b} hx (e : a = b) => str_irrefl b (by rw [e] at hx; exact hx))
  have nm : m.Nodup := hm.imp (fun {a b} hx (e : a = b) => str_irrefl b (by rw [e] at hx; exact hx))
  exact List.Perm.eq_of_pairwise (le := fun a b => a < b) (fun a b _ _ h1 h2 => absurd (str_trans h1 h2) (str_irrefl a)) hl hm ((List.perm_ext_iff_of_nodup nl nm).2 h)
theorem get_bang (zs : List (List UInt8)) (j : Nat) (h : j < zs.length) : zs.toArray[j]! = zs[j] := by
  simp [h]
theorem compact_upto (zs : List (List UInt8)) (h : zs.Pairwise (· ≤ ·)) : ∀ m : Nat, m ≤ zs.length →
    (Lib.compactUpTo zs.toArray m).Pairwise (· < ·) ∧ ∀ x, x ∈ Lib.compactUpTo zs.toArray m ↔ ∃ j, j < m ∧ zs.toArray[j]! = x
  | 0, _ => by
    refine ⟨by simp [Lib.compactUpTo], fun x => ?_⟩
    simp [Lib.compactUpTo]
  | m + 1, hm => by
    obtain ⟨h1, h2⟩ := compact_upto zs h m (by omega)
    have hle : ∀ i j, i ≤ j → j < zs.length → zs.toArray[i]! ≤ zs.toArray[j]! := fun i j hij hj => by
      rw [get_bang _ _ (by omega), get_bang _ _ hj]
      rcases Nat.lt_or_eq_of_le hij with hlt | rfl
      · exact List.pairwise_iff_getElem.1 h i j (by omega) hj hlt
      · exact List.le_refl _
    rw [Lib.compactUpTo_succ]
    by_cases hk : Lib.keeps zs.toArray m = true
    · rw [if_pos hk]
      have hk' : m = 0 ∨ zs.toArray[m]! ≠ zs.toArray[m - 1]! := of_decide_eq_true hk
      refine ⟨List.pairwise_append.2 ⟨h1, by simp, fun a ha b hb => ?_⟩, fun x => ?_⟩
      · rw [List.mem_singleton] at hb
        subst hb
        obtain ⟨j, hj, rfl⟩ := (h2 a).1 ha
        rcases hk' with h0 | hne
        · omega
        · exact str_le_lt (hle j (m - 1) (by omega) (by omega)) (str_lt_of (hle (m - 1) m (by omega) (by omega)) (Ne.symm hne))
      · rw [List.mem_append, h2, List.mem_singleton]
        constructor
        · rintro (⟨j, hj, e⟩ | e)
          · exact ⟨j, by omega, e⟩
          · exact ⟨m, by omega, e.symm⟩
        · rintro ⟨j, hj, e⟩
          by_cases hjm : j = m
          · subst hjm; exact .inr e.symm
          · exact .inl ⟨j, by omega, e⟩
    · rw [if_neg hk, List.append_nil]
      have hk' : ¬ (m = 0 ∨ zs.toArray[m]! ≠ zs.toArray[m - 1]!) := fun e => hk (decide_eq_true e)
      refine ⟨h1, fun x => ?_⟩
      rw [h2]
      constructor
      · rintro ⟨j, hj, e⟩
        exact ⟨j, by omega, e⟩
      · rintro ⟨j, hj, e⟩
        by_cases hjm : j = m
        · subst hjm
          refine ⟨j - 1, by omega, ?_⟩
          rw [← e]
          by_cases e2 : zs.toArray[j]! = zs.toArray[j - 1]!
          · exact e2.symm
          · exact absurd (.inr e2) hk'
        · exact ⟨j, by omega, e⟩
theorem outs_spec (l : List ByteArray) : (YtcfcbkcaondfcaaDoorMSort.outs l).Pairwise (· < ·) ∧ ∀ x, x ∈ YtcfcbkcaondfcaaDoorMSort.outs l ↔ x ∈ l.map ls := by
  have tr : ∀ a b c : List UInt8, decide (a ≤ b) = true → decide (b ≤ c) = true → decide (a ≤ c) = true := fun a b c h1 h2 => by simp only [decide_eq_true_eq] at *; exact List.le_trans h1 h2
  have tt : ∀ a b : List UInt8, (decide (a ≤ b) || decide (b ≤ a)) = true := fun a b => by simp only [Bool.or_eq_true, decide_eq_true_eq]; exact List.le_total a b
  have hs : (YtcfcbkcaondfcaaDoorMSort.sorted l).Pairwise (· ≤ ·) := (List.pairwise_mergeSort tr tt (YtcfcbkcaondfcaaDoorMSort.texts l)).imp fun h => of_decide_eq_true h
  obtain ⟨h1, h2⟩ := compact_upto (YtcfcbkcaondfcaaDoorMSort.sorted l) hs (YtcfcbkcaondfcaaDoorMSort.sorted l).length (Nat.le_refl _)
  refine ⟨h1, fun x => (h2 x).trans ?_⟩
  have hm : x ∈ YtcfcbkcaondfcaaDoorMSort.sorted l ↔ x ∈ l.map ls := (List.mergeSort_perm (YtcfcbkcaondfcaaDoorMSort.texts l) _).mem_iff
  rw [← hm, List.mem_iff_getElem]
  constructor
  · rintro ⟨j, hj, e⟩
    exact ⟨j, hj, by rw [← get_bang _ _ hj]; exact e⟩
  · rintro ⟨j, hj, e⟩
    exact ⟨j, hj, by rw [get_bang _ _ hj]; exact e⟩
/-- A text put where it belongs. -/
def ins (x : List UInt8) : List (List UInt8) → List (List UInt8)
  | [] => [x]
  | y :: r => if y < x then y :: ins x r else if y = x then y :: r else x :: y :: r
theorem ins_mem (x : List UInt8) : ∀ (o : List (List UInt8)) (z : List UInt8), z ∈ ins x o ↔ z = x ∨ z ∈ o
  | [], z => by simp [ins]
  | y :: r, z => by
    have ih := ins_mem x r z
    unfold ins
    by_cases h : y < x
    · rw [if_pos h, List.mem_cons, ih, List.mem_cons]
      constructor
      · rintro (h | h | h)
        · exact .inr (.inl h)
        · exact .inl h
        · exact .inr (.inr h)
      · rintro (h | h | h)
        · exact .inr (.inl h)
        · exact .inl h
        · exact .inr (.inr h)
    · rw [if_neg h]
      by_cases e : y = x
      · rw [if_pos e, ← e, List.mem_cons]
        constructor
        · exact .inr
        · rintro (h | h)
          · exact .inl h
          · exact h
      · rw [if_neg e, List.mem_cons]
theorem ins_strict (x : List UInt8) : ∀ o : List (List UInt8), o.Pairwise (· < ·) → (ins x o).Pairwise (· < ·)
  | [], _ => by simp [ins]
  | y :: r, h => by
    obtain ⟨h1, h2⟩ := List.pairwise_cons.1 h
    unfold ins
    by_cases hl : y < x
    · rw [if_pos hl]
      refine List.pairwise_cons.2 ⟨fun z hz => ?_, ins_strict x r h2⟩
      rcases (ins_mem x r z).1 hz with rfl | hz
      · exact hl
      · exact h1 z hz
    · rw [if_neg hl]
      by_cases e : y = x
      · rw [if_pos e]; exact h
      · rw [if_neg e]
        have hxy : x < y := str_lt_of hl (Ne.symm e)
        refine List.pairwise_cons.2 ⟨fun z hz => ?_, h⟩
        rcases List.mem_cons.1 hz with rfl | hz
        · exact hxy
        · exact str_trans hxy (h1 z hz)
theorem ins_app (x : List UInt8) : ∀ p q : List (List UInt8), (∀ z ∈ p, z < x) → ins x (p ++ q) = p ++ ins x q
  | [], _, _ => rfl
  | y :: p, q, h => by
    rw [List.cons_append, ins, if_pos (h y List.mem_cons_self), ins_app x p q fun z hz => h z (List.mem_cons_of_mem _ hz)]
    rfl
theorem ins_len (x : List UInt8) (o : List (List UInt8)) : (ins x o).length ≤ o.length + 1 := by
  induction o with
  | nil => simp [ins]
  | cons y r ih =>
    unfold ins
    by_cases h : y < x
    · rw [if_pos h]; simp only [List.length_cons]; omega
    · rw [if_neg h]
      by_cases e : y = x
      · rw [if_pos e]; simp only [List.length_cons]; omega
      · rw [if_neg e]; simp only [List.length_cons]; omega
def insAll : List (List UInt8) → List (List UInt8) → List (List UInt8)
  | o, [] => o
  | o, x :: r => insAll (ins x o) r
theorem insAll_spec : ∀ (l o : List (List UInt8)), o.Pairwise (· < ·) → (insAll o l).Pairwise (· < ·) ∧ ∀ z, z ∈ insAll o l ↔ z ∈ o ∨ z ∈ l
  | [], o, h => ⟨h, fun z => by simp [insAll]⟩
  | x :: r, o, h => by
    obtain ⟨h1, h2⟩ := insAll_spec r (ins x o) (ins_strict x o h)
    refine ⟨h1, fun z => (h2 z).trans ?_⟩
    rw [ins_mem, List.mem_cons]
    constructor
    · rintro ((h | h) | h)
      · exact .inr (.inl h)
      · exact .inl h
      · exact .inr (.inr h)
    · rintro (h | h | h)
      · exact .inl (.inr h)
      · exact .inl (.inl h)
      · exact .inr h
theorem insAll_outs (l : List ByteArray) : insAll [] (l.map ls) = YtcfcbkcaondfcaaDoorMSort.outs l := by
  obtain ⟨h1, h2⟩ := insAll_spec (l.map ls) [] List.Pairwise.nil
  obtain ⟨h3, h4⟩ := outs_spec l
  exact strict_ext h1 h3 fun x => by rw [h2, h4]; simp
theorem rs_shift (x0 : List ByteArray) (o : List ByteArray) (at_ x4 : Nat) (r : List ByteArray) (ho : o.length ≤ 1000000) (hat : at_ ≤ o.length) (hx4 : x4 < x0.length) (hx0 : x0.length ≤ 1000000)
    (hfin : Ev (fun k => bindleref15_Sort.l0 k x0 (o.take at_ ++ x0[x4] :: o.drop at_) ((x4 + 1 : Nat) : Int)) r) :
    ∀ n m : Nat, at_ + n = m → m ≤ o.length → ∀ h : ByteArray, Ev (fun k => bindleref15_Sort.l2 k x0 (o.take m ++ h :: o.drop m) x4 at_ m) r
  | 0, m, hm, hmo, h => by
    obtain rfl : at_ = m := by omega
    have hlen : (o.take at_ ++ h :: o.drop at_).length = o.length + 1 := by simp; omega
    refine Ev.step (fun k => rfl) ?_
    refine ev_neg (by omega) (ev_pos (by omega) (ev_pos (by omega) (ev_pos (by omega) (ev_pos (by rw [hlen]; omega) ?_))))
    have hw : wrap64 ((x4 : Int) + 1) = ((x4 + 1 : Nat) : Int) := by rw [w64 (by omega) (by omega)]; omega
    have e : (o.take at_ ++ h :: o.drop at_).set (at_ : Int).toNat (rdOf ByteArray.empty x0 (x4 : Int)) = o.take at_ ++ x0[x4] :: o.drop at_ := by
      rw [rd_nat x0 x4 hx4, Int.toNat_natCast, List.set_append_right _ _ (by rw [List.length_take]; omega), List.length_take, Nat.min_eq_left hat, Nat.sub_self]
      rfl
    rw [hw, e]
    exact hfin
  | n + 1, m, hm, hmo, h => by
    have hlen : (o.take m ++ h :: o.drop m).length = o.length + 1 := by simp; omega
    have hw : wrap64 ((m : Int) - 1) = ((m - 1 : Nat) : Int) := by rw [w64 (by omega) (by omega)]; omega
    refine Ev.step (fun k => rfl) ?_
    refine ev_pos (by omega) ?_
    rw [hw]
    refine ev_pos (by omega) (ev_pos (by rw [hlen]; omega) (ev_pos (by omega) (ev_pos (by rw [hlen]; omega) ?_)))
    have hr : rdOf ByteArray.empty (o.take m ++ h :: o.drop m) ((m - 1 : Nat) : Int) = o[m - 1] := by
      rw [rd_nat _ _ (by rw [hlen]; omega), List.getElem_append_left (by rw [List.length_take]; omega), List.getElem_take]
    have hd : o.drop (m - 1) = o[m - 1] :: o.drop m := by
      have := List.drop_eq_getElem_cons (l := o) (i := m - 1) (by omega)
      rwa [show m - 1 + 1 = m by omega] at this
    have ht : o.take m = o.take (m - 1) ++ [o[m - 1]] := by
      have := List.take_succ_eq_append_getElem (l := o) (i := m - 1) (by omega)
      rwa [show m - 1 + 1 = m by omega] at this
    have e : (o.take m ++ h :: o.drop m).set (m : Int).toNat o[m - 1] = o.take (m - 1) ++ o[m - 1] :: o.drop (m - 1) := by
      rw [Int.toNat_natCast, List.set_append_right _ _ (by rw [List.length_take]; omega), List.length_take, Nat.min_eq_left hmo, Nat.sub_self, hd, ht, List.append_assoc]
      rfl
    rw [hr, e]
    exact rs_shift x0 o at_ x4 r ho hat hx4 hx0 hfin n (m - 1) (by omega) (by omega) o[m - 1]
theorem rs_put (x0 : List ByteArray) (p q : List (List UInt8)) (x4 : Nat) (r : List ByteArray) (ho : (p ++ q).length ≤ 999999) (hx4 : x4 < x0.length) (hx0 : x0.length ≤ 1000000) (hq : ∀ y ∈ q.head?, ¬ y < ls x0[x4])
    (hfin : Ev (fun k => bindleref15_Sort.l0 k x0 ((p ++ ins (ls x0[x4]) q).map mk) ((x4 + 1 : Nat) : Int)) r) :
    Ev (fun k => bindleref15_Sort.j2 k x0 ((p ++ q).map mk) x4 p.length) r := by
  have hw : wrap64 ((x4 : Int) + 1) = ((x4 + 1 : Nat) : Int) := by rw [w64 (by omega) (by omega)]; omega
  have hml : ((p ++ q).map mk).length = p.length + q.length := by simp
  have hput : ins (ls x0[x4]) q = ls x0[x4] :: q → Ev (fun k => bindleref15_Sort.j3 k x0 ((p ++ q).map mk) x4 p.length false) r := fun e => by
    refine Ev.step (fun k => by rw [bindleref15_Sort.j3, if_neg (by decide), if_pos (by rw [hml]; rw [List.length_append] at ho; omega), Option.bind_some]) ?_
    have hl : (((p ++ q).map mk) ++ [(⟨#[]⟩ : ByteArray)]).length = p.length + q.length + 1 := by rw [List.length_append, hml]; rfl
    have hw2 : wrap64 (((((p ++ q).map mk) ++ [(⟨#[]⟩ : ByteArray)]).length : Int) - 1) = ((p.length + q.length : Nat) : Int) := by
      rw [hl, w64 (by omega) (by rw [List.length_append] at ho; omega)]
      omega
    rw [hw2]
    have hs := rs_shift x0 ((p ++ q).map mk) p.length x4 r (by rw [hml]; rw [List.length_append] at ho; omega) (by rw [hml]; omega) hx4 hx0 (by
      have e2 : ((p ++ q).map mk).take p.length ++ x0[x4] :: ((p ++ q).map mk).drop p.length = (p ++ ins (ls x0[x4]) q).map mk := by
        rw [e, List.map_append, List.take_left' (by simp), List.drop_left' (by simp), List.map_append, List.map_cons]
      rw [e2]
      exact hfin) q.length (p.length + q.length) rfl (by rw [hml]; omega) (⟨#[]⟩ : ByteArray)
    rw [List.take_of_length_le (by rw [hml]; omega), List.drop_of_length_le (by rw [hml]; omega)] at hs
    exact hs
  refine Ev.step (fun k => rfl) ?_
  cases q with
  | nil =>
    refine ev_neg (by rw [hml]; simp) ?_
    exact hput rfl
  | cons y t =>
    have hny := hq y rfl
    refine ev_pos (by rw [hml]; simp; omega) (ev_pos (by omega) (ev_pos (by omega) (ev_pos (by omega) ?_)))
    have hr1 : (rdOf ByteArray.empty ((p ++ y :: t).map mk) (p.length : Int)).toList = y := by
      rw [rd_mk _ _ (by simp), toList_ls]
      simp
    have hr2 : (rdOf ByteArray.empty x0 (x4 : Int)).toList = ls x0[x4] := by rw [rd_nat x0 x4 hx4, toList_ls]
    rw [hr1, hr2]
    by_cases e : y = ls x0[x4]
    · rw [show (y == ls x0[x4]) = true from beq_iff_eq.2 e]
      refine Ev.step (fun k => by rw [bindleref15_Sort.j3, if_pos rfl, hw]) ?_
      have e2 : ins (ls x0[x4]) (y :: t) = y :: t := by rw [ins, if_neg hny, if_pos e]
      rw [e2] at hfin
      exact hfin
    · rw [show (y == ls x0[x4]) = false from beq_eq_false_iff_ne.2 e]
      exact hput (by rw [ins, if_neg hny, if_neg e])
theorem rs_scan (x0 : List ByteArray) (x4 : Nat) (r : List ByteArray) (hx4 : x4 < x0.length) (hx0 : x0.length ≤ 1000000) :
    ∀ (q p : List (List UInt8)), (p ++ q).length ≤ 999999 → (∀ z ∈ p, z < ls x0[x4]) → Ev (fun k => bindleref15_Sort.l0 k x0 ((p ++ ins (ls x0[x4]) q).map mk) ((x4 + 1 : Nat) : Int)) r →
    Ev (fun k => bindleref15_Sort.l1 k x0 ((p ++ q).map mk) x4 p.length) r
  | [], p, ho, hp, hfin => by
    refine Ev.step (fun k => rfl) ?_
    refine ev_neg (by simp) ?_
    exact rs_put x0 p [] x4 r ho hx4 hx0 (fun y hy => by cases hy) hfin
  | y :: t, p, ho, hp, hfin => by
    have hml : ((p ++ y :: t).map mk).length = p.length + t.length + 1 := by simp; omega
    refine Ev.step (fun k => rfl) ?_
    refine ev_pos (by rw [hml]; omega) (ev_pos (by omega) (ev_pos (by omega) (ev_pos (by omega) ?_)))
    have hr1 : (rdOf ByteArray.empty ((p ++ y :: t).map mk) (p.length : Int)).toList = y := by
      rw [rd_mk _ _ (by simp), toList_ls]
      simp
    have hr2 : (rdOf ByteArray.empty x0 (x4 : Int)).toList = ls x0[x4] := by rw [rd_nat x0 x4 hx4, toList_ls]
    rw [hr1, hr2, Go.Proofs.bytesLess_eq]
    by_cases hl : y < ls x0[x4]
    · refine ev_pos (decide_eq_true hl) ?_
      have hw : wrap64 ((p.length : Int) + 1) = (((p ++ [y]).length : Nat) : Int) := by
        rw [List.length_append] at ho
        rw [w64 (by omega) (by omega)]
        simp
      rw [hw]
      have e1 : p ++ y :: t = (p ++ [y]) ++ t := by simp
      have e2 : p ++ ins (ls x0[x4]) (y :: t) = (p ++ [y]) ++ ins (ls x0[x4]) t := by rw [ins, if_pos hl]; simp
      rw [e1]
      rw [e2] at hfin
      exact rs_scan x0 x4 r hx4 hx0 t (p ++ [y]) (by rw [← e1]; exact ho) (fun z hz => by
        rcases List.mem_append.1 hz with h | h
        · exact hp z h
        · rw [List.mem_singleton] at h; rw [h]; exact hl) hfin
    · refine ev_neg (by rw [decide_eq_false hl]; decide) ?_
      exact rs_put x0 p (y :: t) x4 r ho hx4 hx0 (fun z hz => by cases hz; exact hl) hfin
theorem rs_all (x0 : List ByteArray) (hx0 : x0.length ≤ 500000) : ∀ (n i : Nat) (o : List (List UInt8)), i + n = x0.length → o.length ≤ i →
    Ev (fun k => bindleref15_Sort.l0 k x0 (o.map mk) i) ((insAll o ((x0.drop i).map ls)).map mk)
  | 0, i, o, hi, ho => by
    refine Ev.step (fun k => rfl) ?_
    rw [List.drop_of_length_le (by omega)]
    exact ev_neg (by omega) (Ev.now _)
  | n + 1, i, o, hi, ho => by
    refine Ev.step (fun k => rfl) ?_
    refine ev_pos (by omega) ?_
    have hd : x0.drop i = x0[i] :: x0.drop (i + 1) := List.drop_eq_getElem_cons (by omega)
    rw [hd, List.map_cons, insAll]
    have hl := ins_len (ls x0[i]) o
    exact rs_scan x0 i _ (by omega) (by omega) o [] (by simp; omega) (fun z hz => by cases hz) (rs_all x0 hx0 n (i + 1) (ins (ls x0[i]) o) (by omega) (by omega))
theorem refSort (l : List ByteArray) (hl : l.length ≤ 500000) : Ev (fun k => bindleref15_Sort.f k l) ((YtcfcbkcaondfcaaDoorMSort.outs l).map mk) := by
  have := rs_all l hl l.length 0 [] (by omega) (Nat.le_refl _)
  rw [List.drop_zero, insAll_outs] at this
  exact this
theorem great_loop (l : List ByteArray) : ∀ n i : Nat, i + n = 100 → (∀ j, j < i → (h : j < l.length) → l[j].size ≤ 200) →
    ∃ b, Ev (fun k => bindlelaw15_great.l0 k l i) b ∧ (b = false → l.length ≤ 60 ∧ ∀ e ∈ l, e.size ≤ 200)
  | n, i, hi, hj => by
    have hend : (l.length ≤ i ∨ n = 0) → ∃ b, Ev (fun k => bindlelaw15_great.j1 k l i false) b ∧ (b = false → l.length ≤ 60 ∧ ∀ e ∈ l, e.size ≤ 200) := fun hc => by
      refine ⟨_, Ev.step (fun k => by rw [bindlelaw15_great.j1, if_neg (by decide)]) (Ev.now _), fun hb => ?_⟩
      have h60 : l.length ≤ 60 := by have := of_decide_eq_false hb; omega
      refine ⟨h60, fun e he => ?_⟩
      obtain ⟨j, hj1, rfl⟩ := List.mem_iff_getElem.1 he
      exact hj j (by omega) hj1
    by_cases h1 : (i : Int) < (l.length : Int)
    · cases n with
      | zero =>
        obtain ⟨b, hb, hc⟩ := hend (.inr rfl)
        refine ⟨b, Ev.step (fun k => rfl) (ev_pos h1 ?_), hc⟩
        rw [decide_eq_false (by omega)]
        exact hb
      | succ n =>
        by_cases h2 : (l[i]'(by omega)).size > 200
        · refine ⟨true, Ev.step (fun k => rfl) (ev_pos h1 ?_), fun h => by cases h⟩
          rw [decide_eq_true (by omega)]
          refine Ev.step (fun k => by rw [bindlelaw15_great.j1, if_pos rfl]) ?_
          exact ev_pos (by omega) (ev_pos h1 (ev_pos (by rw [rd_nat l i (by omega)]; omega) (Ev.now _)))
        · obtain ⟨b, hb, hc⟩ := great_loop l n (i + 1) (by omega) fun j hj1 h => by
            by_cases e : j = i
            · subst e; omega
            · exact hj j (by omega) h
          refine ⟨b, Ev.step (fun k => rfl) (ev_pos h1 ?_), hc⟩
          rw [decide_eq_true (by omega)]
          refine Ev.step (fun k => by rw [bindlelaw15_great.j1, if_pos rfl]) ?_
          refine ev_pos (by omega) (ev_pos h1 (ev_neg (by rw [rd_nat l i (by omega)]; omega) ?_))
          have hw : wrap64 ((i : Int) + 1) = ((i + 1 : Nat) : Int) := by rw [w64 (by omega) (by omega)]; omega
          rw [hw]
          exact hb
    · obtain ⟨b, hb, hc⟩ := hend (.inl (by omega))
      exact ⟨b, Ev.step (fun k => rfl) (ev_neg h1 hb), hc⟩
theorem sort_of (l : List ByteArray) (h : l.length ≤ 1000000) : member_Sort.f l = some ((YtcfcbkcaondfcaaDoorMSort.outs l).map mk) := by
  unfold member_Sort.f
  rw [if_pos h]
/-- How many texts are less. -/
def less (s : List UInt8) (O : List (List UInt8)) : Nat := O.countP fun y => decide (y < s)
def isIn (s : List UInt8) (O : List (List UInt8)) : Bool := O.any fun y => y == s
theorem place (s : List UInt8) : ∀ O : List (List UInt8), O.Pairwise (· < ·) → (match O[less s O]? with | some y => y == s | none => false) = isIn s O
  | [], _ => rfl
  | y :: r, h => by
    obtain ⟨h1, h2⟩ := List.pairwise_cons.1 h
    have ih := place s r h2
    by_cases hl : y < s
    · have e1 : less s (y :: r) = less s r + 1 := by unfold less; rw [List.countP_cons_of_pos (by simpa using hl)]
      have e2 : (y == s) = false := beq_eq_false_iff_ne.2 fun e => str_irrefl s (by rw [e] at hl; exact hl)
      rw [e1, List.getElem?_cons_succ, ih]
      unfold isIn
      rw [List.any_cons, e2, Bool.false_or]
    · have e0 : less s r = 0 := by
        unfold less
        rw [List.countP_eq_zero]
        intro z hz
        have := h1 z hz
        simp only [decide_eq_true_eq]
        exact fun hzs => hl (str_trans this hzs)
      have e1 : less s (y :: r) = 0 := by
        unfold less at e0 ⊢
        rw [List.countP_cons_of_neg (by simpa using hl)]
        exact e0
      have e3 : isIn s r = false := by
        unfold isIn
        rw [List.any_eq_false]
        intro z hz
        have := h1 z hz
        simp only [beq_iff_eq]
        exact fun e => hl (by rw [← e]; exact this)
      rw [e1, List.getElem?_cons_zero]
      unfold isIn at e3 ⊢
      rw [List.any_cons, e3, Bool.or_false]
theorem find_of (s : ByteArray) (O : List (List UInt8)) (h : O.Pairwise (· < ·)) (hl : O.length ≤ 1000000) : member_Find.f (O.map mk) s = some (((less (ls s) O : Nat) : Int), isIn (ls s) O) := by
  have hmm : (O.map mk).map (·.data.toList) = O := by
    rw [List.map_map]
    conv => rhs; rw [← List.map_id O]
    exact List.map_congr_left fun l _ => rfl
  have hc : (O.map mk).countP (fun y => !decide (s.data.toList ≤ y.data.toList)) = less (ls s) O := by
    unfold less
    rw [List.countP_map]
    refine List.countP_congr fun y _ => ?_
    simp only [Function.comp, Bool.not_eq_true', decide_eq_false_iff_not, decide_eq_true_eq]
    exact Decidable.not_not
  unfold member_Find.f
  rw [if_pos ⟨by rw [List.length_map]; exact hl, by rw [hmm]; exact h.imp fun h => str_lt_le h⟩, hc, ← place (ls s) O h, List.getElem?_map]
  cases O[less (ls s) O]? with
  | none => rfl
  | some y =>
    show some (_, (mk y).toList == s.toList) = _
    rw [toList_ls, toList_ls]
theorem sorts_loop (s : ByteArray) (O : List (List UInt8)) (h : O.Pairwise (· < ·)) (hl : O.length ≤ 1000000) : ∀ n i : Nat, i + n = O.length →
    Ev (fun k => bindlelaw15_MemberSorts.l0 k s (O.map mk) (less (ls s) (O.take i) : Nat) (isIn (ls s) (O.take i)) i) true
  | 0, i, hi => by
    refine Ev.step (fun k => rfl) ?_
    refine ev_neg (by rw [List.length_map]; omega) ?_
    rw [List.take_of_length_le (by omega)]
    refine ev_bindc (find_of s O h hl) ?_
    exact ev_pos rfl (ev_pos (by simp) (ev_bind lives (Ev.now _)))
  | n + 1, i, hi => by
    have hlt : i < O.length := by omega
    have ih := sorts_loop s O h hl n (i + 1) (by omega)
    have ht : O.take (i + 1) = O.take i ++ [O[i]] := List.take_succ_eq_append_getElem hlt
    have hw : wrap64 ((i : Int) + 1) = ((i + 1 : Nat) : Int) := by rw [w64 (by omega) (by omega)]; omega
    have hle : less (ls s) (O.take i) ≤ (O.take i).length := List.countP_le_length
    rw [List.length_take] at hle
    have hw2 : wrap64 (((less (ls s) (O.take i) : Nat) : Int) + 1) = ((less (ls s) (O.take i) + 1 : Nat) : Int) := by rw [w64 (by omega) (by omega)]; omega
    have hr := rd_mk O i hlt
    have e2 : isIn (ls s) (O.take (i + 1)) = (isIn (ls s) (O.take i) || (O[i] == ls s)) := by unfold isIn; rw [ht, List.any_append]; simp
    refine Ev.step (fun k => rfl) ?_
    refine ev_pos (by rw [List.length_map]; omega) (ev_pos (by omega) ?_)
    rw [hr, toList_ls, toList_ls, ls_mk, Go.Proofs.bytesLess_eq, hw, hw2]
    rw [e2] at ih
    by_cases hx : O[i] < ls s
    · have e1 : less (ls s) (O.take (i + 1)) = less (ls s) (O.take i) + 1 := by unfold less; rw [ht, List.countP_append, List.countP_cons_of_pos (by simpa using hx)]; rfl
      rw [e1] at ih
      refine ev_pos (decide_eq_true hx) ?_
      cases hb : isIn (ls s) (O.take i) with
      | true => rw [hb] at ih; exact ev_pos rfl ih
      | false => rw [hb] at ih; exact ev_neg (by decide) ih
    · have e1 : less (ls s) (O.take (i + 1)) = less (ls s) (O.take i) := by unfold less; rw [ht, List.countP_append, List.countP_cons_of_neg (by simpa using hx)]; rfl
      rw [e1] at ih
      refine ev_neg (by rw [decide_eq_false hx]; decide) ?_
      cases hb : isIn (ls s) (O.take i) with
      | true => rw [hb] at ih; exact ev_pos rfl ih
      | false => rw [hb] at ih; exact ev_neg (by decide) ih
theorem MemberSorts : bindlelaw15_MemberSorts.Pure := by
  intro l s _ _
  refine Ev.rounds ?_
  obtain ⟨b, hb, hc⟩ := great_loop l 100 0 rfl fun j hj => by omega
  refine ev_bind hb ?_
  have hlv : Ev (fun k => bindlelaw15_MemberSorts.j0 k l s true) true := Ev.step (fun k => by rw [bindlelaw15_MemberSorts.j0, if_pos rfl]) (ev_bind lives (Ev.now _))
  cases b with
  | true => exact ev_pos rfl hlv
  | false =>
    refine ev_neg (by decide) ?_
    obtain ⟨h1, _⟩ := hc rfl
    by_cases h3 : (s.size : Int) > 200
    · rw [decide_eq_true h3]
      exact hlv
    · rw [decide_eq_false h3]
      have o1 := YtcfcbkcaondfcaaDoorMSort.outs_len l
      refine Ev.step (fun k => by rw [bindlelaw15_MemberSorts.j0, if_neg (by decide)]) ?_
      refine ev_bindc (sort_of l (by omega)) (ev_bind (refSort l (by omega)) (ev_bind (same _ _ (by rw [List.length_map]; omega)) (ev_pos (by simp) ?_)))
      exact sorts_loop s (YtcfcbkcaondfcaaDoorMSort.outs l) (outs_spec l).1 (by omega) (YtcfcbkcaondfcaaDoorMSort.outs l).length 0 (by omega)
end Go.Proofs.YtcfcbkcaondfcaaDoor.Pure
