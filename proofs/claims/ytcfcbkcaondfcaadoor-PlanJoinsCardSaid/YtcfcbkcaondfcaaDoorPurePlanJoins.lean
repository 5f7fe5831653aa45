/- Statement 38.4: which of two maps is the one, and which the other, plays no part when they are put together; with the base itself, and with itself, a map is what it was; where nothing clashes, the steps from the base to the one, done with the other, lead to what is put together, if they can be done. -/
import Derived.Test.YtcfcbkcaondfcaaDoorPPlanJoinsx7
import Derived.Sort.Walk0
import Derived.OpenShut
namespace Go.Proofs.YtcfcbkcaondfcaaDoor.Pure
open Go.RowKit Go.Proofs.YtcfcbkcaondfcaaDoor.PPlanJoins Go.Proofs.YtcfcbkcaondfcaaDoorW.PrintWords Go.Proofs.YtcfcbkcaondfcaaDoorW.PrintLast Go.Proofs.YtcfcbkcaondfcaaDoorW.PrintMore
theorem w64 {n : Int} (h : -9223372036854775808 ≤ n) (h' : n ≤ 9223372036854775807) : wrap64 n = n := by
  unfold wrap64
  omega
theorem w64_l (a b : Int) : wrap64 (wrap64 a + b) = wrap64 (a + b) := by
  unfold wrap64
  omega
theorem w64_r (a b : Int) : wrap64 (a + wrap64 b) = wrap64 (a + b) := by
  unfold wrap64
  omega
theorem i64_bounds {n : Int} (h : (Lit.int .i64 n).wf = true) : -9223372036854775808 ≤ n ∧ n ≤ 9223372036854775807 := Go.bounds_i64 h
theorem ev_const {α : Type} {o : Option α} {a : α} (h : o = some a) : Ev (fun _ => o) a := ⟨0, fun _ _ => h⟩
theorem ev_pos {α : Type} {c : Prop} [Decidable c] {g h : Nat → Option α} {r : α} (hc : c) (hg : Ev g r) : Ev (fun k => if c then g k else h k) r := by
  obtain ⟨K, hg⟩ := hg
  exact ⟨K, fun k hk => by simp only [if_pos hc]; exact hg k hk⟩
theorem ev_neg {α : Type} {c : Prop} [Decidable c] {g h : Nat → Option α} {r : α} (hc : ¬ c) (hg : Ev h r) : Ev (fun k => if c then g k else h k) r := by
  obtain ⟨K, hg⟩ := hg
  exact ⟨K, fun k hk => by simp only [if_neg hc]; exact hg k hk⟩
theorem ev_from {α : Type} {g : Nat → Option α} {r : α} (K : Nat) (h : ∀ k, K ≤ k → g k = some r) : Ev g r := ⟨K, h⟩
theorem ev_bind {α β : Type} {g : Nat → Option α} {f : Nat → α → Option β} {a : α} {r : β} (h : Ev g a) (k : Ev (fun n => f n a) r) : Ev (fun n => (g n).bind (f n)) r := h.bind k
theorem ev_bindc {α β : Type} {o : Option α} {f : Nat → α → Option β} {a : α} {r : β} (h : o = some a) (k : Ev (fun n => f n a) r) : Ev (fun n => o.bind (f n)) r := (ev_const h).bind k
theorem toList_inj {a b : ByteArray} (h : a.toList = b.toList) : a = b := by
  rw [ByteArray.toList_eq, ByteArray.toList_eq] at h
  exact Go.WideShapes.bytes_inj h
/-- A text's bytes as a list. -/
abbrev ls (a : ByteArray) : List UInt8 := a.data.toList
abbrev mk (l : List UInt8) : ByteArray := ⟨l.toArray⟩
theorem ls_len (a : ByteArray) : (ls a).length = a.size := Array.length_toList
theorem ls_mk (l : List UInt8) : ls (mk l) = l := rfl
theorem mk_ls (a : ByteArray) : mk (ls a) = a := rfl
theorem ls_inj {a b : ByteArray} (h : ls a = ls b) : a = b := Go.WideShapes.bytes_inj h
theorem mk_append (x y : List UInt8) : mk (x ++ y) = mk x ++ mk y := by
  apply ls_inj
  simp [ls, mk]
theorem mk_size (l : List UInt8) : (mk l).size = l.length := by
  show l.toArray.size = _
  rw [List.size_toArray]
theorem extract_ls (a : ByteArray) (i j : Nat) : ls (a.extract i j) = ((ls a).drop i).take (j - i) := by
  show (a.extract i j).data.toList = _
  rw [ByteArray.data_extract, Array.toList_extract]
theorem extract_mk (a : ByteArray) (i j : Nat) : a.extract i j = mk (((ls a).drop i).take (j - i)) := ls_inj (by rw [extract_ls])
theorem bt_nat (a : ByteArray) (i : Nat) (h : i < a.size) : bt a (i : Int) = (((ls a)[i]'(by rw [ls_len]; exact h)).toNat : Int) := by
  unfold bt
  rw [dif_pos (by simpa using h)]
  rfl
theorem str_lt_of {x y : List UInt8} (h : x ≤ y) (hne : x ≠ y) : x < y := by
  by_cases hl : x < y
  · exact hl
  · exact absurd (List.le_antisymm h hl) hne
theorem str_irrefl (x : List UInt8) : ¬ x < x := List.lt_irrefl x
theorem str_trans {x y z : List UInt8} (h : x < y) (h' : y < z) : x < z := List.lt_trans h h'
theorem str_lt_le {x y : List UInt8} (h : x < y) : x ≤ y := fun h' => str_irrefl x (str_trans h h')
theorem str_le_lt {x y z : List UInt8} (h : x ≤ y) (h' : y < z) : x < z := by
  by_cases e : x = y
  · rwa [e]
  · exact str_trans (str_lt_of h e) h'
theorem strict_ext {l m : List (List UInt8)} (hl : l.Pairwise (· < ·)) (hm : m.Pairwise (· < ·)) (h : ∀ x, x ∈ l ↔ x ∈ m) : l = m := by
  have nl : l.Nodup := hl.imp (fun {a b} hx (e : a = b) => str_irrefl b (by rw [e] at hx; exact hx))
  have nm : m.Nodup := hm.imp (fun {a b} hx (e : a = b) => str_irrefl b (by rw [e] at hx; exact hx))
  exact List.Perm.eq_of_pairwise (le := fun a b => a < b) (fun a b _ _ h1 h2 => absurd (str_trans h1 h2) (str_irrefl a)) hl hm ((List.perm_ext_iff_of_nodup nl nm).2 h)
theorem get_bang (zs : List (List UInt8)) (j : Nat) (h : j < zs.length) : zs.toArray[j]! = zs[j] := by
  simp [h]
theorem compact_upto (zs : List (List UInt8)) (h : zs.Pairwise (· ≤ ·)) : ∀ m : Nat, m ≤ zs.length →
    (Lib.compactUpTo zs.toArray m).Pairwise (· < ·) ∧ ∀ x, x ∈ Lib.compactUpTo zs.toArray m ↔ ∃ j, j < m ∧ zs.toArray[j]! = x
  | 0, _ => by
    refine ⟨by simp [Lib.compactUpTo], fun x => ?_⟩
    simp [Lib.compactUpTo]
  | m + 1, hm => by
    obtain ⟨h1, h2⟩ := compact_upto zs h m (by omega)
    have hle : ∀ i j, i ≤ j → j < zs.length → zs.toArray[i]! ≤ zs.toArray[j]! := fun i j hij hj => by
      rw [get_bang _ _ (by omega), get_bang _ _ hj]
      rcases Nat.lt_or_eq_of_le hij with hlt | rfl
      · exact List.pairwise_iff_getElem.1 h i j (by omega) hj hlt
      · exact List.le_refl _
    rw [Lib.compactUpTo_succ]
    by_cases hk : Lib.keeps zs.toArray m = true
    · rw [if_pos hk]
      have hk' : m = 0 ∨ zs.toArray[m]! ≠ zs.toArray[m - 1]! := of_decide_eq_true hk
      refine ⟨List.pairwise_append.2 ⟨h1, by simp, fun a ha b hb => ?_⟩, fun x => ?_⟩
      · rw [List.mem_singleton] at hb
        subst hb
        obtain ⟨j, hj, rfl⟩ := (h2 a).1 ha
        rcases hk' with h0 | hne
        · omega
        · exact str_le_lt (hle j (m - 1) (by omega) (by omega)) (str_lt_of (hle (m - 1) m (by omega) (by omega)) (Ne.symm hne))
      · rw [List.mem_append, h2, List.mem_singleton]
        constructor
        · rintro (⟨j, hj, e⟩ | e)
          · exact ⟨j, by omega, e⟩
          · exact ⟨m, by omega, e.symm⟩
        · rintro ⟨j, hj, e⟩
          by_cases hjm : j = m
          · subst hjm; exact .inr e.symm
          · exact .inl ⟨j, by omega, e⟩
    · rw [if_neg hk, List.append_nil]
      have hk' : ¬ (m = 0 ∨ zs.toArray[m]! ≠ zs.toArray[m - 1]!) := fun e => hk (decide_eq_true e)
      refine ⟨h1, fun x => ?_⟩
      rw [h2]
      constructor
      · rintro ⟨j, hj, e⟩
        exact ⟨j, by omega, e⟩
      · rintro ⟨j, hj, e⟩
        by_cases hjm : j = m
        · subst hjm
          refine ⟨j - 1, by omega, ?_⟩
          rw [← e]
          by_cases e2 : zs.toArray[j]! = zs.toArray[j - 1]!
          · exact e2.symm
          · exact absurd (.inr e2) hk'
        · exact ⟨j, by omega, e⟩
/-- A text put where it belongs. -/
def ins (x : List UInt8) : List (List UInt8) → List (List UInt8)
  | [] => [x]
  | y :: r => if y < x then y :: ins x r else if y = x then y :: r else x :: y :: r
theorem ins_mem (x : List UInt8) : ∀ (o : List (List UInt8)) (z : List UInt8), z ∈ ins x o ↔ z = x ∨ z ∈ o
  | [], z => by simp [ins]
  | y :: r, z => by
    have ih := ins_mem x r z
    unfold ins
    by_cases h : y < x
    · rw [if_pos h, List.mem_cons, ih, List.mem_cons]
      constructor
      · rintro (h | h | h)
        · exact .inr (.inl h)
        · exact .inl h
        · exact .inr (.inr h)
      · rintro (h | h | h)
        · exact .inr (.inl h)
        · exact .inl h
        · exact .inr (.inr h)
    · rw [if_neg h]
      by_cases e : y = x
      · rw [if_pos e, ← e, List.mem_cons]
        constructor
        · exact .inr
        · rintro (h | h)
          · exact .inl h
          · exact h
      · rw [if_neg e, List.mem_cons]
theorem ins_strict (x : List UInt8) : ∀ o : List (List UInt8), o.Pairwise (· < ·) → (ins x o).Pairwise (· < ·)
  | [], _ => by simp [ins]
  | y :: r, h => by
    obtain ⟨h1, h2⟩ := List.pairwise_cons.1 h
    unfold ins
    by_cases hl : y < x
    · rw [if_pos hl]
      refine List.pairwise_cons.2 ⟨fun z hz => ?_, ins_strict x r h2⟩
      rcases (ins_mem x r z).1 hz with rfl | hz
      · exact hl
      · exact h1 z hz
    · rw [if_neg hl]
      by_cases e : y = x
      · rw [if_pos e]; exact h
      · rw [if_neg e]
        have hxy : x < y := str_lt_of hl (Ne.symm e)
        refine List.pairwise_cons.2 ⟨fun z hz => ?_, h⟩
        rcases List.mem_cons.1 hz with rfl | hz
        · exact hxy
        · exact str_trans hxy (h1 z hz)
theorem ins_app (x : List UInt8) : ∀ p q : List (List UInt8), (∀ z ∈ p, z < x) → ins x (p ++ q) = p ++ ins x q
  | [], _, _ => rfl
  | y :: p, q, h => by
    rw [List.cons_append, ins, if_pos (h y List.mem_cons_self), ins_app x p q fun z hz => h z (List.mem_cons_of_mem _ hz)]
    rfl
theorem ins_len (x : List UInt8) (o : List (List UInt8)) : (ins x o).length ≤ o.length + 1 := by
  induction o with
  | nil => simp [ins]
  | cons y r ih =>
    unfold ins
    by_cases h : y < x
    · rw [if_pos h]; simp only [List.length_cons]; omega
    · rw [if_neg h]
      by_cases e : y = x
      · rw [if_pos e]; simp only [List.length_cons]; omega
      · rw [if_neg e]; simp only [List.length_cons]; omega
def insAll : List (List UInt8) → List (List UInt8) → List (List UInt8)
  | o, [] => o
  | o, x :: r => insAll (ins x o) r
theorem insAll_spec : ∀ (l o : List (List UInt8)), o.Pairwise (· < ·) → (insAll o l).Pairwise (· < ·) ∧ ∀ z, z ∈ insAll o l ↔ z ∈ o ∨ z ∈ l
  | [], o, h => ⟨h, fun z => by simp [insAll]⟩
  | x :: r, o, h => by
    obtain ⟨h1, h2⟩ := insAll_spec r (ins x o) (ins_strict x o h)
    refine ⟨h1, fun z => (h2 z).trans ?_⟩
    rw [ins_mem, List.mem_cons]
    constructor
    · rintro ((h | h) | h)
      · exact .inr (.inl h)
      · exact .inl h
      · exact .inr (.inr h)
    · rintro (h | h | h)
      · exact .inl (.inr h)
      · exact .inl (.inl h)
      · exact .inr h
/-- Sorted by bytes, each once: what stands in it. -/
theorem sorted_spec (l : List (List UInt8)) : (Lib.compact (l.mergeSort fun x y => decide (x ≤ y))).Pairwise (· < ·) ∧ ∀ x, x ∈ Lib.compact (l.mergeSort fun x y => decide (x ≤ y)) ↔ x ∈ l := by
  have tr : ∀ a b c : List UInt8, decide (a ≤ b) = true → decide (b ≤ c) = true → decide (a ≤ c) = true := fun a b c h1 h2 => by simp only [decide_eq_true_eq] at *; exact List.le_trans h1 h2
  have tt : ∀ a b : List UInt8, (decide (a ≤ b) || decide (b ≤ a)) = true := fun a b => by simp only [Bool.or_eq_true, decide_eq_true_eq]; exact List.le_total a b
  have hs : (l.mergeSort fun x y => decide (x ≤ y)).Pairwise (· ≤ ·) := (List.pairwise_mergeSort tr tt l).imp fun h => of_decide_eq_true h
  have hm : ∀ x, x ∈ (l.mergeSort fun x y => decide (x ≤ y)) ↔ x ∈ l := fun x => (List.mergeSort_perm l _).mem_iff
  generalize (l.mergeSort fun x y => decide (x ≤ y)) = m at hs hm
  obtain ⟨h1, h2⟩ := compact_upto m hs m.length (Nat.le_refl _)
  refine ⟨h1, fun x => (h2 x).trans ?_⟩
  rw [← hm, List.mem_iff_getElem]
  constructor
  · rintro ⟨j, hj, e⟩
    exact ⟨j, hj, by rw [← get_bang _ _ hj]; exact e⟩
  · rintro ⟨j, hj, e⟩
    exact ⟨j, hj, by rw [get_bang _ _ hj]; exact e⟩
theorem rd_nat (l : List ByteArray) (i : Nat) (h : i < l.length) : rdOf ByteArray.empty l (i : Int) = l[i] := by
  rw [rdOf, Int.toNat_natCast, List.getD_eq_getElem?_getD, List.getElem?_eq_getElem h, Option.getD_some]
theorem rd_mk (l : List (List UInt8)) (i : Nat) (h : i < l.length) : rdOf ByteArray.empty (l.map mk) (i : Int) = mk l[i] := by
  rw [rd_nat _ _ (by rw [List.length_map]; exact h), List.getElem_map]
theorem same_loop (l m : List ByteArray) (hlen : l.length = m.length) (hs : l.length ≤ 9000000) : ∀ n i : Nat, i + n = l.length → Ev (fun k => bindleref15_Same.l0 k l m i) (decide (l.drop i = m.drop i))
  | 0, i, hi => by
    refine Ev.step (fun k => rfl) ?_
    rw [List.drop_of_length_le (by omega), List.drop_of_length_le (by omega)]
    exact ev_neg (by omega) (Ev.now _)
  | n + 1, i, hi => by
    refine Ev.step (fun k => rfl) ?_
    refine ev_pos (by omega) (ev_pos (by omega) (ev_pos (by omega) ?_))
    have dl : l.drop i = l[i] :: l.drop (i + 1) := List.drop_eq_getElem_cons (by omega)
    have dm : m.drop i = m[i] :: m.drop (i + 1) := List.drop_eq_getElem_cons (by omega)
    rw [rd_nat l i (by omega), rd_nat m i (by omega), dl, dm]
    have hw : wrap64 ((i : Int) + 1) = ((i + 1 : Nat) : Int) := by rw [w64 (by omega) (by omega)]; omega
    rw [hw]
    by_cases h : l[i].toList = m[i].toList
    · have ih := same_loop l m hlen hs n (i + 1) (by omega)
      rw [toList_inj h]
      rw [show decide (m[i] :: l.drop (i + 1) = m[i] :: m.drop (i + 1)) = decide (l.drop (i + 1) = m.drop (i + 1)) from decide_eq_decide.2 ⟨fun e => (List.cons.inj e).2, fun e => by rw [e]⟩]
      exact ev_pos rfl ih
    · rw [decide_eq_false (fun e => h (by rw [(List.cons.inj e).1]))]
      exact ev_neg h (Ev.now _)
theorem same (l m : List ByteArray) (hs : l.length ≤ 9000000) : Ev (fun k => bindleref15_Same.f k l m) (decide (l = m)) := by
  by_cases h : (l.length : Int) = (m.length : Int)
  · have := same_loop l m (by omega) hs l.length 0 (by omega)
    rw [List.drop_zero, List.drop_zero] at this
    exact ev_pos h this
  · rw [decide_eq_false (fun e => h (by rw [e]))]
    exact ev_neg h (Ev.now _)
theorem toList_ls (a : ByteArray) : a.toList = ls a := ByteArray.toList_eq a
/-- A file's name. -/
abbrev nm (x : S45) : List UInt8 := ls x.f0
/-- Files that are a map. -/
def Asc (l : List S45) : Prop := (l.map nm).Pairwise (· < ·)
theorem rdF (l : List S45) (i : Nat) (h : i < l.length) : rd_T45 l (i : Int) = l[i] := by
  simp [rd_T45, h]
/-- What a map has for a name. -/
def look (l : List S45) (s : List UInt8) : Option S45 := l.find? fun y => nm y == s
theorem look_nm {l : List S45} {s : List UInt8} {y : S45} (h : look l s = some y) : nm y = s ∧ y ∈ l := ⟨by
  have := List.find?_some h
  simpa using this, List.mem_of_find?_eq_some h⟩
theorem look_none {l : List S45} {s : List UInt8} (h : ∀ y ∈ l, nm y ≠ s) : look l s = none := by
  unfold look
  rw [List.find?_eq_none]
  intro y hy
  simpa using h y hy
theorem wadd (i : Nat) (h : i ≤ 9000000000000000000) : wrap64 ((i : Int) + 1) = ((i + 1 : Nat) : Int) := by rw [w64 (by omega) (by omega)]; omega
theorem strOf_bytes (s : ByteArray) : strOfNums (bytesOf s) = s := by
  apply ls_inj
  unfold strOfNums bytesOf
  show (List.map (fun n : Int => UInt8.ofNat n.toNat) (List.map (fun b : UInt8 => (b.toNat : Int)) s.data.toList)) = s.data.toList
  rw [List.map_map]
  conv => rhs; rw [← List.map_id s.data.toList]
  exact List.map_congr_left fun b _ => by simp
theorem strOf_size (l : List Int) : (strOfNums l).size = l.length := by
  unfold strOfNums
  show (Array.size _) = _
  simp
/-- Same: of a list told anew. -/
def anew (y : S45) : S45 := ⟨y.f0, bytesOf (strOfNums y.f1)⟩
/-- Files whose data is that of texts. -/
def okF (l : List S45) : Prop := ∀ y ∈ l, y.f1.length ≤ 140737488351232
/-- Do two maps have the same? -/
def likeO : Option S45 → Option S45 → Bool
  | none, none => true
  | some x, some y => (strOfNums x.f1).toList == (strOfNums y.f1).toList
  | _, _ => false
/-- A name's value. -/
def valO : Option S45 → Bool × ByteArray
  | none => (false, strOfNums [])
  | some y => (true, strOfNums y.f1)
theorem val_like (o p : Option S45) : ((valO o).1 == (valO p).1 && ((valO o).2.toList == (valO p).2.toList)) = likeO o p := by
  cases o <;> cases p <;> simp [valO, likeO]
theorem place_look (s : ByteArray) : ∀ l : List S45, Asc l → look l (ls s) = match l[model_place.less l s]? with | some y => if (y.f0.data.toList == s.data.toList) = true then some y else none | none => none
  | [], _ => rfl
  | y :: r, h => by
    obtain ⟨h1, h2⟩ := List.pairwise_cons.1 (show (nm y :: r.map nm).Pairwise (· < ·) from h)
    have ih := place_look s r h2
    by_cases hl : nm y < ls s
    · have e1 : model_place.less (y :: r) s = model_place.less r s + 1 := by unfold model_place.less; rw [List.countP_cons_of_pos (by simpa using hl)]
      rw [e1, List.getElem?_cons_succ, ← ih]
      unfold look
      rw [List.find?_cons_of_neg (by simpa using fun e : nm y = ls s => str_irrefl _ (by rw [e] at hl; exact hl))]
    · have e0 : model_place.less r s = 0 := by
        unfold model_place.less
        rw [List.countP_eq_zero]
        intro z hz
        have := h1 (nm z) (List.mem_map_of_mem hz)
        simp only [decide_eq_true_eq]
        exact fun hzs => hl (str_trans this hzs)
      have e1 : model_place.less (y :: r) s = 0 := by
        unfold model_place.less at e0 ⊢
        rw [List.countP_cons_of_neg (by simpa using hl)]
        exact e0
      rw [e1, List.getElem?_cons_zero]
      dsimp only
      by_cases e : nm y = ls s
      · have e2 : (y.f0.data.toList == s.data.toList) = true := by simpa using e
        rw [if_pos e2]
        unfold look
        rw [List.find?_cons_of_pos (by simpa using e)]
      · have e2 : ¬ (y.f0.data.toList == s.data.toList) = true := by simpa using e
        rw [if_neg e2]
        refine look_none fun z hz => ?_
        rcases List.mem_cons.1 hz with rfl | hz
        · exact e
        · intro ez
          have := h1 (nm z) (List.mem_map_of_mem hz)
          rw [ez] at this
          exact hl this
theorem of_eq (l : List S45) (s : ByteArray) (h : Asc l) (hl : l.length ≤ 1000000) (hd : ∀ y ∈ l, y.f1.length ≤ 140737488351232) : plan_of.f l s = some (valO (look l (ls s))) := by
  have hp : (l.map (·.f0.data.toList)).Pairwise (· ≤ ·) := h.imp fun hx => str_lt_le hx
  have e1 : model_place.f l s = some (((model_place.less l s : Nat) : Int), match l[model_place.less l s]? with | some y => y.f0.data.toList == s.data.toList | none => false) := by
    unfold model_place.f
    rw [if_pos ⟨hl, hp⟩]
    rfl
  unfold plan_of.f model_Find.f
  rw [e1, place_look s l h, Option.bind_some]
  cases hy : l[model_place.less l s]? with
  | none => rfl
  | some y =>
    obtain ⟨hj, hy2⟩ := List.getElem?_eq_some_iff.1 hy
    dsimp only
    by_cases e : (y.f0.data.toList == s.data.toList) = true
    · rw [if_pos e, if_pos e, if_pos (by omega), if_pos (by omega), rdF l _ hj, hy2]
      have hm : y ∈ l := by rw [← hy2]; exact List.getElem_mem hj
      have e3 : slices_Clone_byte_byte.f y.f1 = some y.f1 := by
        unfold slices_Clone_byte_byte.f
        rw [if_pos (by have := hd y hm; omega)]
      rw [e3]
      rfl
    · rw [if_neg e, if_neg e]
      rfl
theorem names_eq (ls3 : List (List S45)) (h : (plan_names.all_ ls3).length ≤ 1000000) : ∃ N : List (List UInt8), plan_names.f ls3 = some (N.map mk) ∧ N.Pairwise (· < ·) ∧ (∀ x, x ∈ N ↔ ∃ l ∈ ls3, x ∈ l.map nm) ∧ N.length ≤ (plan_names.all_ ls3).length := by
  obtain ⟨h1, h2⟩ := sorted_spec ((plan_names.all_ ls3).map ls)
  refine ⟨_, by unfold plan_names.f; rw [if_pos h]; rfl, h1, fun x => (h2 x).trans ?_, ?_⟩
  · unfold plan_names.all_
    simp only [List.mem_map, List.mem_flatMap]
    constructor
    · rintro ⟨b, ⟨l, hl, y, hy, rfl⟩, rfl⟩
      exact ⟨l, hl, y, hy, rfl⟩
    · rintro ⟨l, hl, y, hy, rfl⟩
      exact ⟨y.f0, ⟨l, hl, y, hy, rfl⟩, rfl⟩
  · have := Lib.compact_length_le (((plan_names.all_ ls3).map ls).mergeSort fun x y => decide (x ≤ y))
    rw [List.length_mergeSort, List.length_map] at this
    exact this
theorem wide_loop (l : List S45) : ∀ n i : Nat, i + n = 300 → ∃ w : Bool, Ev (fun k => bindlelaw38_wide.l0 k l i) w ∧ (w = false → l.length ≤ 250)
  | 0, i, hi => by
    have hfin : ∃ w : Bool, Ev (fun k => bindlelaw38_wide.j1 k l i false) w ∧ (w = false → l.length ≤ 250) := by
      refine ⟨_, Ev.step (fun k => by unfold bindlelaw38_wide.j1; exact rfl) (ev_neg (by decide) (Ev.now _)), fun h => ?_⟩
      have := of_decide_eq_false h
      omega
    obtain ⟨w, h1, h2⟩ := hfin
    refine ⟨w, Ev.step (fun k => by unfold bindlelaw38_wide.l0; exact rfl) ?_, h2⟩
    by_cases hl : (i : Int) < (l.length : Int)
    · have hd : decide ((i : Int) < 300) = false := decide_eq_false (by omega)
      rw [hd]
      exact ev_pos hl h1
    · exact ev_neg hl h1
  | n + 1, i, hi => by
    by_cases hl : (i : Int) < (l.length : Int)
    · have hd : decide ((i : Int) < 300) = true := decide_eq_true (by omega)
      obtain ⟨w, h1, h2⟩ := wide_loop l n (i + 1) (by omega)
      by_cases c1 : (((rd_T45 l i).f0).size : Int) > 300
      · refine ⟨true, Ev.step (fun k => by unfold bindlelaw38_wide.l0; exact rfl) (ev_pos hl ?_), fun h => by cases h⟩
        rw [hd]
        exact Ev.step (fun k => by unfold bindlelaw38_wide.j1; exact rfl) (ev_pos rfl (ev_pos (by omega) (ev_pos hl (ev_pos c1 (Ev.now _)))))
      · by_cases c2 : (((rd_T45 l i).f1).length : Int) > 70000
        · refine ⟨true, Ev.step (fun k => by unfold bindlelaw38_wide.l0; exact rfl) (ev_pos hl ?_), fun h => by cases h⟩
          rw [hd]
          exact Ev.step (fun k => by unfold bindlelaw38_wide.j1; exact rfl) (ev_pos rfl (ev_pos (by omega) (ev_pos hl (ev_neg c1 (ev_pos c2 (Ev.now _))))))
        · refine ⟨w, Ev.step (fun k => by unfold bindlelaw38_wide.l0; exact rfl) (ev_pos hl ?_), h2⟩
          rw [hd]
          refine Ev.step (fun k => by unfold bindlelaw38_wide.j1; exact rfl) (ev_pos rfl (ev_pos (by omega) (ev_pos hl (ev_neg c1 (ev_neg c2 ?_)))))
          rw [wadd i (by omega)]
          exact h1
    · have hd : ∃ w : Bool, Ev (fun k => bindlelaw38_wide.j1 k l i false) w ∧ (w = false → l.length ≤ 250) := by
        refine ⟨_, Ev.step (fun k => by unfold bindlelaw38_wide.j1; exact rfl) (ev_neg (by decide) (Ev.now _)), fun h => ?_⟩
        have := of_decide_eq_false h
        omega
      obtain ⟨w, h1, h2⟩ := hd
      exact ⟨w, Ev.step (fun k => by unfold bindlelaw38_wide.l0; exact rfl) (ev_neg hl h1), h2⟩
theorem wide_ev (l : List S45) : ∃ w : Bool, Ev (fun k => bindlelaw38_wide.f k l) w ∧ (w = false → l.length ≤ 250) := wide_loop l 300 0 (by omega)
theorem map_loop (l : List S45) (hs : l.length ≤ 9000000) : ∀ n i : Nat, 1 ≤ i → i + n = l.length → ∃ m : Bool, Ev (fun k => bindleref25_Map.l0 k l i) m ∧ (m = true → ((l.drop (i - 1)).map nm).Pairwise (· < ·)) ∧ (m = false → ¬ ((l.drop (i - 1)).map nm).Pairwise (· < ·))
  | 0, i, h1, hi => by
    refine ⟨true, Ev.step (fun k => by unfold bindleref25_Map.l0; exact rfl) (ev_neg (by omega) (Ev.now _)), fun _ => ?_, fun h => by cases h⟩
    rw [List.drop_eq_getElem_cons (by omega), List.drop_of_length_le (by omega)]
    simp
  | n + 1, i, h1, hi => by
    have dl : l.drop (i - 1) = l[i - 1] :: l.drop i := by
      have := List.drop_eq_getElem_cons (l := l) (i := i - 1) (by omega)
      rwa [show i - 1 + 1 = i by omega] at this
    have dl2 : l.drop i = l[i] :: l.drop (i + 1) := List.drop_eq_getElem_cons (by omega)
    obtain ⟨m, e1, e2, e3⟩ := map_loop l hs n (i + 1) (by omega) (by omega)
    rw [show i + 1 - 1 = i by omega] at e2 e3
    have hw : wrap64 ((i : Int) - 1) = ((i - 1 : Nat) : Int) := by rw [w64 (by omega) (by omega)]; omega
    by_cases hlt : nm l[i - 1] < nm l[i]
    · refine ⟨m, Ev.step (fun k => by unfold bindleref25_Map.l0; exact rfl) (ev_pos (by omega) ?_), fun h => ?_, fun h hp => e3 h ?_⟩
      · rw [hw]
        refine ev_pos (by omega) (ev_pos (by omega) (ev_pos (by omega) ?_))
        rw [rdF l i (by omega), rdF l (i - 1) (by omega), wadd i (by omega)]
        exact ev_pos (by rw [toList_ls, toList_ls, Go.Proofs.bytesLess_eq]; exact decide_eq_true hlt) e1
      · have hp := e2 h
        rw [dl, List.map_cons]
        refine List.pairwise_cons.2 ⟨fun z hz => ?_, hp⟩
        rw [dl2, List.map_cons] at hz hp
        rcases List.mem_cons.1 hz with rfl | hz
        · exact hlt
        · exact str_trans hlt ((List.pairwise_cons.1 hp).1 z hz)
      · rw [dl, List.map_cons] at hp
        exact (List.pairwise_cons.1 hp).2
    · refine ⟨false, Ev.step (fun k => by unfold bindleref25_Map.l0; exact rfl) (ev_pos (by omega) ?_), (fun h => by cases h), fun _ hp => ?_⟩
      · rw [hw]
        refine ev_pos (by omega) (ev_pos (by omega) (ev_pos (by omega) ?_))
        rw [rdF l i (by omega), rdF l (i - 1) (by omega)]
        exact ev_neg (by rw [toList_ls, toList_ls, Go.Proofs.bytesLess_eq]; simpa using hlt) (Ev.now _)
      · rw [dl, List.map_cons] at hp
        exact hlt ((List.pairwise_cons.1 hp).1 _ (by rw [dl2, List.map_cons]; exact List.mem_cons_self))
theorem map_ev (l : List S45) (hs : l.length ≤ 9000000) : ∃ m : Bool, Ev (fun k => bindleref25_Map.f k l) m ∧ (m = true ↔ Asc l) := by
  cases l with
  | nil => exact ⟨true, Ev.congr (fun k => by unfold bindleref25_Map.f; exact rfl) (Ev.step (fun k => by unfold bindleref25_Map.l0; exact rfl) (ev_neg (by simp) (Ev.now _))), fun _ => List.Pairwise.nil, fun _ => rfl⟩
  | cons y r =>
    obtain ⟨m, e1, e2, e3⟩ := map_loop (y :: r) hs r.length 1 (by omega) (by simp; omega)
    refine ⟨m, e1, e2, fun h => ?_⟩
    cases hm : m with
    | true => rfl
    | false => exact absurd h (e3 hm)
/-- The chapter's example. -/
theorem lives_names : plan_names.f [[(⟨(⟨#[97]⟩ : ByteArray), ([] : List Int)⟩ : S45)], [(⟨(⟨#[98]⟩ : ByteArray), ([] : List Int)⟩ : S45)]] = some [(⟨#[97]⟩ : ByteArray), (⟨#[98]⟩ : ByteArray)] := by
  obtain ⟨N, e1, e2, e3, _⟩ := names_eq [[(⟨(⟨#[97]⟩ : ByteArray), ([] : List Int)⟩ : S45)], [(⟨(⟨#[98]⟩ : ByteArray), ([] : List Int)⟩ : S45)]] (by decide)
  have : N = [[97], [98]] := strict_ext e2 (by simp; decide) fun x => by
    rw [e3]
    simp [nm, ls, eq_comm]
  rw [e1, this]
  rfl
theorem lives_a (s : ByteArray) (c : UInt8) : plan_of.f [(⟨(⟨#[c]⟩ : ByteArray), ([] : List Int)⟩ : S45)] s = some (decide ([c] = ls s), strOfNums []) := by
  rw [of_eq _ s (by unfold Asc; simp) (by simp) (by simp)]
  unfold look
  rw [List.find?_cons]
  by_cases h : [c] = ls s
  · have e : (nm (⟨(⟨#[c]⟩ : ByteArray), ([] : List Int)⟩ : S45) == ls s) = true := by simpa [nm, ls] using h
    rw [e, decide_eq_true h]
    rfl
  · have e : (nm (⟨(⟨#[c]⟩ : ByteArray), ([] : List Int)⟩ : S45) == ls s) = false := by simpa [nm, ls] using h
    rw [e, decide_eq_false h]
    rfl
theorem lives_diff : plan_Diff.f [(⟨(⟨#[97]⟩ : ByteArray), ([] : List Int)⟩ : S45)] [(⟨(⟨#[98]⟩ : ByteArray), ([] : List Int)⟩ : S45)] = some [plan_Diff.op 11 (⟨#[97]⟩ : ByteArray) [], plan_Diff.op 3 (⟨#[98]⟩ : ByteArray) []] := by
  unfold plan_Diff.f
  rw [lives_names, Option.bind_some, if_pos (by decide)]
  simp only [plan_Diff.pick, plan_Diff.gone, plan_Diff.put, lives_a, Option.bind_some]
  rfl
theorem lives : bindlelaw38_lives.f = some true := by
  unfold bindlelaw38_lives.f
  rw [lives_diff, Option.bind_some]
  simp [rd_T72, plan_Diff.op, toList_ls, ls]
/-! The difference. -/
theorem look_mem {l : List S45} {s : List UInt8} (h : s ∈ l.map nm) : ∃ y, look l s = some y := by
  obtain ⟨y, hy, rfl⟩ := List.mem_map.1 h
  cases hl : look l (nm y) with
  | some z => exact ⟨z, rfl⟩
  | none =>
    unfold look at hl
    rw [List.find?_eq_none] at hl
    have := hl y hy
    simp at this
theorem look_self {l : List S45} (ha : Asc l) {y : S45} (hy : y ∈ l) : look l (nm y) = some y := by
  obtain ⟨z, hz⟩ := look_mem (List.mem_map_of_mem (f := nm) hy)
  obtain ⟨e1, e2⟩ := look_nm hz
  rw [hz]
  have : z = y := by
    have hp : l.Pairwise (fun a b => nm a < nm b) := List.pairwise_map.1 ha
    obtain ⟨i, hi, rfl⟩ := List.mem_iff_getElem.1 e2
    obtain ⟨j, hj, rfl⟩ := List.mem_iff_getElem.1 hy
    rcases Nat.lt_trichotomy i j with h | h | h
    · have := List.pairwise_iff_getElem.1 hp i j hi hj h
      rw [e1] at this
      exact absurd this (str_irrefl _)
    · subst h; rfl
    · have := List.pairwise_iff_getElem.1 hp j i hj hi h
      rw [e1] at this
      exact absurd this (str_irrefl _)
  rw [this]
def goneP (b : List S45) (n : List UInt8) : Bool := (look b n).isNone
def putP (a b : List S45) (n : List UInt8) : Bool := (look b n).isSome && !(likeO (look a n) (look b n))
theorem pick_eq (step : ByteArray → Option (S72 × Bool)) (g : List UInt8 → S72 × Bool) : ∀ N : List (List UInt8), (∀ n ∈ N, step (mk n) = some (g n)) → plan_Diff.pick step (N.map mk) = some ((N.filter (fun n => (g n).2)).map (fun n => (g n).1))
  | [], _ => rfl
  | n :: r, h => by
    have ih := pick_eq step g r fun x hx => h x (List.mem_cons_of_mem _ hx)
    rw [List.map_cons]
    unfold plan_Diff.pick
    rw [h n List.mem_cons_self, ih, Option.bind_some, Option.bind_some]
    by_cases hg : (g n).2 = true
    · rw [if_pos hg, List.filter_cons_of_pos (by exact hg), List.map_cons]
    · rw [if_neg hg, List.filter_cons_of_neg (by exact hg)]
section
variable (a b : List S45)
/-- The steps, told. -/
def tellG (y : S45 ⊕ S45) : S72 := match y with | .inl y => ⟨11, y.f0, [], 0, ⟨[], 0, 0⟩⟩ | .inr y => ⟨3, y.f0, y.f1, 0, ⟨[], 0, 0⟩⟩
def tellF (y : S45 ⊕ S45) : S72 := match y with | .inl y => ⟨11, y.f0, [], 0, ⟨[], 0, 0⟩⟩ | .inr y => ⟨3, y.f0, bytesOf (strOfNums y.f1), 0, ⟨[], 0, 0⟩⟩
def stepsB : List (S45 ⊕ S45) := (a.filter (fun y => goneP b (nm y))).map .inl ++ (b.filter (fun y => putP a b (nm y))).map .inr
theorem stepsB_len : (stepsB a b).length ≤ a.length + b.length := by
  unfold stepsB
  rw [List.length_append, List.length_map, List.length_map]
  have := List.length_filter_le (fun y => goneP b (nm y)) a
  have := List.length_filter_le (fun y => putP a b (nm y)) b
  omega
theorem plan_diff (ha : Asc a) (hb : Asc b) (la : a.length ≤ 1000) (lb : b.length ≤ 1000) (da : okF a) (db : okF b) : plan_Diff.f a b = some ((stepsB a b).map tellF) := by
  have hl : (plan_names.all_ [a, b]).length = a.length + b.length := by
    unfold plan_names.all_
    simp
  obtain ⟨N, e1, e2, e3, e4⟩ := names_eq [a, b] (by omega)
  unfold plan_Diff.f
  rw [e1, Option.bind_some, if_pos (by rw [List.length_map]; omega)]
  have g1 := pick_eq (plan_Diff.gone b) (fun n => (plan_Diff.op 11 (mk n) [], goneP b n)) N fun n _ => by
    unfold plan_Diff.gone
    rw [of_eq b (mk n) hb (by omega) db, Option.bind_some]
    unfold goneP
    rw [show ls (mk n) = n from rfl]
    cases look b n <;> rfl
  have g2 := pick_eq (plan_Diff.put a b) (fun n => (plan_Diff.op 3 (mk n) (bytesOf (valO (look b n)).2), putP a b n)) N fun n _ => by
    unfold plan_Diff.put
    rw [of_eq b (mk n) hb (by omega) db, of_eq a (mk n) ha (by omega) da, Option.bind_some, show ls (mk n) = n from rfl]
    have hsz : (valO (look b n)).2.size ≤ 9223372036854775807 := by
      cases hy : look b n with
      | none => exact Nat.zero_le _
      | some y =>
        have := db y (look_nm hy).2
        show (strOfNums y.f1).size ≤ _
        rw [strOf_size]
        omega
    rw [if_pos hsz, Option.bind_some, val_like]
    unfold putP
    cases look b n <;> rfl
  rw [g1, Option.bind_some, g2, Option.bind_some]
  have f1 : N.filter (fun n => goneP b n) = (a.map nm).filter (fun n => goneP b n) := strict_ext (e2.filter _) (List.Pairwise.filter _ ha) fun x => by
    rw [List.mem_filter, List.mem_filter, e3]
    constructor
    · rintro ⟨⟨l, hl, hx⟩, hg⟩
      refine ⟨?_, hg⟩
      rcases List.mem_cons.1 hl with rfl | hl
      · exact hx
      · rcases List.mem_cons.1 hl with rfl | hl
        · obtain ⟨y, hy⟩ := look_mem hx
          unfold goneP at hg
          rw [hy] at hg
          cases hg
        · cases hl
    · rintro ⟨hx, hg⟩
      exact ⟨⟨a, List.mem_cons_self, hx⟩, hg⟩
  have f2 : N.filter (fun n => putP a b n) = (b.map nm).filter (fun n => putP a b n) := strict_ext (e2.filter _) (List.Pairwise.filter _ hb) fun x => by
    rw [List.mem_filter, List.mem_filter, e3]
    constructor
    · rintro ⟨_, hg⟩
      refine ⟨?_, hg⟩
      unfold putP at hg
      cases hy : look b x with
      | none => rw [hy] at hg; cases hg
      | some y => rw [← (look_nm hy).1]; exact List.mem_map_of_mem (look_nm hy).2
    · rintro ⟨hx, hg⟩
      exact ⟨⟨b, by simp, hx⟩, hg⟩
  dsimp only
  rw [f1, f2, List.filter_map, List.filter_map, List.map_map, List.map_map]
  unfold stepsB
  rw [List.map_append, List.map_map, List.map_map]
  congr 2
  refine List.map_congr_left fun y hy => ?_
  have hy2 := (List.mem_filter.1 hy).1
  show plan_Diff.op 3 (mk (nm y)) (bytesOf (valO (look b (nm y))).2) = _
  rw [look_self hb hy2]
  rfl
end
theorem rdO (l : List S72) (i : Nat) (h : i < l.length) : rd_T72 l (i : Int) = l[i] := by
  simp [rd_T72, h]
/-- A file put where it belongs. -/
def insF (f : S45) : List S45 → List S45
  | [] => [f]
  | y :: r => if nm y < nm f then y :: insF f r else if nm y = nm f then f :: r else f :: y :: r
/-- A map without a name. -/
def dropF (s : List UInt8) (l : List S45) : List S45 := l.filter fun y => !(nm y == s)
theorem insF_nm (f : S45) : ∀ l : List S45, (insF f l).map nm = ins (nm f) (l.map nm)
  | [] => rfl
  | y :: r => by
    unfold insF
    rw [List.map_cons, ins]
    by_cases h : nm y < nm f
    · rw [if_pos h, if_pos h, List.map_cons, insF_nm f r]
    · rw [if_neg h, if_neg h]
      by_cases e : nm y = nm f
      · rw [if_pos e, if_pos e, List.map_cons, e]
      · rw [if_neg e, if_neg e, List.map_cons, List.map_cons]
theorem insF_asc (f : S45) {l : List S45} (h : Asc l) : Asc (insF f l) := by
  unfold Asc
  rw [insF_nm]
  exact ins_strict _ _ h
theorem dropF_asc (s : List UInt8) {l : List S45} (h : Asc l) : Asc (dropF s l) := by
  unfold Asc dropF
  exact List.Pairwise.sublist (List.Sublist.map nm List.filter_sublist) h
theorem insF_len (f : S45) (l : List S45) : (insF f l).length ≤ l.length + 1 := by
  have := congrArg List.length (insF_nm f l)
  rw [List.length_map] at this
  have h2 := ins_len (nm f) (l.map nm)
  rw [List.length_map] at h2
  omega
theorem insF_mem {f y : S45} : ∀ {l : List S45}, y ∈ insF f l → y = f ∨ y ∈ l
  | [], h => .inl (List.mem_singleton.1 h)
  | z :: r, h => by
    unfold insF at h
    split at h
    · rcases List.mem_cons.1 h with rfl | h
      · exact .inr List.mem_cons_self
      · rcases insF_mem h with h | h
        · exact .inl h
        · exact .inr (List.mem_cons_of_mem _ h)
    · split at h
      · rcases List.mem_cons.1 h with rfl | h
        · exact .inl rfl
        · exact .inr (List.mem_cons_of_mem _ h)
      · rcases List.mem_cons.1 h with rfl | h
        · exact .inl rfl
        · exact .inr h
theorem dropF_len (s : List UInt8) (l : List S45) : (dropF s l).length ≤ l.length := List.length_filter_le _ _
theorem dropF_above (s : List UInt8) (l : List S45) (h : ∀ x ∈ l.map nm, s < x) : dropF s l = l := by
  unfold dropF
  rw [List.filter_eq_self]
  intro x hx
  have := h _ (List.mem_map_of_mem hx)
  have hne : nm x ≠ s := fun e => str_irrefl s (by rw [e] at this; exact this)
  simpa using hne
/-! The program's With and Without. -/
theorem less_cons_lt (y : S45) (r : List S45) (s : ByteArray) (h : nm y < ls s) : model_place.less (y :: r) s = model_place.less r s + 1 := by
  unfold model_place.less; rw [List.countP_cons_of_pos (by simpa using h)]
theorem less_cons_ge (y : S45) (r : List S45) (s : ByteArray) (ha : Asc (y :: r)) (h : ¬ nm y < ls s) : model_place.less (y :: r) s = 0 := by
  obtain ⟨h1, h2⟩ := List.pairwise_cons.1 (show (nm y :: r.map nm).Pairwise (· < ·) from ha)
  unfold model_place.less
  rw [List.countP_eq_zero]
  intro z hz
  simp only [decide_eq_true_eq]
  rcases List.mem_cons.1 hz with rfl | hz
  · exact h
  · intro hzs
    exact h (str_trans (h1 (nm z) (List.mem_map_of_mem hz)) hzs)
theorem asc_tail {y : S45} {r : List S45} (ha : Asc (y :: r)) : Asc r := (List.pairwise_cons.1 (show (nm y :: r.map nm).Pairwise (· < ·) from ha)).2
theorem less_le (l : List S45) (s : ByteArray) : model_place.less l s ≤ l.length := by unfold model_place.less; exact List.countP_le_length
def thereB (l : List S45) (s : ByteArray) : Bool := match l[model_place.less l s]? with | some y => y.f0.data.toList == s.data.toList | none => false
theorem place_f (l : List S45) (s : ByteArray) (h : Asc l) (hl : l.length ≤ 1000000) : model_place.f l s = some (((model_place.less l s : Nat) : Int), thereB l s) := by
  have hp : (l.map (·.f0.data.toList)).Pairwise (· ≤ ·) := h.imp fun hx => str_lt_le hx
  unfold model_place.f
  rw [if_pos ⟨hl, hp⟩]
  rfl
theorem there_look (l : List S45) (s : ByteArray) (h : Asc l) : thereB l s = (look l (ls s)).isSome := by
  rw [place_look s l h]
  unfold thereB
  cases l[model_place.less l s]? with
  | none => rfl
  | some y =>
    dsimp only
    by_cases e : (y.f0.data.toList == s.data.toList) = true
    · rw [if_pos e]; exact e
    · rw [if_neg e]; simpa using e
theorem there_lt {l : List S45} {s : ByteArray} (h : thereB l s = true) : model_place.less l s < l.length := by
  unfold thereB at h
  cases e : l[model_place.less l s]? with
  | none => rw [e] at h; cases h
  | some y => exact (List.getElem?_eq_some_iff.1 e).1
theorem ins_place (f : S45) : ∀ l : List S45, Asc l → insF f l = if thereB l f.f0 = true then l.set (model_place.less l f.f0) f else l.take (model_place.less l f.f0) ++ f :: l.drop (model_place.less l f.f0)
  | [], _ => rfl
  | y :: r, ha => by
    have ih := ins_place f r (asc_tail ha)
    unfold insF
    by_cases hl : nm y < nm f
    · rw [if_pos hl, ih]
      have e1 := less_cons_lt y r f.f0 hl
      have e2 : thereB (y :: r) f.f0 = thereB r f.f0 := by unfold thereB; rw [e1, List.getElem?_cons_succ]
      rw [e2, e1]
      by_cases ht : thereB r f.f0 = true
      · rw [if_pos ht, if_pos ht, List.set_cons_succ]
      · rw [if_neg ht, if_neg ht, List.take_succ_cons, List.drop_succ_cons, List.cons_append]
    · rw [if_neg hl]
      have e1 := less_cons_ge y r f.f0 ha hl
      have e2 : thereB (y :: r) f.f0 = (nm y == nm f) := by unfold thereB; rw [e1, List.getElem?_cons_zero]
      rw [e2, e1]
      by_cases e : nm y = nm f
      · rw [if_pos e, if_pos (by simpa using e), List.set_cons_zero]
      · rw [if_neg e, if_neg (by simpa using e)]
        rfl
theorem drop_place (s : ByteArray) : ∀ l : List S45, Asc l → dropF (ls s) l = if thereB l s = true then l.eraseIdx (model_place.less l s) else l
  | [], _ => rfl
  | y :: r, ha => by
    have ih := drop_place s r (asc_tail ha)
    obtain ⟨h1, h2⟩ := List.pairwise_cons.1 (show (nm y :: r.map nm).Pairwise (· < ·) from ha)
    by_cases hl : nm y < ls s
    · have e1 := less_cons_lt y r s hl
      have e2 : thereB (y :: r) s = thereB r s := by unfold thereB; rw [e1, List.getElem?_cons_succ]
      have hne : ¬ nm y = ls s := fun e => str_irrefl _ (by rw [e] at hl; exact hl)
      have e3 : dropF (ls s) (y :: r) = y :: dropF (ls s) r := by unfold dropF; rw [List.filter_cons_of_pos (by simpa using hne)]
      rw [e3, e2, e1, ih]
      by_cases ht : thereB r s = true
      · rw [if_pos ht, if_pos ht, List.eraseIdx_cons_succ]
      · rw [if_neg ht, if_neg ht]
    · have e1 := less_cons_ge y r s ha hl
      have e2 : thereB (y :: r) s = (nm y == ls s) := by unfold thereB; rw [e1, List.getElem?_cons_zero]
      rw [e2, e1]
      by_cases e : nm y = ls s
      · rw [if_pos (by simpa using e), List.eraseIdx_cons_zero]
        unfold dropF
        rw [List.filter_cons_of_neg (by simpa using e)]
        exact dropF_above (ls s) r (by rw [← e]; exact h1)
      · rw [if_neg (by simpa using e)]
        have hgt : ls s < nm y := str_lt_of hl (Ne.symm e)
        exact dropF_above (ls s) (y :: r) fun x hx => by
          rw [List.map_cons] at hx
          rcases List.mem_cons.1 hx with rfl | hx
          · exact hgt
          · exact str_trans hgt (h1 x hx)
theorem mwith_eq (l : List S45) (s : ByteArray) (d : List Int) (h : Asc l) (hl : l.length ≤ 100000) (hd : okF l) (hdd : d.length ≤ 140737488351232) : model_With.f l s d = some (insF ⟨s, d⟩ l) := by
  unfold model_With.f
  rw [if_pos ⟨by omega, fun y hy => by have := hd y hy; omega, by omega⟩, place_f l s h (by omega), Option.bind_some]
  have := less_le l s
  dsimp only
  rw [if_pos ⟨by omega, by omega⟩, ins_place _ l h]
  by_cases ht : thereB l s = true
  · have := there_lt ht
    rw [if_pos ht, if_pos (by omega), if_pos ht]
    rfl
  · rw [if_neg ht, if_neg ht]
    rfl
theorem mwithout_eq (l : List S45) (s : ByteArray) (h : Asc l) (hl : l.length ≤ 100000) (hd : okF l) : model_Without.f l s = some (dropF (ls s) l) := by
  unfold model_Without.f
  rw [if_pos ⟨by omega, fun y hy => by have := hd y hy; omega⟩, place_f l s h (by omega), Option.bind_some]
  have := less_le l s
  dsimp only
  rw [drop_place s l h]
  by_cases ht : thereB l s = true
  · have := there_lt ht
    rw [if_pos ht, if_pos ⟨by omega, by omega⟩, if_pos ht]
    rfl
  · rw [if_neg ht, if_neg ht]
/-! What a map has for a name, behind a change. -/
theorem look_cons (y : S45) (r : List S45) (s : List UInt8) : look (y :: r) s = if nm y = s then some y else look r s := by
  unfold look
  by_cases h : nm y = s
  · rw [if_pos h, List.find?_cons_of_pos (by simpa using h)]
  · rw [if_neg h, List.find?_cons_of_neg (by simpa using h)]
theorem look_ins (f : S45) (s : List UInt8) : ∀ l : List S45, look (insF f l) s = if nm f = s then some f else look l s
  | [] => by unfold insF; rw [look_cons]
  | y :: r => by
    have ih := look_ins f s r
    unfold insF
    by_cases hl : nm y < nm f
    · rw [if_pos hl, look_cons, look_cons, ih]
      by_cases e : nm y = s
      · have : ¬ nm f = s := fun e2 => by rw [e, e2] at hl; exact str_irrefl _ hl
        rw [if_pos e, if_neg this, if_pos e]
      · rw [if_neg e, if_neg e]
    · rw [if_neg hl]
      by_cases e : nm y = nm f
      · rw [if_pos e, look_cons, look_cons, e]
        by_cases e2 : nm f = s
        · rw [if_pos e2, if_pos e2]
        · rw [if_neg e2, if_neg e2, if_neg e2]
      · rw [if_neg e, look_cons]
theorem look_drop (n s : List UInt8) : ∀ l : List S45, look (dropF n l) s = if n = s then none else look l s
  | [] => by unfold dropF; rw [List.filter_nil]; split <;> rfl
  | y :: r => by
    have ih := look_drop n s r
    unfold dropF at ih ⊢
    by_cases h : nm y = n
    · rw [List.filter_cons_of_neg (by simpa using h), ih, look_cons, h]
      by_cases e : n = s
      · rw [if_pos e, if_pos e]
      · rw [if_neg e, if_neg e, if_neg e]
    · rw [List.filter_cons_of_pos (by simpa using h), look_cons, look_cons, ih]
      by_cases e : nm y = s
      · rw [if_pos e, if_neg (fun e2 => h (by rw [e, e2])), if_pos e]
      · rw [if_neg e, if_neg e]
theorem look_some_iff (l : List S45) (s : List UInt8) : (look l s).isSome = true ↔ s ∈ l.map nm := by
  constructor
  · intro h
    obtain ⟨y, hy⟩ := Option.isSome_iff_exists.1 h
    obtain ⟨e1, e2⟩ := look_nm hy
    rw [← e1]
    exact List.mem_map_of_mem e2
  · intro h
    obtain ⟨y, hy⟩ := look_mem h
    rw [hy]
    rfl
theorem of_names {l : List S45} (ha : Asc l) : (l.map nm).filterMap (look l) = l := by
  have : ∀ m : List S45, (∀ y ∈ m, look l (nm y) = some y) → (m.map nm).filterMap (look l) = m := fun m => by
    induction m with
    | nil => intro _; rfl
    | cons y r ih =>
      intro h
      rw [List.map_cons, List.filterMap_cons_some (h y List.mem_cons_self), ih fun z hz => h z (List.mem_cons_of_mem _ hz)]
  exact this l fun y hy => look_self ha hy
theorem asc_ext {l m : List S45} (hl : Asc l) (hm : Asc m) (h : ∀ s, look l s = look m s) : l = m := by
  have hn : l.map nm = m.map nm := strict_ext hl hm fun x => by rw [← look_some_iff, ← look_some_iff, h x]
  rw [← of_names hl, ← of_names hm, hn]
  congr 1
  funext s
  exact h s
/-! Steps, done with a map. -/
/-- Why a step can't be done. -/
def stepE (l : List S45) (o : S72) : Int :=
  if o.f0 = 11 then (if (look l (ls o.f1)).isSome = true then 0 else 7) else if ¬ o.f0 = 3 then 1 else if ¬ YtcfcbkcaondfcaaDoorMpHelp.rightB (ls o.f1) = true then 6 else if 65536 < o.f2.length then 5 else if (look l (ls o.f1)).isSome = false ∧ 199 < l.length then 14 else 0
def doStep (l : List S45) (o : S72) : List S45 := if o.f0 = 11 then dropF (ls o.f1) l else insF ⟨o.f1, o.f2⟩ l
def applyL : List S45 → List S72 → List S45 × Int
  | l, [] => (l, 0)
  | l, o :: r => if stepE l o = 0 then applyL (doStep l o) r else ([], stepE l o)
theorem do_asc {l : List S45} (o : S72) (h : Asc l) : Asc (doStep l o) := by
  unfold doStep
  split
  · exact dropF_asc _ h
  · exact insF_asc _ h
theorem do_look (l : List S45) (o : S72) (s : List UInt8) : look (doStep l o) s = if ls o.f1 = s then (if o.f0 = 11 then none else some ⟨o.f1, o.f2⟩) else look l s := by
  unfold doStep
  by_cases h : o.f0 = 11
  · rw [if_pos h, if_pos h, look_drop]
  · rw [if_neg h, if_neg h, look_ins]
/-- What a map has behind steps of other names each. -/
theorem apply_look (s : List UInt8) : ∀ (L : List S72) (l z : List S45), (L.map (fun o => ls o.f1)).Pairwise (· ≠ ·) → applyL l L = (z, 0) →
    look z s = match L.find? (fun o => ls o.f1 == s) with | none => look l s | some o => if o.f0 = 11 then none else some ⟨o.f1, o.f2⟩
  | [], l, z, _, h => by
    unfold applyL at h
    rw [← (Prod.mk.inj h).1]
    rfl
  | o :: r, l, z, hp, h => by
    rw [List.map_cons] at hp
    obtain ⟨h1, h2⟩ := List.pairwise_cons.1 hp
    unfold applyL at h
    by_cases he : stepE l o = 0
    · rw [if_pos he] at h
      have ih := apply_look s r _ z h2 h
      rw [ih]
      by_cases e : ls o.f1 = s
      · rw [List.find?_cons_of_pos (by simpa using e)]
        have hn : r.find? (fun o => ls o.f1 == s) = none := by
          rw [List.find?_eq_none]
          intro p hpr
          have := h1 (ls p.f1) (List.mem_map_of_mem (f := fun o : S72 => ls o.f1) hpr)
          simpa using fun e2 : ls p.f1 = s => this (by rw [e, e2])
        rw [hn]
        dsimp only
        rw [do_look, if_pos e]
      · rw [List.find?_cons_of_neg (by simpa using e)]
        cases r.find? (fun o => ls o.f1 == s) with
        | none => dsimp only; rw [do_look, if_neg e]
        | some p => rfl
    · rw [if_neg he] at h
      exact absurd (Prod.mk.inj h).2 he
theorem apply_asc : ∀ (L : List S72) (l : List S45), Asc l → Asc (applyL l L).1
  | [], l, h => h
  | o :: r, l, h => by
    unfold applyL
    split
    · exact apply_asc r _ (do_asc o h)
    · exact List.Pairwise.nil
theorem asc_len {l b : List S45} (hl : Asc l) (hb : Asc b) (hs : ∀ s ∈ l.map nm, s ∈ b.map nm) {n : List UInt8} (hn : n ∈ b.map nm) (hno : n ∉ l.map nm) : l.length < b.length := by
  have e : l.map nm = (b.map nm).filter (fun s => decide (s ∈ l.map nm)) := strict_ext hl (List.Pairwise.filter _ hb) fun x => by
    rw [List.mem_filter]
    constructor
    · intro h; exact ⟨hs x h, by simpa using h⟩
    · rintro ⟨_, h⟩; simpa using h
  have h1 : l.length = ((b.map nm).filter (fun s => decide (s ∈ l.map nm))).length := by rw [← e, List.length_map]
  have h2 : ((b.map nm).filter (fun s => decide (s ∈ l.map nm))).length < (b.map nm).length := List.length_filter_lt_length_iff_exists.2 ⟨n, hn, by simpa using hno⟩
  rw [List.length_map] at h2
  omega
/-- Steps that can be done. -/
theorem apply_ok (b : List S45) (hb : Asc b) (hlen : b.length ≤ 200) : ∀ (L : List S72) (l : List S45), Asc l → (L.map (fun o => ls o.f1)).Pairwise (· ≠ ·) →
    (∀ o ∈ L, (o.f0 = 11 ∧ (look l (ls o.f1)).isSome = true) ∨ (o.f0 = 3 ∧ YtcfcbkcaondfcaaDoorMpHelp.rightB (ls o.f1) = true ∧ o.f2.length ≤ 65536 ∧ ls o.f1 ∈ b.map nm)) → L.Pairwise (fun o p => p.f0 = 11 → o.f0 = 11) →
    (∀ s ∈ l.map nm, s ∈ b.map nm ∨ ∃ o ∈ L, o.f0 = 11 ∧ ls o.f1 = s) → (applyL l L).2 = 0
  | [], l, _, _, _, _, _ => rfl
  | o :: r, l, ha, hp, hk, hq, hs => by
    rw [List.map_cons] at hp
    obtain ⟨p1, p2⟩ := List.pairwise_cons.1 hp
    obtain ⟨q1, q2⟩ := List.pairwise_cons.1 hq
    have hother : ∀ p ∈ r, ¬ ls o.f1 = ls p.f1 := fun p hpr => p1 (ls p.f1) (List.mem_map_of_mem (f := fun o : S72 => ls o.f1) hpr)
    have hk2 : ∀ p ∈ r, (p.f0 = 11 ∧ (look (doStep l o) (ls p.f1)).isSome = true) ∨ (p.f0 = 3 ∧ YtcfcbkcaondfcaaDoorMpHelp.rightB (ls p.f1) = true ∧ p.f2.length ≤ 65536 ∧ ls p.f1 ∈ b.map nm) := fun p hpr => by
      rcases hk p (List.mem_cons_of_mem _ hpr) with ⟨h1, h2⟩ | h
      · refine .inl ⟨h1, ?_⟩
        rw [do_look, if_neg (hother p hpr)]
        exact h2
      · exact .inr h
    unfold applyL
    rcases hk o List.mem_cons_self with ⟨h1, h2⟩ | ⟨h1, h2, h3, h4⟩
    · have he : stepE l o = 0 := by unfold stepE; rw [if_pos h1, if_pos h2]
      rw [if_pos he]
      refine apply_ok b hb hlen r _ (do_asc o ha) p2 hk2 q2 fun s hs2 => ?_
      rw [← look_some_iff, do_look] at hs2
      by_cases e : ls o.f1 = s
      · rw [if_pos e, if_pos h1] at hs2
        cases hs2
      · rw [if_neg e, look_some_iff] at hs2
        rcases hs s hs2 with h | ⟨p, hpm, hp1, hp2⟩
        · exact .inl h
        · rcases List.mem_cons.1 hpm with rfl | hpm
          · exact absurd hp2 e
          · exact .inr ⟨p, hpm, hp1, hp2⟩
    · have hno : ∀ p ∈ o :: r, ¬ p.f0 = 11 := fun p hpm e => by
        rcases List.mem_cons.1 hpm with rfl | hpm
        · omega
        · have := q1 p hpm e
          omega
      have hsb : ∀ s ∈ l.map nm, s ∈ b.map nm := fun s hs2 => by
        rcases hs s hs2 with h | ⟨p, hpm, hp1, _⟩
        · exact h
        · exact absurd hp1 (hno p hpm)
      have he : stepE l o = 0 := by
        unfold stepE
        rw [if_neg (by omega), if_neg (by omega), if_neg (by rw [h2]; decide), if_neg (by omega), if_neg]
        rintro ⟨e1, e2⟩
        have := asc_len ha hb hsb h4 (fun hm => by rw [(look_some_iff _ _).2 hm] at e1; cases e1)
        omega
      rw [if_pos he]
      refine apply_ok b hb hlen r _ (do_asc o ha) p2 hk2 q2 fun s hs2 => ?_
      rw [← look_some_iff, do_look] at hs2
      by_cases e : ls o.f1 = s
      · exact .inl (by rw [← e]; exact h4)
      · rw [if_neg e, look_some_iff] at hs2
        exact .inl (hsb s hs2)
/-! The difference, as steps. -/
/-- Data that is bytes. -/
def byteF (l : List S45) : Prop := ∀ y ∈ l, bytesOf (strOfNums y.f1) = y.f1
theorem byte_eq {y z : S45} (hy : bytesOf (strOfNums y.f1) = y.f1) (hz : bytesOf (strOfNums z.f1) = z.f1) (hn : nm y = nm z) (h : (strOfNums y.f1).toList = (strOfNums z.f1).toList) : y = z := by
  have e1 : y.f0 = z.f0 := ls_inj hn
  have e2 : y.f1 = z.f1 := by rw [← hy, ← hz, toList_inj h]
  cases y
  cases z
  simp only at e1 e2
  rw [e1, e2]
theorem like_look {a b : List S45} (ha : byteF a) (hb : byteF b) (s : List UInt8) : likeO (look a s) (look b s) = true ↔ look a s = look b s := by
  cases h1 : look a s with
  | none =>
    cases h2 : look b s with
    | none => simp [likeO]
    | some z => simp [likeO]
  | some y =>
    cases h2 : look b s with
    | none => simp [likeO]
    | some z =>
      obtain ⟨n1, m1⟩ := look_nm h1
      obtain ⟨n2, m2⟩ := look_nm h2
      constructor
      · intro h
        rw [byte_eq (ha y m1) (hb z m2) (by rw [n1, n2]) (by simpa [likeO] using h)]
      · intro h
        injection h with h
        rw [h]
        simp [likeO]
section
variable (a b : List S45)
def diffL : List S72 := (stepsB a b).map tellG
theorem told_byte (hb : byteF b) : (stepsB a b).map tellF = diffL a b := by
  refine List.map_congr_left fun z hz => ?_
  unfold stepsB at hz
  rcases List.mem_append.1 hz with h | h
  · obtain ⟨y, _, rfl⟩ := List.mem_map.1 h
    rfl
  · obtain ⟨y, hy, rfl⟩ := List.mem_map.1 h
    show (⟨3, y.f0, bytesOf (strOfNums y.f1), 0, ⟨[], 0, 0⟩⟩ : S72) = ⟨3, y.f0, y.f1, 0, ⟨[], 0, 0⟩⟩
    rw [hb y (List.mem_filter.1 hy).1]
theorem diffL_eq : diffL a b = (a.filter (fun y => goneP b (nm y))).map (fun y => tellG (.inl y)) ++ (b.filter (fun y => putP a b (nm y))).map (fun y => tellG (.inr y)) := by
  unfold diffL stepsB
  rw [List.map_append, List.map_map, List.map_map]
  rfl
theorem diff_mem {o : S72} (h : o ∈ diffL a b) : (∃ y ∈ a, goneP b (nm y) = true ∧ o = tellG (.inl y)) ∨ (∃ y ∈ b, putP a b (nm y) = true ∧ o = tellG (.inr y)) := by
  rw [diffL_eq] at h
  rcases List.mem_append.1 h with h | h
  · obtain ⟨y, hy, rfl⟩ := List.mem_map.1 h
    exact .inl ⟨y, (List.mem_filter.1 hy).1, (List.mem_filter.1 hy).2, rfl⟩
  · obtain ⟨y, hy, rfl⟩ := List.mem_map.1 h
    exact .inr ⟨y, (List.mem_filter.1 hy).1, (List.mem_filter.1 hy).2, rfl⟩
theorem gone_no {s : List UInt8} (h : goneP b s = true) : s ∉ b.map nm := fun hm => by
  unfold goneP at h
  obtain ⟨y, hy⟩ := look_mem hm
  rw [hy] at h
  cases h
theorem diff_names (ha : Asc a) (hb : Asc b) : ((diffL a b).map (fun o => ls o.f1)).Pairwise (· ≠ ·) := by
  rw [diffL_eq, List.map_append, List.map_map, List.map_map]
  refine List.pairwise_append.2 ⟨?_, ?_, ?_⟩
  · show ((a.filter (fun y => goneP b (nm y))).map nm).Pairwise (· ≠ ·)
    exact (List.Pairwise.sublist (List.Sublist.map nm List.filter_sublist) ha).imp fun {x y} h (e : x = y) => str_irrefl x (by rw [← e] at h; exact h)
  · show ((b.filter (fun y => putP a b (nm y))).map nm).Pairwise (· ≠ ·)
    exact (List.Pairwise.sublist (List.Sublist.map nm List.filter_sublist) hb).imp fun {x y} h (e : x = y) => str_irrefl x (by rw [← e] at h; exact h)
  · intro x hx y hy e
    obtain ⟨p, hp, rfl⟩ := List.mem_map.1 hx
    obtain ⟨q, hq, rfl⟩ := List.mem_map.1 hy
    refine gone_no b (List.mem_filter.1 hp).2 ?_
    have e2 : nm p = nm q := e
    rw [e2]
    exact List.mem_map_of_mem (List.mem_filter.1 hq).1
theorem diff_kinds : (diffL a b).Pairwise (fun o p => p.f0 = 11 → o.f0 = 11) := by
  rw [diffL_eq]
  refine List.pairwise_append.2 ⟨?_, ?_, ?_⟩
  · refine List.pairwise_map.2 (List.Pairwise.imp (fun _ _ => rfl) (List.pairwise_of_forall (R := fun _ _ => True) fun _ _ => trivial))
  · refine List.pairwise_map.2 (List.Pairwise.imp (fun _ e => ?_) (List.pairwise_of_forall (R := fun _ _ => True) fun _ _ => trivial))
    exact absurd e (by show ¬ (3 : Int) = 11; decide)
  · intro x hx y hy e
    obtain ⟨p, _, rfl⟩ := List.mem_map.1 hx
    rfl
/-- What a difference has for a name. -/
theorem diff_find (s : List UInt8) : (diffL a b).find? (fun o => ls o.f1 == s) = if goneP b s = true then (look a s).map (fun y => tellG (.inl y)) else if putP a b s = true then (look b s).map (fun y => tellG (.inr y)) else none := by
  have go : ∀ (l : List S45) (p : List UInt8 → Bool) (g : S45 → S72), (∀ y, ls (g y).f1 = nm y) → ((l.filter (fun y => p (nm y))).map g).find? (fun o => ls o.f1 == s) = if p s = true then (look l s).map g else none := fun l p g hg => by
    induction l with
    | nil => unfold look; simp
    | cons y r ih =>
      rw [look_cons]
      by_cases hp : p (nm y) = true
      · rw [List.filter_cons_of_pos (by exact hp), List.map_cons]
        by_cases e : nm y = s
        · rw [List.find?_cons_of_pos (by rw [hg]; simpa using e), if_pos (by rw [← e]; exact hp), if_pos e]
          rfl
        · rw [List.find?_cons_of_neg (by rw [hg]; simpa using e), ih, if_neg e]
      · rw [List.filter_cons_of_neg (by exact hp), ih]
        by_cases e : nm y = s
        · rw [if_neg (by rw [← e]; exact hp), if_neg (by rw [← e]; exact hp)]
        · rw [if_neg e]
  rw [diffL_eq, List.find?_append, go a (goneP b) (fun y => tellG (.inl y)) (fun _ => rfl), go b (putP a b) (fun y => tellG (.inr y)) (fun _ => rfl)]
  by_cases hg : goneP b s = true
  · rw [if_pos hg, if_pos hg]
    have hn : look b s = none := by
      unfold goneP at hg
      simpa using hg
    rw [if_neg (by unfold putP; rw [hn]; simp), Option.or_none]
  · rw [if_neg hg, if_neg hg, Option.none_or]
/-- A name's place in a map behind the difference's steps, done with any map. -/
theorem diff_look (ha : Asc a) (hb : Asc b) (la : byteF a) (lb : byteF b) (m z : List S45) (h : applyL m (diffL a b) = (z, 0)) (s : List UInt8) : (look a s = look b s → look z s = look m s) ∧ (¬ look a s = look b s → look z s = look b s) := by
  rw [apply_look s (diffL a b) m z (diff_names a b ha hb) h, diff_find a b s]
  by_cases hg : goneP b s = true
  · rw [if_pos hg]
    have hn : look b s = none := by
      unfold goneP at hg
      simpa using hg
    rw [hn]
    cases hx : look a s with
    | none => exact ⟨fun _ => rfl, fun h => absurd rfl h⟩
    | some y => exact ⟨fun h => (by cases h), fun _ => rfl⟩
  · rw [if_neg hg]
    have hn : ∃ y, look b s = some y := by
      unfold goneP at hg
      exact Option.ne_none_iff_exists'.1 (by simpa using hg)
    obtain ⟨y, hy⟩ := hn
    by_cases hp : putP a b s = true
    · have hne : ¬ look a s = look b s := fun e => by
        unfold putP at hp
        rw [(like_look la lb s).2 e] at hp
        simp at hp
      rw [if_pos hp]
      refine ⟨fun h => absurd h hne, fun _ => ?_⟩
      rw [hy]
      rfl
    · have he : look a s = look b s := by
        rw [← like_look la lb s]
        unfold putP at hp
        rw [hy] at hp ⊢
        simpa using hp
      rw [if_neg hp]
      exact ⟨fun _ => rfl, fun h => absurd he h⟩
/-- A difference leads from the one to the other. -/
theorem diff_leads (ha : Asc a) (hb : Asc b) (la : byteF a) (lb : byteF b) (hr : ∀ y ∈ b, YtcfcbkcaondfcaaDoorMpHelp.rightB (nm y) = true ∧ y.f1.length ≤ 65536) (hlen : b.length ≤ 200) : applyL a (diffL a b) = (b, 0) := by
  have h2 : (applyL a (diffL a b)).2 = 0 := by
    refine apply_ok b hb hlen (diffL a b) a ha (diff_names a b ha hb) (fun o ho => ?_) (diff_kinds a b) (fun s hs => ?_)
    · rcases diff_mem a b ho with ⟨y, hy, hg, rfl⟩ | ⟨y, hy, hp, rfl⟩
      · exact .inl ⟨rfl, (look_some_iff _ _).2 (List.mem_map_of_mem hy)⟩
      · exact .inr ⟨rfl, (hr y hy).1, (hr y hy).2, List.mem_map_of_mem hy⟩
    · by_cases hg : goneP b s = true
      · obtain ⟨y, hy, rfl⟩ := List.mem_map.1 hs
        refine .inr ⟨tellG (.inl y), ?_, rfl, rfl⟩
        rw [diffL_eq]
        exact List.mem_append_left _ (List.mem_map_of_mem (f := fun y => tellG (.inl y)) (List.mem_filter.2 ⟨hy, hg⟩))
      · refine .inl ?_
        rw [← look_some_iff]
        cases hb2 : look b s with
        | none => exact absurd (show goneP b s = true by unfold goneP; rw [hb2]; rfl) hg
        | some y => rfl
  generalize hz : applyL a (diffL a b) = q at h2
  obtain ⟨z, e⟩ := q
  dsimp only at h2
  subst h2
  have haz : Asc z := by
    have := apply_asc (diffL a b) a ha
    rw [hz] at this
    exact this
  have : z = b := asc_ext haz hb fun s => by
    have hd := diff_look a b ha hb la lb a z hz s
    by_cases e : look a s = look b s
    · rw [hd.1 e, e]
    · rw [hd.2 e]
  rw [this]
theorem diff_self (la : byteF a) : diffL a a = [] := by
  rw [diffL_eq]
  have h1 : a.filter (fun y => goneP a (nm y)) = [] := List.filter_eq_nil_iff.2 fun y hy e => gone_no a e (List.mem_map_of_mem hy)
  have h2 : a.filter (fun y => putP a a (nm y)) = [] := List.filter_eq_nil_iff.2 fun y hy e => by
    unfold putP at e
    rw [(like_look la la (nm y)).2 rfl] at e
    simp at e
  rw [h1, h2]
  rfl
end
theorem bytes_good {d : List Int} (h : ∀ e ∈ d, (Lit.int .u8 e).wf = true) : bytesOf (strOfNums d) = d := by
  unfold bytesOf strOfNums
  show List.map (fun b : UInt8 => (b.toNat : Int)) (List.map (fun n : Int => UInt8.ofNat n.toNat) d) = d
  rw [List.map_map]
  conv => rhs; rw [← List.map_id d]
  refine List.map_congr_left fun n hn => ?_
  obtain ⟨h1, h2⟩ := Go.bounds_u8 (h n hn)
  show ((UInt8.ofNat n.toNat).toNat : Int) = n
  rw [UInt8.toNat_ofNat']
  omega
/-- Steps whose data is bytes. -/
def okO (S : List S72) : Prop := ∀ o ∈ S, o.f2.length ≤ 140737488351232 ∧ bytesOf (strOfNums o.f2) = o.f2
theorem refused_ev (l : List S45) (o : S72) (ha : Asc l) (hl : l.length ≤ 1000) (hd : okF l) : Ev (fun k => plan_refused.f k l o.f0 o.f1 o.f2 o.f3 o.f4.f0 o.f4.f1 o.f4.f2) (stepE l o) := by
  have hs : (valO (look l (ls o.f1))).1 = (look l (ls o.f1)).isSome := by cases look l (ls o.f1) <;> rfl
  refine Ev.congr (fun k => by unfold plan_refused.f; exact rfl) (ev_bindc (of_eq l o.f1 ha (by omega) hd) ?_)
  rw [hs]
  unfold stepE
  by_cases h11 : o.f0 = 11
  · rw [if_pos h11]
    refine ev_pos h11 (Ev.step (fun k => by unfold plan_refused.j0; exact rfl) ?_)
    cases (look l (ls o.f1)).isSome with
    | false => exact ev_pos rfl (Ev.now _)
    | true => exact ev_neg (by decide) (ev_pos h11 (Ev.now _))
  · rw [if_neg h11]
    refine ev_neg h11 (Ev.step (fun k => by unfold plan_refused.j0; exact rfl) (ev_neg (by decide) (ev_neg h11 ?_)))
    by_cases h3 : o.f0 = 3
    · rw [if_neg (not_not_intro h3)]
      refine ev_pos h3 (ev_bindc rfl ?_)
      by_cases hr : YtcfcbkcaondfcaaDoorMpHelp.rightB (ls o.f1) = true
      · rw [if_neg (not_not_intro hr)]
        refine ev_pos hr ?_
        by_cases hd : 65536 < o.f2.length
        · rw [if_pos hd]
          exact ev_pos (by omega) (Ev.now _)
        · rw [if_neg hd]
          refine ev_neg (by omega) ?_
          cases (look l (ls o.f1)).isSome with
          | true =>
            refine ev_pos rfl ?_
            rw [if_neg (fun e => by cases e.1)]
            exact Ev.now _
          | false =>
            refine ev_neg (by decide) ?_
            by_cases hz : 199 < l.length
            · refine ev_pos (by omega) ?_
              rw [if_pos ⟨rfl, hz⟩]
              exact Ev.now _
            · refine ev_neg (by omega) ?_
              rw [if_neg (fun e => hz e.2)]
              exact Ev.now _
      · rw [if_pos hr]
        exact ev_neg hr (Ev.now _)
    · rw [if_pos h3]
      exact ev_neg h3 (Ev.now _)
theorem own_loop (l : List S45) (hl : l.length ≤ 1000) (hd : okF l) : ∀ (n i : Nat) (out : List S45), i + n = l.length → out.length ≤ i → Ev (fun k => plan_own.l0 k out l (l.length : Int) i) (out ++ l.drop i)
  | 0, i, out, hi, ho => by
    rw [List.drop_of_length_le (by omega), List.append_nil]
    exact Ev.step (fun k => by unfold plan_own.l0; exact rfl) (ev_neg (by omega) (Ev.now _))
  | n + 1, i, out, hi, ho => by
    have dl : l.drop i = l[i] :: l.drop (i + 1) := List.drop_eq_getElem_cons (by omega)
    have h1 := own_loop l hl hd n (i + 1) (out ++ [l[i]]) (by omega) (by rw [List.length_append]; simp; omega)
    rw [List.append_assoc] at h1
    rw [dl]
    refine Ev.step (fun k => by unfold plan_own.l0; exact rfl) (ev_pos (by omega) (ev_pos (by omega) (ev_pos (by omega) ?_)))
    rw [rdF l i (by omega), wadd i (by omega)]
    have := hd l[i] (List.getElem_mem _)
    exact ev_bindc (show slices_Clone_byte_byte.f l[i].f1 = some l[i].f1 by unfold slices_Clone_byte_byte.f; rw [if_pos (by omega)]) (ev_pos (by omega) h1)
theorem ok_do {l : List S45} {o : S72} (h : okF l) (ho : o.f2.length ≤ 140737488351232) : okF (doStep l o) := fun y hy => by
  unfold doStep at hy
  split at hy
  · exact h y (List.mem_filter.1 hy).1
  · rcases insF_mem hy with rfl | hy
    · exact ho
    · exact h y hy
theorem do_len (l : List S45) (o : S72) : (doStep l o).length ≤ l.length + 1 := by
  unfold doStep
  split
  · have := dropF_len (ls o.f1) l; omega
  · exact insF_len _ _
theorem apply_byte : ∀ (S : List S72) (l : List S45), okO S → byteF l → okF l → byteF (applyL l S).1 ∧ okF (applyL l S).1
  | [], l, _, hb, hk => ⟨hb, hk⟩
  | o :: r, l, ho, hb, hk => by
    unfold applyL
    split
    · refine apply_byte r _ (fun p hp => ho p (List.mem_cons_of_mem _ hp)) (fun y hy => ?_) (ok_do hk (ho o List.mem_cons_self).1)
      unfold doStep at hy
      split at hy
      · exact hb y (List.mem_filter.1 hy).1
      · rcases insF_mem hy with rfl | hy
        · exact (ho o List.mem_cons_self).2
        · exact hb y hy
    · exact ⟨fun y hy => (by cases hy), fun y hy => (by cases hy)⟩
theorem apply_len : ∀ (S : List S72) (l : List S45), (applyL l S).1.length ≤ l.length + S.length
  | [], l => Nat.le_refl _
  | o :: r, l => by
    unfold applyL
    split
    · have := apply_len r (doStep l o)
      have := do_len l o
      rw [List.length_cons]
      omega
    · exact Nat.zero_le _
theorem apply_fail : ∀ (S : List S72) (l : List S45), (applyL l S).2 ≠ 0 → (applyL l S).1 = []
  | [], l, h => absurd rfl h
  | o :: r, l, h => by
    unfold applyL at h ⊢
    split
    · rename_i he
      rw [if_pos he] at h
      exact apply_fail r _ h
    · rfl
theorem papply_loop (S : List S72) (hS : S.length ≤ 600) (ho : okO S) : ∀ (n i : Nat) (l : List S45), i + n = S.length → Asc l → okF l → l.length + n ≤ 1000 → Ev (fun k => plan_Apply.l0 k l S (S.length : Int) i) (applyL l (S.drop i))
  | 0, i, l, hi, ha, hd, hn => by
    rw [List.drop_of_length_le (by omega)]
    have h1 := own_loop l (by omega) hd l.length 0 [] (by omega) (by simp)
    rw [List.drop_zero, List.nil_append] at h1
    exact Ev.step (fun k => by unfold plan_Apply.l0; exact rfl) (ev_neg (by omega) (ev_bind (Ev.congr (fun k => by unfold plan_own.f; exact rfl) h1) (Ev.now _)))
  | n + 1, i, l, hi, ha, hd, hn => by
    have dl : S.drop i = S[i] :: S.drop (i + 1) := List.drop_eq_getElem_cons (by omega)
    have hm := ho S[i] (List.getElem_mem _)
    rw [dl, applyL]
    refine Ev.step (fun k => by unfold plan_Apply.l0; exact rfl) (ev_pos (by omega) (ev_pos (by omega) (ev_pos (by omega) ?_)))
    rw [rdO S i (by omega), wadd i (by omega)]
    refine ev_bind (refused_ev l S[i] ha (by omega) hd) ?_
    have ih := papply_loop S hS ho n (i + 1) (doStep l S[i]) (by omega) (do_asc _ ha) (ok_do hd hm.1) (by have := do_len l S[i]; omega)
    by_cases he : stepE l S[i] = 0
    · rw [if_pos he]
      refine ev_pos he ?_
      by_cases h3 : S[i].f0 = 3
      · rw [show doStep l S[i] = insF ⟨S[i].f1, S[i].f2⟩ l by unfold doStep; rw [if_neg (by omega)]] at ih ⊢
        exact ev_pos h3 (ev_bindc (mwith_eq l S[i].f1 S[i].f2 ha (by omega) hd hm.1) ih)
      · have h11 : S[i].f0 = 11 := by
          unfold stepE at he
          by_cases h : S[i].f0 = 11
          · exact h
          · rw [if_neg h, if_pos h3] at he
            cases he
        rw [show doStep l S[i] = dropF (ls S[i].f1) l by unfold doStep; rw [if_pos h11]] at ih ⊢
        exact ev_neg h3 (ev_bindc (mwithout_eq l S[i].f1 ha (by omega) hd) ih)
    · rw [if_neg he]
      exact ev_neg he (Ev.now _)
/-- The program's Apply. -/
theorem papply_ev (l : List S45) (S : List S72) (hS : S.length ≤ 600) (ho : okO S) (ha : Asc l) (hd : okF l) (hn : l.length ≤ 300) : Ev (fun k => plan_Apply.f k l S) (applyL l S) := by
  have h1 := papply_loop S hS ho S.length 0 l (by omega) ha hd (by omega)
  rw [List.drop_zero] at h1
  exact Ev.congr (fun k => by unfold plan_Apply.f; exact rfl) (ev_bindc (show api_File.f l = some l by unfold api_File.f; rw [if_pos (by omega)]) h1)
/-- Two lists of files, alike. -/
theorem same_files (l m : List S45) (hlen : l.length = m.length) (hs : l.length ≤ 9000000) (h : ∀ (j : Nat) (hj : j < l.length), nm l[j] = nm (m[j]'(by omega)) ∧ strOfNums l[j].f1 = strOfNums (m[j]'(by omega)).f1) : ∀ n i : Nat, i + n = l.length → Ev (fun k => bindleref25_Same.l0 k l m i) true
  | 0, i, hi => Ev.step (fun k => by unfold bindleref25_Same.l0; exact rfl) (ev_neg (by omega) (Ev.now _))
  | n + 1, i, hi => by
    obtain ⟨e1, e2⟩ := h i (by omega)
    refine Ev.step (fun k => by unfold bindleref25_Same.l0; exact rfl) (ev_pos (by omega) (ev_pos (by omega) (ev_pos (by omega) ?_)))
    rw [rdF l i (by omega), rdF m i (by omega), wadd i (by omega)]
    exact ev_pos (by rw [toList_ls, toList_ls]; exact e1) (ev_pos (by rw [e2]) (same_files l m hlen hs h n (i + 1) (by omega)))
theorem same_refl (l : List S45) (hs : l.length ≤ 9000000) : Ev (fun k => bindleref25_Same.f k l l) true :=
  Ev.congr (fun k => by unfold bindleref25_Same.f; exact rfl) (ev_pos rfl (same_files l l rfl hs (fun _ _ => ⟨rfl, rfl⟩) l.length 0 (by omega)))
theorem same_is_loop (l m : List S45) (hlen : l.length = m.length) (hs : l.length ≤ 9000000) (hl : byteF l) (hm : byteF m) : ∀ n i : Nat, i + n = l.length → ∃ r : Bool, Ev (fun k => bindleref25_Same.l0 k l m i) r ∧ (r = true ↔ l.drop i = m.drop i)
  | 0, i, hi => ⟨true, Ev.step (fun k => by unfold bindleref25_Same.l0; exact rfl) (ev_neg (by omega) (Ev.now _)), fun _ => by rw [List.drop_of_length_le (by omega), List.drop_of_length_le (by omega)], fun _ => rfl⟩
  | n + 1, i, hi => by
    have dl : l.drop i = l[i] :: l.drop (i + 1) := List.drop_eq_getElem_cons (by omega)
    have dm : m.drop i = m[i] :: m.drop (i + 1) := List.drop_eq_getElem_cons (by omega)
    obtain ⟨r, h1, h2⟩ := same_is_loop l m hlen hs hl hm n (i + 1) (by omega)
    by_cases e1 : nm l[i] = nm m[i]
    · by_cases e2 : (strOfNums l[i].f1).toList = (strOfNums m[i].f1).toList
      · refine ⟨r, Ev.step (fun k => by unfold bindleref25_Same.l0; exact rfl) (ev_pos (by omega) (ev_pos (by omega) (ev_pos (by omega) ?_))), ?_⟩
        · rw [rdF l i (by omega), rdF m i (by omega), wadd i (by omega)]
          exact ev_pos (by rw [toList_ls, toList_ls]; exact e1) (ev_pos e2 h1)
        · have he : l[i] = m[i] := byte_eq (hl _ (List.getElem_mem _)) (hm _ (List.getElem_mem _)) e1 e2
          rw [h2, dl, dm, he]
          exact ⟨fun h => by rw [h], fun h => (List.cons.inj h).2⟩
      · refine ⟨false, Ev.step (fun k => by unfold bindleref25_Same.l0; exact rfl) (ev_pos (by omega) (ev_pos (by omega) (ev_pos (by omega) ?_))), (fun h => by cases h), fun h => ?_⟩
        · rw [rdF l i (by omega), rdF m i (by omega)]
          exact ev_pos (by rw [toList_ls, toList_ls]; exact e1) (ev_neg e2 (Ev.now _))
        · rw [dl, dm] at h
          exact absurd (by rw [(List.cons.inj h).1]) e2
    · refine ⟨false, Ev.step (fun k => by unfold bindleref25_Same.l0; exact rfl) (ev_pos (by omega) (ev_pos (by omega) (ev_pos (by omega) ?_))), (fun h => by cases h), fun h => ?_⟩
      · rw [rdF l i (by omega), rdF m i (by omega)]
        exact ev_neg (by rw [toList_ls, toList_ls]; exact e1) (Ev.now _)
      · rw [dl, dm] at h
        exact absurd (by rw [(List.cons.inj h).1]) e1
/-- Are lists of files whose data is bytes alike? -/
theorem same_is (l m : List S45) (hs : l.length ≤ 9000000) (hl : byteF l) (hm : byteF m) : ∃ r : Bool, Ev (fun k => bindleref25_Same.f k l m) r ∧ (r = true ↔ l = m) := by
  by_cases h : (l.length : Int) = (m.length : Int)
  · obtain ⟨r, h1, h2⟩ := same_is_loop l m (by omega) hs hl hm l.length 0 (by omega)
    rw [List.drop_zero, List.drop_zero] at h2
    exact ⟨r, Ev.congr (fun k => by unfold bindleref25_Same.f; exact rfl) (ev_pos h h1), h2⟩
  · exact ⟨false, Ev.congr (fun k => by unfold bindleref25_Same.f; exact rfl) (ev_neg h (Ev.now _)), (fun e => by cases e), fun e => absurd (by rw [e]) h⟩
/-- What a name has, when three maps are put together. -/
def fromN (x0 x1 x2 : List S45) (s : List UInt8) : Option S45 :=
  if likeO (look x1 s) (look x2 s) = true then look x1 s else if likeO (look x0 s) (look x2 s) = true then look x1 s else if likeO (look x0 s) (look x1 s) = true then look x2 s else look x0 s
def clashN (x0 x1 x2 : List S45) (s : List UInt8) : Bool := !(likeO (look x1 s) (look x2 s)) && !(likeO (look x0 s) (look x2 s)) && !(likeO (look x0 s) (look x1 s))
theorem fromN_nm {x0 x1 x2 : List S45} {s : List UInt8} {y : S45} (h : fromN x0 x1 x2 s = some y) : nm y = s ∧ (y ∈ x0 ∨ y ∈ x1 ∨ y ∈ x2) := by
  unfold fromN at h
  split at h
  · exact ⟨(look_nm h).1, .inr (.inl (look_nm h).2)⟩
  · split at h
    · exact ⟨(look_nm h).1, .inr (.inl (look_nm h).2)⟩
    · split at h
      · exact ⟨(look_nm h).1, .inr (.inr (look_nm h).2)⟩
      · exact ⟨(look_nm h).1, .inl (look_nm h).2⟩
section
variable (x0 x1 x2 : List S45)
theorem choose_ev (o p q : Option S45) : Ev (fun k => plan_choose.f k (valO o).1 (valO o).2 (valO p).1 (valO p).2 (valO q).1 (valO q).2)
    (let z := if likeO p q = true then p else if likeO o q = true then p else if likeO o p = true then q else o; ((valO z).1, (valO z).2, !(!(likeO p q) && !(likeO o q) && !(likeO o p)))) := by
  have e1 := val_like p q
  have e2 := val_like o q
  have e3 := val_like o p
  refine Ev.congr (fun k => by unfold plan_choose.f; exact rfl) ?_
  rw [e1]
  by_cases c12 : likeO p q = true
  · refine ev_pos c12 (Ev.step (fun k => by unfold plan_choose.j0; exact rfl) (ev_pos rfl ?_))
    simp only [c12, if_true]
    exact Ev.now _
  · have c12' : likeO p q = false := by simpa using c12
    refine ev_neg (by rw [c12']; decide) ?_
    rw [e2]
    by_cases c02 : likeO o q = true
    · rw [c02]
      refine Ev.step (fun k => by unfold plan_choose.j0; exact rfl) (ev_pos rfl ?_)
      simp only [c12', if_true]
      exact Ev.now _
    · have c02' : likeO o q = false := by simpa using c02
      rw [c02']
      refine Ev.step (fun k => by unfold plan_choose.j0; exact rfl) (ev_neg (by decide) ?_)
      rw [e3]
      by_cases c01 : likeO o p = true
      · refine ev_pos c01 ?_
        simp only [c12', c01, if_true]
        exact Ev.now _
      · have c01' : likeO o p = false := by simpa using c01
        refine ev_neg (by rw [c01']; decide) ?_
        simp only [c12', c01']
        exact Ev.now _
def planN (s : List UInt8) : Option S45 := (fromN x0 x1 x2 s).map fun y => ⟨mk s, bytesOf (strOfNums y.f1)⟩
theorem plan_l0 (N : List (List UInt8)) (hN : N.length ≤ 5000) (h0 : x0.length ≤ 1000) (h1 : x1.length ≤ 1000) (h2 : x2.length ≤ 1000) (a0 : Asc x0) (a1 : Asc x1) (a2 : Asc x2) (d0 : okF x0) (d1 : okF x1) (d2 : okF x2) : ∀ (n i : Nat) (out : List S45) (cl : List ByteArray), i + n = N.length → out.length ≤ i → cl.length ≤ i →
    Ev (fun k => plan_Merge.l0 k x0 x1 x2 out cl (N.map mk) ((N.map mk).length : Int) i) (out ++ (N.drop i).filterMap (planN x0 x1 x2), cl ++ ((N.drop i).filter (clashN x0 x1 x2)).map mk)
  | 0, i, out, cl, hi, ho, hc => by
    refine Ev.step (fun k => by unfold plan_Merge.l0; exact rfl) (ev_neg (by rw [List.length_map]; omega) ?_)
    rw [List.drop_of_length_le (by omega)]
    simpa using Ev.now (out, cl)
  | n + 1, i, out, cl, hi, ho, hc => by
    have dl : N.drop i = N[i] :: N.drop (i + 1) := List.drop_eq_getElem_cons (by omega)
    refine Ev.step (fun k => by unfold plan_Merge.l0; exact rfl) (ev_pos (by rw [List.length_map]; omega) (ev_pos (by omega) (ev_pos (by rw [List.length_map]; omega) ?_)))
    rw [rd_mk N i (by omega)]
    generalize hs : N[i] = s at dl
    have q0 := of_eq x0 (mk s) a0 (by omega) d0
    have q1 := of_eq x1 (mk s) a1 (by omega) d1
    have q2 := of_eq x2 (mk s) a2 (by omega) d2
    refine ev_bindc q0 (ev_bindc q1 (ev_bindc q2 (ev_bind (choose_ev (look x0 s) (look x1 s) (look x2 s)) ?_)))
    have hz : (if likeO (look x1 s) (look x2 s) = true then look x1 s else if likeO (look x0 s) (look x2 s) = true then look x1 s else if likeO (look x0 s) (look x1 s) = true then look x2 s else look x0 s) = fromN x0 x1 x2 s := rfl
    dsimp only
    rw [hz]
    have hw : wrap64 ((i : Int) + 1) = ((i + 1 : Nat) : Int) := wadd i (by omega)
    rw [hw]
    have ih := plan_l0 N hN h0 h1 h2 a0 a1 a2 d0 d1 d2 n (i + 1)
    have hfm : ∀ o : Option S45, planN x0 x1 x2 s = o → (out ++ (N.drop i).filterMap (planN x0 x1 x2)) = (out ++ o.toList) ++ (N.drop (i + 1)).filterMap (planN x0 x1 x2) := fun o ho => by
      rw [dl, List.append_assoc]
      congr 1
      cases o with
      | none => rw [List.filterMap_cons_none ho]; rfl
      | some y => rw [List.filterMap_cons_some ho]; rfl
    have hval : ∀ y, fromN x0 x1 x2 s = some y → (strOfNums y.f1).size ≤ 9223372036854775807 := fun y hy => by
      rw [strOf_size]
      rcases (fromN_nm hy).2 with h | h | h
      · have := d0 y h; omega
      · have := d1 y h; omega
      · have := d2 y h; omega
    by_cases hcl : clashN x0 x1 x2 s = true
    · have hb : (!(!(likeO (look x1 s) (look x2 s)) && !(likeO (look x0 s) (look x2 s)) && !(likeO (look x0 s) (look x1 s)))) = false := by
        rw [show (!(likeO (look x1 s) (look x2 s)) && !(likeO (look x0 s) (look x2 s)) && !(likeO (look x0 s) (look x1 s))) = true from hcl]; rfl
      rw [hb]
      refine ev_neg (by decide) (ev_pos (by omega) (ev_bindc rfl ?_))
      have hcs : cl ++ ((N.drop i).filter (clashN x0 x1 x2)).map mk = (cl ++ [mk s]) ++ ((N.drop (i + 1)).filter (clashN x0 x1 x2)).map mk := by
        rw [dl, List.filter_cons_of_pos hcl, List.append_assoc]
        rfl
      rw [hcs]
      cases hy : fromN x0 x1 x2 s with
      | none =>
        rw [hfm none (by unfold planN; rw [hy]; rfl)]
        refine ev_neg (by decide) ?_
        have := ih (out ++ []) (cl ++ [mk s]) (by omega) (by simp; omega) (by rw [List.length_append]; simp; omega)
        simpa using this
      | some y =>
        rw [hfm (some ⟨mk s, bytesOf (strOfNums y.f1)⟩) (by unfold planN; rw [hy]; rfl)]
        refine ev_pos rfl (ev_pos (hval y hy) (ev_pos (by omega) ?_))
        exact ih _ _ (by omega) (by rw [List.length_append]; simp; omega) (by rw [List.length_append]; simp; omega)
    · have hcl' : clashN x0 x1 x2 s = false := by simpa using hcl
      have hb : (!(!(likeO (look x1 s) (look x2 s)) && !(likeO (look x0 s) (look x2 s)) && !(likeO (look x0 s) (look x1 s)))) = true := by
        rw [show (!(likeO (look x1 s) (look x2 s)) && !(likeO (look x0 s) (look x2 s)) && !(likeO (look x0 s) (look x1 s))) = false from hcl']; rfl
      rw [hb]
      refine ev_pos rfl ?_
      have hcs : cl ++ ((N.drop i).filter (clashN x0 x1 x2)).map mk = cl ++ ((N.drop (i + 1)).filter (clashN x0 x1 x2)).map mk := by
        rw [dl, List.filter_cons_of_neg hcl]
      rw [hcs]
      cases hy : fromN x0 x1 x2 s with
      | none =>
        rw [hfm none (by unfold planN; rw [hy]; rfl)]
        refine ev_neg (by decide) ?_
        have := ih (out ++ []) cl (by omega) (by simp; omega) (by omega)
        simpa using this
      | some y =>
        rw [hfm (some ⟨mk s, bytesOf (strOfNums y.f1)⟩) (by unfold planN; rw [hy]; rfl)]
        refine ev_pos rfl (ev_pos (hval y hy) (ev_pos (by omega) ?_))
        exact ih _ _ (by omega) (by rw [List.length_append]; simp; omega) (by omega)
theorem plan_merge (h0 : x0.length ≤ 1000) (h1 : x1.length ≤ 1000) (h2 : x2.length ≤ 1000) (a0 : Asc x0) (a1 : Asc x1) (a2 : Asc x2) (d0 : okF x0) (d1 : okF x1) (d2 : okF x2) : ∃ N : List (List UInt8), N.Pairwise (· < ·) ∧ (∀ x, x ∈ N ↔ x ∈ x0.map nm ∨ x ∈ x1.map nm ∨ x ∈ x2.map nm) ∧
    Ev (fun k => plan_Merge.f k x0 x1 x2) (N.filterMap (planN x0 x1 x2), (N.filter (clashN x0 x1 x2)).map mk) := by
  have hl : (plan_names.all_ [x0, x1, x2]).length = x0.length + (x1.length + x2.length) := by
    unfold plan_names.all_
    simp
  obtain ⟨N, e1, e2, e3, e4⟩ := names_eq [x0, x1, x2] (by omega)
  refine ⟨N, e2, fun x => (e3 x).trans (by simp), Ev.congr (fun k => rfl) (ev_bindc e1 ?_)⟩
  have := plan_l0 x0 x1 x2 N (by omega) h0 h1 h2 a0 a1 a2 d0 d1 d2 N.length 0 [] [] (by omega) (by simp) (by simp)
  rw [List.drop_zero, List.nil_append, List.nil_append] at this
  exact this
end
theorem planN_map (x0 x1 x2 : List S45) : ∀ N : List (List UInt8), N.filterMap (planN x0 x1 x2) = (N.filterMap (fromN x0 x1 x2)).map anew
  | [] => rfl
  | s :: r => by
    have ih := planN_map x0 x1 x2 r
    cases hy : fromN x0 x1 x2 s with
    | none => rw [List.filterMap_cons_none (by unfold planN; rw [hy]; rfl), List.filterMap_cons_none hy, ih]
    | some y =>
      have : planN x0 x1 x2 s = some (anew y) := by
        unfold planN anew
        rw [hy, ← (fromN_nm hy).1]
        rfl
      rw [List.filterMap_cons_some this, List.filterMap_cons_some hy, List.map_cons, ih]
theorem data_ok {l : List S45} (h : ∀ e ∈ l, good45 e) : okF l := fun y hy => by
  have := (h y hy).2.2.1
  omega
theorem data_byte {l : List S45} (h : ∀ e ∈ l, good45 e) : byteF l := fun y hy => bytes_good (h y hy).2.2.2
theorem diff_ok (a b : List S45) (hb : byteF b) (hk : okF b) : okO (diffL a b) := fun o ho => by
  rcases diff_mem a b ho with ⟨y, _, _, rfl⟩ | ⟨y, hy, _, rfl⟩
  · exact ⟨Nat.zero_le _, rfl⟩
  · exact ⟨hk y hy, hb y hy⟩
theorem diff_len (a b : List S45) : (diffL a b).length ≤ a.length + b.length := by
  unfold diffL
  rw [List.length_map]
  exact stepsB_len a b
/-- What a list made out of names has for a name. -/
theorem look_names (g : List UInt8 → Option S45) (hg : ∀ s y, g s = some y → nm y = s) (s : List UInt8) : ∀ N : List (List UInt8), N.Pairwise (· < ·) → look (N.filterMap g) s = if s ∈ N then g s else none
  | [], _ => by rw [if_neg (by simp)]; rfl
  | n :: r, h => by
    obtain ⟨h1, h2⟩ := List.pairwise_cons.1 h
    have ih := look_names g hg s r h2
    cases hn : g n with
    | none =>
      rw [List.filterMap_cons_none hn, ih]
      by_cases e : s = n
      · subst e
        rw [if_neg (fun hm => str_irrefl _ (h1 _ hm)), if_pos List.mem_cons_self, hn]
      · by_cases hm : s ∈ r
        · rw [if_pos hm, if_pos (List.mem_cons_of_mem _ hm)]
        · rw [if_neg hm, if_neg (fun hc => (List.mem_cons.1 hc).elim e hm)]
    | some y =>
      rw [List.filterMap_cons_some hn, look_cons, ih]
      have hy := hg n y hn
      by_cases e : s = n
      · subst e
        rw [if_pos hy, if_pos List.mem_cons_self, hn]
      · rw [if_neg (fun e2 => e (by rw [← hy, e2]))]
        by_cases hm : s ∈ r
        · rw [if_pos hm, if_pos (List.mem_cons_of_mem _ hm)]
        · rw [if_neg hm, if_neg (fun hc => (List.mem_cons.1 hc).elim e hm)]
theorem names_asc (g : List UInt8 → Option S45) (hg : ∀ s y, g s = some y → nm y = s) : ∀ N : List (List UInt8), N.Pairwise (· < ·) → Asc (N.filterMap g) ∧ ∀ y ∈ N.filterMap g, nm y ∈ N
  | [], _ => ⟨List.Pairwise.nil, fun y hy => by cases hy⟩
  | n :: r, h => by
    obtain ⟨h1, h2⟩ := List.pairwise_cons.1 h
    obtain ⟨i1, i2⟩ := names_asc g hg r h2
    cases hn : g n with
    | none =>
      rw [List.filterMap_cons_none hn]
      exact ⟨i1, fun y hy => List.mem_cons_of_mem _ (i2 y hy)⟩
    | some y =>
      rw [List.filterMap_cons_some hn]
      have hy := hg n y hn
      refine ⟨?_, fun z hz => ?_⟩
      · unfold Asc
        rw [List.map_cons]
        refine List.pairwise_cons.2 ⟨fun x hx => ?_, i1⟩
        obtain ⟨z, hz, rfl⟩ := List.mem_map.1 hx
        rw [hy]
        exact h1 _ (i2 z hz)
      · rcases List.mem_cons.1 hz with rfl | hz
        · rw [hy]; exact List.mem_cons_self
        · exact List.mem_cons_of_mem _ (i2 z hz)
/-- Three maps put together: which map, and which names clash. -/
def Puts (x0 x1 x2 M : List S45) (C : List ByteArray) : Prop :=
  Asc M ∧ byteF M ∧ okF M ∧ M.length ≤ 5000 ∧ (∀ s, look M s = fromN x0 x1 x2 s) ∧ ∃ N : List (List UInt8), N.Pairwise (· < ·) ∧ (∀ s, s ∈ N ↔ s ∈ x0.map nm ∨ s ∈ x1.map nm ∨ s ∈ x2.map nm) ∧ N.length ≤ 5000 ∧ C = (N.filter (clashN x0 x1 x2)).map mk
theorem fromN_none {x0 x1 x2 : List S45} {s : List UInt8} (h : ¬ (s ∈ x0.map nm ∨ s ∈ x1.map nm ∨ s ∈ x2.map nm)) : fromN x0 x1 x2 s = none := by
  cases hf : fromN x0 x1 x2 s with
  | none => rfl
  | some y =>
    obtain ⟨h1, h2⟩ := fromN_nm hf
    exfalso
    apply h
    rw [← h1]
    rcases h2 with h2 | h2 | h2
    · exact .inl (List.mem_map_of_mem h2)
    · exact .inr (.inl (List.mem_map_of_mem h2))
    · exact .inr (.inr (List.mem_map_of_mem h2))
theorem puts_ev (x0 x1 x2 : List S45) (h0 : x0.length ≤ 250) (h1 : x1.length ≤ 250) (h2 : x2.length ≤ 250) (a0 : Asc x0) (a1 : Asc x1) (a2 : Asc x2) (d0 : okF x0) (d1 : okF x1) (d2 : okF x2) (b0 : byteF x0) (b1 : byteF x1) (b2 : byteF x2) : ∃ M C, Ev (fun k => plan_Merge.f k x0 x1 x2) (M, C) ∧ Puts x0 x1 x2 M C := by
  obtain ⟨N, e1, e2, e3⟩ := plan_merge x0 x1 x2 (by omega) (by omega) (by omega) a0 a1 a2 d0 d1 d2
  have hg : ∀ s y, fromN x0 x1 x2 s = some y → nm y = s := fun s y h => (fromN_nm h).1
  have hfrom : ∀ y ∈ N.filterMap (fromN x0 x1 x2), y ∈ x0 ∨ y ∈ x1 ∨ y ∈ x2 := fun y hy => by
    obtain ⟨s, _, hs⟩ := List.mem_filterMap.1 hy
    exact (fromN_nm hs).2
  have hb : byteF (N.filterMap (fromN x0 x1 x2)) := fun y hy => by
    rcases hfrom y hy with h | h | h
    · exact b0 y h
    · exact b1 y h
    · exact b2 y h
  have hk : okF (N.filterMap (fromN x0 x1 x2)) := fun y hy => by
    rcases hfrom y hy with h | h | h
    · exact d0 y h
    · exact d1 y h
    · exact d2 y h
  have hM : N.filterMap (planN x0 x1 x2) = N.filterMap (fromN x0 x1 x2) := by
    rw [planN_map]
    conv => rhs; rw [← List.map_id (N.filterMap (fromN x0 x1 x2))]
    refine List.map_congr_left fun y hy => ?_
    show (⟨y.f0, bytesOf (strOfNums y.f1)⟩ : S45) = y
    rw [hb y hy]
  rw [hM] at e3
  obtain ⟨n1, n2⟩ := names_asc (fromN x0 x1 x2) hg N e1
  have hlook : ∀ s, look (N.filterMap (fromN x0 x1 x2)) s = fromN x0 x1 x2 s := fun s => by
    rw [look_names (fromN x0 x1 x2) hg s N e1]
    by_cases hm : s ∈ N
    · rw [if_pos hm]
    · rw [if_neg hm, fromN_none (fun h => hm ((e2 s).2 h))]
  have hN : N = insAll (insAll (insAll [] (x0.map nm)) (x1.map nm)) (x2.map nm) := strict_ext e1 (insAll_spec _ _ (insAll_spec _ _ (insAll_spec _ _ List.Pairwise.nil).1).1).1 fun s => by
    rw [e2, (insAll_spec _ _ (insAll_spec _ _ (insAll_spec _ _ List.Pairwise.nil).1).1).2, (insAll_spec _ _ (insAll_spec _ _ List.Pairwise.nil).1).2, (insAll_spec _ _ List.Pairwise.nil).2]
    simp [or_assoc]
  have hlen : N.length ≤ 750 := by
    have hi : ∀ (l o : List (List UInt8)), (insAll o l).length ≤ o.length + l.length := fun l => by
      induction l with
      | nil => intro o; exact Nat.le_refl _
      | cons x r ih =>
        intro o
        have := ih (ins x o)
        have := ins_len x o
        unfold insAll
        rw [List.length_cons]
        omega
    rw [hN]
    have i1 := hi (x0.map nm) []
    have i2 := hi (x1.map nm) (insAll [] (x0.map nm))
    have i3 := hi (x2.map nm) (insAll (insAll [] (x0.map nm)) (x1.map nm))
    rw [List.length_map] at i1 i2 i3
    simp only [List.length_nil] at i1
    omega
  exact ⟨_, _, e3, n1, hb, hk, by have := List.length_filterMap_le (fromN x0 x1 x2) N; omega, hlook, N, e1, e2, by omega, rfl⟩
section
variable {x0 x1 x2 : List S45} (b0 : byteF x0) (b1 : byteF x1) (b2 : byteF x2)
include b0 b1 b2
theorem from_swap (s : List UInt8) : fromN x0 x1 x2 s = fromN x0 x2 x1 s := by
  unfold fromN
  by_cases h12 : likeO (look x1 s) (look x2 s) = true
  · have e := (like_look b1 b2 s).1 h12
    rw [if_pos h12, if_pos ((like_look b2 b1 s).2 e.symm), e]
  · rw [if_neg h12, if_neg (fun h => h12 ((like_look b1 b2 s).2 ((like_look b2 b1 s).1 h).symm))]
    by_cases h02 : likeO (look x0 s) (look x2 s) = true
    · have h01 : ¬ likeO (look x0 s) (look x1 s) = true := fun h => h12 ((like_look b1 b2 s).2 (((like_look b0 b1 s).1 h).symm.trans ((like_look b0 b2 s).1 h02)))
      rw [if_pos h02, if_neg h01, if_pos h02]
    · rw [if_neg h02]
      by_cases h01 : likeO (look x0 s) (look x1 s) = true
      · rw [if_pos h01, if_pos h01]
      · rw [if_neg h01, if_neg h01, if_neg h02]
omit b0 in
theorem clash_swap (s : List UInt8) : clashN x0 x1 x2 s = clashN x0 x2 x1 s := by
  have e : likeO (look x1 s) (look x2 s) = likeO (look x2 s) (look x1 s) := by
    rw [Bool.eq_iff_iff, like_look b1 b2, like_look b2 b1]
    exact eq_comm
  unfold clashN
  rw [e]
  cases likeO (look x2 s) (look x1 s) <;> cases likeO (look x0 s) (look x2 s) <;> cases likeO (look x0 s) (look x1 s) <;> rfl
end
theorem like_self {x : List S45} (b : byteF x) (s : List UInt8) : likeO (look x s) (look x s) = true := (like_look b b s).2 rfl
theorem puts_swap {x0 x1 x2 M M' : List S45} {C C' : List ByteArray} (b0 : byteF x0) (b1 : byteF x1) (b2 : byteF x2) (h : Puts x0 x1 x2 M C) (h' : Puts x0 x2 x1 M' C') : M = M' ∧ C = C' := by
  obtain ⟨a, _, _, _, l, N, n1, n2, _, rfl⟩ := h
  obtain ⟨a', _, _, _, l', N', n1', n2', _, rfl⟩ := h'
  refine ⟨asc_ext a a' fun s => by rw [l, l', from_swap b0 b1 b2], ?_⟩
  have : N = N' := strict_ext n1 n1' fun s => by
    rw [n2, n2']
    constructor
    · rintro (h | h | h)
      · exact .inl h
      · exact .inr (.inr h)
      · exact .inr (.inl h)
    · rintro (h | h | h)
      · exact .inl h
      · exact .inr (.inr h)
      · exact .inr (.inl h)
  rw [this]
  congr 1
  refine List.filter_congr fun s _ => clash_swap b1 b2 s
theorem puts_base {x0 x1 M : List S45} {C : List ByteArray} (b0 : byteF x0) (a1 : Asc x1) (h : Puts x0 x1 x0 M C) : M = x1 ∧ C = [] := by
  obtain ⟨a, _, _, _, l, N, n1, n2, _, rfl⟩ := h
  refine ⟨asc_ext a a1 fun s => ?_, ?_⟩
  · rw [l]
    unfold fromN
    by_cases h : likeO (look x1 s) (look x0 s) = true
    · rw [if_pos h]
    · rw [if_neg h, if_pos (like_self b0 s)]
  · have : N.filter (clashN x0 x1 x0) = [] := List.filter_eq_nil_iff.2 fun s _ => by
      unfold clashN
      rw [like_self b0 s]
      simp
    rw [this]
    rfl
theorem puts_self {x0 x1 M : List S45} {C : List ByteArray} (b1 : byteF x1) (a1 : Asc x1) (h : Puts x0 x1 x1 M C) : M = x1 ∧ C = [] := by
  obtain ⟨a, _, _, _, l, N, n1, n2, _, rfl⟩ := h
  refine ⟨asc_ext a a1 fun s => ?_, ?_⟩
  · rw [l]
    unfold fromN
    rw [if_pos (like_self b1 s)]
  · have : N.filter (clashN x0 x1 x1) = [] := List.filter_eq_nil_iff.2 fun s _ => by
      unfold clashN
      rw [like_self b1 s]
      simp
    rw [this]
    rfl
/-- Where nothing clashes, the one's steps, done with the other. -/
theorem puts_steps {x0 x1 x2 M z : List S45} (b0 : byteF x0) (b1 : byteF x1) (b2 : byteF x2) (a0 : Asc x0) (a1 : Asc x1) (a2 : Asc x2) (h : Puts x0 x1 x2 M []) (hz : applyL x2 (diffL x0 x1) = (z, 0)) : z = M := by
  obtain ⟨a, _, _, _, l, N, n1, n2, _, hc⟩ := h
  have hno : ∀ s, clashN x0 x1 x2 s = false := fun s => by
    by_cases hm : s ∈ N
    · cases hcl : clashN x0 x1 x2 s with
      | false => rfl
      | true =>
        have : mk s ∈ (N.filter (clashN x0 x1 x2)).map mk := List.mem_map_of_mem (List.mem_filter.2 ⟨hm, hcl⟩)
        rw [← hc] at this
        cases this
    · have hl : ∀ x : List S45, s ∉ x.map nm → look x s = none := fun x hx => look_none fun y hy e => hx (by rw [← e]; exact List.mem_map_of_mem hy)
      have h3 : ¬ (s ∈ x0.map nm ∨ s ∈ x1.map nm ∨ s ∈ x2.map nm) := fun h => hm ((n2 s).2 h)
      unfold clashN
      rw [hl x1 (fun h => h3 (.inr (.inl h))), hl x2 (fun h => h3 (.inr (.inr h)))]
      rfl
  have haz : Asc z := by
    have := apply_asc (diffL x0 x1) x2 a2
    rw [hz] at this
    exact this
  refine asc_ext haz a fun s => ?_
  obtain ⟨d1, d2⟩ := diff_look x0 x1 a0 a1 b0 b1 x2 z hz s
  rw [l]
  have hcs := hno s
  unfold fromN
  by_cases e01 : look x0 s = look x1 s
  · rw [d1 e01]
    by_cases h12 : likeO (look x1 s) (look x2 s) = true
    · rw [if_pos h12, (like_look b1 b2 s).1 h12]
    · rw [if_neg h12]
      by_cases h02 : likeO (look x0 s) (look x2 s) = true
      · rw [if_pos h02, ← e01, (like_look b0 b2 s).1 h02]
      · rw [if_neg h02, if_pos ((like_look b0 b1 s).2 e01)]
  · rw [d2 e01]
    by_cases h12 : likeO (look x1 s) (look x2 s) = true
    · rw [if_pos h12]
    · rw [if_neg h12]
      by_cases h02 : likeO (look x0 s) (look x2 s) = true
      · rw [if_pos h02]
      · exfalso
        have h01 : ¬ likeO (look x0 s) (look x1 s) = true := fun h => e01 ((like_look b0 b1 s).1 h)
        unfold clashN at hcs
        rw [show likeO (look x1 s) (look x2 s) = false by simpa using h12, show likeO (look x0 s) (look x2 s) = false by simpa using h02, show likeO (look x0 s) (look x1 s) = false by simpa using h01] at hcs
        cases hcs
theorem alive (x0 x1 x2 : List S45) : Ev (fun k => bindlelaw38_PlanJoins.j0 k x0 x1 x2 true) true :=
  Ev.step (fun k => by unfold bindlelaw38_PlanJoins.j0; exact rfl) (ev_pos rfl (ev_bindc lives (Ev.now _)))
theorem joins (x0 x1 x2 : List S45) (h0 : x0.length ≤ 250) (h1 : x1.length ≤ 250) (h2 : x2.length ≤ 250) (a0 : Asc x0) (a1 : Asc x1) (a2 : Asc x2) (d0 : okF x0) (d1 : okF x1) (d2 : okF x2) (b0 : byteF x0) (b1 : byteF x1) (b2 : byteF x2) : Ev (fun k => bindlelaw38_PlanJoins.j0 k x0 x1 x2 false) true := by
  obtain ⟨M, C, e1, p1⟩ := puts_ev x0 x1 x2 h0 h1 h2 a0 a1 a2 d0 d1 d2 b0 b1 b2
  obtain ⟨M2, C2, e2, p2⟩ := puts_ev x0 x2 x1 h0 h2 h1 a0 a2 a1 d0 d2 d1 b0 b2 b1
  obtain ⟨M3, C3, e3, p3⟩ := puts_ev x0 x1 x0 h0 h1 h0 a0 a1 a0 d0 d1 d0 b0 b1 b0
  obtain ⟨M4, C4, e4, p4⟩ := puts_ev x0 x1 x1 h0 h1 h1 a0 a1 a1 d0 d1 d1 b0 b1 b1
  obtain ⟨s2a, s2b⟩ := puts_swap b0 b1 b2 p1 p2
  rw [← s2a, ← s2b] at e2
  obtain ⟨s3a, s3b⟩ := puts_base b0 a1 p3
  rw [s3a, s3b] at e3
  obtain ⟨s4a, s4b⟩ := puts_self b1 a1 p4
  rw [s4a, s4b] at e4
  have hlen := p1.2.2.2.1
  have hC : C.length ≤ 9000000 := by
    obtain ⟨_, _, _, _, _, N, _, _, hN, rfl⟩ := p1
    rw [List.length_map]
    have := List.length_filter_le (clashN x0 x1 x2) N
    omega
  have sC := same C C hC
  rw [decide_eq_true rfl] at sC
  have s1 := same_refl M (by omega)
  have s2 := same_refl x1 (by omega)
  refine Ev.step (fun k => by unfold bindlelaw38_PlanJoins.j0; exact rfl) (ev_neg (by decide) (ev_bind e1 (ev_bind e2 (ev_bind e3 (ev_bind e4 (ev_bind s1 (ev_pos rfl (ev_bind sC (ev_pos rfl (ev_bind s2 (ev_pos rfl (ev_pos rfl (ev_bind s2 (ev_pos rfl ?_))))))))))))))
  have hz : (((([] : List ByteArray).length : Nat) : Int) != 0) = false := by decide
  rw [hz]
  refine Ev.step (fun k => by unfold bindlelaw38_PlanJoins.j1; exact rfl) (ev_neg (by decide) ?_)
  by_cases hpos : (C.length : Int) > 0
  · exact ev_pos hpos (ev_bindc lives (Ev.now _))
  · have hC0 : C = [] := List.eq_nil_of_length_eq_zero (by omega)
    subst hC0
    have s01 := plan_diff x0 x1 a0 a1 (by omega) (by omega) d0 d1
    rw [told_byte x0 x1 b1] at s01
    have n01 := diff_len x0 x1
    have hok := diff_ok x0 x1 b1 d1
    have pa := papply_ev x2 (diffL x0 x1) (by omega) hok a2 d2 (by omega)
    have hl := apply_len (diffL x0 x1) x2
    refine ev_neg hpos (ev_bindc s01 (ev_bind pa ?_))
    have hst := fun z => puts_steps (z := z) b0 b1 b2 a0 a1 a2 p1
    generalize applyL x2 (diffL x0 x1) = q at hl hst
    obtain ⟨z, e⟩ := q
    by_cases he : e = 0
    · subst he
      have hzM : z = M := hst z rfl
      subst hzM
      exact ev_pos rfl (ev_bind s1 (ev_pos rfl (ev_bindc lives (Ev.now _))))
    · exact ev_neg he (ev_bindc lives (Ev.now _))
theorem PlanJoins : bindlelaw38_PlanJoins.Pure := by
  intro x0 x1 x2 g0 g1 g2
  refine Ev.rounds (g := fun k => bindlelaw38_PlanJoins.f k x0 x1 x2) ?_
  refine Ev.congr (fun k => by unfold bindlelaw38_PlanJoins.f; exact rfl) ?_
  obtain ⟨w0, q0, r0⟩ := wide_ev x0
  obtain ⟨w1, q1, r1⟩ := wide_ev x1
  obtain ⟨w2, q2, r2⟩ := wide_ev x2
  refine ev_bind q0 ?_
  cases w0 with
  | true => exact ev_pos rfl (alive x0 x1 x2)
  | false =>
    refine ev_neg (by decide) (ev_bind q1 ?_)
    cases w1 with
    | true => exact ev_pos rfl (alive x0 x1 x2)
    | false =>
      refine ev_neg (by decide) (ev_bind q2 ?_)
      cases w2 with
      | true => exact ev_pos rfl (alive x0 x1 x2)
      | false =>
        have l0 := r0 rfl
        have l1 := r1 rfl
        have l2 := r2 rfl
        obtain ⟨m0, p0, s0⟩ := map_ev x0 (by omega)
        obtain ⟨m1, p1, s1⟩ := map_ev x1 (by omega)
        obtain ⟨m2, p2, s2⟩ := map_ev x2 (by omega)
        refine ev_neg (by decide) (ev_bind p0 ?_)
        cases m0 with
        | false => exact ev_neg (by decide) (alive x0 x1 x2)
        | true =>
          refine ev_pos rfl (ev_bind p1 ?_)
          cases m1 with
          | false => exact ev_neg (by decide) (alive x0 x1 x2)
          | true =>
            refine ev_pos rfl (ev_bind p2 ?_)
            cases m2 with
            | false => exact alive x0 x1 x2
            | true => exact joins x0 x1 x2 l0 l1 l2 (s0.1 rfl) (s1.1 rfl) (s2.1 rfl) (data_ok g0.2.2) (data_ok g1.2.2) (data_ok g2.2.2) (data_byte g0.2.2) (data_byte g1.2.2) (data_byte g2.2.2)
end Go.Proofs.YtcfcbkcaondfcaaDoor.Pure
