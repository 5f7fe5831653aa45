/- Statement 38.4: a difference of maps that may be kept, applied, is the other map, and back again the first one; a map has none from itself; without any one of its steps it leads elsewhere, or nowhere. -/
import Derived.Test.YtcfcbkcaondfcaaDoorPPlanLeadsx7
import Derived.Sort.Walk0
import Derived.OpenShut
namespace Go.Proofs.YtcfcbkcaondfcaaDoor.Pure
open Go.RowKit Go.Proofs.YtcfcbkcaondfcaaDoor.PPlanLeads Go.Proofs.YtcfcbkcaondfcaaDoorW.PrintWords Go.Proofs.YtcfcbkcaondfcaaDoorW.PrintLast Go.Proofs.YtcfcbkcaondfcaaDoorW.PrintMore
theorem w64 {n : Int} (h : -9223372036854775808 ≤ n) (h' : n ≤ 9223372036854775807) : wrap64 n = n := by
  unfold wrap64
  omega
theorem w64_l (a b : Int) : wrap64 (wrap64 a + b) = wrap64 (a + b) := by
  unfold wrap64
  omega
theorem w64_r (a b : Int) : wrap64 (a + wrap64 b) = wrap64 (a + b) := by
  unfold wrap64
  omega
theorem i64_bounds {n : Int} (h : (Lit.int .i64 n).wf = true) : -9223372036854775808 ≤ n ∧ n ≤ 9223372036854775807 := Go.bounds_i64 h
theorem ev_const {α : Type} {o : Option α} {a : α} (h : o = some a) : Ev (fun _ => o) a := ⟨0, fun _ _ => h⟩
theorem ev_pos {α : Type} {c : Prop} [Decidable c] {g h : Nat → Option α} {r : α} (hc : c) (hg : Ev g r) : Ev (fun k => if c then g k else h k) r := by
  obtain ⟨K, hg⟩ := hg
  exact ⟨K, fun k hk => by simp only [if_pos hc]; exact hg k hk⟩
theorem ev_neg {α : Type} {c : Prop} [Decidable c] {g h : Nat → Option α} {r : α} (hc : ¬ c) (hg : Ev h r) : Ev (fun k => if c then g k else h k) r := by
  obtain ⟨K, hg⟩ := hg
  exact ⟨K, fun k hk => by simp only [if_neg hc]; exact hg k hk⟩
theorem ev_from {α : Type} {g : Nat → Option α} {r : α} (K : Nat) (h : ∀ k, K ≤ k → g k = some r) : Ev g r := ⟨K, h⟩
theorem ev_bind {α β : Type} {g : Nat → Option α} {f : Nat → α → Option β} {a : α} {r : β} (h : Ev g a) (k : Ev (fun n => f n a) r) : Ev (fun n => (g n).bind (f n)) r := h.bind k
theorem ev_bindc {α β : Type} {o : Option α} {f : Nat → α → Option β} {a : α} {r : β} (h : o = some a) (k : Ev (fun n => f n a) r) : Ev (fun n => o.bind (f n)) r := (ev_const h).bind k
theorem toList_inj {a b : ByteArray} (h : a.toList = b.toList) : a = b := by
  rw [ByteArray.toList_eq, ByteArray.toList_eq] at h
  exact Go.WideShapes.bytes_inj h
/-- A text's bytes as a list. -/
abbrev ls (a : ByteArray) : List UInt8 := a.data.toList
abbrev mk (l : List UInt8) : ByteArray := ⟨l.toArray⟩
theorem ls_len (a : ByteArray) : (ls a).length = a.size := Array.length_toList
theorem ls_mk (l : List UInt8) : ls (mk l) = l := rfl
theorem mk_ls (a : ByteArray) : mk (ls a) = a := rfl
theorem ls_inj {a b : ByteArray} (h : ls a = ls b) : a = b := Go.WideShapes.bytes_inj h
theorem mk_append (x y : List UInt8) : mk (x ++ y) = mk x ++ mk y := by
  apply ls_inj
  simp [ls, mk]
theorem mk_size (l : List UInt8) : (mk l).size = l.length := by
  show l.toArray.size = _
  rw [List.size_toArray]
theorem extract_ls (a : ByteArray) (i j : Nat) : ls (a.extract i j) = ((ls a).drop i).take (j - i) := by
  show (a.extract i j).data.toList = _
  rw [ByteArray.data_extract, Array.toList_extract]
theorem extract_mk (a : ByteArray) (i j : Nat) : a.extract i j = mk (((ls a).drop i).take (j - i)) := ls_inj (by rw [extract_ls])
theorem bt_nat (a : ByteArray) (i : Nat) (h : i < a.size) : bt a (i : Int) = (((ls a)[i]'(by rw [ls_len]; exact h)).toNat : Int) := by
  unfold bt
  rw [dif_pos (by simpa using h)]
  rfl
/-- A text's parts put together, with bytes 47 between. -/
def joinP : List (List UInt8) → List UInt8
  | [] => []
  | x :: r => x ++ r.flatMap (47 :: ·)
theorem joinP_snoc (l : List (List UInt8)) (h : l ≠ []) (x : List UInt8) : joinP (l ++ [x]) = joinP l ++ 47 :: x := by
  cases l with
  | nil => exact absurd rfl h
  | cons a r => simp [joinP]
theorem split_cons (x : UInt8) (r : List UInt8) : YtcfcbkcaondfcaaDoorMpHelp.splitL 47 (x :: r) = if x = 47 then [] :: YtcfcbkcaondfcaaDoorMpHelp.splitL 47 r else match YtcfcbkcaondfcaaDoorMpHelp.splitL 47 r with
    | h :: t => (x :: h) :: t
    | [] => [[x]] := rfl
def pre (p : List UInt8) : List (List UInt8) → List (List UInt8)
  | h :: t => (p ++ h) :: t
  | [] => [p]
theorem pre_nil {l : List (List UInt8)} (h : l ≠ []) : pre [] l = l := by
  cases l with
  | nil => exact absurd rfl h
  | cons a r => rfl
theorem pre_pre (p q : List UInt8) (l : List (List UInt8)) : pre p (pre q l) = pre (p ++ q) l := by
  cases l <;> simp [pre]
theorem split_ne {x : UInt8} (h : x ≠ 47) (r : List UInt8) : YtcfcbkcaondfcaaDoorMpHelp.splitL 47 (x :: r) = pre [x] (YtcfcbkcaondfcaaDoorMpHelp.splitL 47 r) := by
  rw [split_cons, if_neg h]
  cases YtcfcbkcaondfcaaDoorMpHelp.splitL 47 r <;> rfl
theorem split_eq (r : List UInt8) : YtcfcbkcaondfcaaDoorMpHelp.splitL 47 (47 :: r) = [] :: YtcfcbkcaondfcaaDoorMpHelp.splitL 47 r := by rw [split_cons, if_pos rfl]
theorem split_pos (s : List UInt8) : YtcfcbkcaondfcaaDoorMpHelp.splitL 47 s ≠ [] := YtcfcbkcaondfcaaDoorMpHelp.splitL_ne 47 s
theorem split_all (p : UInt8 → Bool) (hp : p 47 = true) : ∀ s : List UInt8, ((YtcfcbkcaondfcaaDoorMpHelp.splitL 47 s).all fun l => l.all p) = s.all p
  | [] => by rfl
  | x :: r => by
    have ih := split_all p hp r
    by_cases hx : x = 47
    · subst hx
      rw [split_eq, List.all_cons, ih, List.all_cons, hp]
      rfl
    · rw [split_ne hx, List.all_cons, ← ih]
      have := split_pos r
      cases h : YtcfcbkcaondfcaaDoorMpHelp.splitL 47 r with
      | nil => exact absurd h this
      | cons a t => simp [pre, Bool.and_assoc]
theorem split_join : ∀ s : List UInt8, joinP (YtcfcbkcaondfcaaDoorMpHelp.splitL 47 s) = s
  | [] => by rfl
  | x :: r => by
    have ih := split_join r
    have hn := split_pos r
    by_cases hx : x = 47
    · subst hx
      rw [split_eq]
      cases h : YtcfcbkcaondfcaaDoorMpHelp.splitL 47 r with
      | nil => exact absurd h hn
      | cons a t =>
        rw [h] at ih
        rw [← ih]
        simp [joinP]
    · rw [split_ne hx]
      cases h : YtcfcbkcaondfcaaDoorMpHelp.splitL 47 r with
      | nil => exact absurd h hn
      | cons a t =>
        rw [h] at ih
        rw [← ih]
        simp [joinP, pre]
theorem split_no : ∀ (s : List UInt8), ∀ l ∈ YtcfcbkcaondfcaaDoorMpHelp.splitL 47 s, (47 : UInt8) ∉ l
  | [] => by simp [YtcfcbkcaondfcaaDoorMpHelp.splitL]
  | x :: r => by
    have ih := split_no r
    by_cases hx : x = 47
    · subst hx
      rw [split_eq]
      intro l hl
      rcases List.mem_cons.1 hl with rfl | hl
      · simp
      · exact ih l hl
    · rw [split_ne hx]
      have hn := split_pos r
      cases h : YtcfcbkcaondfcaaDoorMpHelp.splitL 47 r with
      | nil => exact absurd h hn
      | cons a t =>
        rw [h] at ih
        intro l hl
        rcases List.mem_cons.1 hl with rfl | hl
        · simp only [List.cons_append, List.nil_append, List.mem_cons, not_or]
          exact ⟨fun e => hx e.symm, ih a List.mem_cons_self⟩
        · exact ih l (List.mem_cons_of_mem _ hl)
theorem split_len (s : List UInt8) : (YtcfcbkcaondfcaaDoorMpHelp.splitL 47 s).length ≤ s.length + 1 := by
  induction s with
  | nil => simp [YtcfcbkcaondfcaaDoorMpHelp.splitL]
  | cons x r ih =>
    by_cases hx : x = 47
    · subst hx
      rw [split_eq]
      simp only [List.length_cons]
      omega
    · rw [split_ne hx]
      cases h : YtcfcbkcaondfcaaDoorMpHelp.splitL 47 r with
      | nil => simp [pre]
      | cons a t => rw [h] at ih; simp only [pre, List.length_cons] at ih ⊢; omega
theorem split_part (s : List UInt8) : ∀ l ∈ YtcfcbkcaondfcaaDoorMpHelp.splitL 47 s, l.length ≤ s.length := by
  induction s with
  | nil => simp [YtcfcbkcaondfcaaDoorMpHelp.splitL]
  | cons x r ih =>
    intro l hl
    by_cases hx : x = 47
    · subst hx
      rw [split_eq] at hl
      rcases List.mem_cons.1 hl with rfl | hl
      · simp
      · have := ih l hl; simp only [List.length_cons]; omega
    · rw [split_ne hx] at hl
      cases h : YtcfcbkcaondfcaaDoorMpHelp.splitL 47 r with
      | nil => exact absurd h (split_pos r)
      | cons a t =>
        rw [h] at ih hl
        rcases List.mem_cons.1 hl with rfl | hl
        · have := ih a List.mem_cons_self; simp only [List.cons_append, List.nil_append, List.length_cons]; omega
        · have := ih l (List.mem_cons_of_mem _ hl); simp only [List.length_cons]; omega
/-- The document's parts. -/
def partsB (a : ByteArray) : List ByteArray := (YtcfcbkcaondfcaaDoorMpHelp.splitL 47 (ls a)).map mk
theorem refParts_loop (a : ByteArray) (hs : a.size ≤ 1000000) : ∀ (n i from_ : Nat) (acc : List ByteArray), i + n = a.size → from_ ≤ i → acc.length ≤ i →
    Ev (fun k => bindleref15_Parts.l0 k a acc from_ i) (acc ++ (pre (((ls a).drop from_).take (i - from_)) (YtcfcbkcaondfcaaDoorMpHelp.splitL 47 ((ls a).drop i))).map mk)
  | 0, i, from_, acc, hi, hf, hl => by
    refine Ev.step (fun k => rfl) ?_
    refine ev_neg (by omega) (ev_pos (by omega) (ev_pos (by omega) (ev_pos (by omega) ?_)))
    have hd : (ls a).drop i = [] := List.drop_of_length_le (by rw [ls_len]; omega)
    rw [hd]
    have e1 : a.extract (from_ : Int).toNat a.size = mk (((ls a).drop from_).take (i - from_)) := by
      rw [Int.toNat_natCast, extract_mk]
      congr 3
      omega
    rw [e1]
    have e2 : pre (((ls a).drop from_).take (i - from_)) (YtcfcbkcaondfcaaDoorMpHelp.splitL 47 []) = [((ls a).drop from_).take (i - from_)] := by simp [pre, YtcfcbkcaondfcaaDoorMpHelp.splitL]
    rw [e2]
    exact Ev.now _
  | n + 1, i, from_, acc, hi, hf, hl => by
    have hlt : i < (ls a).length := by rw [ls_len]; omega
    have hdr : (ls a).drop i = (ls a)[i] :: (ls a).drop (i + 1) := List.drop_eq_getElem_cons hlt
    refine Ev.step (fun k => rfl) ?_
    refine ev_pos (by omega) (ev_pos (by omega) ?_)
    have hb := bt_nat a i (by omega)
    have hw : wrap64 ((i : Int) + 1) = ((i + 1 : Nat) : Int) := by rw [w64 (by omega) (by omega)]; omega
    rw [hw]
    by_cases hc : (ls a)[i] = 47
    · have hc' : bt a (i : Int) = 47 := by rw [hb, hc]; rfl
      refine ev_pos hc' (ev_pos (by omega) (ev_pos (by omega) (ev_pos (by omega) (ev_pos (by omega) ?_))))
      have ih := refParts_loop a hs n (i + 1) (i + 1) (acc ++ [a.extract (from_ : Int).toNat (i : Int).toNat]) (by omega) (Nat.le_refl _) (by rw [List.length_append]; simp; omega)
      have e1 : a.extract (from_ : Int).toNat (i : Int).toNat = mk (((ls a).drop from_).take (i - from_)) := by rw [Int.toNat_natCast, Int.toNat_natCast, extract_mk]
      rw [e1] at ih ⊢
      rw [Nat.sub_self, List.take_zero, pre_nil (split_pos _)] at ih
      rw [hdr, hc, split_eq]
      simp only [pre, List.append_nil, List.map_cons]
      rw [List.append_assoc] at ih
      exact ih
    · have hc' : ¬ bt a (i : Int) = 47 := by
        rw [hb]
        intro e
        exact hc (UInt8.toNat_inj.1 (by have : ((ls a)[i].toNat : Int) = ((47 : UInt8).toNat : Int) := e; exact_mod_cast this))
      refine ev_neg hc' ?_
      have ih := refParts_loop a hs n (i + 1) from_ acc (by omega) (by omega) (by omega)
      have e2 : ((ls a).drop from_).take (i + 1 - from_) = ((ls a).drop from_).take (i - from_) ++ [(ls a)[i]] := by
        rw [show i + 1 - from_ = (i - from_) + 1 by omega, List.take_succ_eq_append_getElem (by rw [List.length_drop]; omega), List.getElem_drop]
        congr 3
        omega
      rw [hdr, split_ne hc, pre_pre, ← e2]
      exact ih
theorem refParts (a : ByteArray) (hs : a.size ≤ 1000000) : Ev (fun k => bindleref15_Parts.f k a) (partsB a) := by
  have := refParts_loop a hs a.size 0 0 [] (by omega) (Nat.le_refl _) (Nat.le_refl _)
  rw [Nat.sub_self, List.take_zero, pre_nil (split_pos _), List.drop_zero, List.nil_append] at this
  exact this
theorem all_two {α : Type} (p q : α → Bool) : ∀ l : List α, (l.all fun x => p x && q x) = (l.all p && l.all q)
  | [] => rfl
  | x :: r => by
    rw [List.all_cons, all_two p q r, List.all_cons, List.all_cons]
    cases p x <;> cases q x <;> cases r.all p <;> rfl
def fineB (c : UInt8) : Bool := decide (33 ≤ c.toNat) && decide (c.toNat ≤ 126)
def oddB (l : List UInt8) : Bool := !l.isEmpty && !(l == [46]) && !(l == [46, 46])
theorem right_alt (s : List UInt8) : YtcfcbkcaondfcaaDoorMpHelp.rightB s = (decide (s.length ≤ 64) && (s.all fineB && (YtcfcbkcaondfcaaDoorMpHelp.splitL 47 s).all oddB)) := by
  unfold YtcfcbkcaondfcaaDoorMpHelp.rightB
  rw [← split_all fineB (by decide) s]
  congr 1
  rw [← all_two]
  congr 1
  funext l
  unfold YtcfcbkcaondfcaaDoorMpHelp.partB oddB fineB
  rw [Bool.and_assoc, Bool.and_assoc, Bool.and_assoc]
theorem refRight_l1 (l : List (List UInt8)) : ∀ n i : Nat, i + n = l.length → l.length ≤ 1000000 → Ev (fun k => bindleref15_Right.l1 k (l.map mk) i) ((l.drop i).all oddB)
  | 0, i, hi, hl => by
    refine Ev.step (fun k => rfl) ?_
    rw [List.drop_of_length_le (by omega)]
    exact ev_neg (by rw [List.length_map]; omega) (Ev.now _)
  | n + 1, i, hi, hl => by
    have hlt : i < l.length := by omega
    refine Ev.step (fun k => rfl) ?_
    refine ev_pos (by rw [List.length_map]; omega) (ev_pos (by omega) ?_)
    have hr : (rdOf ByteArray.empty (l.map mk) (i : Int)).toList = l[i] := by
      rw [rdOf, Int.toNat_natCast, List.getD_eq_getElem?_getD, List.getElem?_map, List.getElem?_eq_getElem hlt, Option.map_some, Option.getD_some, ByteArray.toList_eq]
    have hw : wrap64 ((i : Int) + 1) = ((i + 1 : Nat) : Int) := by rw [w64 (by omega) (by omega)]; omega
    rw [hr, hw, List.drop_eq_getElem_cons hlt, List.all_cons]
    have ih := refRight_l1 l n (i + 1) (by omega) hl
    by_cases h1 : l[i] = []
    · rw [show oddB l[i] = false by rw [h1]; rfl]
      exact ev_pos h1 (Ev.now _)
    · by_cases h2 : l[i] = [46]
      · rw [show oddB l[i] = false by rw [h2]; rfl]
        exact ev_neg h1 (ev_pos h2 (Ev.now _))
      · by_cases h3 : l[i] = [46, 46]
        · rw [show oddB l[i] = false by rw [h3]; rfl]
          exact ev_neg h1 (ev_neg h2 (ev_pos h3 (Ev.now _)))
        · have e : oddB l[i] = true := by
            unfold oddB
            rw [List.isEmpty_eq_false_iff.2 h1, beq_eq_false_iff_ne.2 h2, beq_eq_false_iff_ne.2 h3]
            rfl
          rw [e]
          exact ev_neg h1 (ev_neg h2 (ev_neg h3 ih))
theorem refRight_l0 (a : ByteArray) (hs : a.size ≤ 64) : ∀ n i : Nat, i + n = a.size → Ev (fun k => bindleref15_Right.l0 k a i) (((ls a).drop i).all fineB && (YtcfcbkcaondfcaaDoorMpHelp.splitL 47 (ls a)).all oddB)
  | 0, i, hi => by
    refine Ev.step (fun k => rfl) ?_
    rw [List.drop_of_length_le (by rw [ls_len]; omega)]
    refine ev_neg (by omega) (ev_bind (refParts a (by omega)) ?_)
    have := refRight_l1 (YtcfcbkcaondfcaaDoorMpHelp.splitL 47 (ls a)) (YtcfcbkcaondfcaaDoorMpHelp.splitL 47 (ls a)).length 0 (by omega) (by have := split_len (ls a); rw [ls_len] at this; omega)
    rw [List.drop_zero] at this
    exact this
  | n + 1, i, hi => by
    have hlt : i < (ls a).length := by rw [ls_len]; omega
    refine Ev.step (fun k => rfl) ?_
    refine ev_pos (by omega) (ev_pos (by omega) ?_)
    have hb := bt_nat a i (by omega)
    have hw : wrap64 ((i : Int) + 1) = ((i + 1 : Nat) : Int) := by rw [w64 (by omega) (by omega)]; omega
    rw [hb, hw, List.drop_eq_getElem_cons hlt, List.all_cons]
    have ih := refRight_l0 a hs n (i + 1) (by omega)
    by_cases h1 : ((ls a)[i].toNat : Int) < 33
    · rw [show fineB (ls a)[i] = false by unfold fineB; rw [decide_eq_false (by omega)]; rfl]
      exact ev_pos h1 (Ev.now _)
    · by_cases h2 : ((ls a)[i].toNat : Int) > 126
      · rw [show fineB (ls a)[i] = false by unfold fineB; rw [decide_eq_false (p := (ls a)[i].toNat ≤ 126) (by omega), Bool.and_false]]
        exact ev_neg h1 (ev_pos h2 (Ev.now _))
      · rw [show fineB (ls a)[i] = true by unfold fineB; rw [decide_eq_true (by omega), decide_eq_true (by omega)]; rfl]
        exact ev_neg h1 (ev_neg h2 ih)
theorem refRight (a : ByteArray) : Ev (fun k => bindleref15_Right.f k a) (YtcfcbkcaondfcaaDoorMpHelp.rightB (ls a)) := by
  rw [right_alt, ls_len]
  by_cases h1 : (a.size : Int) < 1
  · have e : ls a = [] := List.eq_nil_of_length_eq_zero (by rw [ls_len]; omega)
    rw [e, show ((YtcfcbkcaondfcaaDoorMpHelp.splitL 47 []).all oddB) = false by decide, Bool.and_false, Bool.and_false]
    refine ev_pos h1 (Ev.step (fun k => rfl) ?_)
    exact ev_pos (c := true = true) (h := fun k => bindleref15_Right.l0 k a 0) rfl (Ev.now _)
  · refine ev_neg h1 ?_
    by_cases h2 : (a.size : Int) > 64
    · rw [decide_eq_true h2, decide_eq_false (by omega), Bool.false_and]
      refine Ev.step (fun k => rfl) ?_
      exact ev_pos (c := true = true) (h := fun k => bindleref15_Right.l0 k a 0) rfl (Ev.now _)
    · rw [decide_eq_false h2, decide_eq_true (by omega), Bool.true_and]
      refine Ev.step (fun k => rfl) ?_
      refine ev_neg (c := false = true) (g := fun _ => some false) (by decide) ?_
      have := refRight_l0 a (by omega) a.size 0 (by omega)
      rw [List.drop_zero] at this
      exact this
theorem str_lt_of {x y : List UInt8} (h : x ≤ y) (hne : x ≠ y) : x < y := by
  by_cases hl : x < y
  · exact hl
  · exact absurd (List.le_antisymm h hl) hne
theorem str_irrefl (x : List UInt8) : ¬ x < x := List.lt_irrefl x
theorem str_trans {x y z : List UInt8} (h : x < y) (h' : y < z) : x < z := List.lt_trans h h'
theorem str_lt_le {x y : List UInt8} (h : x < y) : x ≤ y := fun h' => str_irrefl x (str_trans h h')
theorem str_le_lt {x y z : List UInt8} (h : x ≤ y) (h' : y < z) : x < z := by
  by_cases e : x = y
  · rwa [e]
  · exact str_trans (str_lt_of h e) h'
theorem strict_ext {l m : List (List UInt8)} (hl : l.Pairwise (· < ·)) (hm : m.Pairwise (· < ·)) (h : ∀ x, x ∈ l ↔ x ∈ m) : l = m := by
  have nl : l.Nodup := hl.imp (fun {a b} hx (e : a = b) => str_irrefl b (by rw [e] at hx; exact hx))
  have nm : m.Nodup := hm.imp (fun {a b} hx (e : a = b) => str_irrefl b (by rw [e] at hx; exact hx))
  exact List.Perm.eq_of_pairwise (le := fun a b => a < b) (fun a b _ _ h1 h2 => absurd (str_trans h1 h2) (str_irrefl a)) hl hm ((List.perm_ext_iff_of_nodup nl nm).2 h)
theorem get_bang (zs : List (List UInt8)) (j : Nat) (h : j < zs.length) : zs.toArray[j]! = zs[j] := by
  simp [h]
theorem compact_upto (zs : List (List UInt8)) (h : zs.Pairwise (· ≤ ·)) : ∀ m : Nat, m ≤ zs.length →
    (Lib.compactUpTo zs.toArray m).Pairwise (· < ·) ∧ ∀ x, x ∈ Lib.compactUpTo zs.toArray m ↔ ∃ j, j < m ∧ zs.toArray[j]! = x
  | 0, _ => by
    refine ⟨by simp [Lib.compactUpTo], fun x => ?_⟩
    simp [Lib.compactUpTo]
  | m + 1, hm => by
    obtain ⟨h1, h2⟩ := compact_upto zs h m (by omega)
    have hle : ∀ i j, i ≤ j → j < zs.length → zs.toArray[i]! ≤ zs.toArray[j]! := fun i j hij hj => by
      rw [get_bang _ _ (by omega), get_bang _ _ hj]
      rcases Nat.lt_or_eq_of_le hij with hlt | rfl
      · exact List.pairwise_iff_getElem.1 h i j (by omega) hj hlt
      · exact List.le_refl _
    rw [Lib.compactUpTo_succ]
    by_cases hk : Lib.keeps zs.toArray m = true
    · rw [if_pos hk]
      have hk' : m = 0 ∨ zs.toArray[m]! ≠ zs.toArray[m - 1]! := of_decide_eq_true hk
      refine ⟨List.pairwise_append.2 ⟨h1, by simp, fun a ha b hb => ?_⟩, fun x => ?_⟩
      · rw [List.mem_singleton] at hb
        subst hb
        obtain ⟨j, hj, rfl⟩ := (h2 a).1 ha
        rcases hk' with h0 | hne
        · omega
        · exact str_le_lt (hle j (m - 1) (by omega) (by omega)) (str_lt_of (hle (m - 1) m (by omega) (by omega)) (Ne.symm hne))
      · rw [List.mem_append, h2, List.mem_singleton]
        constructor
        · rintro (⟨j, hj, e⟩ | e)
          · exact ⟨j, by omega, e⟩
          · exact ⟨m, by omega, e.symm⟩
        · rintro ⟨j, hj, e⟩
          by_cases hjm : j = m
          · subst hjm; exact .inr e.symm
          · exact .inl ⟨j, by omega, e⟩
    · rw [if_neg hk, List.append_nil]
      have hk' : ¬ (m = 0 ∨ zs.toArray[m]! ≠ zs.toArray[m - 1]!) := fun e => hk (decide_eq_true e)
      refine ⟨h1, fun x => ?_⟩
      rw [h2]
      constructor
      · rintro ⟨j, hj, e⟩
        exact ⟨j, by omega, e⟩
      · rintro ⟨j, hj, e⟩
        by_cases hjm : j = m
        · subst hjm
          refine ⟨j - 1, by omega, ?_⟩
          rw [← e]
          by_cases e2 : zs.toArray[j]! = zs.toArray[j - 1]!
          · exact e2.symm
          · exact absurd (.inr e2) hk'
        · exact ⟨j, by omega, e⟩
/-- A text put where it belongs. -/
def ins (x : List UInt8) : List (List UInt8) → List (List UInt8)
  | [] => [x]
  | y :: r => if y < x then y :: ins x r else if y = x then y :: r else x :: y :: r
theorem ins_mem (x : List UInt8) : ∀ (o : List (List UInt8)) (z : List UInt8), z ∈ ins x o ↔ z = x ∨ z ∈ o
  | [], z => by simp [ins]
  | y :: r, z => by
    have ih := ins_mem x r z
    unfold ins
    by_cases h : y < x
    · rw [if_pos h, List.mem_cons, ih, List.mem_cons]
      constructor
      · rintro (h | h | h)
        · exact .inr (.inl h)
        · exact .inl h
        · exact .inr (.inr h)
      · rintro (h | h | h)
        · exact .inr (.inl h)
        · exact .inl h
        · exact .inr (.inr h)
    · rw [if_neg h]
      by_cases e : y = x
      · rw [if_pos e, ← e, List.mem_cons]
        constructor
        · exact .inr
        · rintro (h | h)
          · exact .inl h
          · exact h
      · rw [if_neg e, List.mem_cons]
theorem ins_strict (x : List UInt8) : ∀ o : List (List UInt8), o.Pairwise (· < ·) → (ins x o).Pairwise (· < ·)
  | [], _ => by simp [ins]
  | y :: r, h => by
    obtain ⟨h1, h2⟩ := List.pairwise_cons.1 h
    unfold ins
    by_cases hl : y < x
    · rw [if_pos hl]
      refine List.pairwise_cons.2 ⟨fun z hz => ?_, ins_strict x r h2⟩
      rcases (ins_mem x r z).1 hz with rfl | hz
      · exact hl
      · exact h1 z hz
    · rw [if_neg hl]
      by_cases e : y = x
      · rw [if_pos e]; exact h
      · rw [if_neg e]
        have hxy : x < y := str_lt_of hl (Ne.symm e)
        refine List.pairwise_cons.2 ⟨fun z hz => ?_, h⟩
        rcases List.mem_cons.1 hz with rfl | hz
        · exact hxy
        · exact str_trans hxy (h1 z hz)
theorem ins_app (x : List UInt8) : ∀ p q : List (List UInt8), (∀ z ∈ p, z < x) → ins x (p ++ q) = p ++ ins x q
  | [], _, _ => rfl
  | y :: p, q, h => by
    rw [List.cons_append, ins, if_pos (h y List.mem_cons_self), ins_app x p q fun z hz => h z (List.mem_cons_of_mem _ hz)]
    rfl
theorem ins_len (x : List UInt8) (o : List (List UInt8)) : (ins x o).length ≤ o.length + 1 := by
  induction o with
  | nil => simp [ins]
  | cons y r ih =>
    unfold ins
    by_cases h : y < x
    · rw [if_pos h]; simp only [List.length_cons]; omega
    · rw [if_neg h]
      by_cases e : y = x
      · rw [if_pos e]; simp only [List.length_cons]; omega
      · rw [if_neg e]; simp only [List.length_cons]; omega
def insAll : List (List UInt8) → List (List UInt8) → List (List UInt8)
  | o, [] => o
  | o, x :: r => insAll (ins x o) r
theorem insAll_spec : ∀ (l o : List (List UInt8)), o.Pairwise (· < ·) → (insAll o l).Pairwise (· < ·) ∧ ∀ z, z ∈ insAll o l ↔ z ∈ o ∨ z ∈ l
  | [], o, h => ⟨h, fun z => by simp [insAll]⟩
  | x :: r, o, h => by
    obtain ⟨h1, h2⟩ := insAll_spec r (ins x o) (ins_strict x o h)
    refine ⟨h1, fun z => (h2 z).trans ?_⟩
    rw [ins_mem, List.mem_cons]
    constructor
    · rintro ((h | h) | h)
      · exact .inr (.inl h)
      · exact .inl h
      · exact .inr (.inr h)
    · rintro (h | h | h)
      · exact .inl (.inr h)
      · exact .inl (.inl h)
      · exact .inr h
/-- Sorted by bytes, each once: what stands in it. -/
theorem sorted_spec (l : List (List UInt8)) : (Lib.compact (l.mergeSort fun x y => decide (x ≤ y))).Pairwise (· < ·) ∧ ∀ x, x ∈ Lib.compact (l.mergeSort fun x y => decide (x ≤ y)) ↔ x ∈ l := by
  have tr : ∀ a b c : List UInt8, decide (a ≤ b) = true → decide (b ≤ c) = true → decide (a ≤ c) = true := fun a b c h1 h2 => by simp only [decide_eq_true_eq] at *; exact List.le_trans h1 h2
  have tt : ∀ a b : List UInt8, (decide (a ≤ b) || decide (b ≤ a)) = true := fun a b => by simp only [Bool.or_eq_true, decide_eq_true_eq]; exact List.le_total a b
  have hs : (l.mergeSort fun x y => decide (x ≤ y)).Pairwise (· ≤ ·) := (List.pairwise_mergeSort tr tt l).imp fun h => of_decide_eq_true h
  have hm : ∀ x, x ∈ (l.mergeSort fun x y => decide (x ≤ y)) ↔ x ∈ l := fun x => (List.mergeSort_perm l _).mem_iff
  generalize (l.mergeSort fun x y => decide (x ≤ y)) = m at hs hm
  obtain ⟨h1, h2⟩ := compact_upto m hs m.length (Nat.le_refl _)
  refine ⟨h1, fun x => (h2 x).trans ?_⟩
  rw [← hm, List.mem_iff_getElem]
  constructor
  · rintro ⟨j, hj, e⟩
    exact ⟨j, hj, by rw [← get_bang _ _ hj]; exact e⟩
  · rintro ⟨j, hj, e⟩
    exact ⟨j, hj, by rw [get_bang _ _ hj]; exact e⟩
theorem toList_ls (a : ByteArray) : a.toList = ls a := ByteArray.toList_eq a
/-- A file's name. -/
abbrev nm (x : S45) : List UInt8 := ls x.f0
/-- Files that are a map. -/
def Asc (l : List S45) : Prop := (l.map nm).Pairwise (· < ·)
theorem rdF (l : List S45) (i : Nat) (h : i < l.length) : rd_T45 l (i : Int) = l[i] := by
  simp [rd_T45, h]
/-- What a map has for a name. -/
def look (l : List S45) (s : List UInt8) : Option S45 := l.find? fun y => nm y == s
theorem look_nm {l : List S45} {s : List UInt8} {y : S45} (h : look l s = some y) : nm y = s ∧ y ∈ l := ⟨by
  have := List.find?_some h
  simpa using this, List.mem_of_find?_eq_some h⟩
theorem look_none {l : List S45} {s : List UInt8} (h : ∀ y ∈ l, nm y ≠ s) : look l s = none := by
  unfold look
  rw [List.find?_eq_none]
  intro y hy
  simpa using h y hy
theorem wadd (i : Nat) (h : i ≤ 9000000000000000000) : wrap64 ((i : Int) + 1) = ((i + 1 : Nat) : Int) := by rw [w64 (by omega) (by omega)]; omega
theorem strOf_bytes (s : ByteArray) : strOfNums (bytesOf s) = s := by
  apply ls_inj
  unfold strOfNums bytesOf
  show (List.map (fun n : Int => UInt8.ofNat n.toNat) (List.map (fun b : UInt8 => (b.toNat : Int)) s.data.toList)) = s.data.toList
  rw [List.map_map]
  conv => rhs; rw [← List.map_id s.data.toList]
  exact List.map_congr_left fun b _ => by simp
theorem strOf_size (l : List Int) : (strOfNums l).size = l.length := by
  unfold strOfNums
  show (Array.size _) = _
  simp
/-- Same: of a list told anew. -/
def anew (y : S45) : S45 := ⟨y.f0, bytesOf (strOfNums y.f1)⟩
/-- Files whose data is that of texts. -/
def okF (l : List S45) : Prop := ∀ y ∈ l, y.f1.length ≤ 140737488351232
/-- Do two maps have the same? -/
def likeO : Option S45 → Option S45 → Bool
  | none, none => true
  | some x, some y => (strOfNums x.f1).toList == (strOfNums y.f1).toList
  | _, _ => false
/-- A name's value. -/
def valO : Option S45 → Bool × ByteArray
  | none => (false, strOfNums [])
  | some y => (true, strOfNums y.f1)
theorem val_like (o p : Option S45) : ((valO o).1 == (valO p).1 && ((valO o).2.toList == (valO p).2.toList)) = likeO o p := by
  cases o <;> cases p <;> simp [valO, likeO]
theorem place_look (s : ByteArray) : ∀ l : List S45, Asc l → look l (ls s) = match l[model_place.less l s]? with | some y => if (y.f0.data.toList == s.data.toList) = true then some y else none | none => none
  | [], _ => rfl
  | y :: r, h => by
    obtain ⟨h1, h2⟩ := List.pairwise_cons.1 (show (nm y :: r.map nm).Pairwise (· < ·) from h)
    have ih := place_look s r h2
    by_cases hl : nm y < ls s
    · have e1 : model_place.less (y :: r) s = model_place.less r s + 1 := by unfold model_place.less; rw [List.countP_cons_of_pos (by simpa using hl)]
      rw [e1, List.getElem?_cons_succ, ← ih]
      unfold look
      rw [List.find?_cons_of_neg (by simpa using fun e : nm y = ls s => str_irrefl _ (by rw [e] at hl; exact hl))]
    · have e0 : model_place.less r s = 0 := by
        unfold model_place.less
        rw [List.countP_eq_zero]
        intro z hz
        have := h1 (nm z) (List.mem_map_of_mem hz)
        simp only [decide_eq_true_eq]
        exact fun hzs => hl (str_trans this hzs)
      have e1 : model_place.less (y :: r) s = 0 := by
        unfold model_place.less at e0 ⊢
        rw [List.countP_cons_of_neg (by simpa using hl)]
        exact e0
      rw [e1, List.getElem?_cons_zero]
      dsimp only
      by_cases e : nm y = ls s
      · have e2 : (y.f0.data.toList == s.data.toList) = true := by simpa using e
        rw [if_pos e2]
        unfold look
        rw [List.find?_cons_of_pos (by simpa using e)]
      · have e2 : ¬ (y.f0.data.toList == s.data.toList) = true := by simpa using e
        rw [if_neg e2]
        refine look_none fun z hz => ?_
        rcases List.mem_cons.1 hz with rfl | hz
        · exact e
        · intro ez
          have := h1 (nm z) (List.mem_map_of_mem hz)
          rw [ez] at this
          exact hl this
theorem of_eq (l : List S45) (s : ByteArray) (h : Asc l) (hl : l.length ≤ 1000000) (hd : ∀ y ∈ l, y.f1.length ≤ 140737488351232) : plan_of.f l s = some (valO (look l (ls s))) := by
  have hp : (l.map (·.f0.data.toList)).Pairwise (· ≤ ·) := h.imp fun hx => str_lt_le hx
  have e1 : model_place.f l s = some (((model_place.less l s : Nat) : Int), match l[model_place.less l s]? with | some y => y.f0.data.toList == s.data.toList | none => false) := by
    unfold model_place.f
    rw [if_pos ⟨hl, hp⟩]
    rfl
  unfold plan_of.f model_Find.f
  rw [e1, place_look s l h, Option.bind_some]
  cases hy : l[model_place.less l s]? with
  | none => rfl
  | some y =>
    obtain ⟨hj, hy2⟩ := List.getElem?_eq_some_iff.1 hy
    dsimp only
    by_cases e : (y.f0.data.toList == s.data.toList) = true
    · rw [if_pos e, if_pos e, if_pos (by omega), if_pos (by omega), rdF l _ hj, hy2]
      have hm : y ∈ l := by rw [← hy2]; exact List.getElem_mem hj
      have e3 : slices_Clone_byte_byte.f y.f1 = some y.f1 := by
        unfold slices_Clone_byte_byte.f
        rw [if_pos (by have := hd y hm; omega)]
      rw [e3]
      rfl
    · rw [if_neg e, if_neg e]
      rfl
theorem names_eq (ls3 : List (List S45)) (h : (plan_names.all_ ls3).length ≤ 1000000) : ∃ N : List (List UInt8), plan_names.f ls3 = some (N.map mk) ∧ N.Pairwise (· < ·) ∧ (∀ x, x ∈ N ↔ ∃ l ∈ ls3, x ∈ l.map nm) ∧ N.length ≤ (plan_names.all_ ls3).length := by
  obtain ⟨h1, h2⟩ := sorted_spec ((plan_names.all_ ls3).map ls)
  refine ⟨_, by unfold plan_names.f; rw [if_pos h]; rfl, h1, fun x => (h2 x).trans ?_, ?_⟩
  · unfold plan_names.all_
    simp only [List.mem_map, List.mem_flatMap]
    constructor
    · rintro ⟨b, ⟨l, hl, y, hy, rfl⟩, rfl⟩
      exact ⟨l, hl, y, hy, rfl⟩
    · rintro ⟨l, hl, y, hy, rfl⟩
      exact ⟨y.f0, ⟨l, hl, y, hy, rfl⟩, rfl⟩
  · have := Lib.compact_length_le (((plan_names.all_ ls3).map ls).mergeSort fun x y => decide (x ≤ y))
    rw [List.length_mergeSort, List.length_map] at this
    exact this
theorem wide_loop (l : List S45) : ∀ n i : Nat, i + n = 300 → ∃ w : Bool, Ev (fun k => bindlelaw38_wide.l0 k l i) w ∧ (w = false → l.length ≤ 250)
  | 0, i, hi => by
    have hfin : ∃ w : Bool, Ev (fun k => bindlelaw38_wide.j1 k l i false) w ∧ (w = false → l.length ≤ 250) := by
      refine ⟨_, Ev.step (fun k => by unfold bindlelaw38_wide.j1; exact rfl) (ev_neg (by decide) (Ev.now _)), fun h => ?_⟩
      have := of_decide_eq_false h
      omega
    obtain ⟨w, h1, h2⟩ := hfin
    refine ⟨w, Ev.step (fun k => by unfold bindlelaw38_wide.l0; exact rfl) ?_, h2⟩
    by_cases hl : (i : Int) < (l.length : Int)
    · have hd : decide ((i : Int) < 300) = false := decide_eq_false (by omega)
      rw [hd]
      exact ev_pos hl h1
    · exact ev_neg hl h1
  | n + 1, i, hi => by
    by_cases hl : (i : Int) < (l.length : Int)
    · have hd : decide ((i : Int) < 300) = true := decide_eq_true (by omega)
      obtain ⟨w, h1, h2⟩ := wide_loop l n (i + 1) (by omega)
      by_cases c1 : (((rd_T45 l i).f0).size : Int) > 300
      · refine ⟨true, Ev.step (fun k => by unfold bindlelaw38_wide.l0; exact rfl) (ev_pos hl ?_), fun h => by cases h⟩
        rw [hd]
        exact Ev.step (fun k => by unfold bindlelaw38_wide.j1; exact rfl) (ev_pos rfl (ev_pos (by omega) (ev_pos hl (ev_pos c1 (Ev.now _)))))
      · by_cases c2 : (((rd_T45 l i).f1).length : Int) > 70000
        · refine ⟨true, Ev.step (fun k => by unfold bindlelaw38_wide.l0; exact rfl) (ev_pos hl ?_), fun h => by cases h⟩
          rw [hd]
          exact Ev.step (fun k => by unfold bindlelaw38_wide.j1; exact rfl) (ev_pos rfl (ev_pos (by omega) (ev_pos hl (ev_neg c1 (ev_pos c2 (Ev.now _))))))
        · refine ⟨w, Ev.step (fun k => by unfold bindlelaw38_wide.l0; exact rfl) (ev_pos hl ?_), h2⟩
          rw [hd]
          refine Ev.step (fun k => by unfold bindlelaw38_wide.j1; exact rfl) (ev_pos rfl (ev_pos (by omega) (ev_pos hl (ev_neg c1 (ev_neg c2 ?_)))))
          rw [wadd i (by omega)]
          exact h1
    · have hd : ∃ w : Bool, Ev (fun k => bindlelaw38_wide.j1 k l i false) w ∧ (w = false → l.length ≤ 250) := by
        refine ⟨_, Ev.step (fun k => by unfold bindlelaw38_wide.j1; exact rfl) (ev_neg (by decide) (Ev.now _)), fun h => ?_⟩
        have := of_decide_eq_false h
        omega
      obtain ⟨w, h1, h2⟩ := hd
      exact ⟨w, Ev.step (fun k => by unfold bindlelaw38_wide.l0; exact rfl) (ev_neg hl h1), h2⟩
theorem wide_ev (l : List S45) : ∃ w : Bool, Ev (fun k => bindlelaw38_wide.f k l) w ∧ (w = false → l.length ≤ 250) := wide_loop l 300 0 (by omega)
theorem map_loop (l : List S45) (hs : l.length ≤ 9000000) : ∀ n i : Nat, 1 ≤ i → i + n = l.length → ∃ m : Bool, Ev (fun k => bindleref25_Map.l0 k l i) m ∧ (m = true → ((l.drop (i - 1)).map nm).Pairwise (· < ·)) ∧ (m = false → ¬ ((l.drop (i - 1)).map nm).Pairwise (· < ·))
  | 0, i, h1, hi => by
    refine ⟨true, Ev.step (fun k => by unfold bindleref25_Map.l0; exact rfl) (ev_neg (by omega) (Ev.now _)), fun _ => ?_, fun h => by cases h⟩
    rw [List.drop_eq_getElem_cons (by omega), List.drop_of_length_le (by omega)]
    simp
  | n + 1, i, h1, hi => by
    have dl : l.drop (i - 1) = l[i - 1] :: l.drop i := by
      have := List.drop_eq_getElem_cons (l := l) (i := i - 1) (by omega)
      rwa [show i - 1 + 1 = i by omega] at this
    have dl2 : l.drop i = l[i] :: l.drop (i + 1) := List.drop_eq_getElem_cons (by omega)
    obtain ⟨m, e1, e2, e3⟩ := map_loop l hs n (i + 1) (by omega) (by omega)
    rw [show i + 1 - 1 = i by omega] at e2 e3
    have hw : wrap64 ((i : Int) - 1) = ((i - 1 : Nat) : Int) := by rw [w64 (by omega) (by omega)]; omega
    by_cases hlt : nm l[i - 1] < nm l[i]
    · refine ⟨m, Ev.step (fun k => by unfold bindleref25_Map.l0; exact rfl) (ev_pos (by omega) ?_), fun h => ?_, fun h hp => e3 h ?_⟩
      · rw [hw]
        refine ev_pos (by omega) (ev_pos (by omega) (ev_pos (by omega) ?_))
        rw [rdF l i (by omega), rdF l (i - 1) (by omega), wadd i (by omega)]
        exact ev_pos (by rw [toList_ls, toList_ls, Go.Proofs.bytesLess_eq]; exact decide_eq_true hlt) e1
      · have hp := e2 h
        rw [dl, List.map_cons]
        refine List.pairwise_cons.2 ⟨fun z hz => ?_, hp⟩
        rw [dl2, List.map_cons] at hz hp
        rcases List.mem_cons.1 hz with rfl | hz
        · exact hlt
        · exact str_trans hlt ((List.pairwise_cons.1 hp).1 z hz)
      · rw [dl, List.map_cons] at hp
        exact (List.pairwise_cons.1 hp).2
    · refine ⟨false, Ev.step (fun k => by unfold bindleref25_Map.l0; exact rfl) (ev_pos (by omega) ?_), (fun h => by cases h), fun _ hp => ?_⟩
      · rw [hw]
        refine ev_pos (by omega) (ev_pos (by omega) (ev_pos (by omega) ?_))
        rw [rdF l i (by omega), rdF l (i - 1) (by omega)]
        exact ev_neg (by rw [toList_ls, toList_ls, Go.Proofs.bytesLess_eq]; simpa using hlt) (Ev.now _)
      · rw [dl, List.map_cons] at hp
        exact hlt ((List.pairwise_cons.1 hp).1 _ (by rw [dl2, List.map_cons]; exact List.mem_cons_self))
theorem map_ev (l : List S45) (hs : l.length ≤ 9000000) : ∃ m : Bool, Ev (fun k => bindleref25_Map.f k l) m ∧ (m = true ↔ Asc l) := by
  cases l with
  | nil => exact ⟨true, Ev.congr (fun k => by unfold bindleref25_Map.f; exact rfl) (Ev.step (fun k => by unfold bindleref25_Map.l0; exact rfl) (ev_neg (by simp) (Ev.now _))), fun _ => List.Pairwise.nil, fun _ => rfl⟩
  | cons y r =>
    obtain ⟨m, e1, e2, e3⟩ := map_loop (y :: r) hs r.length 1 (by omega) (by simp; omega)
    refine ⟨m, e1, e2, fun h => ?_⟩
    cases hm : m with
    | true => rfl
    | false => exact absurd h (e3 hm)
/-- The chapter's example. -/
theorem lives_names : plan_names.f [[(⟨(⟨#[97]⟩ : ByteArray), ([] : List Int)⟩ : S45)], [(⟨(⟨#[98]⟩ : ByteArray), ([] : List Int)⟩ : S45)]] = some [(⟨#[97]⟩ : ByteArray), (⟨#[98]⟩ : ByteArray)] := by
  obtain ⟨N, e1, e2, e3, _⟩ := names_eq [[(⟨(⟨#[97]⟩ : ByteArray), ([] : List Int)⟩ : S45)], [(⟨(⟨#[98]⟩ : ByteArray), ([] : List Int)⟩ : S45)]] (by decide)
  have : N = [[97], [98]] := strict_ext e2 (by simp; decide) fun x => by
    rw [e3]
    simp [nm, ls, eq_comm]
  rw [e1, this]
  rfl
theorem lives_a (s : ByteArray) (c : UInt8) : plan_of.f [(⟨(⟨#[c]⟩ : ByteArray), ([] : List Int)⟩ : S45)] s = some (decide ([c] = ls s), strOfNums []) := by
  rw [of_eq _ s (by unfold Asc; simp) (by simp) (by simp)]
  unfold look
  rw [List.find?_cons]
  by_cases h : [c] = ls s
  · have e : (nm (⟨(⟨#[c]⟩ : ByteArray), ([] : List Int)⟩ : S45) == ls s) = true := by simpa [nm, ls] using h
    rw [e, decide_eq_true h]
    rfl
  · have e : (nm (⟨(⟨#[c]⟩ : ByteArray), ([] : List Int)⟩ : S45) == ls s) = false := by simpa [nm, ls] using h
    rw [e, decide_eq_false h]
    rfl
theorem lives_diff : plan_Diff.f [(⟨(⟨#[97]⟩ : ByteArray), ([] : List Int)⟩ : S45)] [(⟨(⟨#[98]⟩ : ByteArray), ([] : List Int)⟩ : S45)] = some [plan_Diff.op 11 (⟨#[97]⟩ : ByteArray) [], plan_Diff.op 3 (⟨#[98]⟩ : ByteArray) []] := by
  unfold plan_Diff.f
  rw [lives_names, Option.bind_some, if_pos (by decide)]
  simp only [plan_Diff.pick, plan_Diff.gone, plan_Diff.put, lives_a, Option.bind_some]
  rfl
theorem lives : bindlelaw38_lives.f = some true := by
  unfold bindlelaw38_lives.f
  rw [lives_diff, Option.bind_some]
  simp [rd_T72, plan_Diff.op, toList_ls, ls]
/-- May a map be kept? -/
def okB (y : S45) : Bool := YtcfcbkcaondfcaaDoorMpHelp.rightB (nm y) && decide (y.f1.length ≤ 65536)
theorem okB_eq (y : S45) : okB y = (YtcfcbkcaondfcaaDoorMpHelp.rightB (nm y) && decide (y.f1.length ≤ 65536)) := rfl
theorem refRight38_loop (l : List S45) (hs : l.length ≤ 9000000) (m : Bool) (hm : Ev (fun k => bindleref25_Map.f k l) m) : ∀ n i : Nat, i + n = l.length → Ev (fun k => bindleref38_Right.l0 k l i) ((l.drop i).all okB && (decide (l.length < 201) && m))
  | 0, i, hi => by
    rw [List.drop_of_length_le (by omega)]
    refine Ev.step (fun k => by unfold bindleref38_Right.l0; exact rfl) (ev_neg (by omega) ?_)
    by_cases h : (l.length : Int) < 201
    · rw [decide_eq_true (by omega)]
      refine ev_pos h (ev_bind hm ?_)
      simpa using Ev.now m
    · rw [decide_eq_false (by omega)]
      refine ev_neg h ?_
      simpa using Ev.now false
  | n + 1, i, hi => by
    have dl : l.drop i = l[i] :: l.drop (i + 1) := List.drop_eq_getElem_cons (by omega)
    refine Ev.step (fun k => by unfold bindleref38_Right.l0; exact rfl) (ev_pos (by omega) (ev_pos (by omega) ?_))
    rw [rdF l i (by omega), dl, List.all_cons]
    refine ev_bind (refRight l[i].f0) ?_
    rw [okB_eq]
    by_cases hr : YtcfcbkcaondfcaaDoorMpHelp.rightB (nm l[i]) = true
    · refine ev_pos hr ?_
      by_cases hd : (l[i].f1.length : Int) > 65536
      · refine ev_pos hd ?_
        rw [hr, decide_eq_false (by omega)]
        exact Ev.now _
      · refine ev_neg hd ?_
        rw [hr, decide_eq_true (by omega), wadd i (by omega)]
        simpa using refRight38_loop l hs m hm n (i + 1) (by omega)
    · have hr' : YtcfcbkcaondfcaaDoorMpHelp.rightB (nm l[i]) = false := by simpa using hr
      refine ev_neg hr ?_
      rw [hr']
      exact Ev.now _
theorem right38 (l : List S45) (hs : l.length ≤ 9000000) : ∃ r : Bool, Ev (fun k => bindleref38_Right.f k l) r ∧ (r = true → Asc l ∧ l.length ≤ 200 ∧ ∀ y ∈ l, YtcfcbkcaondfcaaDoorMpHelp.rightB (nm y) = true ∧ y.f1.length ≤ 65536) := by
  obtain ⟨m, e1, e2⟩ := map_ev l hs
  refine ⟨l.all okB && (decide (l.length < 201) && m), ?_, fun h => ?_⟩
  · have := refRight38_loop l hs m e1 l.length 0 (by omega)
    rw [List.drop_zero] at this
    exact this
  · simp only [Bool.and_eq_true, decide_eq_true_eq, List.all_eq_true] at h
    refine ⟨e2.1 h.2.2, by omega, fun y hy => ?_⟩
    have := h.1 y hy
    unfold okB at this
    simpa using this
/-! The difference. -/
theorem look_mem {l : List S45} {s : List UInt8} (h : s ∈ l.map nm) : ∃ y, look l s = some y := by
  obtain ⟨y, hy, rfl⟩ := List.mem_map.1 h
  cases hl : look l (nm y) with
  | some z => exact ⟨z, rfl⟩
  | none =>
    unfold look at hl
    rw [List.find?_eq_none] at hl
    have := hl y hy
    simp at this
theorem look_self {l : List S45} (ha : Asc l) {y : S45} (hy : y ∈ l) : look l (nm y) = some y := by
  obtain ⟨z, hz⟩ := look_mem (List.mem_map_of_mem (f := nm) hy)
  obtain ⟨e1, e2⟩ := look_nm hz
  rw [hz]
  have : z = y := by
    have hp : l.Pairwise (fun a b => nm a < nm b) := List.pairwise_map.1 ha
    obtain ⟨i, hi, rfl⟩ := List.mem_iff_getElem.1 e2
    obtain ⟨j, hj, rfl⟩ := List.mem_iff_getElem.1 hy
    rcases Nat.lt_trichotomy i j with h | h | h
    · have := List.pairwise_iff_getElem.1 hp i j hi hj h
      rw [e1] at this
      exact absurd this (str_irrefl _)
    · subst h; rfl
    · have := List.pairwise_iff_getElem.1 hp j i hj hi h
      rw [e1] at this
      exact absurd this (str_irrefl _)
  rw [this]
def goneP (b : List S45) (n : List UInt8) : Bool := (look b n).isNone
def putP (a b : List S45) (n : List UInt8) : Bool := (look b n).isSome && !(likeO (look a n) (look b n))
theorem pick_eq (step : ByteArray → Option (S72 × Bool)) (g : List UInt8 → S72 × Bool) : ∀ N : List (List UInt8), (∀ n ∈ N, step (mk n) = some (g n)) → plan_Diff.pick step (N.map mk) = some ((N.filter (fun n => (g n).2)).map (fun n => (g n).1))
  | [], _ => rfl
  | n :: r, h => by
    have ih := pick_eq step g r fun x hx => h x (List.mem_cons_of_mem _ hx)
    rw [List.map_cons]
    unfold plan_Diff.pick
    rw [h n List.mem_cons_self, ih, Option.bind_some, Option.bind_some]
    by_cases hg : (g n).2 = true
    · rw [if_pos hg, List.filter_cons_of_pos (by exact hg), List.map_cons]
    · rw [if_neg hg, List.filter_cons_of_neg (by exact hg)]
section
variable (a b : List S45)
/-- The steps, told. -/
def tellG (y : S45 ⊕ S45) : S72 := match y with | .inl y => ⟨11, y.f0, [], 0, ⟨[], 0, 0⟩⟩ | .inr y => ⟨3, y.f0, y.f1, 0, ⟨[], 0, 0⟩⟩
def tellF (y : S45 ⊕ S45) : S72 := match y with | .inl y => ⟨11, y.f0, [], 0, ⟨[], 0, 0⟩⟩ | .inr y => ⟨3, y.f0, bytesOf (strOfNums y.f1), 0, ⟨[], 0, 0⟩⟩
def stepsB : List (S45 ⊕ S45) := (a.filter (fun y => goneP b (nm y))).map .inl ++ (b.filter (fun y => putP a b (nm y))).map .inr
theorem stepsB_len : (stepsB a b).length ≤ a.length + b.length := by
  unfold stepsB
  rw [List.length_append, List.length_map, List.length_map]
  have := List.length_filter_le (fun y => goneP b (nm y)) a
  have := List.length_filter_le (fun y => putP a b (nm y)) b
  omega
theorem plan_diff (ha : Asc a) (hb : Asc b) (la : a.length ≤ 1000) (lb : b.length ≤ 1000) (da : okF a) (db : okF b) : plan_Diff.f a b = some ((stepsB a b).map tellF) := by
  have hl : (plan_names.all_ [a, b]).length = a.length + b.length := by
    unfold plan_names.all_
    simp
  obtain ⟨N, e1, e2, e3, e4⟩ := names_eq [a, b] (by omega)
  unfold plan_Diff.f
  rw [e1, Option.bind_some, if_pos (by rw [List.length_map]; omega)]
  have g1 := pick_eq (plan_Diff.gone b) (fun n => (plan_Diff.op 11 (mk n) [], goneP b n)) N fun n _ => by
    unfold plan_Diff.gone
    rw [of_eq b (mk n) hb (by omega) db, Option.bind_some]
    unfold goneP
    rw [show ls (mk n) = n from rfl]
    cases look b n <;> rfl
  have g2 := pick_eq (plan_Diff.put a b) (fun n => (plan_Diff.op 3 (mk n) (bytesOf (valO (look b n)).2), putP a b n)) N fun n _ => by
    unfold plan_Diff.put
    rw [of_eq b (mk n) hb (by omega) db, of_eq a (mk n) ha (by omega) da, Option.bind_some, show ls (mk n) = n from rfl]
    have hsz : (valO (look b n)).2.size ≤ 9223372036854775807 := by
      cases hy : look b n with
      | none => exact Nat.zero_le _
      | some y =>
        have := db y (look_nm hy).2
        show (strOfNums y.f1).size ≤ _
        rw [strOf_size]
        omega
    rw [if_pos hsz, Option.bind_some, val_like]
    unfold putP
    cases look b n <;> rfl
  rw [g1, Option.bind_some, g2, Option.bind_some]
  have f1 : N.filter (fun n => goneP b n) = (a.map nm).filter (fun n => goneP b n) := strict_ext (e2.filter _) (List.Pairwise.filter _ ha) fun x => by
    rw [List.mem_filter, List.mem_filter, e3]
    constructor
    · rintro ⟨⟨l, hl, hx⟩, hg⟩
      refine ⟨?_, hg⟩
      rcases List.mem_cons.1 hl with rfl | hl
      · exact hx
      · rcases List.mem_cons.1 hl with rfl | hl
        · obtain ⟨y, hy⟩ := look_mem hx
          unfold goneP at hg
          rw [hy] at hg
          cases hg
        · cases hl
    · rintro ⟨hx, hg⟩
      exact ⟨⟨a, List.mem_cons_self, hx⟩, hg⟩
  have f2 : N.filter (fun n => putP a b n) = (b.map nm).filter (fun n => putP a b n) := strict_ext (e2.filter _) (List.Pairwise.filter _ hb) fun x => by
    rw [List.mem_filter, List.mem_filter, e3]
    constructor
    · rintro ⟨_, hg⟩
      refine ⟨?_, hg⟩
      unfold putP at hg
      cases hy : look b x with
      | none => rw [hy] at hg; cases hg
      | some y => rw [← (look_nm hy).1]; exact List.mem_map_of_mem (look_nm hy).2
    · rintro ⟨hx, hg⟩
      exact ⟨⟨b, by simp, hx⟩, hg⟩
  dsimp only
  rw [f1, f2, List.filter_map, List.filter_map, List.map_map, List.map_map]
  unfold stepsB
  rw [List.map_append, List.map_map, List.map_map]
  congr 2
  refine List.map_congr_left fun y hy => ?_
  have hy2 := (List.mem_filter.1 hy).1
  show plan_Diff.op 3 (mk (nm y)) (bytesOf (valO (look b (nm y))).2) = _
  rw [look_self hb hy2]
  rfl
end
theorem rdO (l : List S72) (i : Nat) (h : i < l.length) : rd_T72 l (i : Int) = l[i] := by
  simp [rd_T72, h]
/-- A file put where it belongs. -/
def insF (f : S45) : List S45 → List S45
  | [] => [f]
  | y :: r => if nm y < nm f then y :: insF f r else if nm y = nm f then f :: r else f :: y :: r
/-- A map without a name. -/
def dropF (s : List UInt8) (l : List S45) : List S45 := l.filter fun y => !(nm y == s)
theorem insF_nm (f : S45) : ∀ l : List S45, (insF f l).map nm = ins (nm f) (l.map nm)
  | [] => rfl
  | y :: r => by
    unfold insF
    rw [List.map_cons, ins]
    by_cases h : nm y < nm f
    · rw [if_pos h, if_pos h, List.map_cons, insF_nm f r]
    · rw [if_neg h, if_neg h]
      by_cases e : nm y = nm f
      · rw [if_pos e, if_pos e, List.map_cons, e]
      · rw [if_neg e, if_neg e, List.map_cons, List.map_cons]
theorem insF_asc (f : S45) {l : List S45} (h : Asc l) : Asc (insF f l) := by
  unfold Asc
  rw [insF_nm]
  exact ins_strict _ _ h
theorem dropF_asc (s : List UInt8) {l : List S45} (h : Asc l) : Asc (dropF s l) := by
  unfold Asc dropF
  exact List.Pairwise.sublist (List.Sublist.map nm List.filter_sublist) h
theorem insF_len (f : S45) (l : List S45) : (insF f l).length ≤ l.length + 1 := by
  have := congrArg List.length (insF_nm f l)
  rw [List.length_map] at this
  have h2 := ins_len (nm f) (l.map nm)
  rw [List.length_map] at h2
  omega
theorem insF_mem {f y : S45} : ∀ {l : List S45}, y ∈ insF f l → y = f ∨ y ∈ l
  | [], h => .inl (List.mem_singleton.1 h)
  | z :: r, h => by
    unfold insF at h
    split at h
    · rcases List.mem_cons.1 h with rfl | h
      · exact .inr List.mem_cons_self
      · rcases insF_mem h with h | h
        · exact .inl h
        · exact .inr (List.mem_cons_of_mem _ h)
    · split at h
      · rcases List.mem_cons.1 h with rfl | h
        · exact .inl rfl
        · exact .inr (List.mem_cons_of_mem _ h)
      · rcases List.mem_cons.1 h with rfl | h
        · exact .inl rfl
        · exact .inr h
theorem dropF_len (s : List UInt8) (l : List S45) : (dropF s l).length ≤ l.length := List.length_filter_le _ _
theorem dropF_above (s : List UInt8) (l : List S45) (h : ∀ x ∈ l.map nm, s < x) : dropF s l = l := by
  unfold dropF
  rw [List.filter_eq_self]
  intro x hx
  have := h _ (List.mem_map_of_mem hx)
  have hne : nm x ≠ s := fun e => str_irrefl s (by rw [e] at this; exact this)
  simpa using hne
/-! The program's With and Without. -/
theorem less_cons_lt (y : S45) (r : List S45) (s : ByteArray) (h : nm y < ls s) : model_place.less (y :: r) s = model_place.less r s + 1 := by
  unfold model_place.less; rw [List.countP_cons_of_pos (by simpa using h)]
theorem less_cons_ge (y : S45) (r : List S45) (s : ByteArray) (ha : Asc (y :: r)) (h : ¬ nm y < ls s) : model_place.less (y :: r) s = 0 := by
  obtain ⟨h1, h2⟩ := List.pairwise_cons.1 (show (nm y :: r.map nm).Pairwise (· < ·) from ha)
  unfold model_place.less
  rw [List.countP_eq_zero]
  intro z hz
  simp only [decide_eq_true_eq]
  rcases List.mem_cons.1 hz with rfl | hz
  · exact h
  · intro hzs
    exact h (str_trans (h1 (nm z) (List.mem_map_of_mem hz)) hzs)
theorem asc_tail {y : S45} {r : List S45} (ha : Asc (y :: r)) : Asc r := (List.pairwise_cons.1 (show (nm y :: r.map nm).Pairwise (· < ·) from ha)).2
theorem less_le (l : List S45) (s : ByteArray) : model_place.less l s ≤ l.length := by unfold model_place.less; exact List.countP_le_length
def thereB (l : List S45) (s : ByteArray) : Bool := match l[model_place.less l s]? with | some y => y.f0.data.toList == s.data.toList | none => false
theorem place_f (l : List S45) (s : ByteArray) (h : Asc l) (hl : l.length ≤ 1000000) : model_place.f l s = some (((model_place.less l s : Nat) : Int), thereB l s) := by
  have hp : (l.map (·.f0.data.toList)).Pairwise (· ≤ ·) := h.imp fun hx => str_lt_le hx
  unfold model_place.f
  rw [if_pos ⟨hl, hp⟩]
  rfl
theorem there_look (l : List S45) (s : ByteArray) (h : Asc l) : thereB l s = (look l (ls s)).isSome := by
  rw [place_look s l h]
  unfold thereB
  cases l[model_place.less l s]? with
  | none => rfl
  | some y =>
    dsimp only
    by_cases e : (y.f0.data.toList == s.data.toList) = true
    · rw [if_pos e]; exact e
    · rw [if_neg e]; simpa using e
theorem there_lt {l : List S45} {s : ByteArray} (h : thereB l s = true) : model_place.less l s < l.length := by
  unfold thereB at h
  cases e : l[model_place.less l s]? with
  | none => rw [e] at h; cases h
  | some y => exact (List.getElem?_eq_some_iff.1 e).1
theorem ins_place (f : S45) : ∀ l : List S45, Asc l → insF f l = if thereB l f.f0 = true then l.set (model_place.less l f.f0) f else l.take (model_place.less l f.f0) ++ f :: l.drop (model_place.less l f.f0)
  | [], _ => rfl
  | y :: r, ha => by
    have ih := ins_place f r (asc_tail ha)
    unfold insF
    by_cases hl : nm y < nm f
    · rw [if_pos hl, ih]
      have e1 := less_cons_lt y r f.f0 hl
      have e2 : thereB (y :: r) f.f0 = thereB r f.f0 := by unfold thereB; rw [e1, List.getElem?_cons_succ]
      rw [e2, e1]
      by_cases ht : thereB r f.f0 = true
      · rw [if_pos ht, if_pos ht, List.set_cons_succ]
      · rw [if_neg ht, if_neg ht, List.take_succ_cons, List.drop_succ_cons, List.cons_append]
    · rw [if_neg hl]
      have e1 := less_cons_ge y r f.f0 ha hl
      have e2 : thereB (y :: r) f.f0 = (nm y == nm f) := by unfold thereB; rw [e1, List.getElem?_cons_zero]
      rw [e2, e1]
      by_cases e : nm y = nm f
      · rw [if_pos e, if_pos (by simpa using e), List.set_cons_zero]
      · rw [if_neg e, if_neg (by simpa using e)]
        rfl
theorem drop_place (s : ByteArray) : ∀ l : List S45, Asc l → dropF (ls s) l = if thereB l s = true then l.eraseIdx (model_place.less l s) else l
  | [], _ => rfl
  | y :: r, ha => by
    have ih := drop_place s r (asc_tail ha)
    obtain ⟨h1, h2⟩ := List.pairwise_cons.1 (show (nm y :: r.map nm).Pairwise (· < ·) from ha)
    by_cases hl : nm y < ls s
    · have e1 := less_cons_lt y r s hl
      have e2 : thereB (y :: r) s = thereB r s := by unfold thereB; rw [e1, List.getElem?_cons_succ]
      have hne : ¬ nm y = ls s := fun e => str_irrefl _ (by rw [e] at hl; exact hl)
      have e3 : dropF (ls s) (y :: r) = y :: dropF (ls s) r := by unfold dropF; rw [List.filter_cons_of_pos (by simpa using hne)]
      rw [e3, e2, e1, ih]
      by_cases ht : thereB r s = true
      · rw [if_pos ht, if_pos ht, List.eraseIdx_cons_succ]
      · rw [if_neg ht, if_neg ht]
    · have e1 := less_cons_ge y r s ha hl
      have e2 : thereB (y :: r) s = (nm y == ls s) := by unfold thereB; rw [e1, List.getElem?_cons_zero]
      rw [e2, e1]
      by_cases e : nm y = ls s
      · rw [if_pos (by simpa using e), List.eraseIdx_cons_zero]
        unfold dropF
        rw [List.filter_cons_of_neg (by simpa using e)]
        exact dropF_above (ls s) r (by rw [← e]; exact h1)
      · rw [if_neg (by simpa using e)]
        have hgt : ls s < nm y := str_lt_of hl (Ne.symm e)
        exact dropF_above (ls s) (y :: r) fun x hx => by
          rw [List.map_cons] at hx
          rcases List.mem_cons.1 hx with rfl | hx
          · exact hgt
          · exact str_trans hgt (h1 x hx)
theorem mwith_eq (l : List S45) (s : ByteArray) (d : List Int) (h : Asc l) (hl : l.length ≤ 100000) (hd : okF l) (hdd : d.length ≤ 140737488351232) : model_With.f l s d = some (insF ⟨s, d⟩ l) := by
  unfold model_With.f
  rw [if_pos ⟨by omega, fun y hy => by have := hd y hy; omega, by omega⟩, place_f l s h (by omega), Option.bind_some]
  have := less_le l s
  dsimp only
  rw [if_pos ⟨by omega, by omega⟩, ins_place _ l h]
  by_cases ht : thereB l s = true
  · have := there_lt ht
    rw [if_pos ht, if_pos (by omega), if_pos ht]
    rfl
  · rw [if_neg ht, if_neg ht]
    rfl
theorem mwithout_eq (l : List S45) (s : ByteArray) (h : Asc l) (hl : l.length ≤ 100000) (hd : okF l) : model_Without.f l s = some (dropF (ls s) l) := by
  unfold model_Without.f
  rw [if_pos ⟨by omega, fun y hy => by have := hd y hy; omega⟩, place_f l s h (by omega), Option.bind_some]
  have := less_le l s
  dsimp only
  rw [drop_place s l h]
  by_cases ht : thereB l s = true
  · have := there_lt ht
    rw [if_pos ht, if_pos ⟨by omega, by omega⟩, if_pos ht]
    rfl
  · rw [if_neg ht, if_neg ht]
/-! What a map has for a name, behind a change. -/
theorem look_cons (y : S45) (r : List S45) (s : List UInt8) : look (y :: r) s = if nm y = s then some y else look r s := by
  unfold look
  by_cases h : nm y = s
  · rw [if_pos h, List.find?_cons_of_pos (by simpa using h)]
  · rw [if_neg h, List.find?_cons_of_neg (by simpa using h)]
theorem look_ins (f : S45) (s : List UInt8) : ∀ l : List S45, look (insF f l) s = if nm f = s then some f else look l s
  | [] => by unfold insF; rw [look_cons]
  | y :: r => by
    have ih := look_ins f s r
    unfold insF
    by_cases hl : nm y < nm f
    · rw [if_pos hl, look_cons, look_cons, ih]
      by_cases e : nm y = s
      · have : ¬ nm f = s := fun e2 => by rw [e, e2] at hl; exact str_irrefl _ hl
        rw [if_pos e, if_neg this, if_pos e]
      · rw [if_neg e, if_neg e]
    · rw [if_neg hl]
      by_cases e : nm y = nm f
      · rw [if_pos e, look_cons, look_cons, e]
        by_cases e2 : nm f = s
        · rw [if_pos e2, if_pos e2]
        · rw [if_neg e2, if_neg e2, if_neg e2]
      · rw [if_neg e, look_cons]
theorem look_drop (n s : List UInt8) : ∀ l : List S45, look (dropF n l) s = if n = s then none else look l s
  | [] => by unfold dropF; rw [List.filter_nil]; split <;> rfl
  | y :: r => by
    have ih := look_drop n s r
    unfold dropF at ih ⊢
    by_cases h : nm y = n
    · rw [List.filter_cons_of_neg (by simpa using h), ih, look_cons, h]
      by_cases e : n = s
      · rw [if_pos e, if_pos e]
      · rw [if_neg e, if_neg e, if_neg e]
    · rw [List.filter_cons_of_pos (by simpa using h), look_cons, look_cons, ih]
      by_cases e : nm y = s
      · rw [if_pos e, if_neg (fun e2 => h (by rw [e, e2])), if_pos e]
      · rw [if_neg e, if_neg e]
theorem look_some_iff (l : List S45) (s : List UInt8) : (look l s).isSome = true ↔ s ∈ l.map nm := by
  constructor
  · intro h
    obtain ⟨y, hy⟩ := Option.isSome_iff_exists.1 h
    obtain ⟨e1, e2⟩ := look_nm hy
    rw [← e1]
    exact List.mem_map_of_mem e2
  · intro h
    obtain ⟨y, hy⟩ := look_mem h
    rw [hy]
    rfl
theorem of_names {l : List S45} (ha : Asc l) : (l.map nm).filterMap (look l) = l := by
  have : ∀ m : List S45, (∀ y ∈ m, look l (nm y) = some y) → (m.map nm).filterMap (look l) = m := fun m => by
    induction m with
    | nil => intro _; rfl
    | cons y r ih =>
      intro h
      rw [List.map_cons, List.filterMap_cons_some (h y List.mem_cons_self), ih fun z hz => h z (List.mem_cons_of_mem _ hz)]
  exact this l fun y hy => look_self ha hy
theorem asc_ext {l m : List S45} (hl : Asc l) (hm : Asc m) (h : ∀ s, look l s = look m s) : l = m := by
  have hn : l.map nm = m.map nm := strict_ext hl hm fun x => by rw [← look_some_iff, ← look_some_iff, h x]
  rw [← of_names hl, ← of_names hm, hn]
  congr 1
  funext s
  exact h s
/-! Steps, done with a map. -/
/-- Why a step can't be done. -/
def stepE (l : List S45) (o : S72) : Int :=
  if o.f0 = 11 then (if (look l (ls o.f1)).isSome = true then 0 else 7) else if ¬ o.f0 = 3 then 1 else if ¬ YtcfcbkcaondfcaaDoorMpHelp.rightB (ls o.f1) = true then 6 else if 65536 < o.f2.length then 5 else if (look l (ls o.f1)).isSome = false ∧ 199 < l.length then 14 else 0
def doStep (l : List S45) (o : S72) : List S45 := if o.f0 = 11 then dropF (ls o.f1) l else insF ⟨o.f1, o.f2⟩ l
def applyL : List S45 → List S72 → List S45 × Int
  | l, [] => (l, 0)
  | l, o :: r => if stepE l o = 0 then applyL (doStep l o) r else ([], stepE l o)
theorem do_asc {l : List S45} (o : S72) (h : Asc l) : Asc (doStep l o) := by
  unfold doStep
  split
  · exact dropF_asc _ h
  · exact insF_asc _ h
theorem do_look (l : List S45) (o : S72) (s : List UInt8) : look (doStep l o) s = if ls o.f1 = s then (if o.f0 = 11 then none else some ⟨o.f1, o.f2⟩) else look l s := by
  unfold doStep
  by_cases h : o.f0 = 11
  · rw [if_pos h, if_pos h, look_drop]
  · rw [if_neg h, if_neg h, look_ins]
/-- What a map has behind steps of other names each. -/
theorem apply_look (s : List UInt8) : ∀ (L : List S72) (l z : List S45), (L.map (fun o => ls o.f1)).Pairwise (· ≠ ·) → applyL l L = (z, 0) →
    look z s = match L.find? (fun o => ls o.f1 == s) with | none => look l s | some o => if o.f0 = 11 then none else some ⟨o.f1, o.f2⟩
  | [], l, z, _, h => by
    unfold applyL at h
    rw [← (Prod.mk.inj h).1]
    rfl
  | o :: r, l, z, hp, h => by
    rw [List.map_cons] at hp
    obtain ⟨h1, h2⟩ := List.pairwise_cons.1 hp
    unfold applyL at h
    by_cases he : stepE l o = 0
    · rw [if_pos he] at h
      have ih := apply_look s r _ z h2 h
      rw [ih]
      by_cases e : ls o.f1 = s
      · rw [List.find?_cons_of_pos (by simpa using e)]
        have hn : r.find? (fun o => ls o.f1 == s) = none := by
          rw [List.find?_eq_none]
          intro p hpr
          have := h1 (ls p.f1) (List.mem_map_of_mem (f := fun o : S72 => ls o.f1) hpr)
          simpa using fun e2 : ls p.f1 = s => this (by rw [e, e2])
        rw [hn]
        dsimp only
        rw [do_look, if_pos e]
      · rw [List.find?_cons_of_neg (by simpa using e)]
        cases r.find? (fun o => ls o.f1 == s) with
        | none => dsimp only; rw [do_look, if_neg e]
        | some p => rfl
    · rw [if_neg he] at h
      exact absurd (Prod.mk.inj h).2 he
theorem apply_asc : ∀ (L : List S72) (l : List S45), Asc l → Asc (applyL l L).1
  | [], l, h => h
  | o :: r, l, h => by
    unfold applyL
    split
    · exact apply_asc r _ (do_asc o h)
    · exact List.Pairwise.nil
theorem asc_len {l b : List S45} (hl : Asc l) (hb : Asc b) (hs : ∀ s ∈ l.map nm, s ∈ b.map nm) {n : List UInt8} (hn : n ∈ b.map nm) (hno : n ∉ l.map nm) : l.length < b.length := by
  have e : l.map nm = (b.map nm).filter (fun s => decide (s ∈ l.map nm)) := strict_ext hl (List.Pairwise.filter _ hb) fun x => by
    rw [List.mem_filter]
    constructor
    · intro h; exact ⟨hs x h, by simpa using h⟩
    · rintro ⟨_, h⟩; simpa using h
  have h1 : l.length = ((b.map nm).filter (fun s => decide (s ∈ l.map nm))).length := by rw [← e, List.length_map]
  have h2 : ((b.map nm).filter (fun s => decide (s ∈ l.map nm))).length < (b.map nm).length := List.length_filter_lt_length_iff_exists.2 ⟨n, hn, by simpa using hno⟩
  rw [List.length_map] at h2
  omega
/-- Steps that can be done. -/
theorem apply_ok (b : List S45) (hb : Asc b) (hlen : b.length ≤ 200) : ∀ (L : List S72) (l : List S45), Asc l → (L.map (fun o => ls o.f1)).Pairwise (· ≠ ·) →
    (∀ o ∈ L, (o.f0 = 11 ∧ (look l (ls o.f1)).isSome = true) ∨ (o.f0 = 3 ∧ YtcfcbkcaondfcaaDoorMpHelp.rightB (ls o.f1) = true ∧ o.f2.length ≤ 65536 ∧ ls o.f1 ∈ b.map nm)) → L.Pairwise (fun o p => p.f0 = 11 → o.f0 = 11) →
    (∀ s ∈ l.map nm, s ∈ b.map nm ∨ ∃ o ∈ L, o.f0 = 11 ∧ ls o.f1 = s) → (applyL l L).2 = 0
  | [], l, _, _, _, _, _ => rfl
  | o :: r, l, ha, hp, hk, hq, hs => by
    rw [List.map_cons] at hp
    obtain ⟨p1, p2⟩ := List.pairwise_cons.1 hp
    obtain ⟨q1, q2⟩ := List.pairwise_cons.1 hq
    have hother : ∀ p ∈ r, ¬ ls o.f1 = ls p.f1 := fun p hpr => p1 (ls p.f1) (List.mem_map_of_mem (f := fun o : S72 => ls o.f1) hpr)
    have hk2 : ∀ p ∈ r, (p.f0 = 11 ∧ (look (doStep l o) (ls p.f1)).isSome = true) ∨ (p.f0 = 3 ∧ YtcfcbkcaondfcaaDoorMpHelp.rightB (ls p.f1) = true ∧ p.f2.length ≤ 65536 ∧ ls p.f1 ∈ b.map nm) := fun p hpr => by
      rcases hk p (List.mem_cons_of_mem _ hpr) with ⟨h1, h2⟩ | h
      · refine .inl ⟨h1, ?_⟩
        rw [do_look, if_neg (hother p hpr)]
        exact h2
      · exact .inr h
    unfold applyL
    rcases hk o List.mem_cons_self with ⟨h1, h2⟩ | ⟨h1, h2, h3, h4⟩
    · have he : stepE l o = 0 := by unfold stepE; rw [if_pos h1, if_pos h2]
      rw [if_pos he]
      refine apply_ok b hb hlen r _ (do_asc o ha) p2 hk2 q2 fun s hs2 => ?_
      rw [← look_some_iff, do_look] at hs2
      by_cases e : ls o.f1 = s
      · rw [if_pos e, if_pos h1] at hs2
        cases hs2
      · rw [if_neg e, look_some_iff] at hs2
        rcases hs s hs2 with h | ⟨p, hpm, hp1, hp2⟩
        · exact .inl h
        · rcases List.mem_cons.1 hpm with rfl | hpm
          · exact absurd hp2 e
          · exact .inr ⟨p, hpm, hp1, hp2⟩
    · have hno : ∀ p ∈ o :: r, ¬ p.f0 = 11 := fun p hpm e => by
        rcases List.mem_cons.1 hpm with rfl | hpm
        · omega
        · have := q1 p hpm e
          omega
      have hsb : ∀ s ∈ l.map nm, s ∈ b.map nm := fun s hs2 => by
        rcases hs s hs2 with h | ⟨p, hpm, hp1, _⟩
        · exact h
        · exact absurd hp1 (hno p hpm)
      have he : stepE l o = 0 := by
        unfold stepE
        rw [if_neg (by omega), if_neg (by omega), if_neg (by rw [h2]; decide), if_neg (by omega), if_neg]
        rintro ⟨e1, e2⟩
        have := asc_len ha hb hsb h4 (fun hm => by rw [(look_some_iff _ _).2 hm] at e1; cases e1)
        omega
      rw [if_pos he]
      refine apply_ok b hb hlen r _ (do_asc o ha) p2 hk2 q2 fun s hs2 => ?_
      rw [← look_some_iff, do_look] at hs2
      by_cases e : ls o.f1 = s
      · exact .inl (by rw [← e]; exact h4)
      · rw [if_neg e, look_some_iff] at hs2
        exact .inl (hsb s hs2)
/-! The difference, as steps. -/
/-- Data that is bytes. -/
def byteF (l : List S45) : Prop := ∀ y ∈ l, bytesOf (strOfNums y.f1) = y.f1
theorem byte_eq {y z : S45} (hy : bytesOf (strOfNums y.f1) = y.f1) (hz : bytesOf (strOfNums z.f1) = z.f1) (hn : nm y = nm z) (h : (strOfNums y.f1).toList = (strOfNums z.f1).toList) : y = z := by
  have e1 : y.f0 = z.f0 := ls_inj hn
  have e2 : y.f1 = z.f1 := by rw [← hy, ← hz, toList_inj h]
  cases y
  cases z
  simp only at e1 e2
  rw [e1, e2]
theorem like_look {a b : List S45} (ha : byteF a) (hb : byteF b) (s : List UInt8) : likeO (look a s) (look b s) = true ↔ look a s = look b s := by
  cases h1 : look a s with
  | none =>
    cases h2 : look b s with
    | none => simp [likeO]
    | some z => simp [likeO]
  | some y =>
    cases h2 : look b s with
    | none => simp [likeO]
    | some z =>
      obtain ⟨n1, m1⟩ := look_nm h1
      obtain ⟨n2, m2⟩ := look_nm h2
      constructor
      · intro h
        rw [byte_eq (ha y m1) (hb z m2) (by rw [n1, n2]) (by simpa [likeO] using h)]
      · intro h
        injection h with h
        rw [h]
        simp [likeO]
section
variable (a b : List S45)
def diffL : List S72 := (stepsB a b).map tellG
theorem told_byte (hb : byteF b) : (stepsB a b).map tellF = diffL a b := by
  refine List.map_congr_left fun z hz => ?_
  unfold stepsB at hz
  rcases List.mem_append.1 hz with h | h
  · obtain ⟨y, _, rfl⟩ := List.mem_map.1 h
    rfl
  · obtain ⟨y, hy, rfl⟩ := List.mem_map.1 h
    show (⟨3, y.f0, bytesOf (strOfNums y.f1), 0, ⟨[], 0, 0⟩⟩ : S72) = ⟨3, y.f0, y.f1, 0, ⟨[], 0, 0⟩⟩
    rw [hb y (List.mem_filter.1 hy).1]
theorem diffL_eq : diffL a b = (a.filter (fun y => goneP b (nm y))).map (fun y => tellG (.inl y)) ++ (b.filter (fun y => putP a b (nm y))).map (fun y => tellG (.inr y)) := by
  unfold diffL stepsB
  rw [List.map_append, List.map_map, List.map_map]
  rfl
theorem diff_mem {o : S72} (h : o ∈ diffL a b) : (∃ y ∈ a, goneP b (nm y) = true ∧ o = tellG (.inl y)) ∨ (∃ y ∈ b, putP a b (nm y) = true ∧ o = tellG (.inr y)) := by
  rw [diffL_eq] at h
  rcases List.mem_append.1 h with h | h
  · obtain ⟨y, hy, rfl⟩ := List.mem_map.1 h
    exact .inl ⟨y, (List.mem_filter.1 hy).1, (List.mem_filter.1 hy).2, rfl⟩
  · obtain ⟨y, hy, rfl⟩ := List.mem_map.1 h
    exact .inr ⟨y, (List.mem_filter.1 hy).1, (List.mem_filter.1 hy).2, rfl⟩
theorem gone_no {s : List UInt8} (h : goneP b s = true) : s ∉ b.map nm := fun hm => by
  unfold goneP at h
  obtain ⟨y, hy⟩ := look_mem hm
  rw [hy] at h
  cases h
theorem diff_names (ha : Asc a) (hb : Asc b) : ((diffL a b).map (fun o => ls o.f1)).Pairwise (· ≠ ·) := by
  rw [diffL_eq, List.map_append, List.map_map, List.map_map]
  refine List.pairwise_append.2 ⟨?_, ?_, ?_⟩
  · show ((a.filter (fun y => goneP b (nm y))).map nm).Pairwise (· ≠ ·)
    exact (List.Pairwise.sublist (List.Sublist.map nm List.filter_sublist) ha).imp fun {x y} h (e : x = y) => str_irrefl x (by rw [← e] at h; exact h)
  · show ((b.filter (fun y => putP a b (nm y))).map nm).Pairwise (· ≠ ·)
    exact (List.Pairwise.sublist (List.Sublist.map nm List.filter_sublist) hb).imp fun {x y} h (e : x = y) => str_irrefl x (by rw [← e] at h; exact h)
  · intro x hx y hy e
    obtain ⟨p, hp, rfl⟩ := List.mem_map.1 hx
    obtain ⟨q, hq, rfl⟩ := List.mem_map.1 hy
    refine gone_no b (List.mem_filter.1 hp).2 ?_
    have e2 : nm p = nm q := e
    rw [e2]
    exact List.mem_map_of_mem (List.mem_filter.1 hq).1
theorem diff_kinds : (diffL a b).Pairwise (fun o p => p.f0 = 11 → o.f0 = 11) := by
  rw [diffL_eq]
  refine List.pairwise_append.2 ⟨?_, ?_, ?_⟩
  · refine List.pairwise_map.2 (List.Pairwise.imp (fun _ _ => rfl) (List.pairwise_of_forall (R := fun _ _ => True) fun _ _ => trivial))
  · refine List.pairwise_map.2 (List.Pairwise.imp (fun _ e => ?_) (List.pairwise_of_forall (R := fun _ _ => True) fun _ _ => trivial))
    exact absurd e (by show ¬ (3 : Int) = 11; decide)
  · intro x hx y hy e
    obtain ⟨p, _, rfl⟩ := List.mem_map.1 hx
    rfl
/-- What a difference has for a name. -/
theorem diff_find (s : List UInt8) : (diffL a b).find? (fun o => ls o.f1 == s) = if goneP b s = true then (look a s).map (fun y => tellG (.inl y)) else if putP a b s = true then (look b s).map (fun y => tellG (.inr y)) else none := by
  have go : ∀ (l : List S45) (p : List UInt8 → Bool) (g : S45 → S72), (∀ y, ls (g y).f1 = nm y) → ((l.filter (fun y => p (nm y))).map g).find? (fun o => ls o.f1 == s) = if p s = true then (look l s).map g else none := fun l p g hg => by
    induction l with
    | nil => unfold look; simp
    | cons y r ih =>
      rw [look_cons]
      by_cases hp : p (nm y) = true
      · rw [List.filter_cons_of_pos (by exact hp), List.map_cons]
        by_cases e : nm y = s
        · rw [List.find?_cons_of_pos (by rw [hg]; simpa using e), if_pos (by rw [← e]; exact hp), if_pos e]
          rfl
        · rw [List.find?_cons_of_neg (by rw [hg]; simpa using e), ih, if_neg e]
      · rw [List.filter_cons_of_neg (by exact hp), ih]
        by_cases e : nm y = s
        · rw [if_neg (by rw [← e]; exact hp), if_neg (by rw [← e]; exact hp)]
        · rw [if_neg e]
  rw [diffL_eq, List.find?_append, go a (goneP b) (fun y => tellG (.inl y)) (fun _ => rfl), go b (putP a b) (fun y => tellG (.inr y)) (fun _ => rfl)]
  by_cases hg : goneP b s = true
  · rw [if_pos hg, if_pos hg]
    have hn : look b s = none := by
      unfold goneP at hg
      simpa using hg
    rw [if_neg (by unfold putP; rw [hn]; simp), Option.or_none]
  · rw [if_neg hg, if_neg hg, Option.none_or]
/-- A name's place in a map behind the difference's steps, done with any map. -/
theorem diff_look (ha : Asc a) (hb : Asc b) (la : byteF a) (lb : byteF b) (m z : List S45) (h : applyL m (diffL a b) = (z, 0)) (s : List UInt8) : (look a s = look b s → look z s = look m s) ∧ (¬ look a s = look b s → look z s = look b s) := by
  rw [apply_look s (diffL a b) m z (diff_names a b ha hb) h, diff_find a b s]
  by_cases hg : goneP b s = true
  · rw [if_pos hg]
    have hn : look b s = none := by
      unfold goneP at hg
      simpa using hg
    rw [hn]
    cases hx : look a s with
    | none => exact ⟨fun _ => rfl, fun h => absurd rfl h⟩
    | some y => exact ⟨fun h => (by cases h), fun _ => rfl⟩
  · rw [if_neg hg]
    have hn : ∃ y, look b s = some y := by
      unfold goneP at hg
      exact Option.ne_none_iff_exists'.1 (by simpa using hg)
    obtain ⟨y, hy⟩ := hn
    by_cases hp : putP a b s = true
    · have hne : ¬ look a s = look b s := fun e => by
        unfold putP at hp
        rw [(like_look la lb s).2 e] at hp
        simp at hp
      rw [if_pos hp]
      refine ⟨fun h => absurd h hne, fun _ => ?_⟩
      rw [hy]
      rfl
    · have he : look a s = look b s := by
        rw [← like_look la lb s]
        unfold putP at hp
        rw [hy] at hp ⊢
        simpa using hp
      rw [if_neg hp]
      exact ⟨fun _ => rfl, fun h => absurd he h⟩
/-- A difference leads from the one to the other. -/
theorem diff_leads (ha : Asc a) (hb : Asc b) (la : byteF a) (lb : byteF b) (hr : ∀ y ∈ b, YtcfcbkcaondfcaaDoorMpHelp.rightB (nm y) = true ∧ y.f1.length ≤ 65536) (hlen : b.length ≤ 200) : applyL a (diffL a b) = (b, 0) := by
  have h2 : (applyL a (diffL a b)).2 = 0 := by
    refine apply_ok b hb hlen (diffL a b) a ha (diff_names a b ha hb) (fun o ho => ?_) (diff_kinds a b) (fun s hs => ?_)
    · rcases diff_mem a b ho with ⟨y, hy, hg, rfl⟩ | ⟨y, hy, hp, rfl⟩
      · exact .inl ⟨rfl, (look_some_iff _ _).2 (List.mem_map_of_mem hy)⟩
      · exact .inr ⟨rfl, (hr y hy).1, (hr y hy).2, List.mem_map_of_mem hy⟩
    · by_cases hg : goneP b s = true
      · obtain ⟨y, hy, rfl⟩ := List.mem_map.1 hs
        refine .inr ⟨tellG (.inl y), ?_, rfl, rfl⟩
        rw [diffL_eq]
        exact List.mem_append_left _ (List.mem_map_of_mem (f := fun y => tellG (.inl y)) (List.mem_filter.2 ⟨hy, hg⟩))
      · refine .inl ?_
        rw [← look_some_iff]
        cases hb2 : look b s with
        | none => exact absurd (show goneP b s = true by unfold goneP; rw [hb2]; rfl) hg
        | some y => rfl
  generalize hz : applyL a (diffL a b) = q at h2
  obtain ⟨z, e⟩ := q
  dsimp only at h2
  subst h2
  have haz : Asc z := by
    have := apply_asc (diffL a b) a ha
    rw [hz] at this
    exact this
  have : z = b := asc_ext haz hb fun s => by
    have hd := diff_look a b ha hb la lb a z hz s
    by_cases e : look a s = look b s
    · rw [hd.1 e, e]
    · rw [hd.2 e]
  rw [this]
theorem diff_self (la : byteF a) : diffL a a = [] := by
  rw [diffL_eq]
  have h1 : a.filter (fun y => goneP a (nm y)) = [] := List.filter_eq_nil_iff.2 fun y hy e => gone_no a e (List.mem_map_of_mem hy)
  have h2 : a.filter (fun y => putP a a (nm y)) = [] := List.filter_eq_nil_iff.2 fun y hy e => by
    unfold putP at e
    rw [(like_look la la (nm y)).2 rfl] at e
    simp at e
  rw [h1, h2]
  rfl
end
theorem bytes_good {d : List Int} (h : ∀ e ∈ d, (Lit.int .u8 e).wf = true) : bytesOf (strOfNums d) = d := by
  unfold bytesOf strOfNums
  show List.map (fun b : UInt8 => (b.toNat : Int)) (List.map (fun n : Int => UInt8.ofNat n.toNat) d) = d
  rw [List.map_map]
  conv => rhs; rw [← List.map_id d]
  refine List.map_congr_left fun n hn => ?_
  obtain ⟨h1, h2⟩ := Go.bounds_u8 (h n hn)
  show ((UInt8.ofNat n.toNat).toNat : Int) = n
  rw [UInt8.toNat_ofNat']
  omega
/-- Steps whose data is bytes. -/
def okO (S : List S72) : Prop := ∀ o ∈ S, o.f2.length ≤ 140737488351232 ∧ bytesOf (strOfNums o.f2) = o.f2
theorem refused_ev (l : List S45) (o : S72) (ha : Asc l) (hl : l.length ≤ 1000) (hd : okF l) : Ev (fun k => plan_refused.f k l o.f0 o.f1 o.f2 o.f3 o.f4.f0 o.f4.f1 o.f4.f2) (stepE l o) := by
  have hs : (valO (look l (ls o.f1))).1 = (look l (ls o.f1)).isSome := by cases look l (ls o.f1) <;> rfl
  refine Ev.congr (fun k => by unfold plan_refused.f; exact rfl) (ev_bindc (of_eq l o.f1 ha (by omega) hd) ?_)
  rw [hs]
  unfold stepE
  by_cases h11 : o.f0 = 11
  · rw [if_pos h11]
    refine ev_pos h11 (Ev.step (fun k => by unfold plan_refused.j0; exact rfl) ?_)
    cases (look l (ls o.f1)).isSome with
    | false => exact ev_pos rfl (Ev.now _)
    | true => exact ev_neg (by decide) (ev_pos h11 (Ev.now _))
  · rw [if_neg h11]
    refine ev_neg h11 (Ev.step (fun k => by unfold plan_refused.j0; exact rfl) (ev_neg (by decide) (ev_neg h11 ?_)))
    by_cases h3 : o.f0 = 3
    · rw [if_neg (not_not_intro h3)]
      refine ev_pos h3 (ev_bindc rfl ?_)
      by_cases hr : YtcfcbkcaondfcaaDoorMpHelp.rightB (ls o.f1) = true
      · rw [if_neg (not_not_intro hr)]
        refine ev_pos hr ?_
        by_cases hd : 65536 < o.f2.length
        · rw [if_pos hd]
          exact ev_pos (by omega) (Ev.now _)
        · rw [if_neg hd]
          refine ev_neg (by omega) ?_
          cases (look l (ls o.f1)).isSome with
          | true =>
            refine ev_pos rfl ?_
            rw [if_neg (fun e => by cases e.1)]
            exact Ev.now _
          | false =>
            refine ev_neg (by decide) ?_
            by_cases hz : 199 < l.length
            · refine ev_pos (by omega) ?_
              rw [if_pos ⟨rfl, hz⟩]
              exact Ev.now _
            · refine ev_neg (by omega) ?_
              rw [if_neg (fun e => hz e.2)]
              exact Ev.now _
      · rw [if_pos hr]
        exact ev_neg hr (Ev.now _)
    · rw [if_pos h3]
      exact ev_neg h3 (Ev.now _)
theorem own_loop (l : List S45) (hl : l.length ≤ 1000) (hd : okF l) : ∀ (n i : Nat) (out : List S45), i + n = l.length → out.length ≤ i → Ev (fun k => plan_own.l0 k out l (l.length : Int) i) (out ++ l.drop i)
  | 0, i, out, hi, ho => by
    rw [List.drop_of_length_le (by omega), List.append_nil]
    exact Ev.step (fun k => by unfold plan_own.l0; exact rfl) (ev_neg (by omega) (Ev.now _))
  | n + 1, i, out, hi, ho => by
    have dl : l.drop i = l[i] :: l.drop (i + 1) := List.drop_eq_getElem_cons (by omega)
    have h1 := own_loop l hl hd n (i + 1) (out ++ [l[i]]) (by omega) (by rw [List.length_append]; simp; omega)
    rw [List.append_assoc] at h1
    rw [dl]
    refine Ev.step (fun k => by unfold plan_own.l0; exact rfl) (ev_pos (by omega) (ev_pos (by omega) (ev_pos (by omega) ?_)))
    rw [rdF l i (by omega), wadd i (by omega)]
    have := hd l[i] (List.getElem_mem _)
    exact ev_bindc (show slices_Clone_byte_byte.f l[i].f1 = some l[i].f1 by unfold slices_Clone_byte_byte.f; rw [if_pos (by omega)]) (ev_pos (by omega) h1)
theorem ok_do {l : List S45} {o : S72} (h : okF l) (ho : o.f2.length ≤ 140737488351232) : okF (doStep l o) := fun y hy => by
  unfold doStep at hy
  split at hy
  · exact h y (List.mem_filter.1 hy).1
  · rcases insF_mem hy with rfl | hy
    · exact ho
    · exact h y hy
theorem do_len (l : List S45) (o : S72) : (doStep l o).length ≤ l.length + 1 := by
  unfold doStep
  split
  · have := dropF_len (ls o.f1) l; omega
  · exact insF_len _ _
theorem apply_byte : ∀ (S : List S72) (l : List S45), okO S → byteF l → okF l → byteF (applyL l S).1 ∧ okF (applyL l S).1
  | [], l, _, hb, hk => ⟨hb, hk⟩
  | o :: r, l, ho, hb, hk => by
    unfold applyL
    split
    · refine apply_byte r _ (fun p hp => ho p (List.mem_cons_of_mem _ hp)) (fun y hy => ?_) (ok_do hk (ho o List.mem_cons_self).1)
      unfold doStep at hy
      split at hy
      · exact hb y (List.mem_filter.1 hy).1
      · rcases insF_mem hy with rfl | hy
        · exact (ho o List.mem_cons_self).2
        · exact hb y hy
    · exact ⟨fun y hy => (by cases hy), fun y hy => (by cases hy)⟩
theorem apply_len : ∀ (S : List S72) (l : List S45), (applyL l S).1.length ≤ l.length + S.length
  | [], l => Nat.le_refl _
  | o :: r, l => by
    unfold applyL
    split
    · have := apply_len r (doStep l o)
      have := do_len l o
      rw [List.length_cons]
      omega
    · exact Nat.zero_le _
theorem apply_fail : ∀ (S : List S72) (l : List S45), (applyL l S).2 ≠ 0 → (applyL l S).1 = []
  | [], l, h => absurd rfl h
  | o :: r, l, h => by
    unfold applyL at h ⊢
    split
    · rename_i he
      rw [if_pos he] at h
      exact apply_fail r _ h
    · rfl
theorem papply_loop (S : List S72) (hS : S.length ≤ 600) (ho : okO S) : ∀ (n i : Nat) (l : List S45), i + n = S.length → Asc l → okF l → l.length + n ≤ 1000 → Ev (fun k => plan_Apply.l0 k l S (S.length : Int) i) (applyL l (S.drop i))
  | 0, i, l, hi, ha, hd, hn => by
    rw [List.drop_of_length_le (by omega)]
    have h1 := own_loop l (by omega) hd l.length 0 [] (by omega) (by simp)
    rw [List.drop_zero, List.nil_append] at h1
    exact Ev.step (fun k => by unfold plan_Apply.l0; exact rfl) (ev_neg (by omega) (ev_bind (Ev.congr (fun k => by unfold plan_own.f; exact rfl) h1) (Ev.now _)))
  | n + 1, i, l, hi, ha, hd, hn => by
    have dl : S.drop i = S[i] :: S.drop (i + 1) := List.drop_eq_getElem_cons (by omega)
    have hm := ho S[i] (List.getElem_mem _)
    rw [dl, applyL]
    refine Ev.step (fun k => by unfold plan_Apply.l0; exact rfl) (ev_pos (by omega) (ev_pos (by omega) (ev_pos (by omega) ?_)))
    rw [rdO S i (by omega), wadd i (by omega)]
    refine ev_bind (refused_ev l S[i] ha (by omega) hd) ?_
    have ih := papply_loop S hS ho n (i + 1) (doStep l S[i]) (by omega) (do_asc _ ha) (ok_do hd hm.1) (by have := do_len l S[i]; omega)
    by_cases he : stepE l S[i] = 0
    · rw [if_pos he]
      refine ev_pos he ?_
      by_cases h3 : S[i].f0 = 3
      · rw [show doStep l S[i] = insF ⟨S[i].f1, S[i].f2⟩ l by unfold doStep; rw [if_neg (by omega)]] at ih ⊢
        exact ev_pos h3 (ev_bindc (mwith_eq l S[i].f1 S[i].f2 ha (by omega) hd hm.1) ih)
      · have h11 : S[i].f0 = 11 := by
          unfold stepE at he
          by_cases h : S[i].f0 = 11
          · exact h
          · rw [if_neg h, if_pos h3] at he
            cases he
        rw [show doStep l S[i] = dropF (ls S[i].f1) l by unfold doStep; rw [if_pos h11]] at ih ⊢
        exact ev_neg h3 (ev_bindc (mwithout_eq l S[i].f1 ha (by omega) hd) ih)
    · rw [if_neg he]
      exact ev_neg he (Ev.now _)
/-- The program's Apply. -/
theorem papply_ev (l : List S45) (S : List S72) (hS : S.length ≤ 600) (ho : okO S) (ha : Asc l) (hd : okF l) (hn : l.length ≤ 300) : Ev (fun k => plan_Apply.f k l S) (applyL l S) := by
  have h1 := papply_loop S hS ho S.length 0 l (by omega) ha hd (by omega)
  rw [List.drop_zero] at h1
  exact Ev.congr (fun k => by unfold plan_Apply.f; exact rfl) (ev_bindc (show api_File.f l = some l by unfold api_File.f; rw [if_pos (by omega)]) h1)
theorem pback_ev (l : List S45) (S : List S72) (hS : S.length ≤ 600) (ho : okO S) (ha : Asc l) (hb : byteF l) (hd : okF l) (hn : l.length ≤ 300) : Ev (fun k => plan_Back.f k l S) (if (applyL l S).2 = 0 then ((stepsB (applyL l S).1 l).map tellF, 0) else ([], (applyL l S).2)) := by
  refine Ev.congr (fun k => by unfold plan_Back.f; exact rfl) (ev_bind (papply_ev l S hS ho ha hd hn) ?_)
  have h1 := apply_asc S l ha
  have h2 := (apply_byte S l ho hb hd).2
  have h3 := apply_len S l
  by_cases he : (applyL l S).2 = 0
  · refine ev_pos he (ev_bindc (plan_diff _ l h1 ha (by omega) (by omega) h2 hd) ?_)
    rw [if_pos he]
    exact Ev.now _
  · refine ev_neg he ?_
    rw [if_neg he]
    exact Ev.now _
/-- Two lists of files, alike. -/
theorem same_files (l m : List S45) (hlen : l.length = m.length) (hs : l.length ≤ 9000000) (h : ∀ (j : Nat) (hj : j < l.length), nm l[j] = nm (m[j]'(by omega)) ∧ strOfNums l[j].f1 = strOfNums (m[j]'(by omega)).f1) : ∀ n i : Nat, i + n = l.length → Ev (fun k => bindleref25_Same.l0 k l m i) true
  | 0, i, hi => Ev.step (fun k => by unfold bindleref25_Same.l0; exact rfl) (ev_neg (by omega) (Ev.now _))
  | n + 1, i, hi => by
    obtain ⟨e1, e2⟩ := h i (by omega)
    refine Ev.step (fun k => by unfold bindleref25_Same.l0; exact rfl) (ev_pos (by omega) (ev_pos (by omega) (ev_pos (by omega) ?_)))
    rw [rdF l i (by omega), rdF m i (by omega), wadd i (by omega)]
    exact ev_pos (by rw [toList_ls, toList_ls]; exact e1) (ev_pos (by rw [e2]) (same_files l m hlen hs h n (i + 1) (by omega)))
theorem same_refl (l : List S45) (hs : l.length ≤ 9000000) : Ev (fun k => bindleref25_Same.f k l l) true :=
  Ev.congr (fun k => by unfold bindleref25_Same.f; exact rfl) (ev_pos rfl (same_files l l rfl hs (fun _ _ => ⟨rfl, rfl⟩) l.length 0 (by omega)))
theorem same_is_loop (l m : List S45) (hlen : l.length = m.length) (hs : l.length ≤ 9000000) (hl : byteF l) (hm : byteF m) : ∀ n i : Nat, i + n = l.length → ∃ r : Bool, Ev (fun k => bindleref25_Same.l0 k l m i) r ∧ (r = true ↔ l.drop i = m.drop i)
  | 0, i, hi => ⟨true, Ev.step (fun k => by unfold bindleref25_Same.l0; exact rfl) (ev_neg (by omega) (Ev.now _)), fun _ => by rw [List.drop_of_length_le (by omega), List.drop_of_length_le (by omega)], fun _ => rfl⟩
  | n + 1, i, hi => by
    have dl : l.drop i = l[i] :: l.drop (i + 1) := List.drop_eq_getElem_cons (by omega)
    have dm : m.drop i = m[i] :: m.drop (i + 1) := List.drop_eq_getElem_cons (by omega)
    obtain ⟨r, h1, h2⟩ := same_is_loop l m hlen hs hl hm n (i + 1) (by omega)
    by_cases e1 : nm l[i] = nm m[i]
    · by_cases e2 : (strOfNums l[i].f1).toList = (strOfNums m[i].f1).toList
      · refine ⟨r, Ev.step (fun k => by unfold bindleref25_Same.l0; exact rfl) (ev_pos (by omega) (ev_pos (by omega) (ev_pos (by omega) ?_))), ?_⟩
        · rw [rdF l i (by omega), rdF m i (by omega), wadd i (by omega)]
          exact ev_pos (by rw [toList_ls, toList_ls]; exact e1) (ev_pos e2 h1)
        · have he : l[i] = m[i] := byte_eq (hl _ (List.getElem_mem _)) (hm _ (List.getElem_mem _)) e1 e2
          rw [h2, dl, dm, he]
          exact ⟨fun h => by rw [h], fun h => (List.cons.inj h).2⟩
      · refine ⟨false, Ev.step (fun k => by unfold bindleref25_Same.l0; exact rfl) (ev_pos (by omega) (ev_pos (by omega) (ev_pos (by omega) ?_))), (fun h => by cases h), fun h => ?_⟩
        · rw [rdF l i (by omega), rdF m i (by omega)]
          exact ev_pos (by rw [toList_ls, toList_ls]; exact e1) (ev_neg e2 (Ev.now _))
        · rw [dl, dm] at h
          exact absurd (by rw [(List.cons.inj h).1]) e2
    · refine ⟨false, Ev.step (fun k => by unfold bindleref25_Same.l0; exact rfl) (ev_pos (by omega) (ev_pos (by omega) (ev_pos (by omega) ?_))), (fun h => by cases h), fun h => ?_⟩
      · rw [rdF l i (by omega), rdF m i (by omega)]
        exact ev_neg (by rw [toList_ls, toList_ls]; exact e1) (Ev.now _)
      · rw [dl, dm] at h
        exact absurd (by rw [(List.cons.inj h).1]) e1
/-- Are lists of files whose data is bytes alike? -/
theorem same_is (l m : List S45) (hs : l.length ≤ 9000000) (hl : byteF l) (hm : byteF m) : ∃ r : Bool, Ev (fun k => bindleref25_Same.f k l m) r ∧ (r = true ↔ l = m) := by
  by_cases h : (l.length : Int) = (m.length : Int)
  · obtain ⟨r, h1, h2⟩ := same_is_loop l m (by omega) hs hl hm l.length 0 (by omega)
    rw [List.drop_zero, List.drop_zero] at h2
    exact ⟨r, Ev.congr (fun k => by unfold bindleref25_Same.f; exact rfl) (ev_pos h h1), h2⟩
  · exact ⟨false, Ev.congr (fun k => by unfold bindleref25_Same.f; exact rfl) (ev_neg h (Ev.now _)), (fun e => by cases e), fun e => absurd (by rw [e]) h⟩
theorem data_ok {l : List S45} (h : ∀ e ∈ l, good45 e) : okF l := fun y hy => by
  have := (h y hy).2.2.1
  omega
theorem data_byte {l : List S45} (h : ∀ e ∈ l, good45 e) : byteF l := fun y hy => bytes_good (h y hy).2.2.2
theorem diff_ok (a b : List S45) (hb : byteF b) (hk : okF b) : okO (diffL a b) := fun o ho => by
  rcases diff_mem a b ho with ⟨y, _, _, rfl⟩ | ⟨y, hy, _, rfl⟩
  · exact ⟨Nat.zero_le _, rfl⟩
  · exact ⟨hk y hy, hb y hy⟩
theorem diff_len (a b : List S45) : (diffL a b).length ≤ a.length + b.length := by
  unfold diffL
  rw [List.length_map]
  exact stepsB_len a b
theorem alive2 (x0 x1 : List S45) (x2 : Int) (S : List S72) : Ev (fun k => bindlelaw38_PlanLeads.j2 k x0 x1 x2 S true) true :=
  Ev.step (fun k => by unfold bindlelaw38_PlanLeads.j2; exact rfl) (ev_pos rfl (ev_bindc lives (Ev.now _)))
theorem alive (x0 x1 : List S45) (x2 : Int) : Ev (fun k => bindlelaw38_PlanLeads.j0 k x0 x1 x2 true) true :=
  Ev.step (fun k => by unfold bindlelaw38_PlanLeads.j0; exact rfl) (ev_pos rfl (ev_bindc lives (Ev.now _)))
/-- Without one of its steps a difference leads elsewhere. -/
theorem few_leads (x0 x1 z : List S45) (a0 : Asc x0) (a1 : Asc x1) (b0 : byteF x0) (b1 : byteF x1) (h : applyL x0 (diffL x0 x1) = (x1, 0)) (n : Nat) (hn : n < (diffL x0 x1).length) (hz : applyL x0 ((diffL x0 x1).eraseIdx n) = (z, 0)) : z ≠ x1 := by
  intro e
  subst e
  have hp := diff_names x0 z a0 a1
  have hsub : (((diffL x0 z).eraseIdx n).map (fun o => ls o.f1)).Pairwise (· ≠ ·) := List.Pairwise.sublist (List.Sublist.map _ (List.eraseIdx_sublist _ _)) hp
  have hno : ((diffL x0 z).eraseIdx n).find? (fun o => ls o.f1 == ls (diffL x0 z)[n].f1) = none := by
    rw [List.find?_eq_none]
    intro p hpm
    obtain ⟨j, hj, hjn, rfl⟩ := List.mem_eraseIdx_iff_getElem.1 hpm
    have : ls (diffL x0 z)[j].f1 ≠ ls (diffL x0 z)[n].f1 := by
      have hp2 := List.pairwise_iff_getElem.1 hp
      rcases Nat.lt_or_gt_of_ne hjn with hlt | hgt
      · have := hp2 j n (by rw [List.length_map]; exact hj) (by rw [List.length_map]; exact hn) hlt
        rwa [List.getElem_map, List.getElem_map] at this
      · have := hp2 n j (by rw [List.length_map]; exact hn) (by rw [List.length_map]; exact hj) hgt
        rw [List.getElem_map, List.getElem_map] at this
        exact this.symm
    simpa using this
  have h1 := apply_look (ls (diffL x0 z)[n].f1) _ x0 z hsub hz
  rw [hno] at h1
  dsimp only at h1
  rcases diff_mem x0 z (List.getElem_mem hn) with ⟨y, hy, hg, he⟩ | ⟨y, hy, hg, he⟩
  · rw [he] at h1
    have h2 : look z (nm y) = none := by unfold goneP at hg; simpa using hg
    have h3 : look z (nm y) = look x0 (nm y) := h1
    rw [h2, look_self a0 hy] at h3
    cases h3
  · rw [he] at h1
    have h3 : look z (nm y) = look x0 (nm y) := h1
    unfold putP at hg
    rw [(like_look b0 b1 (nm y)).2 h3.symm] at hg
    simp at hg
theorem leads (x0 x1 : List S45) (x2 : Int) (w2 : -9223372036854775808 ≤ x2 ∧ x2 ≤ 9223372036854775807) (a0 : Asc x0) (a1 : Asc x1) (l0 : x0.length ≤ 200) (l1 : x1.length ≤ 200) (r0 : ∀ y ∈ x0, YtcfcbkcaondfcaaDoorMpHelp.rightB (nm y) = true ∧ y.f1.length ≤ 65536) (r1 : ∀ y ∈ x1, YtcfcbkcaondfcaaDoorMpHelp.rightB (nm y) = true ∧ y.f1.length ≤ 65536) (d0 : okF x0) (d1 : okF x1) (b0 : byteF x0) (b1 : byteF x1) : Ev (fun k => bindlelaw38_PlanLeads.j0 k x0 x1 x2 false) true := by
  have s01 := plan_diff x0 x1 a0 a1 (by omega) (by omega) d0 d1
  rw [told_byte x0 x1 b1] at s01
  have n01 := diff_len x0 x1
  have n10 := diff_len x1 x0
  have e01 := diff_leads x0 x1 a0 a1 b0 b1 r1 l1
  have e10 := diff_leads x1 x0 a1 a0 b1 b0 r0 l0
  have p1 := papply_ev x0 (diffL x0 x1) (by omega) (diff_ok x0 x1 b1 d1) a0 d0 (by omega)
  have p2 := pback_ev x0 (diffL x0 x1) (by omega) (diff_ok x0 x1 b1 d1) a0 b0 d0 (by omega)
  have p3 := papply_ev x1 (diffL x1 x0) (by omega) (diff_ok x1 x0 b0 d0) a1 d1 (by omega)
  rw [e01] at p1 p2
  rw [if_pos rfl] at p2
  dsimp only at p2
  rw [told_byte x1 x0 b0] at p2
  rw [e10] at p3
  have s00 := plan_diff x0 x0 a0 a0 (by omega) (by omega) d0 d0
  rw [told_byte x0 x0 b0, diff_self x0 b0] at s00
  refine Ev.step (fun k => by unfold bindlelaw38_PlanLeads.j0; exact rfl) (ev_neg (by decide) (ev_bindc s01 (ev_bind p1 (ev_bind p2 (ev_bind p3 (ev_pos rfl (ev_pos rfl (ev_pos rfl (ev_bind (same_refl x1 (by omega)) (ev_pos rfl (ev_bind (same_refl x0 (by omega)) (ev_pos rfl (ev_bindc s00 ?_)))))))))))))
  have hz : (((([] : List S72).length : Nat) : Int) != 0) = false := by decide
  rw [hz]
  refine Ev.step (fun k => by unfold bindlelaw38_PlanLeads.j1; exact rfl) (ev_neg (by decide) ?_)
  by_cases hneg : x2 < 0
  · exact ev_pos hneg (alive2 _ _ _ _)
  · refine ev_neg hneg ?_
    by_cases hge : x2 ≥ ((diffL x0 x1).length : Int)
    · rw [decide_eq_true hge]
      exact alive2 _ _ _ _
    · rw [decide_eq_false hge]
      obtain ⟨n, rfl⟩ := Int.eq_ofNat_of_zero_le (Int.not_lt.1 hneg)
      have hn : n < (diffL x0 x1).length := by omega
      have hw : wrap64 ((n : Int) + 1) = ((n + 1 : Nat) : Int) := wadd n (by omega)
      have hfew : ([] ++ (diffL x0 x1).take n) ++ (diffL x0 x1).drop (n + 1) = (diffL x0 x1).eraseIdx n := by rw [List.nil_append, List.eraseIdx_eq_take_drop_succ]
      have hok : okO ((diffL x0 x1).eraseIdx n) := fun o ho => diff_ok x0 x1 b1 d1 o ((List.eraseIdx_sublist _ _).subset ho)
      have hlen : ((diffL x0 x1).eraseIdx n).length ≤ (diffL x0 x1).length := (List.eraseIdx_sublist _ _).length_le
      have p4 := papply_ev x0 ((diffL x0 x1).eraseIdx n) (by omega) hok a0 d0 (by omega)
      refine Ev.step (fun k => by unfold bindlelaw38_PlanLeads.j2; exact rfl) (ev_neg (by decide) (ev_bindc rfl (ev_pos (by omega) (ev_pos (by omega) (ev_bindc rfl ?_)))))
      rw [hw, Int.toNat_natCast, Int.toNat_natCast]
      refine ev_pos (by rw [List.length_nil, List.length_take]; omega) (ev_bindc rfl (ev_pos (by omega) (ev_pos (by omega) (ev_bindc rfl (ev_pos (by rw [List.length_append, List.length_nil, List.length_take, List.length_drop]; omega) ?_)))))
      rw [hfew]
      refine ev_bind p4 ?_
      have hb4 := apply_byte ((diffL x0 x1).eraseIdx n) x0 hok b0 d0
      have hl4 := apply_len ((diffL x0 x1).eraseIdx n) x0
      have hfl := few_leads x0 x1 (applyL x0 ((diffL x0 x1).eraseIdx n)).1 a0 a1 b0 b1 e01 n hn
      by_cases he : (applyL x0 ((diffL x0 x1).eraseIdx n)).2 = 0
      · refine ev_pos he ?_
        obtain ⟨r, h1, h2⟩ := same_is (applyL x0 ((diffL x0 x1).eraseIdx n)).1 x1 (by omega) hb4.1 b1
        have hr : r = false := by
          cases r with
          | false => rfl
          | true => exact absurd (h2.1 rfl) (hfl (by rw [← he]))
        rw [hr] at h1
        exact ev_bind h1 (ev_neg (by decide) (ev_bindc lives (Ev.now _)))
      · exact ev_neg he (ev_bindc lives (Ev.now _))
theorem PlanLeads : bindlelaw38_PlanLeads.Pure := by
  intro x0 x1 x2 g0 g1 g2
  refine Ev.rounds (g := fun k => bindlelaw38_PlanLeads.f k x0 x1 x2) ?_
  refine Ev.congr (fun k => by unfold bindlelaw38_PlanLeads.f; exact rfl) ?_
  obtain ⟨w0, q0, r0⟩ := wide_ev x0
  obtain ⟨w1, q1, r1⟩ := wide_ev x1
  refine ev_bind q0 ?_
  cases w0 with
  | true => exact ev_pos rfl (alive x0 x1 x2)
  | false =>
    refine ev_neg (by decide) (ev_bind q1 ?_)
    cases w1 with
    | true => exact ev_pos rfl (alive x0 x1 x2)
    | false =>
      have b0 := r0 rfl
      have b1 := r1 rfl
      obtain ⟨m0, p0, s0⟩ := right38 x0 (by omega)
      obtain ⟨m1, p1, s1⟩ := right38 x1 (by omega)
      refine ev_neg (by decide) (ev_bind p0 ?_)
      cases m0 with
      | false => exact ev_neg (by decide) (alive x0 x1 x2)
      | true =>
        refine ev_pos rfl (ev_bind p1 ?_)
        cases m1 with
        | false => exact alive x0 x1 x2
        | true => exact leads x0 x1 x2 (i64_bounds g2) (s0 rfl).1 (s1 rfl).1 (s0 rfl).2.1 (s1 rfl).2.1 (s0 rfl).2.2 (s1 rfl).2.2 (data_ok g0.2.2) (data_ok g1.2.2) (data_byte g0.2.2) (data_byte g1.2.2)
end Go.Proofs.YtcfcbkcaondfcaaDoor.Pure
