/- Statement 15.1: whether a text is a name, its parts, and its folder, are the document's. -/
import Derived.Test.YtcfcbkcaondfcaaDoorPMemberRightsx3
import Derived.OpenShut
namespace Go.Proofs.YtcfcbkcaondfcaaDoor.Pure
open Go.RowKit Go.Proofs.YtcfcbkcaondfcaaDoor.PMemberRights Go.Proofs.YtcfcbkcaondfcaaDoorW.PrintWords Go.Proofs.YtcfcbkcaondfcaaDoorW.PrintLast Go.Proofs.YtcfcbkcaondfcaaDoorW.PrintMore
theorem w64 {n : Int} (h : -9223372036854775808 ≤ n) (h' : n ≤ 9223372036854775807) : wrap64 n = n := by
  unfold wrap64
  omega
theorem w64_l (a b : Int) : wrap64 (wrap64 a + b) = wrap64 (a + b) := by
  unfold wrap64
  omega
theorem w64_r (a b : Int) : wrap64 (a + wrap64 b) = wrap64 (a + b) := by
  unfold wrap64
  omega
theorem i64_bounds {n : Int} (h : (Lit.int .i64 n).wf = true) : -9223372036854775808 ≤ n ∧ n ≤ 9223372036854775807 := Go.bounds_i64 h
theorem ev_const {α : Type} {o : Option α} {a : α} (h : o = some a) : Ev (fun _ => o) a := ⟨0, fun _ _ => h⟩
theorem ev_pos {α : Type} {c : Prop} [Decidable c] {g h : Nat → Option α} {r : α} (hc : c) (hg : Ev g r) : Ev (fun k => if c then g k else h k) r := by
  obtain ⟨K, hg⟩ := hg
  exact ⟨K, fun k hk => by simp only [if_pos hc]; exact hg k hk⟩
theorem ev_neg {α : Type} {c : Prop} [Decidable c] {g h : Nat → Option α} {r : α} (hc : ¬ c) (hg : Ev h r) : Ev (fun k => if c then g k else h k) r := by
  obtain ⟨K, hg⟩ := hg
  exact ⟨K, fun k hk => by simp only [if_neg hc]; exact hg k hk⟩
theorem ev_from {α : Type} {g : Nat → Option α} {r : α} (K : Nat) (h : ∀ k, K ≤ k → g k = some r) : Ev g r := ⟨K, h⟩
theorem ev_bind {α β : Type} {g : Nat → Option α} {f : Nat → α → Option β} {a : α} {r : β} (h : Ev g a) (k : Ev (fun n => f n a) r) : Ev (fun n => (g n).bind (f n)) r := h.bind k
theorem ev_bindc {α β : Type} {o : Option α} {f : Nat → α → Option β} {a : α} {r : β} (h : o = some a) (k : Ev (fun n => f n a) r) : Ev (fun n => o.bind (f n)) r := (ev_const h).bind k
theorem toList_inj {a b : ByteArray} (h : a.toList = b.toList) : a = b := by
  rw [ByteArray.toList_eq, ByteArray.toList_eq] at h
  exact Go.WideShapes.bytes_inj h
/-- A text's bytes as a list. -/
abbrev ls (a : ByteArray) : List UInt8 := a.data.toList
abbrev mk (l : List UInt8) : ByteArray := ⟨l.toArray⟩
theorem ls_len (a : ByteArray) : (ls a).length = a.size := Array.length_toList
theorem ls_mk (l : List UInt8) : ls (mk l) = l := rfl
theorem mk_ls (a : ByteArray) : mk (ls a) = a := rfl
theorem ls_inj {a b : ByteArray} (h : ls a = ls b) : a = b := Go.WideShapes.bytes_inj h
theorem mk_append (x y : List UInt8) : mk (x ++ y) = mk x ++ mk y := by
  apply ls_inj
  simp [ls, mk]
theorem mk_size (l : List UInt8) : (mk l).size = l.length := by
  show l.toArray.size = _
  rw [List.size_toArray]
theorem extract_ls (a : ByteArray) (i j : Nat) : ls (a.extract i j) = ((ls a).drop i).take (j - i) := by
  show (a.extract i j).data.toList = _
  rw [ByteArray.data_extract, Array.toList_extract]
theorem extract_mk (a : ByteArray) (i j : Nat) : a.extract i j = mk (((ls a).drop i).take (j - i)) := ls_inj (by rw [extract_ls])
theorem bt_nat (a : ByteArray) (i : Nat) (h : i < a.size) : bt a (i : Int) = (((ls a)[i]'(by rw [ls_len]; exact h)).toNat : Int) := by
  unfold bt
  rw [dif_pos (by simpa using h)]
  rfl
/-- A text's parts put together, with bytes 47 between. -/
def joinP : List (List UInt8) → List UInt8
  | [] => []
  | x :: r => x ++ r.flatMap (47 :: ·)
theorem joinP_snoc (l : List (List UInt8)) (h : l ≠ []) (x : List UInt8) : joinP (l ++ [x]) = joinP l ++ 47 :: x := by
  cases l with
  | nil => exact absurd rfl h
  | cons a r => simp [joinP]
theorem split_cons (x : UInt8) (r : List UInt8) : YtcfcbkcaondfcaaDoorMpHelp.splitL 47 (x :: r) = if x = 47 then [] :: YtcfcbkcaondfcaaDoorMpHelp.splitL 47 r else match YtcfcbkcaondfcaaDoorMpHelp.splitL 47 r with
    | h :: t => (x :: h) :: t
    | [] => [[x]] := rfl
def pre (p : List UInt8) : List (List UInt8) → List (List UInt8)
  | h :: t => (p ++ h) :: t
  | [] => [p]
theorem pre_nil {l : List (List UInt8)} (h : l ≠ []) : pre [] l = l := by
  cases l with
  | nil => exact absurd rfl h
  | cons a r => rfl
theorem pre_pre (p q : List UInt8) (l : List (List UInt8)) : pre p (pre q l) = pre (p ++ q) l := by
  cases l <;> simp [pre]
theorem split_ne {x : UInt8} (h : x ≠ 47) (r : List UInt8) : YtcfcbkcaondfcaaDoorMpHelp.splitL 47 (x :: r) = pre [x] (YtcfcbkcaondfcaaDoorMpHelp.splitL 47 r) := by
  rw [split_cons, if_neg h]
  cases YtcfcbkcaondfcaaDoorMpHelp.splitL 47 r <;> rfl
theorem split_eq (r : List UInt8) : YtcfcbkcaondfcaaDoorMpHelp.splitL 47 (47 :: r) = [] :: YtcfcbkcaondfcaaDoorMpHelp.splitL 47 r := by rw [split_cons, if_pos rfl]
theorem split_pos (s : List UInt8) : YtcfcbkcaondfcaaDoorMpHelp.splitL 47 s ≠ [] := YtcfcbkcaondfcaaDoorMpHelp.splitL_ne 47 s
theorem split_all (p : UInt8 → Bool) (hp : p 47 = true) : ∀ s : List UInt8, ((YtcfcbkcaondfcaaDoorMpHelp.splitL 47 s).all fun l => l.all p) = s.all p
  | [] => by rfl
  | x :: r => by
    have ih := split_all p hp r
    by_cases hx : x = 47
    · subst hx
      rw [split_eq, List.all_cons, ih, List.all_cons, hp]
      rfl
    · rw [split_ne hx, List.all_cons, ← ih]
      have := split_pos r
      cases h : YtcfcbkcaondfcaaDoorMpHelp.splitL 47 r with
      | nil => exact absurd h this
      | cons a t => simp [pre, Bool.and_assoc]
theorem split_join : ∀ s : List UInt8, joinP (YtcfcbkcaondfcaaDoorMpHelp.splitL 47 s) = s
  | [] => by rfl
  | x :: r => by
    have ih := split_join r
    have hn := split_pos r
    by_cases hx : x = 47
    · subst hx
      rw [split_eq]
      cases h : YtcfcbkcaondfcaaDoorMpHelp.splitL 47 r with
      | nil => exact absurd h hn
      | cons a t =>
        rw [h] at ih
        rw [← ih]
        simp [joinP]
    · rw [split_ne hx]
      cases h : YtcfcbkcaondfcaaDoorMpHelp.splitL 47 r with
      | nil => exact absurd h hn
      | cons a t =>
        rw [h] at ih
        rw [← ih]
        simp [joinP, pre]
theorem split_no : ∀ (s : List UInt8), ∀ l ∈ YtcfcbkcaondfcaaDoorMpHelp.splitL 47 s, (47 : UInt8) ∉ l
  | [] => by simp [YtcfcbkcaondfcaaDoorMpHelp.splitL]
  | x :: r => by
    have ih := split_no r
    by_cases hx : x = 47
    · subst hx
      rw [split_eq]
      intro l hl
      rcases List.mem_cons.1 hl with rfl | hl
      · simp
      · exact ih l hl
    · rw [split_ne hx]
      have hn := split_pos r
      cases h : YtcfcbkcaondfcaaDoorMpHelp.splitL 47 r with
      | nil => exact absurd h hn
      | cons a t =>
        rw [h] at ih
        intro l hl
        rcases List.mem_cons.1 hl with rfl | hl
        · simp only [List.cons_append, List.nil_append, List.mem_cons, not_or]
          exact ⟨fun e => hx e.symm, ih a List.mem_cons_self⟩
        · exact ih l (List.mem_cons_of_mem _ hl)
theorem split_len (s : List UInt8) : (YtcfcbkcaondfcaaDoorMpHelp.splitL 47 s).length ≤ s.length + 1 := by
  induction s with
  | nil => simp [YtcfcbkcaondfcaaDoorMpHelp.splitL]
  | cons x r ih =>
    by_cases hx : x = 47
    · subst hx
      rw [split_eq]
      simp only [List.length_cons]
      omega
    · rw [split_ne hx]
      cases h : YtcfcbkcaondfcaaDoorMpHelp.splitL 47 r with
      | nil => simp [pre]
      | cons a t => rw [h] at ih; simp only [pre, List.length_cons] at ih ⊢; omega
theorem split_part (s : List UInt8) : ∀ l ∈ YtcfcbkcaondfcaaDoorMpHelp.splitL 47 s, l.length ≤ s.length := by
  induction s with
  | nil => simp [YtcfcbkcaondfcaaDoorMpHelp.splitL]
  | cons x r ih =>
    intro l hl
    by_cases hx : x = 47
    · subst hx
      rw [split_eq] at hl
      rcases List.mem_cons.1 hl with rfl | hl
      · simp
      · have := ih l hl; simp only [List.length_cons]; omega
    · rw [split_ne hx] at hl
      cases h : YtcfcbkcaondfcaaDoorMpHelp.splitL 47 r with
      | nil => exact absurd h (split_pos r)
      | cons a t =>
        rw [h] at ih hl
        rcases List.mem_cons.1 hl with rfl | hl
        · have := ih a List.mem_cons_self; simp only [List.cons_append, List.nil_append, List.length_cons]; omega
        · have := ih l (List.mem_cons_of_mem _ hl); simp only [List.length_cons]; omega
/-- The document's parts. -/
def partsB (a : ByteArray) : List ByteArray := (YtcfcbkcaondfcaaDoorMpHelp.splitL 47 (ls a)).map mk
theorem refParts_loop (a : ByteArray) (hs : a.size ≤ 1000000) : ∀ (n i from_ : Nat) (acc : List ByteArray), i + n = a.size → from_ ≤ i → acc.length ≤ i →
    Ev (fun k => bindleref15_Parts.l0 k a acc from_ i) (acc ++ (pre (((ls a).drop from_).take (i - from_)) (YtcfcbkcaondfcaaDoorMpHelp.splitL 47 ((ls a).drop i))).map mk)
  | 0, i, from_, acc, hi, hf, hl => by
    refine Ev.step (fun k => rfl) ?_
    refine ev_neg (by omega) (ev_pos (by omega) (ev_pos (by omega) (ev_pos (by omega) ?_)))
    have hd : (ls a).drop i = [] := List.drop_of_length_le (by rw [ls_len]; omega)
    rw [hd]
    have e1 : a.extract (from_ : Int).toNat a.size = mk (((ls a).drop from_).take (i - from_)) := by
      rw [Int.toNat_natCast, extract_mk]
      congr 3
      omega
    rw [e1]
    have e2 : pre (((ls a).drop from_).take (i - from_)) (YtcfcbkcaondfcaaDoorMpHelp.splitL 47 []) = [((ls a).drop from_).take (i - from_)] := by simp [pre, YtcfcbkcaondfcaaDoorMpHelp.splitL]
    rw [e2]
    exact Ev.now _
  | n + 1, i, from_, acc, hi, hf, hl => by
    have hlt : i < (ls a).length := by rw [ls_len]; omega
    have hdr : (ls a).drop i = (ls a)[i] :: (ls a).drop (i + 1) := List.drop_eq_getElem_cons hlt
    refine Ev.step (fun k => rfl) ?_
    refine ev_pos (by omega) (ev_pos (by omega) ?_)
    have hb := bt_nat a i (by omega)
    have hw : wrap64 ((i : Int) + 1) = ((i + 1 : Nat) : Int) := by rw [w64 (by omega) (by omega)]; omega
    rw [hw]
    by_cases hc : (ls a)[i] = 47
    · have hc' : bt a (i : Int) = 47 := by rw [hb, hc]; rfl
      refine ev_pos hc' (ev_pos (by omega) (ev_pos (by omega) (ev_pos (by omega) (ev_pos (by omega) ?_))))
      have ih := refParts_loop a hs n (i + 1) (i + 1) (acc ++ [a.extract (from_ : Int).toNat (i : Int).toNat]) (by omega) (Nat.le_refl _) (by rw [List.length_append]; simp; omega)
      have e1 : a.extract (from_ : Int).toNat (i : Int).toNat = mk (((ls a).drop from_).take (i - from_)) := by rw [Int.toNat_natCast, Int.toNat_natCast, extract_mk]
      rw [e1] at ih ⊢
      rw [Nat.sub_self, List.take_zero, pre_nil (split_pos _)] at ih
      rw [hdr, hc, split_eq]
      simp only [pre, List.append_nil, List.map_cons]
      rw [List.append_assoc] at ih
      exact ih
    · have hc' : ¬ bt a (i : Int) = 47 := by
        rw [hb]
        intro e
        exact hc (UInt8.toNat_inj.1 (by have : ((ls a)[i].toNat : Int) = ((47 : UInt8).toNat : Int) := e; exact_mod_cast this))
      refine ev_neg hc' ?_
      have ih := refParts_loop a hs n (i + 1) from_ acc (by omega) (by omega) (by omega)
      have e2 : ((ls a).drop from_).take (i + 1 - from_) = ((ls a).drop from_).take (i - from_) ++ [(ls a)[i]] := by
        rw [show i + 1 - from_ = (i - from_) + 1 by omega, List.take_succ_eq_append_getElem (by rw [List.length_drop]; omega), List.getElem_drop]
        congr 3
        omega
      rw [hdr, split_ne hc, pre_pre, ← e2]
      exact ih
theorem refParts (a : ByteArray) (hs : a.size ≤ 1000000) : Ev (fun k => bindleref15_Parts.f k a) (partsB a) := by
  have := refParts_loop a hs a.size 0 0 [] (by omega) (Nat.le_refl _) (Nat.le_refl _)
  rw [Nat.sub_self, List.take_zero, pre_nil (split_pos _), List.drop_zero, List.nil_append] at this
  exact this
theorem all_two {α : Type} (p q : α → Bool) : ∀ l : List α, (l.all fun x => p x && q x) = (l.all p && l.all q)
  | [] => rfl
  | x :: r => by
    rw [List.all_cons, all_two p q r, List.all_cons, List.all_cons]
    cases p x <;> cases q x <;> cases r.all p <;> rfl
def fineB (c : UInt8) : Bool := decide (33 ≤ c.toNat) && decide (c.toNat ≤ 126)
def oddB (l : List UInt8) : Bool := !l.isEmpty && !(l == [46]) && !(l == [46, 46])
theorem right_alt (s : List UInt8) : YtcfcbkcaondfcaaDoorMpHelp.rightB s = (decide (s.length ≤ 64) && (s.all fineB && (YtcfcbkcaondfcaaDoorMpHelp.splitL 47 s).all oddB)) := by
  unfold YtcfcbkcaondfcaaDoorMpHelp.rightB
  rw [← split_all fineB (by decide) s]
  congr 1
  rw [← all_two]
  congr 1
  funext l
  unfold YtcfcbkcaondfcaaDoorMpHelp.partB oddB fineB
  rw [Bool.and_assoc, Bool.and_assoc, Bool.and_assoc]
theorem refRight_l1 (l : List (List UInt8)) : ∀ n i : Nat, i + n = l.length → l.length ≤ 1000000 → Ev (fun k => bindleref15_Right.l1 k (l.map mk) i) ((l.drop i).all oddB)
  | 0, i, hi, hl => by
    refine Ev.step (fun k => rfl) ?_
    rw [List.drop_of_length_le (by omega)]
    exact ev_neg (by rw [List.length_map]; omega) (Ev.now _)
  | n + 1, i, hi, hl => by
    have hlt : i < l.length := by omega
    refine Ev.step (fun k => rfl) ?_
    refine ev_pos (by rw [List.length_map]; omega) (ev_pos (by omega) ?_)
    have hr : (rdOf ByteArray.empty (l.map mk) (i : Int)).toList = l[i] := by
      rw [rdOf, Int.toNat_natCast, List.getD_eq_getElem?_getD, List.getElem?_map, List.getElem?_eq_getElem hlt, Option.map_some, Option.getD_some, ByteArray.toList_eq]
    have hw : wrap64 ((i : Int) + 1) = ((i + 1 : Nat) : Int) := by rw [w64 (by omega) (by omega)]; omega
    rw [hr, hw, List.drop_eq_getElem_cons hlt, List.all_cons]
    have ih := refRight_l1 l n (i + 1) (by omega) hl
    by_cases h1 : l[i] = []
    · rw [show oddB l[i] = false by rw [h1]; rfl]
      exact ev_pos h1 (Ev.now _)
    · by_cases h2 : l[i] = [46]
      · rw [show oddB l[i] = false by rw [h2]; rfl]
        exact ev_neg h1 (ev_pos h2 (Ev.now _))
      · by_cases h3 : l[i] = [46, 46]
        · rw [show oddB l[i] = false by rw [h3]; rfl]
          exact ev_neg h1 (ev_neg h2 (ev_pos h3 (Ev.now _)))
        · have e : oddB l[i] = true := by
            unfold oddB
            rw [List.isEmpty_eq_false_iff.2 h1, beq_eq_false_iff_ne.2 h2, beq_eq_false_iff_ne.2 h3]
            rfl
          rw [e]
          exact ev_neg h1 (ev_neg h2 (ev_neg h3 ih))
theorem refRight_l0 (a : ByteArray) (hs : a.size ≤ 64) : ∀ n i : Nat, i + n = a.size → Ev (fun k => bindleref15_Right.l0 k a i) (((ls a).drop i).all fineB && (YtcfcbkcaondfcaaDoorMpHelp.splitL 47 (ls a)).all oddB)
  | 0, i, hi => by
    refine Ev.step (fun k => rfl) ?_
    rw [List.drop_of_length_le (by rw [ls_len]; omega)]
    refine ev_neg (by omega) (ev_bind (refParts a (by omega)) ?_)
    have := refRight_l1 (YtcfcbkcaondfcaaDoorMpHelp.splitL 47 (ls a)) (YtcfcbkcaondfcaaDoorMpHelp.splitL 47 (ls a)).length 0 (by omega) (by have := split_len (ls a); rw [ls_len] at this; omega)
    rw [List.drop_zero] at this
    exact this
  | n + 1, i, hi => by
    have hlt : i < (ls a).length := by rw [ls_len]; omega
    refine Ev.step (fun k => rfl) ?_
    refine ev_pos (by omega) (ev_pos (by omega) ?_)
    have hb := bt_nat a i (by omega)
    have hw : wrap64 ((i : Int) + 1) = ((i + 1 : Nat) : Int) := by rw [w64 (by omega) (by omega)]; omega
    rw [hb, hw, List.drop_eq_getElem_cons hlt, List.all_cons]
    have ih := refRight_l0 a hs n (i + 1) (by omega)
    by_cases h1 : ((ls a)[i].toNat : Int) < 33
    · rw [show fineB (ls a)[i] = false by unfold fineB; rw [decide_eq_false (by omega)]; rfl]
      exact ev_pos h1 (Ev.now _)
    · by_cases h2 : ((ls a)[i].toNat : Int) > 126
      · rw [show fineB (ls a)[i] = false by unfold fineB; rw [decide_eq_false (p := (ls a)[i].toNat ≤ 126) (by omega), Bool.and_false]]
        exact ev_neg h1 (ev_pos h2 (Ev.now _))
      · rw [show fineB (ls a)[i] = true by unfold fineB; rw [decide_eq_true (by omega), decide_eq_true (by omega)]; rfl]
        exact ev_neg h1 (ev_neg h2 ih)
theorem refRight (a : ByteArray) : Ev (fun k => bindleref15_Right.f k a) (YtcfcbkcaondfcaaDoorMpHelp.rightB (ls a)) := by
  rw [right_alt, ls_len]
  by_cases h1 : (a.size : Int) < 1
  · have e : ls a = [] := List.eq_nil_of_length_eq_zero (by rw [ls_len]; omega)
    rw [e, show ((YtcfcbkcaondfcaaDoorMpHelp.splitL 47 []).all oddB) = false by decide, Bool.and_false, Bool.and_false]
    refine ev_pos h1 (Ev.step (fun k => rfl) ?_)
    exact ev_pos (c := true = true) (h := fun k => bindleref15_Right.l0 k a 0) rfl (Ev.now _)
  · refine ev_neg h1 ?_
    by_cases h2 : (a.size : Int) > 64
    · rw [decide_eq_true h2, decide_eq_false (by omega), Bool.false_and]
      refine Ev.step (fun k => rfl) ?_
      exact ev_pos (c := true = true) (h := fun k => bindleref15_Right.l0 k a 0) rfl (Ev.now _)
    · rw [decide_eq_false h2, decide_eq_true (by omega), Bool.true_and]
      refine Ev.step (fun k => rfl) ?_
      refine ev_neg (c := false = true) (g := fun _ => some false) (by decide) ?_
      have := refRight_l0 a (by omega) a.size 0 (by omega)
      rw [List.drop_zero] at this
      exact this
theorem rd_nat (l : List ByteArray) (i : Nat) (h : i < l.length) : rdOf ByteArray.empty l (i : Int) = l[i] := by
  rw [rdOf, Int.toNat_natCast, List.getD_eq_getElem?_getD, List.getElem?_eq_getElem h, Option.getD_some]
theorem rd_mk (l : List (List UInt8)) (i : Nat) (h : i < l.length) : rdOf ByteArray.empty (l.map mk) (i : Int) = mk l[i] := by
  rw [rd_nat _ _ (by rw [List.length_map]; exact h), List.getElem_map]
theorem same_loop (l m : List ByteArray) (hlen : l.length = m.length) (hs : l.length ≤ 9000000) : ∀ n i : Nat, i + n = l.length → Ev (fun k => bindleref15_Same.l0 k l m i) (decide (l.drop i = m.drop i))
  | 0, i, hi => by
    refine Ev.step (fun k => rfl) ?_
    rw [List.drop_of_length_le (by omega), List.drop_of_length_le (by omega)]
    exact ev_neg (by omega) (Ev.now _)
  | n + 1, i, hi => by
    refine Ev.step (fun k => rfl) ?_
    refine ev_pos (by omega) (ev_pos (by omega) (ev_pos (by omega) ?_))
    have dl : l.drop i = l[i] :: l.drop (i + 1) := List.drop_eq_getElem_cons (by omega)
    have dm : m.drop i = m[i] :: m.drop (i + 1) := List.drop_eq_getElem_cons (by omega)
    rw [rd_nat l i (by omega), rd_nat m i (by omega), dl, dm]
    have hw : wrap64 ((i : Int) + 1) = ((i + 1 : Nat) : Int) := by rw [w64 (by omega) (by omega)]; omega
    rw [hw]
    by_cases h : l[i].toList = m[i].toList
    · have ih := same_loop l m hlen hs n (i + 1) (by omega)
      rw [toList_inj h]
      rw [show decide (m[i] :: l.drop (i + 1) = m[i] :: m.drop (i + 1)) = decide (l.drop (i + 1) = m.drop (i + 1)) from decide_eq_decide.2 ⟨fun e => (List.cons.inj e).2, fun e => by rw [e]⟩]
      exact ev_pos rfl ih
    · rw [decide_eq_false (fun e => h (by rw [(List.cons.inj e).1]))]
      exact ev_neg h (Ev.now _)
theorem same (l m : List ByteArray) (hs : l.length ≤ 9000000) : Ev (fun k => bindleref15_Same.f k l m) (decide (l = m)) := by
  by_cases h : (l.length : Int) = (m.length : Int)
  · have := same_loop l m (by omega) hs l.length 0 (by omega)
    rw [List.drop_zero, List.drop_zero] at this
    exact ev_pos h this
  · rw [decide_eq_false (fun e => h (by rw [e]))]
    exact ev_neg h (Ev.now _)
theorem li_hit (a : ByteArray) (p : Nat) (hs : a.size ≤ 1000000) (hp : p < a.size) (h47 : (ls a)[p]'(by rw [ls_len]; exact hp) = 47) : ∀ n : Nat, p + n < a.size →
    (∀ i, p < i → i ≤ p + n → (h : i < (ls a).length) → (ls a)[i] ≠ 47) → Ev (fun k => bytealg_LastIndexByteString.l0 k a 47 ((p + n : Nat) : Int)) (p : Int)
  | 0, hn, _ => by
    refine Ev.step (fun k => rfl) ?_
    refine ev_pos (by omega) (ev_pos (by omega) (ev_pos (by omega) ?_))
    rw [Nat.add_zero, bt_nat a p hp, h47]
    exact ev_pos rfl (Ev.now _)
  | n + 1, hn, hno => by
    refine Ev.step (fun k => rfl) ?_
    refine ev_pos (by omega) (ev_pos (by omega) (ev_pos (by omega) ?_))
    have hlt : p + (n + 1) < (ls a).length := by rw [ls_len]; exact hn
    have hc : ¬ bt a ((p + (n + 1) : Nat) : Int) = 47 := by
      rw [bt_nat a _ hn]
      intro e
      exact hno (p + (n + 1)) (by omega) (Nat.le_refl _) hlt (UInt8.toNat_inj.1 (by have : ((ls a)[p + (n + 1)].toNat : Int) = ((47 : UInt8).toNat : Int) := e; exact_mod_cast this))
    have hw : wrap64 (((p + (n + 1) : Nat) : Int) - 1) = ((p + n : Nat) : Int) := by rw [w64 (by omega) (by omega)]; omega
    rw [hw]
    exact ev_neg hc (li_hit a p hs hp h47 n (by omega) fun i h1 h2 h => hno i h1 (by omega) h)
theorem li_miss (a : ByteArray) (hs : a.size ≤ 1000000) : ∀ n : Nat, n ≤ a.size → (∀ i, i < n → (h : i < (ls a).length) → (ls a)[i] ≠ 47) → Ev (fun k => bytealg_LastIndexByteString.l0 k a 47 ((n : Int) - 1)) (-1)
  | 0, _, _ => by
    refine Ev.step (fun k => rfl) ?_
    exact ev_neg (by omega) (Ev.now _)
  | n + 1, hn, hno => by
    refine Ev.step (fun k => rfl) ?_
    have e0 : ((n + 1 : Nat) : Int) - 1 = (n : Int) := by omega
    rw [e0]
    refine ev_pos (by omega) (ev_pos (by omega) (ev_pos (by omega) ?_))
    have hlt : n < (ls a).length := by rw [ls_len]; omega
    have hc : ¬ bt a (n : Int) = 47 := by
      rw [bt_nat a n (by omega)]
      intro e
      exact hno n (Nat.lt_succ_self _) hlt (UInt8.toNat_inj.1 (by have : ((ls a)[n].toNat : Int) = ((47 : UInt8).toNat : Int) := e; exact_mod_cast this))
    have hw : wrap64 ((n : Int) - 1) = (n : Int) - 1 := w64 (by omega) (by omega)
    rw [hw]
    exact ev_neg hc (li_miss a hs n (by omega) fun i h1 h => hno i (by omega) h)
/-- The text of a name's folder. -/
def foldB (a : ByteArray) : ByteArray := mk (joinP (YtcfcbkcaondfcaaDoorMpHelp.splitL 47 (ls a)).dropLast)
theorem mx_nat (n : Nat) : mx 0 (n : Int) = n := by
  unfold mx
  by_cases h : (0 : Int) < n
  · rw [if_pos h]
  · rw [if_neg h]; omega
theorem folder (a : ByteArray) (hs : a.size ≤ 1000000) : Ev (fun k => member_Folder.f k a) (if YtcfcbkcaondfcaaDoorMpHelp.rightB (ls a) = true then (foldB a, true) else (mk [], false)) := by
  refine ev_bindc (show member_Right.f a = some (YtcfcbkcaondfcaaDoorMpHelp.rightB (ls a)) from rfl) ?_
  by_cases hr : YtcfcbkcaondfcaaDoorMpHelp.rightB (ls a) = true
  · rw [if_pos hr]
    refine ev_pos hr ?_
    have hn := split_pos (ls a)
    have hd := List.dropLast_concat_getLast hn
    have hj := split_join (ls a)
    have hl47 := split_no (ls a) _ (List.getLast_mem hn)
    generalize hL : (YtcfcbkcaondfcaaDoorMpHelp.splitL 47 (ls a)).getLast hn = last at hd hl47
    have hf : foldB a = mk (joinP (YtcfcbkcaondfcaaDoorMpHelp.splitL 47 (ls a)).dropLast) := rfl
    generalize (YtcfcbkcaondfcaaDoorMpHelp.splitL 47 (ls a)).dropLast = init at hd hf
    rw [← hd] at hj
    have hLI : ∀ k, strings_LastIndex.f k a (⟨#[47]⟩ : ByteArray) = bytealg_LastIndexByteString.l0 k a 47 (wrap64 ((a.size : Int) - 1)) := fun k => rfl
    have hw : wrap64 ((a.size : Int) - 1) = (a.size : Int) - 1 := w64 (by omega) (by omega)
    by_cases hi : init = []
    · subst hi
      have hls : ls a = last := by rw [← hj]; simp [joinP]
      have hEv : Ev (fun k => strings_LastIndex.f k a (⟨#[47]⟩ : ByteArray)) (-1) := by
        refine Ev.congr hLI ?_
        rw [hw]
        refine li_miss a hs a.size (Nat.le_refl _) fun i _ h e => hl47 ?_
        rw [← hls, ← e]
        exact List.getElem_mem h
      refine ev_bind hEv (ev_pos (by decide) (ev_pos (by show (0 : Int) ≤ _; omega) ?_))
      rw [hf]
      have e : a.extract 0 (mx 0 (-1) : Int).toNat = mk (joinP []) := by
        rw [extract_mk]
        rfl
      rw [e]
      exact Ev.now _
    · rw [joinP_snoc init hi] at hj
      have hsz : (joinP init).length + last.length + 1 = a.size := by
        rw [← ls_len, ← hj, List.length_append, List.length_cons]
        omega
      have hp : (joinP init).length < a.size := by omega
      have h47 : (ls a)[(joinP init).length]'(by rw [ls_len]; exact hp) = 47 := by
        have : (ls a)[(joinP init).length]? = some 47 := by rw [← hj]; simp
        exact (List.getElem?_eq_some_iff.1 this).2
      have hEv : Ev (fun k => strings_LastIndex.f k a (⟨#[47]⟩ : ByteArray)) ((joinP init).length : Int) := by
        refine Ev.congr hLI ?_
        rw [hw, show (a.size : Int) - 1 = (((joinP init).length + last.length : Nat) : Int) by omega]
        refine li_hit a _ hs hp h47 last.length (by omega) fun i h1 _ h e => hl47 ?_
        have h3 : (ls a)[i]? = some 47 := List.getElem?_eq_some_iff.2 ⟨h, e⟩
        rw [← hj, List.getElem?_append_right (by omega), show i - (joinP init).length = (i - (joinP init).length - 1) + 1 by omega, List.getElem?_cons_succ] at h3
        exact List.mem_of_getElem? h3
      refine ev_bind hEv ?_
      rw [mx_nat]
      refine ev_pos (by omega) (ev_pos (by omega) ?_)
      have e : a.extract 0 (((joinP init).length : Nat) : Int).toNat = foldB a := by
        rw [hf, extract_mk, Int.toNat_natCast, List.drop_zero, Nat.sub_zero, ← hj, List.take_left']
        rfl
      rw [e]
      exact Ev.now _
  · rw [if_neg hr]
    exact ev_neg hr (Ev.now _)
theorem outs_two : YtcfcbkcaondfcaaDoorMSort.outs [mk [98], mk [99]] = [[98], [99]] := by
  have e : YtcfcbkcaondfcaaDoorMSort.sorted [mk [98], mk [99]] = [[98], [99]] := by
    refine List.mergeSort_of_pairwise ?_
    simp [YtcfcbkcaondfcaaDoorMSort.texts]
    decide
  unfold YtcfcbkcaondfcaaDoorMSort.outs
  rw [e]
  decide +kernel
theorem lives_children : member_Children.f 9 [(⟨#[97, 47, 98]⟩ : ByteArray), (⟨#[97, 47, 99, 47, 100]⟩ : ByteArray)] (⟨#[97]⟩ : ByteArray) = (member_Sort.f [mk [98], mk [99]]).bind fun t => some t := by kernel_rfl
theorem lives_true : bindlelaw15_lives.f 9 = some true := by
  unfold bindlelaw15_lives.f
  rw [lives_children]
  unfold member_Sort.f
  rw [if_pos (by decide), outs_two]
  decide +kernel
theorem lives : Ev (fun k => bindlelaw15_lives.f k) true := Ev.of (fun k => bindlelaw15_lives.mono k) lives_true
theorem parts_of (a : ByteArray) (hs : a.size ≤ 1000000) : member_Parts.f a = some (if YtcfcbkcaondfcaaDoorMpHelp.rightB (ls a) = true then partsB a else []) := by
  have h2 : strings_Split.f a (⟨#[47]⟩ : ByteArray) = some (partsB a) := by
    show (if a.size ≤ 1000000 then some ((YtcfcbkcaondfcaaDoorMpHelp.splitL 47 a.data.toList).map fun l => (⟨l.toArray⟩ : ByteArray)) else none) = _
    rw [if_pos hs]
    rfl
  unfold member_Parts.f
  rw [show member_Right.f a = some (YtcfcbkcaondfcaaDoorMpHelp.rightB (ls a)) from rfl, Option.bind_some, h2, Option.bind_some]
  by_cases hr : YtcfcbkcaondfcaaDoorMpHelp.rightB (ls a) = true
  · rw [if_pos hr, if_pos hr]
  · rw [if_neg hr, if_neg hr]
theorem joinP_app (l m : List (List UInt8)) (h : l ≠ []) : joinP (l ++ m) = joinP l ++ m.flatMap (47 :: ·) := by
  cases l with
  | nil => exact absurd rfl h
  | cons a r => simp [joinP]
theorem joinP_take_le (L : List (List UInt8)) (j : Nat) : (joinP (L.take j)).length ≤ (joinP L).length := by
  by_cases h : L.take j = []
  · rw [h]; simp [joinP]
  · have := congrArg List.length (joinP_app (L.take j) (L.drop j) h)
    rw [List.take_append_drop, List.length_append] at this
    omega
theorem part_le (L : List (List UInt8)) (l : List UInt8) (h : l ∈ L) : l.length ≤ (joinP L).length := by
  obtain ⟨a, b, rfl⟩ := List.append_of_mem h
  cases a with
  | nil => simp [joinP]
  | cons x r =>
    simp [joinP]
    omega
theorem want_loop (x4 : List ByteArray) (x5 : ByteArray) (L : List (List UInt8)) (hlen : L.length ≤ 1000000) (hsz : (joinP L).length ≤ 1000000) (r : Bool)
    (hfin : Ev (fun k => (bindleref15_Same.f k x4 (L.map mk)).bind fun t166 => (if t166 = true then (if x5.toList = (mk (joinP L.dropLast)).toList then ((bindlelaw15_lives.f k).bind fun t167 => (some t167)) else (some false)) else (some false))) r) :
    ∀ n i : Nat, i + n + 1 = L.length → Ev (fun k => bindlelaw15_MemberRights.l0 k x4 x5 (L.map mk) (mk (joinP (L.take i))) i) r
  | 0, i, hi => by
    refine Ev.step (fun k => rfl) ?_
    have hw0 : wrap64 (((L.map mk).length : Int) - 1) = (L.length : Int) - 1 := by rw [List.length_map]; exact w64 (by omega) (by omega)
    refine ev_neg (by rw [hw0]; omega) ?_
    have e : L.take i = L.dropLast := by rw [List.dropLast_eq_take]; congr 1; omega
    rw [e]
    exact hfin
  | n + 1, i, hi => by
    refine Ev.step (fun k => rfl) ?_
    have hml : (L.map mk).length = L.length := List.length_map _
    have hw0 : wrap64 (((L.map mk).length : Int) - 1) = (L.length : Int) - 1 := by rw [List.length_map]; exact w64 (by omega) (by omega)
    refine ev_pos (by rw [hw0]; omega) ?_
    have hw : wrap64 ((i : Int) + 1) = ((i + 1 : Nat) : Int) := by rw [w64 (by omega) (by omega)]; omega
    have hr := rd_mk L i (by omega)
    have h1 := joinP_take_le L i
    have h2 := part_le L L[i] (List.getElem_mem _)
    have ht : L.take (i + 1) = L.take i ++ [L[i]] := List.take_succ_eq_append_getElem (by omega)
    have ih := want_loop x4 x5 L hlen hsz r hfin n (i + 1) (by omega)
    rw [hr, hw]
    have sz1 := mk_size (joinP (L.take i))
    have sz2 := mk_size L[i]
    by_cases h0 : (i : Int) > 0
    · have hne : L.take i ≠ [] := by
        intro e
        have := congrArg List.length e
        rw [List.length_take, List.length_nil] at this
        omega
      rw [ht, joinP_snoc _ hne] at ih
      refine ev_pos h0 (ev_pos (by omega) (ev_pos (by omega) (ev_pos (by omega) (ev_pos ?_ ?_))))
      · rw [ByteArray.size_append, show (⟨#[47]⟩ : ByteArray).size = 1 from rfl]; omega
      · have e : mk (joinP (L.take i)) ++ (⟨#[47]⟩ : ByteArray) ++ mk L[i] = mk (joinP (L.take i) ++ 47 :: L[i]) := by
          rw [show (⟨#[47]⟩ : ByteArray) = mk [47] from rfl, ← mk_append, ← mk_append]
          simp
        rw [e]
        exact ih
    · have h00 : i = 0 := by omega
      subst h00
      have e : mk (joinP (L.take 0)) ++ mk L[0] = mk (joinP (L.take (0 + 1))) := by
        rw [ht, ← mk_append]
        simp [joinP]
      refine ev_neg h0 (ev_pos (by omega) (ev_pos (by omega) (ev_pos (by omega) ?_)))
      rw [e]
      exact ih
theorem MemberRights : bindlelaw15_MemberRights.Pure := by
  intro a0 _
  refine Ev.rounds ?_
  by_cases hs : (a0.size : Int) > 200
  · exact ev_pos hs (ev_bind lives (Ev.now _))
  · refine ev_neg hs (ev_bind (refRight a0) (ev_bindc (parts_of a0 (by omega)) (ev_bind (folder a0 (by omega)) (ev_bindc (show member_Right.f a0 = some (YtcfcbkcaondfcaaDoorMpHelp.rightB (ls a0)) from rfl) ?_))))
    refine ev_neg (by simp) ?_
    cases hr : YtcfcbkcaondfcaaDoorMpHelp.rightB (ls a0) with
    | false =>
      simp only [Bool.false_eq_true, if_false]
      refine Ev.step (f := fun k => (bindlelaw15_lives.f k).bind fun t => some t) (fun k => ?_) (ev_bind lives (Ev.now _))
      rw [bindlelaw15_MemberRights.j0, if_neg (by decide), if_neg (by decide), if_pos (by decide), if_pos (by decide +kernel)]
    | true =>
      have hL := split_len (ls a0)
      rw [ls_len] at hL
      have hj := split_join (ls a0)
      have hjl : (joinP (YtcfcbkcaondfcaaDoorMpHelp.splitL 47 (ls a0))).length = a0.size := by rw [hj, ls_len]
      have hn := split_pos (ls a0)
      simp only [if_true]
      refine Ev.step (f := fun k => (bindleref15_Parts.f k a0).bind fun t161 => bindlelaw15_MemberRights.l0 k (partsB a0) (foldB a0) t161 (mk []) 0) (fun k => ?_) ?_
      · rw [bindlelaw15_MemberRights.j0, if_neg (by decide), if_pos rfl]
      refine ev_bind (refParts a0 (by omega)) ?_
      refine want_loop (partsB a0) (foldB a0) (YtcfcbkcaondfcaaDoorMpHelp.splitL 47 (ls a0)) (by omega) (by omega) true ?_ ((YtcfcbkcaondfcaaDoorMpHelp.splitL 47 (ls a0)).length - 1) 0 (by have := List.length_pos_iff.2 hn; omega)
      refine ev_bind (same (partsB a0) (partsB a0) (by rw [partsB, List.length_map]; omega)) ?_
      exact ev_pos (by simp) (ev_pos rfl (ev_bind lives (Ev.now _)))
end Go.Proofs.YtcfcbkcaondfcaaDoor.Pure
