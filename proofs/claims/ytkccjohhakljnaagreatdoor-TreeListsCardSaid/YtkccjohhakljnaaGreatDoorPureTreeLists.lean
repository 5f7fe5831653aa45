/- Statement 39.1: how many files, and bytes, any folder of any map has, and its children's nodes, are the document's. -/
import Derived.Test.YtkccjohhakljnaaGreatDoorPTreeListsx7
import Derived.Sort.Walk0
import Derived.OpenShut
namespace Go.Proofs.YtkccjohhakljnaaGreatDoor.Pure
open Go.RowKit Go.Proofs.YtkccjohhakljnaaGreatDoor.PTreeLists Go.Proofs.YtkccjohhakljnaaGreatDoorW.PrintWords Go.Proofs.YtkccjohhakljnaaGreatDoorW.PrintLast Go.Proofs.YtkccjohhakljnaaGreatDoorW.PrintMore
theorem w64 {n : Int} (h : -9223372036854775808 ≤ n) (h' : n ≤ 9223372036854775807) : wrap64 n = n := by
  unfold wrap64
  omega
theorem w64_l (a b : Int) : wrap64 (wrap64 a + b) = wrap64 (a + b) := by
  unfold wrap64
  omega
theorem w64_r (a b : Int) : wrap64 (a + wrap64 b) = wrap64 (a + b) := by
  unfold wrap64
  omega
theorem i64_bounds {n : Int} (h : (Lit.int .i64 n).wf = true) : -9223372036854775808 ≤ n ∧ n ≤ 9223372036854775807 := Go.bounds_i64 h
theorem ev_const {α : Type} {o : Option α} {a : α} (h : o = some a) : Ev (fun _ => o) a := ⟨0, fun _ _ => h⟩
theorem ev_pos {α : Type} {c : Prop} [Decidable c] {g h : Nat → Option α} {r : α} (hc : c) (hg : Ev g r) : Ev (fun k => if c then g k else h k) r := by
  obtain ⟨K, hg⟩ := hg
  exact ⟨K, fun k hk => by simp only [if_pos hc]; exact hg k hk⟩
theorem ev_neg {α : Type} {c : Prop} [Decidable c] {g h : Nat → Option α} {r : α} (hc : ¬ c) (hg : Ev h r) : Ev (fun k => if c then g k else h k) r := by
  obtain ⟨K, hg⟩ := hg
  exact ⟨K, fun k hk => by simp only [if_neg hc]; exact hg k hk⟩
theorem ev_from {α : Type} {g : Nat → Option α} {r : α} (K : Nat) (h : ∀ k, K ≤ k → g k = some r) : Ev g r := ⟨K, h⟩
theorem ev_bind {α β : Type} {g : Nat → Option α} {f : Nat → α → Option β} {a : α} {r : β} (h : Ev g a) (k : Ev (fun n => f n a) r) : Ev (fun n => (g n).bind (f n)) r := h.bind k
theorem ev_bindc {α β : Type} {o : Option α} {f : Nat → α → Option β} {a : α} {r : β} (h : o = some a) (k : Ev (fun n => f n a) r) : Ev (fun n => o.bind (f n)) r := (ev_const h).bind k
theorem toList_inj {a b : ByteArray} (h : a.toList = b.toList) : a = b := by
  rw [ByteArray.toList_eq, ByteArray.toList_eq] at h
  exact Go.WideShapes.bytes_inj h
/-- A text's bytes as a list. -/
abbrev ls (a : ByteArray) : List UInt8 := a.data.toList
abbrev mk (l : List UInt8) : ByteArray := ⟨l.toArray⟩
theorem ls_len (a : ByteArray) : (ls a).length = a.size := Array.length_toList
theorem ls_mk (l : List UInt8) : ls (mk l) = l := rfl
theorem mk_ls (a : ByteArray) : mk (ls a) = a := rfl
theorem ls_inj {a b : ByteArray} (h : ls a = ls b) : a = b := Go.WideShapes.bytes_inj h
theorem mk_append (x y : List UInt8) : mk (x ++ y) = mk x ++ mk y := by
  apply ls_inj
  simp [ls, mk]
theorem mk_size (l : List UInt8) : (mk l).size = l.length := by
  show l.toArray.size = _
  rw [List.size_toArray]
theorem extract_ls (a : ByteArray) (i j : Nat) : ls (a.extract i j) = ((ls a).drop i).take (j - i) := by
  show (a.extract i j).data.toList = _
  rw [ByteArray.data_extract, Array.toList_extract]
theorem extract_mk (a : ByteArray) (i j : Nat) : a.extract i j = mk (((ls a).drop i).take (j - i)) := ls_inj (by rw [extract_ls])
theorem bt_nat (a : ByteArray) (i : Nat) (h : i < a.size) : bt a (i : Int) = (((ls a)[i]'(by rw [ls_len]; exact h)).toNat : Int) := by
  unfold bt
  rw [dif_pos (by simpa using h)]
  rfl
/-- A text's parts put together, with bytes 47 between. -/
def joinP : List (List UInt8) → List UInt8
  | [] => []
  | x :: r => x ++ r.flatMap (47 :: ·)
theorem joinP_snoc (l : List (List UInt8)) (h : l ≠ []) (x : List UInt8) : joinP (l ++ [x]) = joinP l ++ 47 :: x := by
  cases l with
  | nil => exact absurd rfl h
  | cons a r => simp [joinP]
theorem split_cons (x : UInt8) (r : List UInt8) : YtkccjohhakljnaaGreatDoorMpHelp.splitL 47 (x :: r) = if x = 47 then [] :: YtkccjohhakljnaaGreatDoorMpHelp.splitL 47 r else match YtkccjohhakljnaaGreatDoorMpHelp.splitL 47 r with
    | h :: t => (x :: h) :: t
    | [] => [[x]] := rfl
def pre (p : List UInt8) : List (List UInt8) → List (List UInt8)
  | h :: t => (p ++ h) :: t
  | [] => [p]
theorem pre_nil {l : List (List UInt8)} (h : l ≠ []) : pre [] l = l := by
  cases l with
  | nil => exact absurd rfl h
  | cons a r => rfl
theorem pre_pre (p q : List UInt8) (l : List (List UInt8)) : pre p (pre q l) = pre (p ++ q) l := by
  cases l <;> simp [pre]
theorem split_ne {x : UInt8} (h : x ≠ 47) (r : List UInt8) : YtkccjohhakljnaaGreatDoorMpHelp.splitL 47 (x :: r) = pre [x] (YtkccjohhakljnaaGreatDoorMpHelp.splitL 47 r) := by
  rw [split_cons, if_neg h]
  cases YtkccjohhakljnaaGreatDoorMpHelp.splitL 47 r <;> rfl
theorem split_eq (r : List UInt8) : YtkccjohhakljnaaGreatDoorMpHelp.splitL 47 (47 :: r) = [] :: YtkccjohhakljnaaGreatDoorMpHelp.splitL 47 r := by rw [split_cons, if_pos rfl]
theorem split_pos (s : List UInt8) : YtkccjohhakljnaaGreatDoorMpHelp.splitL 47 s ≠ [] := YtkccjohhakljnaaGreatDoorMpHelp.splitL_ne 47 s
theorem split_all (p : UInt8 → Bool) (hp : p 47 = true) : ∀ s : List UInt8, ((YtkccjohhakljnaaGreatDoorMpHelp.splitL 47 s).all fun l => l.all p) = s.all p
  | [] => by rfl
  | x :: r => by
    have ih := split_all p hp r
    by_cases hx : x = 47
    · subst hx
      rw [split_eq, List.all_cons, ih, List.all_cons, hp]
      rfl
    · rw [split_ne hx, List.all_cons, ← ih]
      have := split_pos r
      cases h : YtkccjohhakljnaaGreatDoorMpHelp.splitL 47 r with
      | nil => exact absurd h this
      | cons a t => simp [pre, Bool.and_assoc]
theorem split_join : ∀ s : List UInt8, joinP (YtkccjohhakljnaaGreatDoorMpHelp.splitL 47 s) = s
  | [] => by rfl
  | x :: r => by
    have ih := split_join r
    have hn := split_pos r
    by_cases hx : x = 47
    · subst hx
      rw [split_eq]
      cases h : YtkccjohhakljnaaGreatDoorMpHelp.splitL 47 r with
      | nil => exact absurd h hn
      | cons a t =>
        rw [h] at ih
        rw [← ih]
        simp [joinP]
    · rw [split_ne hx]
      cases h : YtkccjohhakljnaaGreatDoorMpHelp.splitL 47 r with
      | nil => exact absurd h hn
      | cons a t =>
        rw [h] at ih
        rw [← ih]
        simp [joinP, pre]
theorem split_no : ∀ (s : List UInt8), ∀ l ∈ YtkccjohhakljnaaGreatDoorMpHelp.splitL 47 s, (47 : UInt8) ∉ l
  | [] => by simp [YtkccjohhakljnaaGreatDoorMpHelp.splitL]
  | x :: r => by
    have ih := split_no r
    by_cases hx : x = 47
    · subst hx
      rw [split_eq]
      intro l hl
      rcases List.mem_cons.1 hl with rfl | hl
      · simp
      · exact ih l hl
    · rw [split_ne hx]
      have hn := split_pos r
      cases h : YtkccjohhakljnaaGreatDoorMpHelp.splitL 47 r with
      | nil => exact absurd h hn
      | cons a t =>
        rw [h] at ih
        intro l hl
        rcases List.mem_cons.1 hl with rfl | hl
        · simp only [List.cons_append, List.nil_append, List.mem_cons, not_or]
          exact ⟨fun e => hx e.symm, ih a List.mem_cons_self⟩
        · exact ih l (List.mem_cons_of_mem _ hl)
theorem split_len (s : List UInt8) : (YtkccjohhakljnaaGreatDoorMpHelp.splitL 47 s).length ≤ s.length + 1 := by
  induction s with
  | nil => simp [YtkccjohhakljnaaGreatDoorMpHelp.splitL]
  | cons x r ih =>
    by_cases hx : x = 47
    · subst hx
      rw [split_eq]
      simp only [List.length_cons]
      omega
    · rw [split_ne hx]
      cases h : YtkccjohhakljnaaGreatDoorMpHelp.splitL 47 r with
      | nil => simp [pre]
      | cons a t => rw [h] at ih; simp only [pre, List.length_cons] at ih ⊢; omega
theorem split_part (s : List UInt8) : ∀ l ∈ YtkccjohhakljnaaGreatDoorMpHelp.splitL 47 s, l.length ≤ s.length := by
  induction s with
  | nil => simp [YtkccjohhakljnaaGreatDoorMpHelp.splitL]
  | cons x r ih =>
    intro l hl
    by_cases hx : x = 47
    · subst hx
      rw [split_eq] at hl
      rcases List.mem_cons.1 hl with rfl | hl
      · simp
      · have := ih l hl; simp only [List.length_cons]; omega
    · rw [split_ne hx] at hl
      cases h : YtkccjohhakljnaaGreatDoorMpHelp.splitL 47 r with
      | nil => exact absurd h (split_pos r)
      | cons a t =>
        rw [h] at ih hl
        rcases List.mem_cons.1 hl with rfl | hl
        · have := ih a List.mem_cons_self; simp only [List.cons_append, List.nil_append, List.length_cons]; omega
        · have := ih l (List.mem_cons_of_mem _ hl); simp only [List.length_cons]; omega
/-- The document's parts. -/
def partsB (a : ByteArray) : List ByteArray := (YtkccjohhakljnaaGreatDoorMpHelp.splitL 47 (ls a)).map mk
theorem rd_nat (l : List ByteArray) (i : Nat) (h : i < l.length) : rdOf ByteArray.empty l (i : Int) = l[i] := by
  rw [rdOf, Int.toNat_natCast, List.getD_eq_getElem?_getD, List.getElem?_eq_getElem h, Option.getD_some]
theorem rd_mk (l : List (List UInt8)) (i : Nat) (h : i < l.length) : rdOf ByteArray.empty (l.map mk) (i : Int) = mk l[i] := by
  rw [rd_nat _ _ (by rw [List.length_map]; exact h), List.getElem_map]
theorem refParts_loop (a : ByteArray) (hs : a.size ≤ 1000000) : ∀ (n i from_ : Nat) (acc : List ByteArray), i + n = a.size → from_ ≤ i → acc.length ≤ i →
    Ev (fun k => bindleref15_Parts.l0 k a acc from_ i) (acc ++ (pre (((ls a).drop from_).take (i - from_)) (YtkccjohhakljnaaGreatDoorMpHelp.splitL 47 ((ls a).drop i))).map mk)
  | 0, i, from_, acc, hi, hf, hl => by
    refine Ev.step (fun k => rfl) ?_
    refine ev_neg (by omega) (ev_pos (by omega) (ev_pos (by omega) (ev_pos (by omega) ?_)))
    have hd : (ls a).drop i = [] := List.drop_of_length_le (by rw [ls_len]; omega)
    rw [hd]
    have e1 : a.extract (from_ : Int).toNat a.size = mk (((ls a).drop from_).take (i - from_)) := by
      rw [Int.toNat_natCast, extract_mk]
      congr 3
      omega
    rw [e1]
    have e2 : pre (((ls a).drop from_).take (i - from_)) (YtkccjohhakljnaaGreatDoorMpHelp.splitL 47 []) = [((ls a).drop from_).take (i - from_)] := by simp [pre, YtkccjohhakljnaaGreatDoorMpHelp.splitL]
    rw [e2]
    exact Ev.now _
  | n + 1, i, from_, acc, hi, hf, hl => by
    have hlt : i < (ls a).length := by rw [ls_len]; omega
    have hdr : (ls a).drop i = (ls a)[i] :: (ls a).drop (i + 1) := List.drop_eq_getElem_cons hlt
    refine Ev.step (fun k => rfl) ?_
    refine ev_pos (by omega) (ev_pos (by omega) ?_)
    have hb := bt_nat a i (by omega)
    have hw : wrap64 ((i : Int) + 1) = ((i + 1 : Nat) : Int) := by rw [w64 (by omega) (by omega)]; omega
    rw [hw]
    by_cases hc : (ls a)[i] = 47
    · have hc' : bt a (i : Int) = 47 := by rw [hb, hc]; rfl
      refine ev_pos hc' (ev_pos (by omega) (ev_pos (by omega) (ev_pos (by omega) (ev_pos (by omega) ?_))))
      have ih := refParts_loop a hs n (i + 1) (i + 1) (acc ++ [a.extract (from_ : Int).toNat (i : Int).toNat]) (by omega) (Nat.le_refl _) (by rw [List.length_append]; simp; omega)
      have e1 : a.extract (from_ : Int).toNat (i : Int).toNat = mk (((ls a).drop from_).take (i - from_)) := by rw [Int.toNat_natCast, Int.toNat_natCast, extract_mk]
      rw [e1] at ih ⊢
      rw [Nat.sub_self, List.take_zero, pre_nil (split_pos _)] at ih
      rw [hdr, hc, split_eq]
      simp only [pre, List.append_nil, List.map_cons]
      rw [List.append_assoc] at ih
      exact ih
    · have hc' : ¬ bt a (i : Int) = 47 := by
        rw [hb]
        intro e
        exact hc (UInt8.toNat_inj.1 (by have : ((ls a)[i].toNat : Int) = ((47 : UInt8).toNat : Int) := e; exact_mod_cast this))
      refine ev_neg hc' ?_
      have ih := refParts_loop a hs n (i + 1) from_ acc (by omega) (by omega) (by omega)
      have e2 : ((ls a).drop from_).take (i + 1 - from_) = ((ls a).drop from_).take (i - from_) ++ [(ls a)[i]] := by
        rw [show i + 1 - from_ = (i - from_) + 1 by omega, List.take_succ_eq_append_getElem (by rw [List.length_drop]; omega), List.getElem_drop]
        congr 3
        omega
      rw [hdr, split_ne hc, pre_pre, ← e2]
      exact ih
theorem refParts (a : ByteArray) (hs : a.size ≤ 1000000) : Ev (fun k => bindleref15_Parts.f k a) (partsB a) := by
  have := refParts_loop a hs a.size 0 0 [] (by omega) (Nat.le_refl _) (Nat.le_refl _)
  rw [Nat.sub_self, List.take_zero, pre_nil (split_pos _), List.drop_zero, List.nil_append] at this
  exact this
theorem all_two {α : Type} (p q : α → Bool) : ∀ l : List α, (l.all fun x => p x && q x) = (l.all p && l.all q)
  | [] => rfl
  | x :: r => by
    rw [List.all_cons, all_two p q r, List.all_cons, List.all_cons]
    cases p x <;> cases q x <;> cases r.all p <;> rfl
def fineB (c : UInt8) : Bool := decide (33 ≤ c.toNat) && decide (c.toNat ≤ 126)
def oddB (l : List UInt8) : Bool := !l.isEmpty && !(l == [46]) && !(l == [46, 46])
theorem right_alt (s : List UInt8) : YtkccjohhakljnaaGreatDoorMpHelp.rightB s = (decide (s.length ≤ 64) && (s.all fineB && (YtkccjohhakljnaaGreatDoorMpHelp.splitL 47 s).all oddB)) := by
  unfold YtkccjohhakljnaaGreatDoorMpHelp.rightB
  rw [← split_all fineB (by decide) s]
  congr 1
  rw [← all_two]
  congr 1
  funext l
  unfold YtkccjohhakljnaaGreatDoorMpHelp.partB oddB fineB
  rw [Bool.and_assoc, Bool.and_assoc, Bool.and_assoc]
theorem refRight_l1 (l : List (List UInt8)) : ∀ n i : Nat, i + n = l.length → l.length ≤ 1000000 → Ev (fun k => bindleref15_Right.l1 k (l.map mk) i) ((l.drop i).all oddB)
  | 0, i, hi, hl => by
    refine Ev.step (fun k => rfl) ?_
    rw [List.drop_of_length_le (by omega)]
    exact ev_neg (by rw [List.length_map]; omega) (Ev.now _)
  | n + 1, i, hi, hl => by
    have hlt : i < l.length := by omega
    refine Ev.step (fun k => rfl) ?_
    refine ev_pos (by rw [List.length_map]; omega) (ev_pos (by omega) ?_)
    have hr : (rdOf ByteArray.empty (l.map mk) (i : Int)).toList = l[i] := by
      rw [rdOf, Int.toNat_natCast, List.getD_eq_getElem?_getD, List.getElem?_map, List.getElem?_eq_getElem hlt, Option.map_some, Option.getD_some, ByteArray.toList_eq]
    have hw : wrap64 ((i : Int) + 1) = ((i + 1 : Nat) : Int) := by rw [w64 (by omega) (by omega)]; omega
    rw [hr, hw, List.drop_eq_getElem_cons hlt, List.all_cons]
    have ih := refRight_l1 l n (i + 1) (by omega) hl
    by_cases h1 : l[i] = []
    · rw [show oddB l[i] = false by rw [h1]; rfl]
      exact ev_pos h1 (Ev.now _)
    · by_cases h2 : l[i] = [46]
      · rw [show oddB l[i] = false by rw [h2]; rfl]
        exact ev_neg h1 (ev_pos h2 (Ev.now _))
      · by_cases h3 : l[i] = [46, 46]
        · rw [show oddB l[i] = false by rw [h3]; rfl]
          exact ev_neg h1 (ev_neg h2 (ev_pos h3 (Ev.now _)))
        · have e : oddB l[i] = true := by
            unfold oddB
            rw [List.isEmpty_eq_false_iff.2 h1, beq_eq_false_iff_ne.2 h2, beq_eq_false_iff_ne.2 h3]
            rfl
          rw [e]
          exact ev_neg h1 (ev_neg h2 (ev_neg h3 ih))
theorem refRight_l0 (a : ByteArray) (hs : a.size ≤ 64) : ∀ n i : Nat, i + n = a.size → Ev (fun k => bindleref15_Right.l0 k a i) (((ls a).drop i).all fineB && (YtkccjohhakljnaaGreatDoorMpHelp.splitL 47 (ls a)).all oddB)
  | 0, i, hi => by
    refine Ev.step (fun k => rfl) ?_
    rw [List.drop_of_length_le (by rw [ls_len]; omega)]
    refine ev_neg (by omega) (ev_bind (refParts a (by omega)) ?_)
    have := refRight_l1 (YtkccjohhakljnaaGreatDoorMpHelp.splitL 47 (ls a)) (YtkccjohhakljnaaGreatDoorMpHelp.splitL 47 (ls a)).length 0 (by omega) (by have := split_len (ls a); rw [ls_len] at this; omega)
    rw [List.drop_zero] at this
    exact this
  | n + 1, i, hi => by
    have hlt : i < (ls a).length := by rw [ls_len]; omega
    refine Ev.step (fun k => rfl) ?_
    refine ev_pos (by omega) (ev_pos (by omega) ?_)
    have hb := bt_nat a i (by omega)
    have hw : wrap64 ((i : Int) + 1) = ((i + 1 : Nat) : Int) := by rw [w64 (by omega) (by omega)]; omega
    rw [hb, hw, List.drop_eq_getElem_cons hlt, List.all_cons]
    have ih := refRight_l0 a hs n (i + 1) (by omega)
    by_cases h1 : ((ls a)[i].toNat : Int) < 33
    · rw [show fineB (ls a)[i] = false by unfold fineB; rw [decide_eq_false (by omega)]; rfl]
      exact ev_pos h1 (Ev.now _)
    · by_cases h2 : ((ls a)[i].toNat : Int) > 126
      · rw [show fineB (ls a)[i] = false by unfold fineB; rw [decide_eq_false (p := (ls a)[i].toNat ≤ 126) (by omega), Bool.and_false]]
        exact ev_neg h1 (ev_pos h2 (Ev.now _))
      · rw [show fineB (ls a)[i] = true by unfold fineB; rw [decide_eq_true (by omega), decide_eq_true (by omega)]; rfl]
        exact ev_neg h1 (ev_neg h2 ih)
theorem refRight (a : ByteArray) : Ev (fun k => bindleref15_Right.f k a) (YtkccjohhakljnaaGreatDoorMpHelp.rightB (ls a)) := by
  rw [right_alt, ls_len]
  by_cases h1 : (a.size : Int) < 1
  · have e : ls a = [] := List.eq_nil_of_length_eq_zero (by rw [ls_len]; omega)
    rw [e, show ((YtkccjohhakljnaaGreatDoorMpHelp.splitL 47 []).all oddB) = false by decide, Bool.and_false, Bool.and_false]
    refine ev_pos h1 (Ev.step (fun k => rfl) ?_)
    exact ev_pos (c := true = true) (h := fun k => bindleref15_Right.l0 k a 0) rfl (Ev.now _)
  · refine ev_neg h1 ?_
    by_cases h2 : (a.size : Int) > 64
    · rw [decide_eq_true h2, decide_eq_false (by omega), Bool.false_and]
      refine Ev.step (fun k => rfl) ?_
      exact ev_pos (c := true = true) (h := fun k => bindleref15_Right.l0 k a 0) rfl (Ev.now _)
    · rw [decide_eq_false h2, decide_eq_true (by omega), Bool.true_and]
      refine Ev.step (fun k => rfl) ?_
      refine ev_neg (c := false = true) (g := fun _ => some false) (by decide) ?_
      have := refRight_l0 a (by omega) a.size 0 (by omega)
      rw [List.drop_zero] at this
      exact this
theorem toList_ls (a : ByteArray) : a.toList = ls a := ByteArray.toList_eq a
theorem ls_append (a b : ByteArray) : ls (a ++ b) = ls a ++ ls b := by simp [ls]
theorem hasPrefix (s p : ByteArray) : stringslite_HasPrefix.f s p = some ((ls p).isPrefixOf (ls s)) := by
  unfold stringslite_HasPrefix.f
  by_cases h : (s.size : Int) ≥ (p.size : Int)
  · rw [if_pos h, if_pos (by omega), if_pos (by omega), toList_ls, toList_ls, extract_ls, Int.toNat_natCast, List.drop_zero, Nat.sub_zero]
    congr 1
    rw [Bool.eq_iff_iff, beq_iff_eq, List.isPrefixOf_iff_prefix, List.prefix_iff_eq_take, ls_len]
    exact eq_comm
  · rw [if_neg h]
    congr 1
    symm
    rw [Bool.eq_false_iff]
    intro e
    have := (List.isPrefixOf_iff_prefix.1 e).length_le
    rw [ls_len, ls_len] at this
    omega
theorem cutPrefix (s p : ByteArray) : strings_CutPrefix.f s p = some (if (ls p).isPrefixOf (ls s) = true then (mk ((ls s).drop p.size), true) else (s, false)) := by
  unfold strings_CutPrefix.f stringslite_CutPrefix.f
  rw [hasPrefix, Option.bind_some]
  by_cases h : (ls p).isPrefixOf (ls s) = true
  · have hl := (List.isPrefixOf_iff_prefix.1 h).length_le
    rw [ls_len, ls_len] at hl
    rw [if_pos h, if_pos (by omega), if_pos (by omega), if_pos h, extract_mk, Int.toNat_natCast]
    rw [List.take_of_length_le (by rw [List.length_drop, ls_len]; omega)]
    rfl
  · rw [if_neg h, if_neg h]
    rfl
/-- Has a folder a name? -/
def inB (f s : List UInt8) : Bool := YtkccjohhakljnaaGreatDoorMpHelp.rightB s && (f.isEmpty || (YtkccjohhakljnaaGreatDoorMpHelp.rightB f && (f ++ [47]).isPrefixOf s))
/-- What stands behind a folder. -/
def restB (f s : ByteArray) : ByteArray := if (ls f).isEmpty = true then s else mk ((ls s).drop (f.size + 1))
theorem behind (f s : ByteArray) (hf : f.size ≤ 1000000) : ∃ x, member_behind.f f s = some (x, inB (ls f) (ls s)) ∧ (inB (ls f) (ls s) = true → x = restB f s) := by
  unfold member_behind.f inB restB
  rw [show member_Right.f s = some (YtkccjohhakljnaaGreatDoorMpHelp.rightB (ls s)) from rfl, Option.bind_some]
  cases h1 : YtkccjohhakljnaaGreatDoorMpHelp.rightB (ls s) with
  | false => exact ⟨_, rfl, fun h => by cases h⟩
  | true =>
    rw [if_pos rfl, toList_ls]
    by_cases h2 : ls f = []
    · rw [if_pos h2, h2]
      exact ⟨_, rfl, fun _ => rfl⟩
    · have e2 : (ls f).isEmpty = false := List.isEmpty_eq_false_iff.2 h2
      rw [if_neg h2, show member_Right.f f = some (YtkccjohhakljnaaGreatDoorMpHelp.rightB (ls f)) from rfl, Option.bind_some, e2]
      cases h3 : YtkccjohhakljnaaGreatDoorMpHelp.rightB (ls f) with
      | false => exact ⟨_, rfl, fun h => by cases h⟩
      | true =>
        rw [if_pos rfl, if_pos (by omega), cutPrefix, Option.bind_some, ls_append, show ls (⟨#[47]⟩ : ByteArray) = [47] from rfl]
        cases h4 : (ls f ++ [47]).isPrefixOf (ls s) with
        | false => exact ⟨_, rfl, fun h => by cases h⟩
        | true =>
          refine ⟨_, rfl, fun _ => ?_⟩
          rw [if_pos rfl, if_neg (by decide), ByteArray.size_append]
          rfl
theorem in_of (f s : ByteArray) (hf : f.size ≤ 1000000) : member_In.f f s = some (inB (ls f) (ls s)) := by
  obtain ⟨x, h, _⟩ := behind f s hf
  unfold member_In.f
  rw [h, Option.bind_some]
theorem str_lt_of {x y : List UInt8} (h : x ≤ y) (hne : x ≠ y) : x < y := by
  by_cases hl : x < y
  · exact hl
  · exact absurd (List.le_antisymm h hl) hne
theorem str_irrefl (x : List UInt8) : ¬ x < x := List.lt_irrefl x
theorem str_trans {x y z : List UInt8} (h : x < y) (h' : y < z) : x < z := List.lt_trans h h'
theorem str_lt_le {x y : List UInt8} (h : x < y) : x ≤ y := fun h' => str_irrefl x (str_trans h h')
theorem str_le_lt {x y z : List UInt8} (h : x ≤ y) (h' : y < z) : x < z := by
  by_cases e : x = y
  · rwa [e]
  · exact str_trans (str_lt_of h e) h'
theorem strict_ext {l m : List (List UInt8)} (hl : l.Pairwise (· < ·)) (hm : m.Pairwise (· < ·)) (h : ∀ x, x ∈ l ↔ x ∈ m) : l = m := by
  have nl : l.Nodup := hl.imp (fun {a b} hx (e : a = b) => str_irrefl b (by rw [e] at hx; exact hx))
  have nm : m.Nodup := hm.imp (fun {a b} hx (e : a = b) => str_irrefl b (by rw [e] at hx; exact hx))
  exact List.Perm.eq_of_pairwise (le := fun a b => a < b) (fun a b _ _ h1 h2 => absurd (str_trans h1 h2) (str_irrefl a)) hl hm ((List.perm_ext_iff_of_nodup nl nm).2 h)
theorem get_bang (zs : List (List UInt8)) (j : Nat) (h : j < zs.length) : zs.toArray[j]! = zs[j] := by
  simp [h]
theorem compact_upto (zs : List (List UInt8)) (h : zs.Pairwise (· ≤ ·)) : ∀ m : Nat, m ≤ zs.length →
    (Lib.compactUpTo zs.toArray m).Pairwise (· < ·) ∧ ∀ x, x ∈ Lib.compactUpTo zs.toArray m ↔ ∃ j, j < m ∧ zs.toArray[j]! = x
  | 0, _ => by
    refine ⟨by simp [Lib.compactUpTo], fun x => ?_⟩
    simp [Lib.compactUpTo]
  | m + 1, hm => by
    obtain ⟨h1, h2⟩ := compact_upto zs h m (by omega)
    have hle : ∀ i j, i ≤ j → j < zs.length → zs.toArray[i]! ≤ zs.toArray[j]! := fun i j hij hj => by
      rw [get_bang _ _ (by omega), get_bang _ _ hj]
      rcases Nat.lt_or_eq_of_le hij with hlt | rfl
      · exact List.pairwise_iff_getElem.1 h i j (by omega) hj hlt
      · exact List.le_refl _
    rw [Lib.compactUpTo_succ]
    by_cases hk : Lib.keeps zs.toArray m = true
    · rw [if_pos hk]
      have hk' : m = 0 ∨ zs.toArray[m]! ≠ zs.toArray[m - 1]! := of_decide_eq_true hk
      refine ⟨List.pairwise_append.2 ⟨h1, by simp, fun a ha b hb => ?_⟩, fun x => ?_⟩
      · rw [List.mem_singleton] at hb
        subst hb
        obtain ⟨j, hj, rfl⟩ := (h2 a).1 ha
        rcases hk' with h0 | hne
        · omega
        · exact str_le_lt (hle j (m - 1) (by omega) (by omega)) (str_lt_of (hle (m - 1) m (by omega) (by omega)) (Ne.symm hne))
      · rw [List.mem_append, h2, List.mem_singleton]
        constructor
        · rintro (⟨j, hj, e⟩ | e)
          · exact ⟨j, by omega, e⟩
          · exact ⟨m, by omega, e.symm⟩
        · rintro ⟨j, hj, e⟩
          by_cases hjm : j = m
          · subst hjm; exact .inr e.symm
          · exact .inl ⟨j, by omega, e⟩
    · rw [if_neg hk, List.append_nil]
      have hk' : ¬ (m = 0 ∨ zs.toArray[m]! ≠ zs.toArray[m - 1]!) := fun e => hk (decide_eq_true e)
      refine ⟨h1, fun x => ?_⟩
      rw [h2]
      constructor
      · rintro ⟨j, hj, e⟩
        exact ⟨j, by omega, e⟩
      · rintro ⟨j, hj, e⟩
        by_cases hjm : j = m
        · subst hjm
          refine ⟨j - 1, by omega, ?_⟩
          rw [← e]
          by_cases e2 : zs.toArray[j]! = zs.toArray[j - 1]!
          · exact e2.symm
          · exact absurd (.inr e2) hk'
        · exact ⟨j, by omega, e⟩
theorem outs_spec (l : List ByteArray) : (YtkccjohhakljnaaGreatDoorMSort.outs l).Pairwise (· < ·) ∧ ∀ x, x ∈ YtkccjohhakljnaaGreatDoorMSort.outs l ↔ x ∈ l.map ls := by
  have tr : ∀ a b c : List UInt8, decide (a ≤ b) = true → decide (b ≤ c) = true → decide (a ≤ c) = true := fun a b c h1 h2 => by simp only [decide_eq_true_eq] at *; exact List.le_trans h1 h2
  have tt : ∀ a b : List UInt8, (decide (a ≤ b) || decide (b ≤ a)) = true := fun a b => by simp only [Bool.or_eq_true, decide_eq_true_eq]; exact List.le_total a b
  have hs : (YtkccjohhakljnaaGreatDoorMSort.sorted l).Pairwise (· ≤ ·) := (List.pairwise_mergeSort tr tt (YtkccjohhakljnaaGreatDoorMSort.texts l)).imp fun h => of_decide_eq_true h
  obtain ⟨h1, h2⟩ := compact_upto (YtkccjohhakljnaaGreatDoorMSort.sorted l) hs (YtkccjohhakljnaaGreatDoorMSort.sorted l).length (Nat.le_refl _)
  refine ⟨h1, fun x => (h2 x).trans ?_⟩
  have hm : x ∈ YtkccjohhakljnaaGreatDoorMSort.sorted l ↔ x ∈ l.map ls := (List.mergeSort_perm (YtkccjohhakljnaaGreatDoorMSort.texts l) _).mem_iff
  rw [← hm, List.mem_iff_getElem]
  constructor
  · rintro ⟨j, hj, e⟩
    exact ⟨j, hj, by rw [← get_bang _ _ hj]; exact e⟩
  · rintro ⟨j, hj, e⟩
    exact ⟨j, hj, by rw [get_bang _ _ hj]; exact e⟩
/-- A text put where it belongs. -/
def ins (x : List UInt8) : List (List UInt8) → List (List UInt8)
  | [] => [x]
  | y :: r => if y < x then y :: ins x r else if y = x then y :: r else x :: y :: r
theorem ins_mem (x : List UInt8) : ∀ (o : List (List UInt8)) (z : List UInt8), z ∈ ins x o ↔ z = x ∨ z ∈ o
  | [], z => by simp [ins]
  | y :: r, z => by
    have ih := ins_mem x r z
    unfold ins
    by_cases h : y < x
    · rw [if_pos h, List.mem_cons, ih, List.mem_cons]
      constructor
      · rintro (h | h | h)
        · exact .inr (.inl h)
        · exact .inl h
        · exact .inr (.inr h)
      · rintro (h | h | h)
        · exact .inr (.inl h)
        · exact .inl h
        · exact .inr (.inr h)
    · rw [if_neg h]
      by_cases e : y = x
      · rw [if_pos e, ← e, List.mem_cons]
        constructor
        · exact .inr
        · rintro (h | h)
          · exact .inl h
          · exact h
      · rw [if_neg e, List.mem_cons]
theorem ins_strict (x : List UInt8) : ∀ o : List (List UInt8), o.Pairwise (· < ·) → (ins x o).Pairwise (· < ·)
  | [], _ => by simp [ins]
  | y :: r, h => by
    obtain ⟨h1, h2⟩ := List.pairwise_cons.1 h
    unfold ins
    by_cases hl : y < x
    · rw [if_pos hl]
      refine List.pairwise_cons.2 ⟨fun z hz => ?_, ins_strict x r h2⟩
      rcases (ins_mem x r z).1 hz with rfl | hz
      · exact hl
      · exact h1 z hz
    · rw [if_neg hl]
      by_cases e : y = x
      · rw [if_pos e]; exact h
      · rw [if_neg e]
        have hxy : x < y := str_lt_of hl (Ne.symm e)
        refine List.pairwise_cons.2 ⟨fun z hz => ?_, h⟩
        rcases List.mem_cons.1 hz with rfl | hz
        · exact hxy
        · exact str_trans hxy (h1 z hz)
theorem ins_app (x : List UInt8) : ∀ p q : List (List UInt8), (∀ z ∈ p, z < x) → ins x (p ++ q) = p ++ ins x q
  | [], _, _ => rfl
  | y :: p, q, h => by
    rw [List.cons_append, ins, if_pos (h y List.mem_cons_self), ins_app x p q fun z hz => h z (List.mem_cons_of_mem _ hz)]
    rfl
theorem ins_len (x : List UInt8) (o : List (List UInt8)) : (ins x o).length ≤ o.length + 1 := by
  induction o with
  | nil => simp [ins]
  | cons y r ih =>
    unfold ins
    by_cases h : y < x
    · rw [if_pos h]; simp only [List.length_cons]; omega
    · rw [if_neg h]
      by_cases e : y = x
      · rw [if_pos e]; simp only [List.length_cons]; omega
      · rw [if_neg e]; simp only [List.length_cons]; omega
def insAll : List (List UInt8) → List (List UInt8) → List (List UInt8)
  | o, [] => o
  | o, x :: r => insAll (ins x o) r
theorem insAll_spec : ∀ (l o : List (List UInt8)), o.Pairwise (· < ·) → (insAll o l).Pairwise (· < ·) ∧ ∀ z, z ∈ insAll o l ↔ z ∈ o ∨ z ∈ l
  | [], o, h => ⟨h, fun z => by simp [insAll]⟩
  | x :: r, o, h => by
    obtain ⟨h1, h2⟩ := insAll_spec r (ins x o) (ins_strict x o h)
    refine ⟨h1, fun z => (h2 z).trans ?_⟩
    rw [ins_mem, List.mem_cons]
    constructor
    · rintro ((h | h) | h)
      · exact .inr (.inl h)
      · exact .inl h
      · exact .inr (.inr h)
    · rintro (h | h | h)
      · exact .inl (.inr h)
      · exact .inl (.inl h)
      · exact .inr h
theorem insAll_outs (l : List ByteArray) : insAll [] (l.map ls) = YtkccjohhakljnaaGreatDoorMSort.outs l := by
  obtain ⟨h1, h2⟩ := insAll_spec (l.map ls) [] List.Pairwise.nil
  obtain ⟨h3, h4⟩ := outs_spec l
  exact strict_ext h1 h3 fun x => by rw [h2, h4]; simp
theorem rs_shift (x0 : List ByteArray) (o : List ByteArray) (at_ x4 : Nat) (r : List ByteArray) (ho : o.length ≤ 1000000) (hat : at_ ≤ o.length) (hx4 : x4 < x0.length) (hx0 : x0.length ≤ 1000000)
    (hfin : Ev (fun k => bindleref15_Sort.l0 k x0 (o.take at_ ++ x0[x4] :: o.drop at_) ((x4 + 1 : Nat) : Int)) r) :
    ∀ n m : Nat, at_ + n = m → m ≤ o.length → ∀ h : ByteArray, Ev (fun k => bindleref15_Sort.l2 k x0 (o.take m ++ h :: o.drop m) x4 at_ m) r
  | 0, m, hm, hmo, h => by
    obtain rfl : at_ = m := by omega
    have hlen : (o.take at_ ++ h :: o.drop at_).length = o.length + 1 := by simp; omega
    refine Ev.step (fun k => rfl) ?_
    refine ev_neg (by omega) (ev_pos (by omega) (ev_pos (by omega) (ev_pos (by omega) (ev_pos (by rw [hlen]; omega) ?_))))
    have hw : wrap64 ((x4 : Int) + 1) = ((x4 + 1 : Nat) : Int) := by rw [w64 (by omega) (by omega)]; omega
    have e : (o.take at_ ++ h :: o.drop at_).set (at_ : Int).toNat (rdOf ByteArray.empty x0 (x4 : Int)) = o.take at_ ++ x0[x4] :: o.drop at_ := by
      rw [rd_nat x0 x4 hx4, Int.toNat_natCast, List.set_append_right _ _ (by rw [List.length_take]; omega), List.length_take, Nat.min_eq_left hat, Nat.sub_self]
      rfl
    rw [hw, e]
    exact hfin
  | n + 1, m, hm, hmo, h => by
    have hlen : (o.take m ++ h :: o.drop m).length = o.length + 1 := by simp; omega
    have hw : wrap64 ((m : Int) - 1) = ((m - 1 : Nat) : Int) := by rw [w64 (by omega) (by omega)]; omega
    refine Ev.step (fun k => rfl) ?_
    refine ev_pos (by omega) ?_
    rw [hw]
    refine ev_pos (by omega) (ev_pos (by rw [hlen]; omega) (ev_pos (by omega) (ev_pos (by rw [hlen]; omega) ?_)))
    have hr : rdOf ByteArray.empty (o.take m ++ h :: o.drop m) ((m - 1 : Nat) : Int) = o[m - 1] := by
      rw [rd_nat _ _ (by rw [hlen]; omega), List.getElem_append_left (by rw [List.length_take]; omega), List.getElem_take]
    have hd : o.drop (m - 1) = o[m - 1] :: o.drop m := by
      have := List.drop_eq_getElem_cons (l := o) (i := m - 1) (by omega)
      rwa [show m - 1 + 1 = m by omega] at this
    have ht : o.take m = o.take (m - 1) ++ [o[m - 1]] := by
      have := List.take_succ_eq_append_getElem (l := o) (i := m - 1) (by omega)
      rwa [show m - 1 + 1 = m by omega] at this
    have e : (o.take m ++ h :: o.drop m).set (m : Int).toNat o[m - 1] = o.take (m - 1) ++ o[m - 1] :: o.drop (m - 1) := by
      rw [Int.toNat_natCast, List.set_append_right _ _ (by rw [List.length_take]; omega), List.length_take, Nat.min_eq_left hmo, Nat.sub_self, hd, ht, List.append_assoc]
      rfl
    rw [hr, e]
    exact rs_shift x0 o at_ x4 r ho hat hx4 hx0 hfin n (m - 1) (by omega) (by omega) o[m - 1]
theorem rs_put (x0 : List ByteArray) (p q : List (List UInt8)) (x4 : Nat) (r : List ByteArray) (ho : (p ++ q).length ≤ 999999) (hx4 : x4 < x0.length) (hx0 : x0.length ≤ 1000000) (hq : ∀ y ∈ q.head?, ¬ y < ls x0[x4])
    (hfin : Ev (fun k => bindleref15_Sort.l0 k x0 ((p ++ ins (ls x0[x4]) q).map mk) ((x4 + 1 : Nat) : Int)) r) :
    Ev (fun k => bindleref15_Sort.j2 k x0 ((p ++ q).map mk) x4 p.length) r := by
  have hw : wrap64 ((x4 : Int) + 1) = ((x4 + 1 : Nat) : Int) := by rw [w64 (by omega) (by omega)]; omega
  have hml : ((p ++ q).map mk).length = p.length + q.length := by simp
  have hput : ins (ls x0[x4]) q = ls x0[x4] :: q → Ev (fun k => bindleref15_Sort.j3 k x0 ((p ++ q).map mk) x4 p.length false) r := fun e => by
    refine Ev.step (fun k => by rw [bindleref15_Sort.j3, if_neg (by decide), if_pos (by rw [hml]; rw [List.length_append] at ho; omega), Option.bind_some]) ?_
    have hl : (((p ++ q).map mk) ++ [(⟨#[]⟩ : ByteArray)]).length = p.length + q.length + 1 := by rw [List.length_append, hml]; rfl
    have hw2 : wrap64 (((((p ++ q).map mk) ++ [(⟨#[]⟩ : ByteArray)]).length : Int) - 1) = ((p.length + q.length : Nat) : Int) := by
      rw [hl, w64 (by omega) (by rw [List.length_append] at ho; omega)]
      omega
    rw [hw2]
    have hs := rs_shift x0 ((p ++ q).map mk) p.length x4 r (by rw [hml]; rw [List.length_append] at ho; omega) (by rw [hml]; omega) hx4 hx0 (by
      have e2 : ((p ++ q).map mk).take p.length ++ x0[x4] :: ((p ++ q).map mk).drop p.length = (p ++ ins (ls x0[x4]) q).map mk := by
        rw [e, List.map_append, List.take_left' (by simp), List.drop_left' (by simp), List.map_append, List.map_cons]
      rw [e2]
      exact hfin) q.length (p.length + q.length) rfl (by rw [hml]; omega) (⟨#[]⟩ : ByteArray)
    rw [List.take_of_length_le (by rw [hml]; omega), List.drop_of_length_le (by rw [hml]; omega)] at hs
    exact hs
  refine Ev.step (fun k => rfl) ?_
  cases q with
  | nil =>
    refine ev_neg (by rw [hml]; simp) ?_
    exact hput rfl
  | cons y t =>
    have hny := hq y rfl
    refine ev_pos (by rw [hml]; simp; omega) (ev_pos (by omega) (ev_pos (by omega) (ev_pos (by omega) ?_)))
    have hr1 : (rdOf ByteArray.empty ((p ++ y :: t).map mk) (p.length : Int)).toList = y := by
      rw [rd_mk _ _ (by simp), toList_ls]
      simp
    have hr2 : (rdOf ByteArray.empty x0 (x4 : Int)).toList = ls x0[x4] := by rw [rd_nat x0 x4 hx4, toList_ls]
    rw [hr1, hr2]
    by_cases e : y = ls x0[x4]
    · rw [show (y == ls x0[x4]) = true from beq_iff_eq.2 e]
      refine Ev.step (fun k => by rw [bindleref15_Sort.j3, if_pos rfl, hw]) ?_
      have e2 : ins (ls x0[x4]) (y :: t) = y :: t := by rw [ins, if_neg hny, if_pos e]
      rw [e2] at hfin
      exact hfin
    · rw [show (y == ls x0[x4]) = false from beq_eq_false_iff_ne.2 e]
      exact hput (by rw [ins, if_neg hny, if_neg e])
theorem rs_scan (x0 : List ByteArray) (x4 : Nat) (r : List ByteArray) (hx4 : x4 < x0.length) (hx0 : x0.length ≤ 1000000) :
    ∀ (q p : List (List UInt8)), (p ++ q).length ≤ 999999 → (∀ z ∈ p, z < ls x0[x4]) → Ev (fun k => bindleref15_Sort.l0 k x0 ((p ++ ins (ls x0[x4]) q).map mk) ((x4 + 1 : Nat) : Int)) r →
    Ev (fun k => bindleref15_Sort.l1 k x0 ((p ++ q).map mk) x4 p.length) r
  | [], p, ho, hp, hfin => by
    refine Ev.step (fun k => rfl) ?_
    refine ev_neg (by simp) ?_
    exact rs_put x0 p [] x4 r ho hx4 hx0 (fun y hy => by cases hy) hfin
  | y :: t, p, ho, hp, hfin => by
    have hml : ((p ++ y :: t).map mk).length = p.length + t.length + 1 := by simp; omega
    refine Ev.step (fun k => rfl) ?_
    refine ev_pos (by rw [hml]; omega) (ev_pos (by omega) (ev_pos (by omega) (ev_pos (by omega) ?_)))
    have hr1 : (rdOf ByteArray.empty ((p ++ y :: t).map mk) (p.length : Int)).toList = y := by
      rw [rd_mk _ _ (by simp), toList_ls]
      simp
    have hr2 : (rdOf ByteArray.empty x0 (x4 : Int)).toList = ls x0[x4] := by rw [rd_nat x0 x4 hx4, toList_ls]
    rw [hr1, hr2, Go.Proofs.bytesLess_eq]
    by_cases hl : y < ls x0[x4]
    · refine ev_pos (decide_eq_true hl) ?_
      have hw : wrap64 ((p.length : Int) + 1) = (((p ++ [y]).length : Nat) : Int) := by
        rw [List.length_append] at ho
        rw [w64 (by omega) (by omega)]
        simp
      rw [hw]
      have e1 : p ++ y :: t = (p ++ [y]) ++ t := by simp
      have e2 : p ++ ins (ls x0[x4]) (y :: t) = (p ++ [y]) ++ ins (ls x0[x4]) t := by rw [ins, if_pos hl]; simp
      rw [e1]
      rw [e2] at hfin
      exact rs_scan x0 x4 r hx4 hx0 t (p ++ [y]) (by rw [← e1]; exact ho) (fun z hz => by
        rcases List.mem_append.1 hz with h | h
        · exact hp z h
        · rw [List.mem_singleton] at h; rw [h]; exact hl) hfin
    · refine ev_neg (by rw [decide_eq_false hl]; decide) ?_
      exact rs_put x0 p (y :: t) x4 r ho hx4 hx0 (fun z hz => by cases hz; exact hl) hfin
theorem rs_all (x0 : List ByteArray) (hx0 : x0.length ≤ 500000) : ∀ (n i : Nat) (o : List (List UInt8)), i + n = x0.length → o.length ≤ i →
    Ev (fun k => bindleref15_Sort.l0 k x0 (o.map mk) i) ((insAll o ((x0.drop i).map ls)).map mk)
  | 0, i, o, hi, ho => by
    refine Ev.step (fun k => rfl) ?_
    rw [List.drop_of_length_le (by omega)]
    exact ev_neg (by omega) (Ev.now _)
  | n + 1, i, o, hi, ho => by
    refine Ev.step (fun k => rfl) ?_
    refine ev_pos (by omega) ?_
    have hd : x0.drop i = x0[i] :: x0.drop (i + 1) := List.drop_eq_getElem_cons (by omega)
    rw [hd, List.map_cons, insAll]
    have hl := ins_len (ls x0[i]) o
    exact rs_scan x0 i _ (by omega) (by omega) o [] (by simp; omega) (fun z hz => by cases hz) (rs_all x0 hx0 n (i + 1) (ins (ls x0[i]) o) (by omega) (by omega))
theorem refSort (l : List ByteArray) (hl : l.length ≤ 500000) : Ev (fun k => bindleref15_Sort.f k l) ((YtkccjohhakljnaaGreatDoorMSort.outs l).map mk) := by
  have := rs_all l hl l.length 0 [] (by omega) (Nat.le_refl _)
  rw [List.drop_zero, insAll_outs] at this
  exact this
/-- The first part behind a folder. -/
def firstB (f s : ByteArray) : ByteArray := mk ((YtkccjohhakljnaaGreatDoorMpHelp.splitL 47 (ls (restB f s))).headD [])
theorem idx_first : ∀ l : List UInt8, (Lib.indexByte l 47 = -1 ∧ (YtkccjohhakljnaaGreatDoorMpHelp.splitL 47 l).headD [] = l) ∨ (0 ≤ Lib.indexByte l 47 ∧ Lib.indexByte l 47 < l.length ∧ (YtkccjohhakljnaaGreatDoorMpHelp.splitL 47 l).headD [] = l.take (Lib.indexByte l 47).toNat)
  | [] => .inl ⟨rfl, rfl⟩
  | c :: r => by
    have ih := idx_first r
    unfold Lib.indexByte
    by_cases hc : c = 47
    · subst hc
      rw [if_pos (by simp), split_eq]
      exact .inr ⟨by omega, by simp, rfl⟩
    · rw [if_neg (by simpa using hc), split_ne hc]
      have hh : (pre [c] (YtkccjohhakljnaaGreatDoorMpHelp.splitL 47 r)).headD [] = c :: (YtkccjohhakljnaaGreatDoorMpHelp.splitL 47 r).headD [] := by
        cases h : YtkccjohhakljnaaGreatDoorMpHelp.splitL 47 r with
        | nil => exact absurd h (split_pos r)
        | cons a t => rfl
      rw [hh]
      rcases ih with ⟨h1, h2⟩ | ⟨h1, h2, h3⟩
      · rw [if_pos (by simpa using h1), h2]
        exact .inl ⟨rfl, rfl⟩
      · have hn : ¬ Lib.indexByte r 47 = -1 := by omega
        rw [if_neg (by simpa using hn), h3]
        refine .inr ⟨by omega, by simp only [List.length_cons]; omega, ?_⟩
        rw [show (Lib.indexByte r 47 + 1).toNat = (Lib.indexByte r 47).toNat + 1 by omega]
        rfl
theorem cut_first (a : ByteArray) (hs : a.size ≤ 1000000) : ∃ x, strings_Cut.f a (⟨#[47]⟩ : ByteArray) = some x ∧ x.1 = mk ((YtkccjohhakljnaaGreatDoorMpHelp.splitL 47 (ls a)).headD []) := by
  have hi : stringslite_Index.f a (⟨#[47]⟩ : ByteArray) = some (Lib.indexByte (ls a) 47) := rfl
  unfold strings_Cut.f stringslite_Cut.f
  rw [hi, Option.bind_some, show ((⟨#[47]⟩ : ByteArray).size : Int) = 1 from rfl]
  have hl := ls_len a
  rcases idx_first (ls a) with ⟨h1, h2⟩ | ⟨h1, h2, h3⟩
  · rw [h1, if_neg (by omega), h2]
    exact ⟨_, rfl, rfl⟩
  · rw [if_pos (by omega), if_pos h1, if_pos (by omega), w64 (by omega) (by omega), if_pos (by omega), if_pos (by omega), h3]
    refine ⟨_, rfl, ?_⟩
    show a.extract 0 _ = _
    rw [extract_mk, List.drop_zero, Nat.sub_zero]
theorem rest_size (f s : ByteArray) : (restB f s).size ≤ s.size := by
  unfold restB
  by_cases h : (ls f).isEmpty = true
  · rw [if_pos h]; omega
  · rw [if_neg h, mk_size, List.length_drop, ls_len]; omega
theorem prefix_iff (f s : List UInt8) : (f ++ [47]).isPrefixOf s = true ↔ f.length < s.length ∧ s.take f.length = f ∧ s[f.length]? = some 47 := by
  rw [List.isPrefixOf_iff_prefix]
  constructor
  · rintro ⟨t, rfl⟩
    refine ⟨by simp, by simp, by simp⟩
  · rintro ⟨h1, h2, h3⟩
    refine ⟨s.drop (f.length + 1), ?_⟩
    obtain ⟨h4, h5⟩ := List.getElem?_eq_some_iff.1 h3
    conv => rhs; rw [← List.take_append_drop f.length s, List.drop_eq_getElem_cons h4, h5, h2]
    simp
theorem refIn (f s : ByteArray) (hf : f.size ≤ 1000000) : Ev (fun k => bindleref15_In.f k f s) (inB (ls f) (ls s)) := by
  unfold inB
  refine ev_bind (refRight s) ?_
  cases hr : YtkccjohhakljnaaGreatDoorMpHelp.rightB (ls s) with
  | false =>
    refine ev_neg (by decide) ?_
    refine Ev.step (fun k => by rw [bindleref15_In.j0, if_pos rfl]) ?_
    exact Ev.now _
  | true =>
    refine ev_pos rfl ?_
    rw [toList_ls]
    by_cases h0 : ls f = []
    · refine ev_pos h0 ?_
      refine Ev.step (fun k => by rw [bindleref15_In.j0, if_neg (by decide), toList_ls, if_pos h0]) ?_
      rw [h0]
      exact Ev.now _
    · refine ev_neg h0 (ev_bind (refRight f) ?_)
      rw [List.isEmpty_eq_false_iff.2 h0]
      cases hrf : YtkccjohhakljnaaGreatDoorMpHelp.rightB (ls f) with
      | false =>
        refine Ev.step (fun k => by rw [bindleref15_In.j0, if_pos (by decide)]) ?_
        exact Ev.now _
      | true =>
        refine Ev.step (fun k => by rw [bindleref15_In.j0, if_neg (by decide), toList_ls, if_neg h0]) ?_
        simp only [Bool.true_and, Bool.false_or]
        have hpi := prefix_iff (ls f) (ls s)
        rw [ls_len, ls_len] at hpi
        by_cases h1 : (s.size : Int) > (f.size : Int)
        · refine ev_pos h1 (ev_pos (by omega) (ev_pos (by omega) ?_))
          rw [toList_ls, extract_ls, Int.toNat_natCast, List.drop_zero, Nat.sub_zero]
          by_cases h2 : (ls s).take f.size = ls f
          · refine ev_pos h2 (ev_pos (by omega) ?_)
            have hb := bt_nat s f.size (by omega)
            have he : (bt s (f.size : Int) == 47) = (ls f ++ [47]).isPrefixOf (ls s) := by
              rw [Bool.eq_iff_iff, hpi, beq_iff_eq, hb]
              constructor
              · intro e
                refine ⟨by omega, h2, List.getElem?_eq_some_iff.2 ⟨by rw [ls_len]; omega, UInt8.toNat_inj.1 ?_⟩⟩
                have : ((ls s)[f.size]'(by rw [ls_len]; omega)).toNat = 47 := by exact_mod_cast e
                exact this
              · rintro ⟨_, _, e⟩
                obtain ⟨_, e2⟩ := List.getElem?_eq_some_iff.1 e
                rw [e2]
                rfl
            rw [he]
            exact Ev.now _
          · have he : (ls f ++ [47]).isPrefixOf (ls s) = false := by
              rw [Bool.eq_false_iff]
              intro e
              exact h2 (hpi.1 e).2.1
            rw [he]
            exact ev_neg h2 (Ev.now _)
        · have he : (ls f ++ [47]).isPrefixOf (ls s) = false := by
            rw [Bool.eq_false_iff]
            intro e
            have := (hpi.1 e).1
            omega
          rw [he]
          exact ev_neg h1 (Ev.now _)
theorem sort_of (l : List ByteArray) (h : l.length ≤ 1000000) : member_Sort.f l = some ((YtkccjohhakljnaaGreatDoorMSort.outs l).map mk) := by
  unfold member_Sort.f
  rw [if_pos h]
def has (f : ByteArray) (s : ByteArray) : Bool := inB (ls f) (ls s)
theorem children_loop (f : ByteArray) (hf : f.size ≤ 1000000) (l : List ByteArray) (hl : l.length ≤ 1000000) (hs : ∀ e ∈ l, e.size ≤ 1000000) : ∀ n i : Nat, i + n = l.length →
    Ev (fun k => member_Children.l0 k f (((l.take i).filter (has f)).map (firstB f)) l (l.length : Int) i) ((YtkccjohhakljnaaGreatDoorMSort.outs ((l.filter (has f)).map (firstB f))).map mk)
  | 0, i, hi => by
    refine Ev.step (fun k => rfl) ?_
    refine ev_neg (by omega) ?_
    rw [List.take_of_length_le (by omega)]
    exact ev_bindc (sort_of _ (by rw [List.length_map]; exact Nat.le_trans (List.length_filter_le _ _) hl)) (Ev.now _)
  | n + 1, i, hi => by
    have hlt : i < l.length := by omega
    refine Ev.step (fun k => rfl) ?_
    have hw : wrap64 ((i : Int) + 1) = ((i + 1 : Nat) : Int) := by rw [w64 (by omega) (by omega)]; omega
    refine ev_pos (by omega) (ev_pos (by omega) (ev_pos (by omega) ?_))
    rw [rd_nat l i hlt, hw]
    have ih := children_loop f hf l hl hs n (i + 1) (by omega)
    have hlen := List.length_filter_le (has f) (l.take i)
    rw [List.length_take] at hlen
    rw [List.take_succ_eq_append_getElem hlt, List.filter_append, List.map_append] at ih
    obtain ⟨x, hb, hx⟩ := behind f l[i] hf
    refine ev_bindc hb ?_
    by_cases h : has f l[i] = true
    · rw [show [l[i]].filter (has f) = [l[i]] by simp [h]] at ih
      have hxr := hx h
      have hss := hs l[i] (List.getElem_mem hlt)
      have hrs := rest_size f l[i]
      obtain ⟨y, hc, hy⟩ := cut_first x (by rw [hxr]; omega)
      refine ev_pos h (ev_bindc hc (ev_pos (by rw [List.length_map]; omega) ?_))
      rw [hy, hxr]
      exact ih
    · rw [show [l[i]].filter (has f) = [] by simp [h], List.map_nil, List.append_nil] at ih
      exact ev_neg h ih
/-- A file's name. -/
abbrev nm (x : S49) : List UInt8 := ls x.f0
/-- Files that are a map. -/
def Asc (l : List S49) : Prop := (l.map nm).Pairwise (· < ·)
theorem rdF (l : List S49) (i : Nat) (h : i < l.length) : rd_T49 l (i : Int) = l[i] := by
  simp [rd_T49, h]
/-- What a map has for a name. -/
def look (l : List S49) (s : List UInt8) : Option S49 := l.find? fun y => nm y == s
theorem look_nm {l : List S49} {s : List UInt8} {y : S49} (h : look l s = some y) : nm y = s ∧ y ∈ l := ⟨by
  have := List.find?_some h
  simpa using this, List.mem_of_find?_eq_some h⟩
theorem look_none {l : List S49} {s : List UInt8} (h : ∀ y ∈ l, nm y ≠ s) : look l s = none := by
  unfold look
  rw [List.find?_eq_none]
  intro y hy
  simpa using h y hy
theorem wadd (i : Nat) (h : i ≤ 9000000000000000000) : wrap64 ((i : Int) + 1) = ((i + 1 : Nat) : Int) := by rw [w64 (by omega) (by omega)]; omega
theorem find_loop (l : List S49) (s : ByteArray) (hs : l.length ≤ 9000000) : ∀ n i : Nat, i + n = l.length → ∃ r : Int, Ev (fun k => bindleref25_Find.l0 k l s i) r ∧ ((r = -1 ∧ look (l.drop i) (ls s) = none) ∨ ∃ (j : Nat) (h : j < l.length), r = (j : Int) ∧ look (l.drop i) (ls s) = some l[j])
  | 0, i, hi => by
    refine ⟨-1, Ev.step (fun k => rfl) (ev_neg (by omega) (Ev.now _)), .inl ⟨rfl, ?_⟩⟩
    rw [List.drop_of_length_le (by omega)]
    rfl
  | n + 1, i, hi => by
    have dl : l.drop i = l[i] :: l.drop (i + 1) := List.drop_eq_getElem_cons (by omega)
    by_cases h : nm l[i] = ls s
    · refine ⟨(i : Int), Ev.step (fun k => rfl) (ev_pos (by omega) (ev_pos (by omega) ?_)), .inr ⟨i, by omega, rfl, ?_⟩⟩
      · rw [rdF l i (by omega)]
        exact ev_pos (by rw [toList_ls, toList_ls]; exact h) (Ev.now _)
      · rw [dl]
        unfold look
        rw [List.find?_cons_of_pos (by simpa using h)]
    · obtain ⟨r, h1, h2⟩ := find_loop l s hs n (i + 1) (by omega)
      refine ⟨r, Ev.step (fun k => rfl) (ev_pos (by omega) (ev_pos (by omega) ?_)), ?_⟩
      · rw [rdF l i (by omega), wadd i (by omega)]
        exact ev_neg (by rw [toList_ls, toList_ls]; exact h) h1
      · have e : look (l.drop i) (ls s) = look (l.drop (i + 1)) (ls s) := by
          rw [dl]
          unfold look
          rw [List.find?_cons_of_neg (by simpa using h)]
        rw [e]
        exact h2
theorem find_ev (l : List S49) (s : ByteArray) (hs : l.length ≤ 9000000) : ∃ r : Int, Ev (fun k => bindleref25_Find.f k l s) r ∧ ((r = -1 ∧ look l (ls s) = none) ∨ ∃ (j : Nat) (h : j < l.length), r = (j : Int) ∧ look l (ls s) = some l[j]) := by
  have := find_loop l s hs l.length 0 (by omega)
  rwa [List.drop_zero] at this
theorem place_look (s : ByteArray) : ∀ l : List S49, Asc l → look l (ls s) = match l[model_place.less l s]? with | some y => if (y.f0.data.toList == s.data.toList) = true then some y else none | none => none
  | [], _ => rfl
  | y :: r, h => by
    obtain ⟨h1, h2⟩ := List.pairwise_cons.1 (show (nm y :: r.map nm).Pairwise (· < ·) from h)
    have ih := place_look s r h2
    by_cases hl : nm y < ls s
    · have e1 : model_place.less (y :: r) s = model_place.less r s + 1 := by unfold model_place.less; rw [List.countP_cons_of_pos (by simpa using hl)]
      rw [e1, List.getElem?_cons_succ, ← ih]
      unfold look
      rw [List.find?_cons_of_neg (by simpa using fun e : nm y = ls s => str_irrefl _ (by rw [e] at hl; exact hl))]
    · have e0 : model_place.less r s = 0 := by
        unfold model_place.less
        rw [List.countP_eq_zero]
        intro z hz
        have := h1 (nm z) (List.mem_map_of_mem hz)
        simp only [decide_eq_true_eq]
        exact fun hzs => hl (str_trans this hzs)
      have e1 : model_place.less (y :: r) s = 0 := by
        unfold model_place.less at e0 ⊢
        rw [List.countP_cons_of_neg (by simpa using hl)]
        exact e0
      rw [e1, List.getElem?_cons_zero]
      dsimp only
      by_cases e : nm y = ls s
      · have e2 : (y.f0.data.toList == s.data.toList) = true := by simpa using e
        rw [if_pos e2]
        unfold look
        rw [List.find?_cons_of_pos (by simpa using e)]
      · have e2 : ¬ (y.f0.data.toList == s.data.toList) = true := by simpa using e
        rw [if_neg e2]
        refine look_none fun z hz => ?_
        rcases List.mem_cons.1 hz with rfl | hz
        · exact e
        · intro ez
          have := h1 (nm z) (List.mem_map_of_mem hz)
          rw [ez] at this
          exact hl this
theorem map_loop (l : List S49) (hs : l.length ≤ 9000000) : ∀ n i : Nat, 1 ≤ i → i + n = l.length → ∃ m : Bool, Ev (fun k => bindleref25_Map.l0 k l i) m ∧ (m = true → ((l.drop (i - 1)).map nm).Pairwise (· < ·)) ∧ (m = false → ¬ ((l.drop (i - 1)).map nm).Pairwise (· < ·))
  | 0, i, h1, hi => by
    refine ⟨true, Ev.step (fun k => by unfold bindleref25_Map.l0; exact rfl) (ev_neg (by omega) (Ev.now _)), fun _ => ?_, fun h => by cases h⟩
    rw [List.drop_eq_getElem_cons (by omega), List.drop_of_length_le (by omega)]
    simp
  | n + 1, i, h1, hi => by
    have dl : l.drop (i - 1) = l[i - 1] :: l.drop i := by
      have := List.drop_eq_getElem_cons (l := l) (i := i - 1) (by omega)
      rwa [show i - 1 + 1 = i by omega] at this
    have dl2 : l.drop i = l[i] :: l.drop (i + 1) := List.drop_eq_getElem_cons (by omega)
    obtain ⟨m, e1, e2, e3⟩ := map_loop l hs n (i + 1) (by omega) (by omega)
    rw [show i + 1 - 1 = i by omega] at e2 e3
    have hw : wrap64 ((i : Int) - 1) = ((i - 1 : Nat) : Int) := by rw [w64 (by omega) (by omega)]; omega
    by_cases hlt : nm l[i - 1] < nm l[i]
    · refine ⟨m, Ev.step (fun k => by unfold bindleref25_Map.l0; exact rfl) (ev_pos (by omega) ?_), fun h => ?_, fun h hp => e3 h ?_⟩
      · rw [hw]
        refine ev_pos (by omega) (ev_pos (by omega) (ev_pos (by omega) ?_))
        rw [rdF l i (by omega), rdF l (i - 1) (by omega), wadd i (by omega)]
        exact ev_pos (by rw [toList_ls, toList_ls, Go.Proofs.bytesLess_eq]; exact decide_eq_true hlt) e1
      · have hp := e2 h
        rw [dl, List.map_cons]
        refine List.pairwise_cons.2 ⟨fun z hz => ?_, hp⟩
        rw [dl2, List.map_cons] at hz hp
        rcases List.mem_cons.1 hz with rfl | hz
        · exact hlt
        · exact str_trans hlt ((List.pairwise_cons.1 hp).1 z hz)
      · rw [dl, List.map_cons] at hp
        exact (List.pairwise_cons.1 hp).2
    · refine ⟨false, Ev.step (fun k => by unfold bindleref25_Map.l0; exact rfl) (ev_pos (by omega) ?_), (fun h => by cases h), fun _ hp => ?_⟩
      · rw [hw]
        refine ev_pos (by omega) (ev_pos (by omega) (ev_pos (by omega) ?_))
        rw [rdF l i (by omega), rdF l (i - 1) (by omega)]
        exact ev_neg (by rw [toList_ls, toList_ls, Go.Proofs.bytesLess_eq]; simpa using hlt) (Ev.now _)
      · rw [dl, List.map_cons] at hp
        exact hlt ((List.pairwise_cons.1 hp).1 _ (by rw [dl2, List.map_cons]; exact List.mem_cons_self))
theorem map_ev (l : List S49) (hs : l.length ≤ 9000000) : ∃ m : Bool, Ev (fun k => bindleref25_Map.f k l) m ∧ (m = true ↔ Asc l) := by
  cases l with
  | nil => exact ⟨true, Ev.congr (fun k => by unfold bindleref25_Map.f; exact rfl) (Ev.step (fun k => by unfold bindleref25_Map.l0; exact rfl) (ev_neg (by simp) (Ev.now _))), fun _ => List.Pairwise.nil, fun _ => rfl⟩
  | cons y r =>
    obtain ⟨m, e1, e2, e3⟩ := map_loop (y :: r) hs r.length 1 (by omega) (by simp; omega)
    refine ⟨m, e1, e2, fun h => ?_⟩
    cases hm : m with
    | true => rfl
    | false => exact absurd h (e3 hm)
/-! ### The tree's totals, names, nodes -/
theorem findM (l : List S49) (s : ByteArray) (h : Asc l) (hl : l.length ≤ 1000000) (hd : ∀ y ∈ l, y.f1.length ≤ 140737488351232) : model_Find.f l s = some (match look l (ls s) with | some y => (y.f1, true) | none => ([], false)) := by
  have hp : (l.map (·.f0.data.toList)).Pairwise (· ≤ ·) := h.imp fun hx => str_lt_le hx
  have e1 : model_place.f l s = some (((model_place.less l s : Nat) : Int), match l[model_place.less l s]? with | some y => y.f0.data.toList == s.data.toList | none => false) := by
    unfold model_place.f
    rw [if_pos ⟨hl, hp⟩]
    rfl
  unfold model_Find.f
  rw [e1, place_look s l h, Option.bind_some]
  cases hy : l[model_place.less l s]? with
  | none => rfl
  | some y =>
    obtain ⟨hj, hy2⟩ := List.getElem?_eq_some_iff.1 hy
    dsimp only
    by_cases e : (y.f0.data.toList == s.data.toList) = true
    · rw [if_pos e, if_pos e, if_pos (by omega), if_pos (by omega), rdF l _ hj, hy2]
      have hm : y ∈ l := by rw [← hy2]; exact List.getElem_mem hj
      have e3 : slices_Clone_byte_byte.f y.f1 = some y.f1 := by
        unfold slices_Clone_byte_byte.f
        rw [if_pos (by have := hd y hm; omega)]
      rw [e3]
      rfl
    · rw [if_neg e, if_neg e]
def szL (l : List S49) (fd : ByteArray) : List Int := (l.filter fun x => has fd x.f0).map fun x => (x.f1.length : Int)
def cntZ (l : List Int) : Int := l.foldl (fun s _ => wrap64 (s + 1)) 0
def sumZ (l : List Int) : Int := l.foldl (fun s n => wrap64 (s + n)) 0
def totS (l : List S49) (fd : ByteArray) : Int × Int := (cntZ (szL l fd), sumZ (szL l fd))
theorem total_eq (l : List S49) (fd : ByteArray) (hl : l.length ≤ 1000000) (hf : fd.size ≤ 1000000) : tree_Total.f l fd = some (totS l fd) := by
  have e : tree_Total.szs l fd = szL l fd := by
    unfold tree_Total.szs szL
    congr 1
    refine List.filter_congr fun x _ => ?_
    unfold tree_Total.inB
    rw [in_of fd x.f0 hf]
    rfl
  unfold tree_Total.f
  rw [if_pos ⟨hl, fun x _ => by rw [in_of fd x.f0 hf]; rfl⟩, e]
  rfl
theorem refTotal_loop (l : List S49) (fd : ByteArray) (hl : l.length ≤ 1000000) (hf : fd.size ≤ 1000000) : ∀ n i : Nat, i + n = l.length →
    Ev (fun k => bindleref39_Total.l0 k l fd (cntZ (szL (l.take i) fd)) (sumZ (szL (l.take i) fd)) i) (totS l fd)
  | 0, i, hi => by
    refine Ev.step (fun k => by unfold bindleref39_Total.l0; exact rfl) (ev_neg (by omega) ?_)
    rw [List.take_of_length_le (by omega)]
    exact Ev.now _
  | n + 1, i, hi => by
    have hlt : i < l.length := by omega
    have ih := refTotal_loop l fd hl hf n (i + 1) (by omega)
    refine Ev.step (fun k => by unfold bindleref39_Total.l0; exact rfl) (ev_pos (by omega) (ev_pos (by omega) ?_))
    rw [rdF l i hlt]
    refine ev_bind (refIn fd l[i].f0 hf) ?_
    have ht : szL (l.take (i + 1)) fd = szL (l.take i) fd ++ (if has fd l[i].f0 = true then [(l[i].f1.length : Int)] else []) := by
      unfold szL
      rw [List.take_succ_eq_append_getElem hlt, List.filter_append, List.map_append]
      by_cases h : has fd l[i].f0 = true
      · rw [if_pos h, show [l[i]].filter (fun x => has fd x.f0) = [l[i]] by simp [h]]
        rfl
      · rw [if_neg h, show [l[i]].filter (fun x => has fd x.f0) = [] by simp [h]]
        rfl
    rw [ht] at ih
    by_cases h : has fd l[i].f0 = true
    · rw [if_pos h] at ih
      refine ev_pos h ?_
      rw [wadd i (by omega)]
      have e1 : cntZ (szL (l.take i) fd ++ [(l[i].f1.length : Int)]) = wrap64 (cntZ (szL (l.take i) fd) + 1) := by simp [cntZ]
      have e2 : sumZ (szL (l.take i) fd ++ [(l[i].f1.length : Int)]) = wrap64 (sumZ (szL (l.take i) fd) + (l[i].f1.length : Int)) := by simp [sumZ]
      rw [e1, e2] at ih
      exact ih
    · rw [if_neg h, List.append_nil] at ih
      refine ev_neg h ?_
      rw [wadd i (by omega)]
      exact ih
theorem refTotal (l : List S49) (fd : ByteArray) (hl : l.length ≤ 1000000) (hf : fd.size ≤ 1000000) : Ev (fun k => bindleref39_Total.f k l fd) (totS l fd) := refTotal_loop l fd hl hf l.length 0 (by omega)
theorem names_loop (l : List S49) (hl : l.length ≤ 1000000) : ∀ n i : Nat, i + n = l.length → Ev (fun k => tree_names.l0 k ((l.take i).map (·.f0)) l (l.length : Int) i) (l.map (·.f0))
  | 0, i, hi => by
    refine Ev.step (fun k => by unfold tree_names.l0; exact rfl) (ev_neg (by omega) ?_)
    rw [List.take_of_length_le (by omega)]
    exact Ev.now _
  | n + 1, i, hi => by
    have hlt : i < l.length := by omega
    have ih := names_loop l hl n (i + 1) (by omega)
    refine Ev.step (fun k => by unfold tree_names.l0; exact rfl) (ev_pos (by omega) (ev_pos (by omega) (ev_pos (by omega) (ev_pos (by rw [List.length_map, List.length_take]; omega) ?_))))
    rw [rdF l i hlt, wadd i (by omega)]
    rw [List.take_succ_eq_append_getElem hlt, List.map_append] at ih
    exact ih
def pathS (fd c : ByteArray) : ByteArray := if ls fd = [] then c else fd ++ (⟨#[47]⟩ : ByteArray) ++ c
theorem path_eq (fd c : ByteArray) (hf : fd.size ≤ 1000000) (hc : c.size ≤ 1000000) : tree_Path.f fd c = some (pathS fd c) := by
  unfold tree_Path.f pathS
  rw [toList_ls]
  split
  · rfl
  · rw [if_pos (by omega), if_pos (by rw [ByteArray.size_append, show (⟨#[47]⟩ : ByteArray).size = 1 from rfl]; omega)]
theorem path_size (fd c : ByteArray) : (pathS fd c).size ≤ fd.size + 1 + c.size := by
  unfold pathS
  split
  · omega
  · rw [ByteArray.size_append, ByteArray.size_append, show (⟨#[47]⟩ : ByteArray).size = 1 from rfl]; omega
def nodeS (l : List S49) (fd c : ByteArray) : S34 :=
  match look l (ls (pathS fd c)) with
  | some y => ⟨c, wrap64 ((totS l (pathS fd c)).1 + 1), wrap64 ((totS l (pathS fd c)).2 + (y.f1.length : Int)), decide ((totS l (pathS fd c)).1 > 0)⟩
  | none => ⟨c, (totS l (pathS fd c)).1, (totS l (pathS fd c)).2, decide ((totS l (pathS fd c)).1 > 0)⟩
/-- What is known of the files. -/
def okL (l : List S49) : Prop := l.length ≤ 60 ∧ Asc l ∧ (∀ y ∈ l, y.f1.length ≤ 70000) ∧ ∀ y ∈ l, y.f0.size ≤ 64
theorem node_eq (l : List S49) (fd c : ByteArray) (h : okL l) (hf : fd.size ≤ 10000) (hc : c.size ≤ 10000) : tree_node.f l fd c = some ((nodeS l fd c).f0, (nodeS l fd c).f1, (nodeS l fd c).f2, (nodeS l fd c).f3) := by
  obtain ⟨h1, h2, h3, h4⟩ := h
  have hp := path_size fd c
  unfold tree_node.f nodeS
  rw [path_eq fd c (by omega) (by omega), Option.bind_some, total_eq l _ (by omega) (by omega), Option.bind_some, findM l _ h2 (by omega) (fun y hy => by have := h3 y hy; omega), Option.bind_some]
  cases look l (ls (pathS fd c)) with
  | none => rfl
  | some y => rfl
def kidsS (l : List S49) (fd : ByteArray) : List ByteArray := (YtkccjohhakljnaaGreatDoorMSort.outs (((l.map (·.f0)).filter (has fd)).map (firstB fd))).map mk
theorem kids_len (l : List S49) (fd : ByteArray) (h : okL l) : (kidsS l fd).length ≤ 60 := by
  unfold kidsS
  rw [List.length_map]
  refine Nat.le_trans (YtkccjohhakljnaaGreatDoorMSort.outs_len _) ?_
  rw [List.length_map]
  refine Nat.le_trans (List.length_filter_le _ _) ?_
  rw [List.length_map]
  exact h.1
theorem kids_size (l : List S49) (fd : ByteArray) (h : okL l) : ∀ c ∈ kidsS l fd, c.size ≤ 64 := by
  intro c hc
  unfold kidsS at hc
  obtain ⟨x, hx, rfl⟩ := List.mem_map.1 hc
  obtain ⟨y, hy, rfl⟩ := List.mem_map.1 (((outs_spec _).2 x).1 hx)
  obtain ⟨z, hz, rfl⟩ := List.mem_map.1 hy
  obtain ⟨q, hq, rfl⟩ := List.mem_map.1 (List.mem_filter.1 hz).1
  have h1 := h.2.2.2 q hq
  have h2 := rest_size fd q.f0
  have h3 : (firstB fd q.f0).size ≤ (restB fd q.f0).size := by
    unfold firstB
    rw [mk_size, ← ls_len]
    cases hs : YtkccjohhakljnaaGreatDoorMpHelp.splitL 47 (ls (restB fd q.f0)) with
    | nil => exact Nat.zero_le _
    | cons a t => exact split_part (ls (restB fd q.f0)) a (by rw [hs]; exact List.mem_cons_self)
  show (firstB fd q.f0).size ≤ 64
  omega
theorem list_loop (l : List S49) (fd : ByteArray) (h : okL l) (hf : fd.size ≤ 10000) (K : List ByteArray) (hK : K.length ≤ 60) (hs : ∀ c ∈ K, c.size ≤ 64) : ∀ n i : Nat, i + n = K.length →
    Ev (fun k => tree_List.l0 k l fd ((K.take i).map (nodeS l fd)) K (K.length : Int) i) (K.map (nodeS l fd))
  | 0, i, hi => by
    refine Ev.step (fun k => by unfold tree_List.l0; exact rfl) (ev_neg (by omega) ?_)
    rw [List.take_of_length_le (by omega)]
    exact Ev.now _
  | n + 1, i, hi => by
    have hlt : i < K.length := by omega
    have ih := list_loop l fd h hf K hK hs n (i + 1) (by omega)
    have hc := hs _ (List.getElem_mem hlt)
    refine Ev.step (fun k => by unfold tree_List.l0; exact rfl) (ev_pos (by omega) (ev_pos (by omega) (ev_pos (by omega) ?_)))
    rw [rd_nat K i hlt]
    refine ev_bindc (node_eq l fd K[i] h hf (by omega)) (ev_pos (by rw [List.length_map, List.length_take]; omega) ?_)
    rw [wadd i (by omega)]
    rw [List.take_succ_eq_append_getElem hlt, List.map_append] at ih
    exact ih
theorem list_ev (l : List S49) (fd : ByteArray) (h : okL l) (hf : fd.size ≤ 10000) : Ev (fun k => tree_List.f k l fd) ((kidsS l fd).map (nodeS l fd)) := by
  have h1 := h.1
  have hch := children_loop fd (by omega) (l.map (·.f0)) (by rw [List.length_map]; omega) (fun e he => by
    obtain ⟨y, hy, rfl⟩ := List.mem_map.1 he
    have := h.2.2.2 y hy
    omega) (l.map (·.f0)).length 0 (by omega)
  unfold tree_List.f
  refine ev_bind (names_loop l (by omega) l.length 0 (by omega)) (ev_bind (show Ev (fun k => member_Children.f k (l.map (·.f0)) fd) (kidsS l fd) from hch) ?_)
  exact list_loop l fd h hf (kidsS l fd) (kids_len l fd h) (kids_size l fd h) (kidsS l fd).length 0 (by omega)
/-! ### The example -/
def exL : List S49 := [⟨(⟨#[97, 47, 98]⟩ : ByteArray), [120]⟩, ⟨(⟨#[97, 47, 99, 47, 100]⟩ : ByteArray), [120, 121]⟩]
theorem outs_of (l : List ByteArray) (h : (YtkccjohhakljnaaGreatDoorMSort.texts l).Pairwise fun x y => decide (x ≤ y) = true) : YtkccjohhakljnaaGreatDoorMSort.outs l = Lib.compact (YtkccjohhakljnaaGreatDoorMSort.texts l) := by
  unfold YtkccjohhakljnaaGreatDoorMSort.outs YtkccjohhakljnaaGreatDoorMSort.sorted
  rw [List.mergeSort_of_pairwise h]
theorem exL_ok : okL exL := by
  refine ⟨by decide, ?_, by decide, by decide⟩
  unfold Asc
  decide
theorem kids0 : kidsS exL ⟨#[]⟩ = [⟨#[97]⟩] := by
  have e : ((exL.map (·.f0)).filter (has ⟨#[]⟩)).map (firstB ⟨#[]⟩) = [⟨#[97]⟩, ⟨#[97]⟩] := by decide +kernel
  unfold kidsS
  rw [e, outs_of _ (by decide)]
  decide +kernel
theorem kids1 : kidsS exL ⟨#[97]⟩ = [⟨#[98]⟩, ⟨#[99]⟩] := by
  have e : ((exL.map (·.f0)).filter (has ⟨#[97]⟩)).map (firstB ⟨#[97]⟩) = [⟨#[98]⟩, ⟨#[99]⟩] := by decide +kernel
  unfold kidsS
  rw [e, outs_of _ (by decide)]
  decide +kernel
theorem kids2 : kidsS exL ⟨#[97, 47, 99]⟩ = [⟨#[100]⟩] := by
  have e : ((exL.map (·.f0)).filter (has ⟨#[97, 47, 99]⟩)).map (firstB ⟨#[97, 47, 99]⟩) = [⟨#[100]⟩] := by decide +kernel
  unfold kidsS
  rw [e, outs_of _ (by decide)]
  decide +kernel
abbrev nvA : YtkccjohhakljnaaGreatDoorTree.NV := (⟨#[97]⟩, 2, 3, true)
abbrev nvB : YtkccjohhakljnaaGreatDoorTree.NV := (⟨#[98]⟩, 1, 1, false)
abbrev nvC : YtkccjohhakljnaaGreatDoorTree.NV := (⟨#[99]⟩, 1, 2, true)
abbrev nvD : YtkccjohhakljnaaGreatDoorTree.NV := (⟨#[100]⟩, 1, 2, false)
abbrev exOut : List YtkccjohhakljnaaGreatDoorTree.PN := [(⟨#[97]⟩, nvA), (⟨#[97, 47, 98]⟩, nvB), (⟨#[97, 47, 99]⟩, nvC), (⟨#[97, 47, 99, 47, 100]⟩, nvD)]
theorem exWalk (L : ByteArray → Option (List YtkccjohhakljnaaGreatDoorTree.NV)) (h0 : L ⟨#[]⟩ = some [nvA]) (h1 : L ⟨#[97]⟩ = some [nvB, nvC]) (h2 : L ⟨#[97, 47, 99]⟩ = some [nvD]) (j : Nat) : YtkccjohhakljnaaGreatDoorTree.walkF L tree_Path.f (j + 3) ⟨#[]⟩ = some exOut := by
  have p0 : tree_Path.f ⟨#[]⟩ ⟨#[97]⟩ = some ⟨#[97]⟩ := by decide +kernel
  have p1 : tree_Path.f ⟨#[97]⟩ ⟨#[98]⟩ = some ⟨#[97, 47, 98]⟩ := by decide +kernel
  have p2 : tree_Path.f ⟨#[97]⟩ ⟨#[99]⟩ = some ⟨#[97, 47, 99]⟩ := by decide +kernel
  have p3 : tree_Path.f ⟨#[97, 47, 99]⟩ ⟨#[100]⟩ = some ⟨#[97, 47, 99, 47, 100]⟩ := by decide +kernel
  simp [YtkccjohhakljnaaGreatDoorTree.walkF, YtkccjohhakljnaaGreatDoorTree.goF, h0, h1, h2, p0, p1, p2, p3]
theorem lives_ev : Ev (fun k => bindlelaw39_lives.f k) true := by
  have hl : ∀ (fd : ByteArray) (ns : List YtkccjohhakljnaaGreatDoorTree.NV), fd.size ≤ 10000 → ((kidsS exL fd).map (nodeS exL fd)).map tree_Text.nv = ns → ns.length ≤ 1000000 → ∃ K, ∀ k, K ≤ k → tree_Text.listF k exL fd = some ns := by
    intro fd ns hf he hn
    obtain ⟨K, hK⟩ := list_ev exL fd exL_ok hf
    refine ⟨K, fun k hk => ?_⟩
    unfold tree_Text.listF
    rw [show tree_List.f k exL fd = _ from hK k hk, Option.bind_some, if_pos (by rw [← he, List.length_map] at hn; exact hn), he]
  obtain ⟨K0, g0⟩ := hl ⟨#[]⟩ [nvA] (by decide) (by rw [kids0]; decide +kernel) (by decide)
  obtain ⟨K1, g1⟩ := hl ⟨#[97]⟩ [nvB, nvC] (by decide) (by rw [kids1]; decide +kernel) (by decide)
  obtain ⟨K2, g2⟩ := hl ⟨#[97, 47, 99]⟩ [nvD] (by decide) (by rw [kids2]; decide +kernel) (by decide)
  refine ⟨K0 + K1 + K2 + 3, fun k hk => ?_⟩
  obtain ⟨j, rfl⟩ : ∃ j, k = j + 3 := ⟨k - 3, by omega⟩
  have ht : tree_Text.f (j + 3) exL ⟨#[]⟩ = some ⟨(YtkccjohhakljnaaGreatDoorTree.textU (tree_Text.dF ⟨#[]⟩) tree_Text.iF exOut).toArray⟩ := by
    unfold tree_Text.f
    rw [exWalk _ (g0 _ (by omega)) (g1 _ (by omega)) (g2 _ (by omega)) j, Option.bind_some, if_pos ⟨by decide, by decide +kernel⟩]
  unfold bindlelaw39_lives.f
  show (bindlelaw39_example.f.bind fun t => (tree_Text.f (j + 3) t ⟨#[]⟩).bind fun t188 => _) = some true
  rw [show bindlelaw39_example.f = some exL from rfl, Option.bind_some, ht]
  decide +kernel
/-! ### The document's nodes -/
def nodeR (l : List S49) (fd : ByteArray) (d : Int) (c : ByteArray) : S36 := ⟨(nodeS l fd c).f0, (nodeS l fd c).f1, (nodeS l fd c).f2, (nodeS l fd c).f3, pathS fd c, d⟩
theorem refNode (l : List S49) (fd : ByteArray) (d : Int) (h : okL l) (hf : fd.size ≤ 10000) (K : List ByteArray) (out : List S36) (ho : out.length ≤ 60) (i : Int) (c : ByteArray) (hc : c.size ≤ 64) (res : List S36) (hres : Ev (fun k => bindleref39_List.l1 k l fd d K (out ++ [nodeR l fd d c]) (wrap64 (i + 1))) res) :
    Ev (fun k => bindleref39_List.j3 k l fd d K out i c 0 0 false (pathS fd c) d) res := by
  obtain ⟨h1, h2, h3, h4⟩ := h
  have hp := path_size fd c
  obtain ⟨r, hr, hcase⟩ := find_ev l (pathS fd c) (by omega)
  refine Ev.step (fun k => by unfold bindleref39_List.j3; exact rfl) (ev_bind (refTotal l (pathS fd c) (by omega) (by omega)) (ev_bind hr ?_))
  rcases hcase with ⟨rfl, hn⟩ | ⟨j, hj, rfl, hl⟩
  · refine ev_neg (by omega) (ev_pos (by omega) ?_)
    unfold nodeR nodeS at hres
    rw [hn] at hres
    exact hres
  · refine ev_pos (by omega) (ev_pos (by omega) (ev_pos (by omega) (ev_pos (by omega) ?_)))
    rw [rdF l j hj]
    unfold nodeR nodeS at hres
    rw [hl] at hres
    exact hres
theorem refNodes (l : List S49) (fd : ByteArray) (d : Int) (h : okL l) (hf : fd.size ≤ 10000) (K : List ByteArray) (hK : K.length ≤ 60) (hs : ∀ c ∈ K, c.size ≤ 64) : ∀ n i : Nat, i + n = K.length →
    Ev (fun k => bindleref39_List.l1 k l fd d K ((K.take i).map (nodeR l fd d)) i) (K.map (nodeR l fd d))
  | 0, i, hi => by
    refine Ev.step (fun k => by unfold bindleref39_List.l1; exact rfl) (ev_neg (by omega) ?_)
    rw [List.take_of_length_le (by omega)]
    exact Ev.now _
  | n + 1, i, hi => by
    have hlt : i < K.length := by omega
    have ih := refNodes l fd d h hf K hK hs n (i + 1) (by omega)
    have hc := hs _ (List.getElem_mem hlt)
    rw [List.take_succ_eq_append_getElem hlt, List.map_append, ← wadd i (by omega)] at ih
    have hn := refNode l fd d h hf K ((K.take i).map (nodeR l fd d)) (by rw [List.length_map, List.length_take]; omega) i K[i] hc _ ih
    refine Ev.step (fun k => by unfold bindleref39_List.l1; exact rfl) (ev_pos (by omega) (ev_pos (by omega) ?_))
    rw [rd_nat K i hlt, toList_ls]
    by_cases h0 : ls fd = []
    · have hpe : pathS fd K[i] = K[i] := by unfold pathS; rw [if_pos h0]
      rw [hpe] at hn
      exact ev_pos h0 hn
    · have hpe : pathS fd K[i] = fd ++ (⟨#[47]⟩ : ByteArray) ++ K[i] := by unfold pathS; rw [if_neg h0]
      rw [hpe] at hn
      exact ev_neg h0 (ev_pos (by omega) (ev_pos (by rw [ByteArray.size_append, show (⟨#[47]⟩ : ByteArray).size = 1 from rfl]; omega) hn))
theorem refParts_loop2 (l : List S49) (fd : ByteArray) (d frm : Int) (h : okL l) (hf : fd.size ≤ 10000) (hfrm : frm = if ls fd = [] then 0 else ((fd.size + 1 : Nat) : Int)) (res : List S36)
    (hfin : Ev (fun k => (bindleref15_Sort.f k (((l.map (·.f0)).filter (has fd)).map (firstB fd))).bind fun t => bindleref39_List.l1 k l fd d t [] 0) res) : ∀ n i : Nat, i + n = l.length →
    Ev (fun k => bindleref39_List.l0 k l fd d ((((l.take i).map (·.f0)).filter (has fd)).map (firstB fd)) frm i) res
  | 0, i, hi => by
    refine Ev.step (fun k => by unfold bindleref39_List.l0; exact rfl) (ev_neg (by omega) ?_)
    rw [List.take_of_length_le (by omega)]
    exact hfin
  | n + 1, i, hi => by
    have hlt : i < l.length := by omega
    have ih := refParts_loop2 l fd d frm h hf hfrm res hfin n (i + 1) (by omega)
    have hns := h.2.2.2 _ (List.getElem_mem hlt)
    have hll := h.1
    have hlen := List.length_filter_le (has fd) ((l.take i).map (·.f0))
    rw [List.length_map, List.length_take] at hlen
    rw [List.take_succ_eq_append_getElem hlt, List.map_append, List.filter_append, List.map_append] at ih
    refine Ev.step (fun k => by unfold bindleref39_List.l0; exact rfl) (ev_pos (by omega) (ev_pos (by omega) ?_))
    rw [rdF l i hlt]
    refine ev_bind (refIn fd l[i].f0 (by omega)) ?_
    rw [wadd i (by omega)]
    by_cases hh : has fd l[i].f0 = true
    · rw [show ([l[i]].map (·.f0)).filter (has fd) = [l[i].f0] by simp [hh]] at ih
      have hb0 : ∀ z : ByteArray, 0 < ((partsB z).length : Int) := fun z => by
        have := List.length_pos_iff.2 (split_pos (ls z))
        unfold partsB
        rw [List.length_map]
        omega
      have hb1 : ∀ z : ByteArray, rdOf ByteArray.empty (partsB z) 0 = mk ((YtkccjohhakljnaaGreatDoorMpHelp.splitL 47 (ls z)).headD []) := fun z => by
        unfold partsB
        cases h : YtkccjohhakljnaaGreatDoorMpHelp.splitL 47 (ls z) with
        | nil => exact absurd h (split_pos _)
        | cons a t => rfl
      have hfr : 0 ≤ frm ∧ frm ≤ (l[i].f0.size : Int) ∧ l[i].f0.extract frm.toNat l[i].f0.size = restB fd l[i].f0 := by
        by_cases h0 : ls fd = []
        · rw [hfrm, if_pos h0]
          refine ⟨by omega, by omega, ?_⟩
          unfold restB
          rw [if_pos (by rw [h0]; rfl), extract_mk]
          show mk (((ls l[i].f0).drop 0).take _) = _
          rw [List.drop_zero, List.take_of_length_le (by rw [ls_len]; omega)]
        · have hie : (ls fd).isEmpty = false := List.isEmpty_eq_false_iff.2 h0
          have hpre : (ls fd ++ [47]).isPrefixOf (ls l[i].f0) = true := by
            have h2 : inB (ls fd) (ls l[i].f0) = true := hh
            unfold inB at h2
            rw [hie, Bool.false_or, Bool.and_eq_true, Bool.and_eq_true] at h2
            exact h2.2.2
          have hlt2 := ((prefix_iff _ _).1 hpre).1
          rw [ls_len, ls_len] at hlt2
          rw [hfrm, if_neg h0]
          refine ⟨by omega, by omega, ?_⟩
          unfold restB
          rw [if_neg (by rw [hie]; decide), Int.toNat_natCast, extract_mk, List.take_of_length_le (by rw [List.length_drop, ls_len]; omega)]
      have hrs := rest_size fd l[i].f0
      refine ev_pos hh (ev_pos hfr.1 (ev_pos hfr.2.1 ?_))
      rw [hfr.2.2]
      refine ev_bind (refParts (restB fd l[i].f0) (by omega)) (ev_pos (hb0 _) (ev_pos (by rw [List.length_map]; omega) ?_))
      rw [hb1]
      exact ih
    · rw [show ([l[i]].map (·.f0)).filter (has fd) = [] by simp [hh], List.map_nil, List.append_nil] at ih
      exact ev_neg hh ih
theorem refList_ev (l : List S49) (fd : ByteArray) (d : Int) (h : okL l) (hf : fd.size ≤ 10000) : Ev (fun k => bindleref39_List.f k l fd d) ((kidsS l fd).map (nodeR l fd d)) := by
  have h1 := h.1
  have hfl := List.length_filter_le (has fd) (l.map (·.f0))
  rw [List.length_map] at hfl
  have hfin : Ev (fun k => (bindleref15_Sort.f k (((l.map (·.f0)).filter (has fd)).map (firstB fd))).bind fun t => bindleref39_List.l1 k l fd d t [] 0) ((kidsS l fd).map (nodeR l fd d)) :=
    ev_bind (refSort _ (by rw [List.length_map]; omega)) (refNodes l fd d h hf (kidsS l fd) (kids_len l fd h) (kids_size l fd h) (kidsS l fd).length 0 (by omega))
  unfold bindleref39_List.f
  rw [toList_ls]
  by_cases h0 : ls fd = []
  · exact ev_pos h0 (Ev.step (fun k => by unfold bindleref39_List.j0; exact rfl) (refParts_loop2 l fd d 0 h hf (by rw [if_pos h0]) _ hfin l.length 0 (by omega)))
  · have hw2 : wrap64 ((fd.size : Int) + 1) = ((fd.size + 1 : Nat) : Int) := wadd _ (by omega)
    refine ev_neg h0 ?_
    rw [hw2]
    exact Ev.step (fun k => by unfold bindleref39_List.j0; exact rfl) (refParts_loop2 l fd d _ h hf (by rw [if_neg h0]) _ hfin l.length 0 (by omega))
/-! ### What is gone through -/
theorem named_loop (l : List S49) (hs : l.length ≤ 9000000) : ∀ n i : Nat, i + n = l.length → ∃ m : Bool, Ev (fun k => bindleref39_Named.l0 k l i) m ∧ (m = true → Asc l)
  | 0, i, hi => by
    obtain ⟨m, hm, hm2⟩ := map_ev l hs
    exact ⟨m, Ev.step (fun k => by unfold bindleref39_Named.l0; exact rfl) (ev_neg (by omega) (ev_bind hm (Ev.now _))), fun h => hm2.1 h⟩
  | n + 1, i, hi => by
    have hlt : i < l.length := by omega
    obtain ⟨m, hm, hm2⟩ := named_loop l hs n (i + 1) (by omega)
    cases hr : YtkccjohhakljnaaGreatDoorMpHelp.rightB (ls l[i].f0) with
    | true =>
      refine ⟨m, Ev.step (fun k => by unfold bindleref39_Named.l0; exact rfl) (ev_pos (by omega) (ev_pos (by omega) ?_)), hm2⟩
      rw [rdF l i hlt]
      refine ev_bind (refRight _) (ev_pos hr ?_)
      rw [wadd i (by omega)]
      exact hm
    | false =>
      refine ⟨false, Ev.step (fun k => by unfold bindleref39_Named.l0; exact rfl) (ev_pos (by omega) (ev_pos (by omega) ?_)), fun h => by cases h⟩
      rw [rdF l i hlt]
      exact ev_bind (refRight _) (ev_neg (by rw [hr]; decide) (Ev.now _))
theorem great_fin (l : List S49) (i : Int) : ∃ w : Bool, Ev (fun k => bindlelaw39_great.j1 k l i false) w ∧ (w = false → l.length ≤ 60 ∧ Asc l) := by
  by_cases hl : (l.length : Int) > 60
  · exact ⟨true, Ev.step (fun k => by unfold bindlelaw39_great.j1; exact rfl) (ev_neg (by decide) (ev_pos hl (Ev.now _))), fun h => by cases h⟩
  · obtain ⟨m, hm, hm2⟩ := named_loop l (by omega) l.length 0 (by omega)
    refine ⟨!m, Ev.step (fun k => by unfold bindlelaw39_great.j1; exact rfl) (ev_neg (by decide) (ev_neg hl (ev_bind (show Ev (fun k => bindleref39_Named.f k l) m from hm) (Ev.now _)))), fun h => ⟨by omega, hm2 (by simpa using h)⟩⟩
theorem great_loop (l : List S49) : ∀ n i : Nat, i + n = 100 → ∃ w : Bool, Ev (fun k => bindlelaw39_great.l0 k l i) w ∧ (w = false → (l.length ≤ 60 ∧ Asc l) ∧ ∀ j : Nat, i ≤ j → (hj : j < l.length) → l[j].f0.size ≤ 64 ∧ l[j].f1.length ≤ 70000)
  | 0, i, hi => by
    obtain ⟨w, h1, h2⟩ := great_fin l i
    refine ⟨w, Ev.step (fun k => by unfold bindlelaw39_great.l0; exact rfl) ?_, fun h => ⟨h2 h, fun j h3 h4 => by have := (h2 h).1; omega⟩⟩
    by_cases hl : (i : Int) < (l.length : Int)
    · have hd : decide ((i : Int) < 100) = false := decide_eq_false (by omega)
      rw [hd]
      exact ev_pos hl h1
    · exact ev_neg hl h1
  | n + 1, i, hi => by
    by_cases hl : (i : Int) < (l.length : Int)
    · have hlt : i < l.length := by omega
      have hd : decide ((i : Int) < 100) = true := decide_eq_true (by omega)
      obtain ⟨w, h1, h2⟩ := great_loop l n (i + 1) (by omega)
      by_cases c1 : (l[i].f0.size : Int) > 64
      · refine ⟨true, Ev.step (fun k => by unfold bindlelaw39_great.l0; exact rfl) (ev_pos hl ?_), fun h => by cases h⟩
        rw [hd]
        refine Ev.step (fun k => by unfold bindlelaw39_great.j1; exact rfl) (ev_pos rfl (ev_pos (by omega) (ev_pos hl ?_)))
        rw [rdF l i hlt]
        exact ev_pos c1 (Ev.now _)
      · by_cases c2 : (l[i].f1.length : Int) > 70000
        · refine ⟨true, Ev.step (fun k => by unfold bindlelaw39_great.l0; exact rfl) (ev_pos hl ?_), fun h => by cases h⟩
          rw [hd]
          refine Ev.step (fun k => by unfold bindlelaw39_great.j1; exact rfl) (ev_pos rfl (ev_pos (by omega) (ev_pos hl ?_)))
          rw [rdF l i hlt]
          exact ev_neg c1 (ev_pos c2 (Ev.now _))
        · refine ⟨w, Ev.step (fun k => by unfold bindlelaw39_great.l0; exact rfl) (ev_pos hl ?_), fun h => ⟨(h2 h).1, fun j h3 h4 => ?_⟩⟩
          · rw [hd]
            refine Ev.step (fun k => by unfold bindlelaw39_great.j1; exact rfl) (ev_pos rfl (ev_pos (by omega) (ev_pos hl ?_)))
            rw [rdF l i hlt]
            refine ev_neg c1 (ev_neg c2 ?_)
            rw [wadd i (by omega)]
            exact h1
          · by_cases he : j = i
            · subst he
              exact ⟨by omega, by omega⟩
            · exact (h2 h).2 j (by omega) h4
    · obtain ⟨w, h1, h2⟩ := great_fin l i
      exact ⟨w, Ev.step (fun k => by unfold bindlelaw39_great.l0; exact rfl) (ev_neg hl h1), fun h => ⟨h2 h, fun j h3 h4 => by omega⟩⟩
theorem great_ev (l : List S49) : ∃ w : Bool, Ev (fun k => bindlelaw39_great.f k l) w ∧ (w = false → okL l) := by
  obtain ⟨w, h1, h2⟩ := great_loop l 100 0 (by omega)
  refine ⟨w, h1, fun h => ?_⟩
  obtain ⟨⟨h3, h4⟩, h5⟩ := h2 h
  refine ⟨h3, h4, fun y hy => ?_, fun y hy => ?_⟩
  · obtain ⟨j, hj, rfl⟩ := List.getElem_of_mem hy
    exact (h5 j (by omega) hj).2
  · obtain ⟨j, hj, rfl⟩ := List.getElem_of_mem hy
    exact (h5 j (by omega) hj).1
/-! ### The law -/
theorem rd34 (K : List S34) (i : Nat) (h : i < K.length) : rd_T34 K (i : Int) = K[i] := by simp [rd_T34, h]
theorem rd36 (K : List S36) (i : Nat) (h : i < K.length) : rd_T36 K (i : Int) = K[i] := by simp [rd_T36, h]
theorem node_law (l : List S49) (fd c : ByteArray) (d : Int) : bindlelaw39_node.f (nodeS l fd c).f0 (nodeS l fd c).f1 (nodeS l fd c).f2 (nodeS l fd c).f3 (nodeR l fd d c).f0 (nodeR l fd d c).f1 (nodeR l fd d c).f2 (nodeR l fd d c).f3 (nodeR l fd d c).f4 (nodeR l fd d c).f5 = some true := by
  unfold bindlelaw39_node.f nodeR
  rw [if_pos rfl, if_pos rfl, if_pos rfl]
  simp
theorem law_loop (l : List S49) (fd : ByteArray) (d : Int) (K : List ByteArray) (hK : K.length ≤ 60) : ∀ n i : Nat, i + n = K.length →
    Ev (fun k => bindlelaw39_TreeLists.l0 k (K.map (nodeS l fd)) (K.map (nodeR l fd d)) i) true
  | 0, i, hi => by
    refine Ev.step (fun k => by unfold bindlelaw39_TreeLists.l0; exact rfl) (ev_neg (by rw [List.length_map]; omega) ?_)
    exact ev_bind lives_ev (Ev.now _)
  | n + 1, i, hi => by
    have hlt : i < K.length := by omega
    refine Ev.step (fun k => by unfold bindlelaw39_TreeLists.l0; exact rfl) (ev_pos (by rw [List.length_map]; omega) (ev_pos (by omega) (ev_pos (by rw [List.length_map]; omega) ?_)))
    rw [rd34 _ i (by rw [List.length_map]; exact hlt), rd36 _ i (by rw [List.length_map]; exact hlt), List.getElem_map, List.getElem_map]
    refine ev_bindc (node_law l fd K[i] d) (ev_pos rfl ?_)
    rw [wadd i (by omega)]
    exact law_loop l fd d K hK n (i + 1) (by omega)
theorem TreeLists : bindlelaw39_TreeLists.Pure := by
  intro l fd ch hg _ _
  obtain ⟨w, hgr, hok⟩ := great_ev l
  have hlive : Ev (fun k => bindlelaw39_TreeLists.j0 k l fd ch true) true := Ev.step (fun k => by unfold bindlelaw39_TreeLists.j0; exact rfl) (ev_pos rfl (ev_bind lives_ev (Ev.now _)))
  have main : Ev (fun k => bindlelaw39_TreeLists.f k l fd ch) true := by
    unfold bindlelaw39_TreeLists.f
    refine ev_bind hgr ?_
    by_cases ht : w = true
    · exact ev_pos ht hlive
    · have h := hok (by simpa using ht)
      refine ev_neg ht ?_
      by_cases h1 : (fd.size : Int) > 300
      · exact ev_pos h1 hlive
      refine ev_neg h1 ?_
      by_cases h2 : (ch.size : Int) > 300
      · rw [decide_eq_true h2]
        exact hlive
      rw [decide_eq_false h2]
      have hl := h.1
      refine Ev.step (fun k => by unfold bindlelaw39_TreeLists.j0; exact rfl) (ev_neg (by decide) ?_)
      refine ev_bindc (total_eq l fd (by omega) (by omega)) (ev_bind (refTotal l fd (by omega) (by omega)) (ev_bind (list_ev l fd h (by omega)) (ev_bind (refList_ev l fd 0 h (by omega)) ?_)))
      have fin : ∀ p : ByteArray, p = pathS fd ch → Ev (fun k => bindlelaw39_TreeLists.j1 k fd ch (totS l fd).1 (totS l fd).2 (totS l fd).1 (totS l fd).2 ((kidsS l fd).map (nodeS l fd)) ((kidsS l fd).map (nodeR l fd 0)) p) true := by
        intro p hp
        subst hp
        refine Ev.step (fun k => by unfold bindlelaw39_TreeLists.j1; exact rfl) (ev_pos rfl (ev_pos rfl (ev_pos (by rw [List.length_map, List.length_map]) (ev_bindc (path_eq fd ch (by omega) (by omega)) ?_))))
        rw [show ((pathS fd ch).toList != (pathS fd ch).toList) = false by simp]
        exact Ev.step (fun k => by unfold bindlelaw39_TreeLists.j2; exact rfl) (ev_neg (by decide) (law_loop l fd 0 (kidsS l fd) (kids_len l fd h) (kidsS l fd).length 0 (by omega)))
      rw [toList_ls]
      by_cases h0 : ls fd = []
      · exact ev_pos h0 (fin ch (by unfold pathS; rw [if_pos h0]))
      · exact ev_neg h0 (ev_pos (by omega) (ev_pos (by rw [ByteArray.size_append, show (⟨#[47]⟩ : ByteArray).size = 1 from rfl]; omega) (fin _ (by unfold pathS; rw [if_neg h0]))))
  obtain ⟨K, hK⟩ := main
  exact ⟨K, hK K (Nat.le_refl _)⟩
end Go.Proofs.YtkccjohhakljnaaGreatDoor.Pure
