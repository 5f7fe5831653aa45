/- Statements 39.1, 39.3: the paths and nodes below any folder of any map, told one by one, till nobody wants more, and its text, are the document's. -/
import Derived.Test.YtkccjohhakljnaaGreatDoorPTreeWalksx8
import Derived.Sort.Walk0
import Derived.OpenShut
namespace Go.Proofs.YtkccjohhakljnaaGreatDoor.Pure
open Go.RowKit Go.Proofs.YtkccjohhakljnaaGreatDoor.PTreeWalks Go.Proofs.YtkccjohhakljnaaGreatDoorW.PrintWords Go.Proofs.YtkccjohhakljnaaGreatDoorW.PrintLast Go.Proofs.YtkccjohhakljnaaGreatDoorW.PrintMore
theorem w64 {n : Int} (h : -9223372036854775808 ≤ n) (h' : n ≤ 9223372036854775807) : wrap64 n = n := by
  unfold wrap64
  omega
theorem w64_l (a b : Int) : wrap64 (wrap64 a + b) = wrap64 (a + b) := by
  unfold wrap64
  omega
theorem w64_r (a b : Int) : wrap64 (a + wrap64 b) = wrap64 (a + b) := by
  unfold wrap64
  omega
theorem i64_bounds {n : Int} (h : (Lit.int .i64 n).wf = true) : -9223372036854775808 ≤ n ∧ n ≤ 9223372036854775807 := Go.bounds_i64 h
theorem ev_const {α : Type} {o : Option α} {a : α} (h : o = some a) : Ev (fun _ => o) a := ⟨0, fun _ _ => h⟩
theorem ev_pos {α : Type} {c : Prop} [Decidable c] {g h : Nat → Option α} {r : α} (hc : c) (hg : Ev g r) : Ev (fun k => if c then g k else h k) r := by
  obtain ⟨K, hg⟩ := hg
  exact ⟨K, fun k hk => by simp only [if_pos hc]; exact hg k hk⟩
theorem ev_neg {α : Type} {c : Prop} [Decidable c] {g h : Nat → Option α} {r : α} (hc : ¬ c) (hg : Ev h r) : Ev (fun k => if c then g k else h k) r := by
  obtain ⟨K, hg⟩ := hg
  exact ⟨K, fun k hk => by simp only [if_neg hc]; exact hg k hk⟩
theorem ev_from {α : Type} {g : Nat → Option α} {r : α} (K : Nat) (h : ∀ k, K ≤ k → g k = some r) : Ev g r := ⟨K, h⟩
theorem ev_bind {α β : Type} {g : Nat → Option α} {f : Nat → α → Option β} {a : α} {r : β} (h : Ev g a) (k : Ev (fun n => f n a) r) : Ev (fun n => (g n).bind (f n)) r := h.bind k
theorem ev_bindc {α β : Type} {o : Option α} {f : Nat → α → Option β} {a : α} {r : β} (h : o = some a) (k : Ev (fun n => f n a) r) : Ev (fun n => o.bind (f n)) r := (ev_const h).bind k
theorem toList_inj {a b : ByteArray} (h : a.toList = b.toList) : a = b := by
  rw [ByteArray.toList_eq, ByteArray.toList_eq] at h
  exact Go.WideShapes.bytes_inj h
/-- A text's bytes as a list. -/
abbrev ls (a : ByteArray) : List UInt8 := a.data.toList
abbrev mk (l : List UInt8) : ByteArray := ⟨l.toArray⟩
theorem ls_len (a : ByteArray) : (ls a).length = a.size := Array.length_toList
theorem ls_mk (l : List UInt8) : ls (mk l) = l := rfl
theorem mk_ls (a : ByteArray) : mk (ls a) = a := rfl
theorem ls_inj {a b : ByteArray} (h : ls a = ls b) : a = b := Go.WideShapes.bytes_inj h
theorem mk_append (x y : List UInt8) : mk (x ++ y) = mk x ++ mk y := by
  apply ls_inj
  simp [ls, mk]
theorem mk_size (l : List UInt8) : (mk l).size = l.length := by
  show l.toArray.size = _
  rw [List.size_toArray]
theorem extract_ls (a : ByteArray) (i j : Nat) : ls (a.extract i j) = ((ls a).drop i).take (j - i) := by
  show (a.extract i j).data.toList = _
  rw [ByteArray.data_extract, Array.toList_extract]
theorem extract_mk (a : ByteArray) (i j : Nat) : a.extract i j = mk (((ls a).drop i).take (j - i)) := ls_inj (by rw [extract_ls])
theorem bt_nat (a : ByteArray) (i : Nat) (h : i < a.size) : bt a (i : Int) = (((ls a)[i]'(by rw [ls_len]; exact h)).toNat : Int) := by
  unfold bt
  rw [dif_pos (by simpa using h)]
  rfl
/-- A text's parts put together, with bytes 47 between. -/
def joinP : List (List UInt8) → List UInt8
  | [] => []
  | x :: r => x ++ r.flatMap (47 :: ·)
theorem joinP_snoc (l : List (List UInt8)) (h : l ≠ []) (x : List UInt8) : joinP (l ++ [x]) = joinP l ++ 47 :: x := by
  cases l with
  | nil => exact absurd rfl h
  | cons a r => simp [joinP]
theorem split_cons (x : UInt8) (r : List UInt8) : YtkccjohhakljnaaGreatDoorMpHelp.splitL 47 (x :: r) = if x = 47 then [] :: YtkccjohhakljnaaGreatDoorMpHelp.splitL 47 r else match YtkccjohhakljnaaGreatDoorMpHelp.splitL 47 r with
    | h :: t => (x :: h) :: t
    | [] => [[x]] := rfl
def pre (p : List UInt8) : List (List UInt8) → List (List UInt8)
  | h :: t => (p ++ h) :: t
  | [] => [p]
theorem pre_nil {l : List (List UInt8)} (h : l ≠ []) : pre [] l = l := by
  cases l with
  | nil => exact absurd rfl h
  | cons a r => rfl
theorem pre_pre (p q : List UInt8) (l : List (List UInt8)) : pre p (pre q l) = pre (p ++ q) l := by
  cases l <;> simp [pre]
theorem split_ne {x : UInt8} (h : x ≠ 47) (r : List UInt8) : YtkccjohhakljnaaGreatDoorMpHelp.splitL 47 (x :: r) = pre [x] (YtkccjohhakljnaaGreatDoorMpHelp.splitL 47 r) := by
  rw [split_cons, if_neg h]
  cases YtkccjohhakljnaaGreatDoorMpHelp.splitL 47 r <;> rfl
theorem split_eq (r : List UInt8) : YtkccjohhakljnaaGreatDoorMpHelp.splitL 47 (47 :: r) = [] :: YtkccjohhakljnaaGreatDoorMpHelp.splitL 47 r := by rw [split_cons, if_pos rfl]
theorem split_pos (s : List UInt8) : YtkccjohhakljnaaGreatDoorMpHelp.splitL 47 s ≠ [] := YtkccjohhakljnaaGreatDoorMpHelp.splitL_ne 47 s
theorem split_all (p : UInt8 → Bool) (hp : p 47 = true) : ∀ s : List UInt8, ((YtkccjohhakljnaaGreatDoorMpHelp.splitL 47 s).all fun l => l.all p) = s.all p
  | [] => by rfl
  | x :: r => by
    have ih := split_all p hp r
    by_cases hx : x = 47
    · subst hx
      rw [split_eq, List.all_cons, ih, List.all_cons, hp]
      rfl
    · rw [split_ne hx, List.all_cons, ← ih]
      have := split_pos r
      cases h : YtkccjohhakljnaaGreatDoorMpHelp.splitL 47 r with
      | nil => exact absurd h this
      | cons a t => simp [pre, Bool.and_assoc]
theorem split_join : ∀ s : List UInt8, joinP (YtkccjohhakljnaaGreatDoorMpHelp.splitL 47 s) = s
  | [] => by rfl
  | x :: r => by
    have ih := split_join r
    have hn := split_pos r
    by_cases hx : x = 47
    · subst hx
      rw [split_eq]
      cases h : YtkccjohhakljnaaGreatDoorMpHelp.splitL 47 r with
      | nil => exact absurd h hn
      | cons a t =>
        rw [h] at ih
        rw [← ih]
        simp [joinP]
    · rw [split_ne hx]
      cases h : YtkccjohhakljnaaGreatDoorMpHelp.splitL 47 r with
      | nil => exact absurd h hn
      | cons a t =>
        rw [h] at ih
        rw [← ih]
        simp [joinP, pre]
theorem split_no : ∀ (s : List UInt8), ∀ l ∈ YtkccjohhakljnaaGreatDoorMpHelp.splitL 47 s, (47 : UInt8) ∉ l
  | [] => by simp [YtkccjohhakljnaaGreatDoorMpHelp.splitL]
  | x :: r => by
    have ih := split_no r
    by_cases hx : x = 47
    · subst hx
      rw [split_eq]
      intro l hl
      rcases List.mem_cons.1 hl with rfl | hl
      · simp
      · exact ih l hl
    · rw [split_ne hx]
      have hn := split_pos r
      cases h : YtkccjohhakljnaaGreatDoorMpHelp.splitL 47 r with
      | nil => exact absurd h hn
      | cons a t =>
        rw [h] at ih
        intro l hl
        rcases List.mem_cons.1 hl with rfl | hl
        · simp only [List.cons_append, List.nil_append, List.mem_cons, not_or]
          exact ⟨fun e => hx e.symm, ih a List.mem_cons_self⟩
        · exact ih l (List.mem_cons_of_mem _ hl)
theorem split_len (s : List UInt8) : (YtkccjohhakljnaaGreatDoorMpHelp.splitL 47 s).length ≤ s.length + 1 := by
  induction s with
  | nil => simp [YtkccjohhakljnaaGreatDoorMpHelp.splitL]
  | cons x r ih =>
    by_cases hx : x = 47
    · subst hx
      rw [split_eq]
      simp only [List.length_cons]
      omega
    · rw [split_ne hx]
      cases h : YtkccjohhakljnaaGreatDoorMpHelp.splitL 47 r with
      | nil => simp [pre]
      | cons a t => rw [h] at ih; simp only [pre, List.length_cons] at ih ⊢; omega
theorem split_part (s : List UInt8) : ∀ l ∈ YtkccjohhakljnaaGreatDoorMpHelp.splitL 47 s, l.length ≤ s.length := by
  induction s with
  | nil => simp [YtkccjohhakljnaaGreatDoorMpHelp.splitL]
  | cons x r ih =>
    intro l hl
    by_cases hx : x = 47
    · subst hx
      rw [split_eq] at hl
      rcases List.mem_cons.1 hl with rfl | hl
      · simp
      · have := ih l hl; simp only [List.length_cons]; omega
    · rw [split_ne hx] at hl
      cases h : YtkccjohhakljnaaGreatDoorMpHelp.splitL 47 r with
      | nil => exact absurd h (split_pos r)
      | cons a t =>
        rw [h] at ih hl
        rcases List.mem_cons.1 hl with rfl | hl
        · have := ih a List.mem_cons_self; simp only [List.cons_append, List.nil_append, List.length_cons]; omega
        · have := ih l (List.mem_cons_of_mem _ hl); simp only [List.length_cons]; omega
/-- The document's parts. -/
def partsB (a : ByteArray) : List ByteArray := (YtkccjohhakljnaaGreatDoorMpHelp.splitL 47 (ls a)).map mk
theorem rd_nat (l : List ByteArray) (i : Nat) (h : i < l.length) : rdOf ByteArray.empty l (i : Int) = l[i] := by
  rw [rdOf, Int.toNat_natCast, List.getD_eq_getElem?_getD, List.getElem?_eq_getElem h, Option.getD_some]
theorem rd_mk (l : List (List UInt8)) (i : Nat) (h : i < l.length) : rdOf ByteArray.empty (l.map mk) (i : Int) = mk l[i] := by
  rw [rd_nat _ _ (by rw [List.length_map]; exact h), List.getElem_map]
theorem refParts_loop (a : ByteArray) (hs : a.size ≤ 1000000) : ∀ (n i from_ : Nat) (acc : List ByteArray), i + n = a.size → from_ ≤ i → acc.length ≤ i →
    Ev (fun k => bindleref15_Parts.l0 k a acc from_ i) (acc ++ (pre (((ls a).drop from_).take (i - from_)) (YtkccjohhakljnaaGreatDoorMpHelp.splitL 47 ((ls a).drop i))).map mk)
  | 0, i, from_, acc, hi, hf, hl => by
    refine Ev.step (fun k => rfl) ?_
    refine ev_neg (by omega) (ev_pos (by omega) (ev_pos (by omega) (ev_pos (by omega) ?_)))
    have hd : (ls a).drop i = [] := List.drop_of_length_le (by rw [ls_len]; omega)
    rw [hd]
    have e1 : a.extract (from_ : Int).toNat a.size = mk (((ls a).drop from_).take (i - from_)) := by
      rw [Int.toNat_natCast, extract_mk]
      congr 3
      omega
    rw [e1]
    have e2 : pre (((ls a).drop from_).take (i - from_)) (YtkccjohhakljnaaGreatDoorMpHelp.splitL 47 []) = [((ls a).drop from_).take (i - from_)] := by simp [pre, YtkccjohhakljnaaGreatDoorMpHelp.splitL]
    rw [e2]
    exact Ev.now _
  | n + 1, i, from_, acc, hi, hf, hl => by
    have hlt : i < (ls a).length := by rw [ls_len]; omega
    have hdr : (ls a).drop i = (ls a)[i] :: (ls a).drop (i + 1) := List.drop_eq_getElem_cons hlt
    refine Ev.step (fun k => rfl) ?_
    refine ev_pos (by omega) (ev_pos (by omega) ?_)
    have hb := bt_nat a i (by omega)
    have hw : wrap64 ((i : Int) + 1) = ((i + 1 : Nat) : Int) := by rw [w64 (by omega) (by omega)]; omega
    rw [hw]
    by_cases hc : (ls a)[i] = 47
    · have hc' : bt a (i : Int) = 47 := by rw [hb, hc]; rfl
      refine ev_pos hc' (ev_pos (by omega) (ev_pos (by omega) (ev_pos (by omega) (ev_pos (by omega) ?_))))
      have ih := refParts_loop a hs n (i + 1) (i + 1) (acc ++ [a.extract (from_ : Int).toNat (i : Int).toNat]) (by omega) (Nat.le_refl _) (by rw [List.length_append]; simp; omega)
      have e1 : a.extract (from_ : Int).toNat (i : Int).toNat = mk (((ls a).drop from_).take (i - from_)) := by rw [Int.toNat_natCast, Int.toNat_natCast, extract_mk]
      rw [e1] at ih ⊢
      rw [Nat.sub_self, List.take_zero, pre_nil (split_pos _)] at ih
      rw [hdr, hc, split_eq]
      simp only [pre, List.append_nil, List.map_cons]
      rw [List.append_assoc] at ih
      exact ih
    · have hc' : ¬ bt a (i : Int) = 47 := by
        rw [hb]
        intro e
        exact hc (UInt8.toNat_inj.1 (by have : ((ls a)[i].toNat : Int) = ((47 : UInt8).toNat : Int) := e; exact_mod_cast this))
      refine ev_neg hc' ?_
      have ih := refParts_loop a hs n (i + 1) from_ acc (by omega) (by omega) (by omega)
      have e2 : ((ls a).drop from_).take (i + 1 - from_) = ((ls a).drop from_).take (i - from_) ++ [(ls a)[i]] := by
        rw [show i + 1 - from_ = (i - from_) + 1 by omega, List.take_succ_eq_append_getElem (by rw [List.length_drop]; omega), List.getElem_drop]
        congr 3
        omega
      rw [hdr, split_ne hc, pre_pre, ← e2]
      exact ih
theorem refParts (a : ByteArray) (hs : a.size ≤ 1000000) : Ev (fun k => bindleref15_Parts.f k a) (partsB a) := by
  have := refParts_loop a hs a.size 0 0 [] (by omega) (Nat.le_refl _) (Nat.le_refl _)
  rw [Nat.sub_self, List.take_zero, pre_nil (split_pos _), List.drop_zero, List.nil_append] at this
  exact this
theorem all_two {α : Type} (p q : α → Bool) : ∀ l : List α, (l.all fun x => p x && q x) = (l.all p && l.all q)
  | [] => rfl
  | x :: r => by
    rw [List.all_cons, all_two p q r, List.all_cons, List.all_cons]
    cases p x <;> cases q x <;> cases r.all p <;> rfl
def fineB (c : UInt8) : Bool := decide (33 ≤ c.toNat) && decide (c.toNat ≤ 126)
def oddB (l : List UInt8) : Bool := !l.isEmpty && !(l == [46]) && !(l == [46, 46])
theorem right_alt (s : List UInt8) : YtkccjohhakljnaaGreatDoorMpHelp.rightB s = (decide (s.length ≤ 64) && (s.all fineB && (YtkccjohhakljnaaGreatDoorMpHelp.splitL 47 s).all oddB)) := by
  unfold YtkccjohhakljnaaGreatDoorMpHelp.rightB
  rw [← split_all fineB (by decide) s]
  congr 1
  rw [← all_two]
  congr 1
  funext l
  unfold YtkccjohhakljnaaGreatDoorMpHelp.partB oddB fineB
  rw [Bool.and_assoc, Bool.and_assoc, Bool.and_assoc]
theorem refRight_l1 (l : List (List UInt8)) : ∀ n i : Nat, i + n = l.length → l.length ≤ 1000000 → Ev (fun k => bindleref15_Right.l1 k (l.map mk) i) ((l.drop i).all oddB)
  | 0, i, hi, hl => by
    refine Ev.step (fun k => rfl) ?_
    rw [List.drop_of_length_le (by omega)]
    exact ev_neg (by rw [List.length_map]; omega) (Ev.now _)
  | n + 1, i, hi, hl => by
    have hlt : i < l.length := by omega
    refine Ev.step (fun k => rfl) ?_
    refine ev_pos (by rw [List.length_map]; omega) (ev_pos (by omega) ?_)
    have hr : (rdOf ByteArray.empty (l.map mk) (i : Int)).toList = l[i] := by
      rw [rdOf, Int.toNat_natCast, List.getD_eq_getElem?_getD, List.getElem?_map, List.getElem?_eq_getElem hlt, Option.map_some, Option.getD_some, ByteArray.toList_eq]
    have hw : wrap64 ((i : Int) + 1) = ((i + 1 : Nat) : Int) := by rw [w64 (by omega) (by omega)]; omega
    rw [hr, hw, List.drop_eq_getElem_cons hlt, List.all_cons]
    have ih := refRight_l1 l n (i + 1) (by omega) hl
    by_cases h1 : l[i] = []
    · rw [show oddB l[i] = false by rw [h1]; rfl]
      exact ev_pos h1 (Ev.now _)
    · by_cases h2 : l[i] = [46]
      · rw [show oddB l[i] = false by rw [h2]; rfl]
        exact ev_neg h1 (ev_pos h2 (Ev.now _))
      · by_cases h3 : l[i] = [46, 46]
        · rw [show oddB l[i] = false by rw [h3]; rfl]
          exact ev_neg h1 (ev_neg h2 (ev_pos h3 (Ev.now _)))
        · have e : oddB l[i] = true := by
            unfold oddB
            rw [List.isEmpty_eq_false_iff.2 h1, beq_eq_false_iff_ne.2 h2, beq_eq_false_iff_ne.2 h3]
            rfl
          rw [e]
          exact ev_neg h1 (ev_neg h2 (ev_neg h3 ih))
theorem refRight_l0 (a : ByteArray) (hs : a.size ≤ 64) : ∀ n i : Nat, i + n = a.size → Ev (fun k => bindleref15_Right.l0 k a i) (((ls a).drop i).all fineB && (YtkccjohhakljnaaGreatDoorMpHelp.splitL 47 (ls a)).all oddB)
  | 0, i, hi => by
    refine Ev.step (fun k => rfl) ?_
    rw [List.drop_of_length_le (by rw [ls_len]; omega)]
    refine ev_neg (by omega) (ev_bind (refParts a (by omega)) ?_)
    have := refRight_l1 (YtkccjohhakljnaaGreatDoorMpHelp.splitL 47 (ls a)) (YtkccjohhakljnaaGreatDoorMpHelp.splitL 47 (ls a)).length 0 (by omega) (by have := split_len (ls a); rw [ls_len] at this; omega)
    rw [List.drop_zero] at this
    exact this
  | n + 1, i, hi => by
    have hlt : i < (ls a).length := by rw [ls_len]; omega
    refine Ev.step (fun k => rfl) ?_
    refine ev_pos (by omega) (ev_pos (by omega) ?_)
    have hb := bt_nat a i (by omega)
    have hw : wrap64 ((i : Int) + 1) = ((i + 1 : Nat) : Int) := by rw [w64 (by omega) (by omega)]; omega
    rw [hb, hw, List.drop_eq_getElem_cons hlt, List.all_cons]
    have ih := refRight_l0 a hs n (i + 1) (by omega)
    by_cases h1 : ((ls a)[i].toNat : Int) < 33
    · rw [show fineB (ls a)[i] = false by unfold fineB; rw [decide_eq_false (by omega)]; rfl]
      exact ev_pos h1 (Ev.now _)
    · by_cases h2 : ((ls a)[i].toNat : Int) > 126
      · rw [show fineB (ls a)[i] = false by unfold fineB; rw [decide_eq_false (p := (ls a)[i].toNat ≤ 126) (by omega), Bool.and_false]]
        exact ev_neg h1 (ev_pos h2 (Ev.now _))
      · rw [show fineB (ls a)[i] = true by unfold fineB; rw [decide_eq_true (by omega), decide_eq_true (by omega)]; rfl]
        exact ev_neg h1 (ev_neg h2 ih)
theorem refRight (a : ByteArray) : Ev (fun k => bindleref15_Right.f k a) (YtkccjohhakljnaaGreatDoorMpHelp.rightB (ls a)) := by
  rw [right_alt, ls_len]
  by_cases h1 : (a.size : Int) < 1
  · have e : ls a = [] := List.eq_nil_of_length_eq_zero (by rw [ls_len]; omega)
    rw [e, show ((YtkccjohhakljnaaGreatDoorMpHelp.splitL 47 []).all oddB) = false by decide, Bool.and_false, Bool.and_false]
    refine ev_pos h1 (Ev.step (fun k => rfl) ?_)
    exact ev_pos (c := true = true) (h := fun k => bindleref15_Right.l0 k a 0) rfl (Ev.now _)
  · refine ev_neg h1 ?_
    by_cases h2 : (a.size : Int) > 64
    · rw [decide_eq_true h2, decide_eq_false (by omega), Bool.false_and]
      refine Ev.step (fun k => rfl) ?_
      exact ev_pos (c := true = true) (h := fun k => bindleref15_Right.l0 k a 0) rfl (Ev.now _)
    · rw [decide_eq_false h2, decide_eq_true (by omega), Bool.true_and]
      refine Ev.step (fun k => rfl) ?_
      refine ev_neg (c := false = true) (g := fun _ => some false) (by decide) ?_
      have := refRight_l0 a (by omega) a.size 0 (by omega)
      rw [List.drop_zero] at this
      exact this
theorem toList_ls (a : ByteArray) : a.toList = ls a := ByteArray.toList_eq a
theorem ls_append (a b : ByteArray) : ls (a ++ b) = ls a ++ ls b := by simp [ls]
theorem hasPrefix (s p : ByteArray) : stringslite_HasPrefix.f s p = some ((ls p).isPrefixOf (ls s)) := by
  unfold stringslite_HasPrefix.f
  by_cases h : (s.size : Int) ≥ (p.size : Int)
  · rw [if_pos h, if_pos (by omega), if_pos (by omega), toList_ls, toList_ls, extract_ls, Int.toNat_natCast, List.drop_zero, Nat.sub_zero]
    congr 1
    rw [Bool.eq_iff_iff, beq_iff_eq, List.isPrefixOf_iff_prefix, List.prefix_iff_eq_take, ls_len]
    exact eq_comm
  · rw [if_neg h]
    congr 1
    symm
    rw [Bool.eq_false_iff]
    intro e
    have := (List.isPrefixOf_iff_prefix.1 e).length_le
    rw [ls_len, ls_len] at this
    omega
theorem cutPrefix (s p : ByteArray) : strings_CutPrefix.f s p = some (if (ls p).isPrefixOf (ls s) = true then (mk ((ls s).drop p.size), true) else (s, false)) := by
  unfold strings_CutPrefix.f stringslite_CutPrefix.f
  rw [hasPrefix, Option.bind_some]
  by_cases h : (ls p).isPrefixOf (ls s) = true
  · have hl := (List.isPrefixOf_iff_prefix.1 h).length_le
    rw [ls_len, ls_len] at hl
    rw [if_pos h, if_pos (by omega), if_pos (by omega), if_pos h, extract_mk, Int.toNat_natCast]
    rw [List.take_of_length_le (by rw [List.length_drop, ls_len]; omega)]
    rfl
  · rw [if_neg h, if_neg h]
    rfl
/-- Has a folder a name? -/
def inB (f s : List UInt8) : Bool := YtkccjohhakljnaaGreatDoorMpHelp.rightB s && (f.isEmpty || (YtkccjohhakljnaaGreatDoorMpHelp.rightB f && (f ++ [47]).isPrefixOf s))
/-- What stands behind a folder. -/
def restB (f s : ByteArray) : ByteArray := if (ls f).isEmpty = true then s else mk ((ls s).drop (f.size + 1))
theorem behind (f s : ByteArray) (hf : f.size ≤ 1000000) : ∃ x, member_behind.f f s = some (x, inB (ls f) (ls s)) ∧ (inB (ls f) (ls s) = true → x = restB f s) := by
  unfold member_behind.f inB restB
  rw [show member_Right.f s = some (YtkccjohhakljnaaGreatDoorMpHelp.rightB (ls s)) from rfl, Option.bind_some]
  cases h1 : YtkccjohhakljnaaGreatDoorMpHelp.rightB (ls s) with
  | false => exact ⟨_, rfl, fun h => by cases h⟩
  | true =>
    rw [if_pos rfl, toList_ls]
    by_cases h2 : ls f = []
    · rw [if_pos h2, h2]
      exact ⟨_, rfl, fun _ => rfl⟩
    · have e2 : (ls f).isEmpty = false := List.isEmpty_eq_false_iff.2 h2
      rw [if_neg h2, show member_Right.f f = some (YtkccjohhakljnaaGreatDoorMpHelp.rightB (ls f)) from rfl, Option.bind_some, e2]
      cases h3 : YtkccjohhakljnaaGreatDoorMpHelp.rightB (ls f) with
      | false => exact ⟨_, rfl, fun h => by cases h⟩
      | true =>
        rw [if_pos rfl, if_pos (by omega), cutPrefix, Option.bind_some, ls_append, show ls (⟨#[47]⟩ : ByteArray) = [47] from rfl]
        cases h4 : (ls f ++ [47]).isPrefixOf (ls s) with
        | false => exact ⟨_, rfl, fun h => by cases h⟩
        | true =>
          refine ⟨_, rfl, fun _ => ?_⟩
          rw [if_pos rfl, if_neg (by decide), ByteArray.size_append]
          rfl
theorem in_of (f s : ByteArray) (hf : f.size ≤ 1000000) : member_In.f f s = some (inB (ls f) (ls s)) := by
  obtain ⟨x, h, _⟩ := behind f s hf
  unfold member_In.f
  rw [h, Option.bind_some]
theorem str_lt_of {x y : List UInt8} (h : x ≤ y) (hne : x ≠ y) : x < y := by
  by_cases hl : x < y
  · exact hl
  · exact absurd (List.le_antisymm h hl) hne
theorem str_irrefl (x : List UInt8) : ¬ x < x := List.lt_irrefl x
theorem str_trans {x y z : List UInt8} (h : x < y) (h' : y < z) : x < z := List.lt_trans h h'
theorem str_lt_le {x y : List UInt8} (h : x < y) : x ≤ y := fun h' => str_irrefl x (str_trans h h')
theorem str_le_lt {x y z : List UInt8} (h : x ≤ y) (h' : y < z) : x < z := by
  by_cases e : x = y
  · rwa [e]
  · exact str_trans (str_lt_of h e) h'
theorem strict_ext {l m : List (List UInt8)} (hl : l.Pairwise (· < ·)) (hm : m.Pairwise (· < ·)) (h : ∀ x, x ∈ l ↔ x ∈ m) : l = m := by
  have nl : l.Nodup := hl.imp (fun {a b} hx (e : a = b) => str_irrefl b (by rw [e] at hx; exact hx))
  have nm : m.Nodup := hm.imp (fun {a b} hx (e : a = b) => str_irrefl b (by rw [e] at hx; exact hx))
  exact List.Perm.eq_of_pairwise (le := fun a b => a < b) (fun a b _ _ h1 h2 => absurd (str_trans h1 h2) (str_irrefl a)) hl hm ((List.perm_ext_iff_of_nodup nl nm).2 h)
theorem get_bang (zs : List (List UInt8)) (j : Nat) (h : j < zs.length) : zs.toArray[j]! = zs[j] := by
  simp [h]
theorem compact_upto (zs : List (List UInt8)) (h : zs.Pairwise (· ≤ ·)) : ∀ m : Nat, m ≤ zs.length →
    (Lib.compactUpTo zs.toArray m).Pairwise (· < ·) ∧ ∀ x, x ∈ Lib.compactUpTo zs.toArray m ↔ ∃ j, j < m ∧ zs.toArray[j]! = x
  | 0, _ => by
    refine ⟨by simp [Lib.compactUpTo], fun x => ?_⟩
    simp [Lib.compactUpTo]
  | m + 1, hm => by
    obtain ⟨h1, h2⟩ := compact_upto zs h m (by omega)
    have hle : ∀ i j, i ≤ j → j < zs.length → zs.toArray[i]! ≤ zs.toArray[j]! := fun i j hij hj => by
      rw [get_bang _ _ (by omega), get_bang _ _ hj]
      rcases Nat.lt_or_eq_of_le hij with hlt | rfl
      · exact List.pairwise_iff_getElem.1 h i j (by omega) hj hlt
      · exact List.le_refl _
    rw [Lib.compactUpTo_succ]
    by_cases hk : Lib.keeps zs.toArray m = true
    · rw [if_pos hk]
      have hk' : m = 0 ∨ zs.toArray[m]! ≠ zs.toArray[m - 1]! := of_decide_eq_true hk
      refine ⟨List.pairwise_append.2 ⟨h1, by simp, fun a ha b hb => ?_⟩, fun x => ?_⟩
      · rw [List.mem_singleton] at hb
        subst hb
        obtain ⟨j, hj, rfl⟩ := (h2 a).1 ha
        rcases hk' with h0 | hne
        · omega
        · exact str_le_lt (hle j (m - 1) (by omega) (by omega)) (str_lt_of (hle (m - 1) m (by omega) (by omega)) (Ne.symm hne))
      · rw [List.mem_append, h2, List.mem_singleton]
        constructor
        · rintro (⟨j, hj, e⟩ | e)
          · exact ⟨j, by omega, e⟩
          · exact ⟨m, by omega, e.symm⟩
        · rintro ⟨j, hj, e⟩
          by_cases hjm : j = m
          · subst hjm; exact .inr e.symm
          · exact .inl ⟨j, by omega, e⟩
    · rw [if_neg hk, List.append_nil]
      have hk' : ¬ (m = 0 ∨ zs.toArray[m]! ≠ zs.toArray[m - 1]!) := fun e => hk (decide_eq_true e)
      refine ⟨h1, fun x => ?_⟩
      rw [h2]
      constructor
      · rintro ⟨j, hj, e⟩
        exact ⟨j, by omega, e⟩
      · rintro ⟨j, hj, e⟩
        by_cases hjm : j = m
        · subst hjm
          refine ⟨j - 1, by omega, ?_⟩
          rw [← e]
          by_cases e2 : zs.toArray[j]! = zs.toArray[j - 1]!
          · exact e2.symm
          · exact absurd (.inr e2) hk'
        · exact ⟨j, by omega, e⟩
theorem outs_spec (l : List ByteArray) : (YtkccjohhakljnaaGreatDoorMSort.outs l).Pairwise (· < ·) ∧ ∀ x, x ∈ YtkccjohhakljnaaGreatDoorMSort.outs l ↔ x ∈ l.map ls := by
  have tr : ∀ a b c : List UInt8, decide (a ≤ b) = true → decide (b ≤ c) = true → decide (a ≤ c) = true := fun a b c h1 h2 => by simp only [decide_eq_true_eq] at *; exact List.le_trans h1 h2
  have tt : ∀ a b : List UInt8, (decide (a ≤ b) || decide (b ≤ a)) = true := fun a b => by simp only [Bool.or_eq_true, decide_eq_true_eq]; exact List.le_total a b
  have hs : (YtkccjohhakljnaaGreatDoorMSort.sorted l).Pairwise (· ≤ ·) := (List.pairwise_mergeSort tr tt (YtkccjohhakljnaaGreatDoorMSort.texts l)).imp fun h => of_decide_eq_true h
  obtain ⟨h1, h2⟩ := compact_upto (YtkccjohhakljnaaGreatDoorMSort.sorted l) hs (YtkccjohhakljnaaGreatDoorMSort.sorted l).length (Nat.le_refl _)
  refine ⟨h1, fun x => (h2 x).trans ?_⟩
  have hm : x ∈ YtkccjohhakljnaaGreatDoorMSort.sorted l ↔ x ∈ l.map ls := (List.mergeSort_perm (YtkccjohhakljnaaGreatDoorMSort.texts l) _).mem_iff
  rw [← hm, List.mem_iff_getElem]
  constructor
  · rintro ⟨j, hj, e⟩
    exact ⟨j, hj, by rw [← get_bang _ _ hj]; exact e⟩
  · rintro ⟨j, hj, e⟩
    exact ⟨j, hj, by rw [get_bang _ _ hj]; exact e⟩
/-- A text put where it belongs. -/
def ins (x : List UInt8) : List (List UInt8) → List (List UInt8)
  | [] => [x]
  | y :: r => if y < x then y :: ins x r else if y = x then y :: r else x :: y :: r
theorem ins_mem (x : List UInt8) : ∀ (o : List (List UInt8)) (z : List UInt8), z ∈ ins x o ↔ z = x ∨ z ∈ o
  | [], z => by simp [ins]
  | y :: r, z => by
    have ih := ins_mem x r z
    unfold ins
    by_cases h : y < x
    · rw [if_pos h, List.mem_cons, ih, List.mem_cons]
      constructor
      · rintro (h | h | h)
        · exact .inr (.inl h)
        · exact .inl h
        · exact .inr (.inr h)
      · rintro (h | h | h)
        · exact .inr (.inl h)
        · exact .inl h
        · exact .inr (.inr h)
    · rw [if_neg h]
      by_cases e : y = x
      · rw [if_pos e, ← e, List.mem_cons]
        constructor
        · exact .inr
        · rintro (h | h)
          · exact .inl h
          · exact h
      · rw [if_neg e, List.mem_cons]
theorem ins_strict (x : List UInt8) : ∀ o : List (List UInt8), o.Pairwise (· < ·) → (ins x o).Pairwise (· < ·)
  | [], _ => by simp [ins]
  | y :: r, h => by
    obtain ⟨h1, h2⟩ := List.pairwise_cons.1 h
    unfold ins
    by_cases hl : y < x
    · rw [if_pos hl]
      refine List.pairwise_cons.2 ⟨fun z hz => ?_, ins_strict x r h2⟩
      rcases (ins_mem x r z).1 hz with rfl | hz
      · exact hl
      · exact h1 z hz
    · rw [if_neg hl]
      by_cases e : y = x
      · rw [if_pos e]; exact h
      · rw [if_neg e]
        have hxy : x < y := str_lt_of hl (Ne.symm e)
        refine List.pairwise_cons.2 ⟨fun z hz => ?_, h⟩
        rcases List.mem_cons.1 hz with rfl | hz
        · exact hxy
        · exact str_trans hxy (h1 z hz)
theorem ins_app (x : List UInt8) : ∀ p q : List (List UInt8), (∀ z ∈ p, z < x) → ins x (p ++ q) = p ++ ins x q
  | [], _, _ => rfl
  | y :: p, q, h => by
    rw [List.cons_append, ins, if_pos (h y List.mem_cons_self), ins_app x p q fun z hz => h z (List.mem_cons_of_mem _ hz)]
    rfl
theorem ins_len (x : List UInt8) (o : List (List UInt8)) : (ins x o).length ≤ o.length + 1 := by
  induction o with
  | nil => simp [ins]
  | cons y r ih =>
    unfold ins
    by_cases h : y < x
    · rw [if_pos h]; simp only [List.length_cons]; omega
    · rw [if_neg h]
      by_cases e : y = x
      · rw [if_pos e]; simp only [List.length_cons]; omega
      · rw [if_neg e]; simp only [List.length_cons]; omega
def insAll : List (List UInt8) → List (List UInt8) → List (List UInt8)
  | o, [] => o
  | o, x :: r => insAll (ins x o) r
theorem insAll_spec : ∀ (l o : List (List UInt8)), o.Pairwise (· < ·) → (insAll o l).Pairwise (· < ·) ∧ ∀ z, z ∈ insAll o l ↔ z ∈ o ∨ z ∈ l
  | [], o, h => ⟨h, fun z => by simp [insAll]⟩
  | x :: r, o, h => by
    obtain ⟨h1, h2⟩ := insAll_spec r (ins x o) (ins_strict x o h)
    refine ⟨h1, fun z => (h2 z).trans ?_⟩
    rw [ins_mem, List.mem_cons]
    constructor
    · rintro ((h | h) | h)
      · exact .inr (.inl h)
      · exact .inl h
      · exact .inr (.inr h)
    · rintro (h | h | h)
      · exact .inl (.inr h)
      · exact .inl (.inl h)
      · exact .inr h
theorem insAll_outs (l : List ByteArray) : insAll [] (l.map ls) = YtkccjohhakljnaaGreatDoorMSort.outs l := by
  obtain ⟨h1, h2⟩ := insAll_spec (l.map ls) [] List.Pairwise.nil
  obtain ⟨h3, h4⟩ := outs_spec l
  exact strict_ext h1 h3 fun x => by rw [h2, h4]; simp
theorem rs_shift (x0 : List ByteArray) (o : List ByteArray) (at_ x4 : Nat) (r : List ByteArray) (ho : o.length ≤ 1000000) (hat : at_ ≤ o.length) (hx4 : x4 < x0.length) (hx0 : x0.length ≤ 1000000)
    (hfin : Ev (fun k => bindleref15_Sort.l0 k x0 (o.take at_ ++ x0[x4] :: o.drop at_) ((x4 + 1 : Nat) : Int)) r) :
    ∀ n m : Nat, at_ + n = m → m ≤ o.length → ∀ h : ByteArray, Ev (fun k => bindleref15_Sort.l2 k x0 (o.take m ++ h :: o.drop m) x4 at_ m) r
  | 0, m, hm, hmo, h => by
    obtain rfl : at_ = m := by omega
    have hlen : (o.take at_ ++ h :: o.drop at_).length = o.length + 1 := by simp; omega
    refine Ev.step (fun k => rfl) ?_
    refine ev_neg (by omega) (ev_pos (by omega) (ev_pos (by omega) (ev_pos (by omega) (ev_pos (by rw [hlen]; omega) ?_))))
    have hw : wrap64 ((x4 : Int) + 1) = ((x4 + 1 : Nat) : Int) := by rw [w64 (by omega) (by omega)]; omega
    have e : (o.take at_ ++ h :: o.drop at_).set (at_ : Int).toNat (rdOf ByteArray.empty x0 (x4 : Int)) = o.take at_ ++ x0[x4] :: o.drop at_ := by
      rw [rd_nat x0 x4 hx4, Int.toNat_natCast, List.set_append_right _ _ (by rw [List.length_take]; omega), List.length_take, Nat.min_eq_left hat, Nat.sub_self]
      rfl
    rw [hw, e]
    exact hfin
  | n + 1, m, hm, hmo, h => by
    have hlen : (o.take m ++ h :: o.drop m).length = o.length + 1 := by simp; omega
    have hw : wrap64 ((m : Int) - 1) = ((m - 1 : Nat) : Int) := by rw [w64 (by omega) (by omega)]; omega
    refine Ev.step (fun k => rfl) ?_
    refine ev_pos (by omega) ?_
    rw [hw]
    refine ev_pos (by omega) (ev_pos (by rw [hlen]; omega) (ev_pos (by omega) (ev_pos (by rw [hlen]; omega) ?_)))
    have hr : rdOf ByteArray.empty (o.take m ++ h :: o.drop m) ((m - 1 : Nat) : Int) = o[m - 1] := by
      rw [rd_nat _ _ (by rw [hlen]; omega), List.getElem_append_left (by rw [List.length_take]; omega), List.getElem_take]
    have hd : o.drop (m - 1) = o[m - 1] :: o.drop m := by
      have := List.drop_eq_getElem_cons (l := o) (i := m - 1) (by omega)
      rwa [show m - 1 + 1 = m by omega] at this
    have ht : o.take m = o.take (m - 1) ++ [o[m - 1]] := by
      have := List.take_succ_eq_append_getElem (l := o) (i := m - 1) (by omega)
      rwa [show m - 1 + 1 = m by omega] at this
    have e : (o.take m ++ h :: o.drop m).set (m : Int).toNat o[m - 1] = o.take (m - 1) ++ o[m - 1] :: o.drop (m - 1) := by
      rw [Int.toNat_natCast, List.set_append_right _ _ (by rw [List.length_take]; omega), List.length_take, Nat.min_eq_left hmo, Nat.sub_self, hd, ht, List.append_assoc]
      rfl
    rw [hr, e]
    exact rs_shift x0 o at_ x4 r ho hat hx4 hx0 hfin n (m - 1) (by omega) (by omega) o[m - 1]
theorem rs_put (x0 : List ByteArray) (p q : List (List UInt8)) (x4 : Nat) (r : List ByteArray) (ho : (p ++ q).length ≤ 999999) (hx4 : x4 < x0.length) (hx0 : x0.length ≤ 1000000) (hq : ∀ y ∈ q.head?, ¬ y < ls x0[x4])
    (hfin : Ev (fun k => bindleref15_Sort.l0 k x0 ((p ++ ins (ls x0[x4]) q).map mk) ((x4 + 1 : Nat) : Int)) r) :
    Ev (fun k => bindleref15_Sort.j2 k x0 ((p ++ q).map mk) x4 p.length) r := by
  have hw : wrap64 ((x4 : Int) + 1) = ((x4 + 1 : Nat) : Int) := by rw [w64 (by omega) (by omega)]; omega
  have hml : ((p ++ q).map mk).length = p.length + q.length := by simp
  have hput : ins (ls x0[x4]) q = ls x0[x4] :: q → Ev (fun k => bindleref15_Sort.j3 k x0 ((p ++ q).map mk) x4 p.length false) r := fun e => by
    refine Ev.step (fun k => by rw [bindleref15_Sort.j3, if_neg (by decide), if_pos (by rw [hml]; rw [List.length_append] at ho; omega), Option.bind_some]) ?_
    have hl : (((p ++ q).map mk) ++ [(⟨#[]⟩ : ByteArray)]).length = p.length + q.length + 1 := by rw [List.length_append, hml]; rfl
    have hw2 : wrap64 (((((p ++ q).map mk) ++ [(⟨#[]⟩ : ByteArray)]).length : Int) - 1) = ((p.length + q.length : Nat) : Int) := by
      rw [hl, w64 (by omega) (by rw [List.length_append] at ho; omega)]
      omega
    rw [hw2]
    have hs := rs_shift x0 ((p ++ q).map mk) p.length x4 r (by rw [hml]; rw [List.length_append] at ho; omega) (by rw [hml]; omega) hx4 hx0 (by
      have e2 : ((p ++ q).map mk).take p.length ++ x0[x4] :: ((p ++ q).map mk).drop p.length = (p ++ ins (ls x0[x4]) q).map mk := by
        rw [e, List.map_append, List.take_left' (by simp), List.drop_left' (by simp), List.map_append, List.map_cons]
      rw [e2]
      exact hfin) q.length (p.length + q.length) rfl (by rw [hml]; omega) (⟨#[]⟩ : ByteArray)
    rw [List.take_of_length_le (by rw [hml]; omega), List.drop_of_length_le (by rw [hml]; omega)] at hs
    exact hs
  refine Ev.step (fun k => rfl) ?_
  cases q with
  | nil =>
    refine ev_neg (by rw [hml]; simp) ?_
    exact hput rfl
  | cons y t =>
    have hny := hq y rfl
    refine ev_pos (by rw [hml]; simp; omega) (ev_pos (by omega) (ev_pos (by omega) (ev_pos (by omega) ?_)))
    have hr1 : (rdOf ByteArray.empty ((p ++ y :: t).map mk) (p.length : Int)).toList = y := by
      rw [rd_mk _ _ (by simp), toList_ls]
      simp
    have hr2 : (rdOf ByteArray.empty x0 (x4 : Int)).toList = ls x0[x4] := by rw [rd_nat x0 x4 hx4, toList_ls]
    rw [hr1, hr2]
    by_cases e : y = ls x0[x4]
    · rw [show (y == ls x0[x4]) = true from beq_iff_eq.2 e]
      refine Ev.step (fun k => by rw [bindleref15_Sort.j3, if_pos rfl, hw]) ?_
      have e2 : ins (ls x0[x4]) (y :: t) = y :: t := by rw [ins, if_neg hny, if_pos e]
      rw [e2] at hfin
      exact hfin
    · rw [show (y == ls x0[x4]) = false from beq_eq_false_iff_ne.2 e]
      exact hput (by rw [ins, if_neg hny, if_neg e])
theorem rs_scan (x0 : List ByteArray) (x4 : Nat) (r : List ByteArray) (hx4 : x4 < x0.length) (hx0 : x0.length ≤ 1000000) :
    ∀ (q p : List (List UInt8)), (p ++ q).length ≤ 999999 → (∀ z ∈ p, z < ls x0[x4]) → Ev (fun k => bindleref15_Sort.l0 k x0 ((p ++ ins (ls x0[x4]) q).map mk) ((x4 + 1 : Nat) : Int)) r →
    Ev (fun k => bindleref15_Sort.l1 k x0 ((p ++ q).map mk) x4 p.length) r
  | [], p, ho, hp, hfin => by
    refine Ev.step (fun k => rfl) ?_
    refine ev_neg (by simp) ?_
    exact rs_put x0 p [] x4 r ho hx4 hx0 (fun y hy => by cases hy) hfin
  | y :: t, p, ho, hp, hfin => by
    have hml : ((p ++ y :: t).map mk).length = p.length + t.length + 1 := by simp; omega
    refine Ev.step (fun k => rfl) ?_
    refine ev_pos (by rw [hml]; omega) (ev_pos (by omega) (ev_pos (by omega) (ev_pos (by omega) ?_)))
    have hr1 : (rdOf ByteArray.empty ((p ++ y :: t).map mk) (p.length : Int)).toList = y := by
      rw [rd_mk _ _ (by simp), toList_ls]
      simp
    have hr2 : (rdOf ByteArray.empty x0 (x4 : Int)).toList = ls x0[x4] := by rw [rd_nat x0 x4 hx4, toList_ls]
    rw [hr1, hr2, Go.Proofs.bytesLess_eq]
    by_cases hl : y < ls x0[x4]
    · refine ev_pos (decide_eq_true hl) ?_
      have hw : wrap64 ((p.length : Int) + 1) = (((p ++ [y]).length : Nat) : Int) := by
        rw [List.length_append] at ho
        rw [w64 (by omega) (by omega)]
        simp
      rw [hw]
      have e1 : p ++ y :: t = (p ++ [y]) ++ t := by simp
      have e2 : p ++ ins (ls x0[x4]) (y :: t) = (p ++ [y]) ++ ins (ls x0[x4]) t := by rw [ins, if_pos hl]; simp
      rw [e1]
      rw [e2] at hfin
      exact rs_scan x0 x4 r hx4 hx0 t (p ++ [y]) (by rw [← e1]; exact ho) (fun z hz => by
        rcases List.mem_append.1 hz with h | h
        · exact hp z h
        · rw [List.mem_singleton] at h; rw [h]; exact hl) hfin
    · refine ev_neg (by rw [decide_eq_false hl]; decide) ?_
      exact rs_put x0 p (y :: t) x4 r ho hx4 hx0 (fun z hz => by cases hz; exact hl) hfin
theorem rs_all (x0 : List ByteArray) (hx0 : x0.length ≤ 500000) : ∀ (n i : Nat) (o : List (List UInt8)), i + n = x0.length → o.length ≤ i →
    Ev (fun k => bindleref15_Sort.l0 k x0 (o.map mk) i) ((insAll o ((x0.drop i).map ls)).map mk)
  | 0, i, o, hi, ho => by
    refine Ev.step (fun k => rfl) ?_
    rw [List.drop_of_length_le (by omega)]
    exact ev_neg (by omega) (Ev.now _)
  | n + 1, i, o, hi, ho => by
    refine Ev.step (fun k => rfl) ?_
    refine ev_pos (by omega) ?_
    have hd : x0.drop i = x0[i] :: x0.drop (i + 1) := List.drop_eq_getElem_cons (by omega)
    rw [hd, List.map_cons, insAll]
    have hl := ins_len (ls x0[i]) o
    exact rs_scan x0 i _ (by omega) (by omega) o [] (by simp; omega) (fun z hz => by cases hz) (rs_all x0 hx0 n (i + 1) (ins (ls x0[i]) o) (by omega) (by omega))
theorem refSort (l : List ByteArray) (hl : l.length ≤ 500000) : Ev (fun k => bindleref15_Sort.f k l) ((YtkccjohhakljnaaGreatDoorMSort.outs l).map mk) := by
  have := rs_all l hl l.length 0 [] (by omega) (Nat.le_refl _)
  rw [List.drop_zero, insAll_outs] at this
  exact this
/-- The first part behind a folder. -/
def firstB (f s : ByteArray) : ByteArray := mk ((YtkccjohhakljnaaGreatDoorMpHelp.splitL 47 (ls (restB f s))).headD [])
theorem idx_first : ∀ l : List UInt8, (Lib.indexByte l 47 = -1 ∧ (YtkccjohhakljnaaGreatDoorMpHelp.splitL 47 l).headD [] = l) ∨ (0 ≤ Lib.indexByte l 47 ∧ Lib.indexByte l 47 < l.length ∧ (YtkccjohhakljnaaGreatDoorMpHelp.splitL 47 l).headD [] = l.take (Lib.indexByte l 47).toNat)
  | [] => .inl ⟨rfl, rfl⟩
  | c :: r => by
    have ih := idx_first r
    unfold Lib.indexByte
    by_cases hc : c = 47
    · subst hc
      rw [if_pos (by simp), split_eq]
      exact .inr ⟨by omega, by simp, rfl⟩
    · rw [if_neg (by simpa using hc), split_ne hc]
      have hh : (pre [c] (YtkccjohhakljnaaGreatDoorMpHelp.splitL 47 r)).headD [] = c :: (YtkccjohhakljnaaGreatDoorMpHelp.splitL 47 r).headD [] := by
        cases h : YtkccjohhakljnaaGreatDoorMpHelp.splitL 47 r with
        | nil => exact absurd h (split_pos r)
        | cons a t => rfl
      rw [hh]
      rcases ih with ⟨h1, h2⟩ | ⟨h1, h2, h3⟩
      · rw [if_pos (by simpa using h1), h2]
        exact .inl ⟨rfl, rfl⟩
      · have hn : ¬ Lib.indexByte r 47 = -1 := by omega
        rw [if_neg (by simpa using hn), h3]
        refine .inr ⟨by omega, by simp only [List.length_cons]; omega, ?_⟩
        rw [show (Lib.indexByte r 47 + 1).toNat = (Lib.indexByte r 47).toNat + 1 by omega]
        rfl
theorem cut_first (a : ByteArray) (hs : a.size ≤ 1000000) : ∃ x, strings_Cut.f a (⟨#[47]⟩ : ByteArray) = some x ∧ x.1 = mk ((YtkccjohhakljnaaGreatDoorMpHelp.splitL 47 (ls a)).headD []) := by
  have hi : stringslite_Index.f a (⟨#[47]⟩ : ByteArray) = some (Lib.indexByte (ls a) 47) := rfl
  unfold strings_Cut.f stringslite_Cut.f
  rw [hi, Option.bind_some, show ((⟨#[47]⟩ : ByteArray).size : Int) = 1 from rfl]
  have hl := ls_len a
  rcases idx_first (ls a) with ⟨h1, h2⟩ | ⟨h1, h2, h3⟩
  · rw [h1, if_neg (by omega), h2]
    exact ⟨_, rfl, rfl⟩
  · rw [if_pos (by omega), if_pos h1, if_pos (by omega), w64 (by omega) (by omega), if_pos (by omega), if_pos (by omega), h3]
    refine ⟨_, rfl, ?_⟩
    show a.extract 0 _ = _
    rw [extract_mk, List.drop_zero, Nat.sub_zero]
theorem rest_size (f s : ByteArray) : (restB f s).size ≤ s.size := by
  unfold restB
  by_cases h : (ls f).isEmpty = true
  · rw [if_pos h]; omega
  · rw [if_neg h, mk_size, List.length_drop, ls_len]; omega
theorem prefix_iff (f s : List UInt8) : (f ++ [47]).isPrefixOf s = true ↔ f.length < s.length ∧ s.take f.length = f ∧ s[f.length]? = some 47 := by
  rw [List.isPrefixOf_iff_prefix]
  constructor
  · rintro ⟨t, rfl⟩
    refine ⟨by simp, by simp, by simp⟩
  · rintro ⟨h1, h2, h3⟩
    refine ⟨s.drop (f.length + 1), ?_⟩
    obtain ⟨h4, h5⟩ := List.getElem?_eq_some_iff.1 h3
    conv => rhs; rw [← List.take_append_drop f.length s, List.drop_eq_getElem_cons h4, h5, h2]
    simp
theorem refIn (f s : ByteArray) (hf : f.size ≤ 1000000) : Ev (fun k => bindleref15_In.f k f s) (inB (ls f) (ls s)) := by
  unfold inB
  refine ev_bind (refRight s) ?_
  cases hr : YtkccjohhakljnaaGreatDoorMpHelp.rightB (ls s) with
  | false =>
    refine ev_neg (by decide) ?_
    refine Ev.step (fun k => by rw [bindleref15_In.j0, if_pos rfl]) ?_
    exact Ev.now _
  | true =>
    refine ev_pos rfl ?_
    rw [toList_ls]
    by_cases h0 : ls f = []
    · refine ev_pos h0 ?_
      refine Ev.step (fun k => by rw [bindleref15_In.j0, if_neg (by decide), toList_ls, if_pos h0]) ?_
      rw [h0]
      exact Ev.now _
    · refine ev_neg h0 (ev_bind (refRight f) ?_)
      rw [List.isEmpty_eq_false_iff.2 h0]
      cases hrf : YtkccjohhakljnaaGreatDoorMpHelp.rightB (ls f) with
      | false =>
        refine Ev.step (fun k => by rw [bindleref15_In.j0, if_pos (by decide)]) ?_
        exact Ev.now _
      | true =>
        refine Ev.step (fun k => by rw [bindleref15_In.j0, if_neg (by decide), toList_ls, if_neg h0]) ?_
        simp only [Bool.true_and, Bool.false_or]
        have hpi := prefix_iff (ls f) (ls s)
        rw [ls_len, ls_len] at hpi
        by_cases h1 : (s.size : Int) > (f.size : Int)
        · refine ev_pos h1 (ev_pos (by omega) (ev_pos (by omega) ?_))
          rw [toList_ls, extract_ls, Int.toNat_natCast, List.drop_zero, Nat.sub_zero]
          by_cases h2 : (ls s).take f.size = ls f
          · refine ev_pos h2 (ev_pos (by omega) ?_)
            have hb := bt_nat s f.size (by omega)
            have he : (bt s (f.size : Int) == 47) = (ls f ++ [47]).isPrefixOf (ls s) := by
              rw [Bool.eq_iff_iff, hpi, beq_iff_eq, hb]
              constructor
              · intro e
                refine ⟨by omega, h2, List.getElem?_eq_some_iff.2 ⟨by rw [ls_len]; omega, UInt8.toNat_inj.1 ?_⟩⟩
                have : ((ls s)[f.size]'(by rw [ls_len]; omega)).toNat = 47 := by exact_mod_cast e
                exact this
              · rintro ⟨_, _, e⟩
                obtain ⟨_, e2⟩ := List.getElem?_eq_some_iff.1 e
                rw [e2]
                rfl
            rw [he]
            exact Ev.now _
          · have he : (ls f ++ [47]).isPrefixOf (ls s) = false := by
              rw [Bool.eq_false_iff]
              intro e
              exact h2 (hpi.1 e).2.1
            rw [he]
            exact ev_neg h2 (Ev.now _)
        · have he : (ls f ++ [47]).isPrefixOf (ls s) = false := by
            rw [Bool.eq_false_iff]
            intro e
            have := (hpi.1 e).1
            omega
          rw [he]
          exact ev_neg h1 (Ev.now _)
theorem sort_of (l : List ByteArray) (h : l.length ≤ 1000000) : member_Sort.f l = some ((YtkccjohhakljnaaGreatDoorMSort.outs l).map mk) := by
  unfold member_Sort.f
  rw [if_pos h]
def has (f : ByteArray) (s : ByteArray) : Bool := inB (ls f) (ls s)
theorem children_loop (f : ByteArray) (hf : f.size ≤ 1000000) (l : List ByteArray) (hl : l.length ≤ 1000000) (hs : ∀ e ∈ l, e.size ≤ 1000000) : ∀ n i : Nat, i + n = l.length →
    Ev (fun k => member_Children.l0 k f (((l.take i).filter (has f)).map (firstB f)) l (l.length : Int) i) ((YtkccjohhakljnaaGreatDoorMSort.outs ((l.filter (has f)).map (firstB f))).map mk)
  | 0, i, hi => by
    refine Ev.step (fun k => rfl) ?_
    refine ev_neg (by omega) ?_
    rw [List.take_of_length_le (by omega)]
    exact ev_bindc (sort_of _ (by rw [List.length_map]; exact Nat.le_trans (List.length_filter_le _ _) hl)) (Ev.now _)
  | n + 1, i, hi => by
    have hlt : i < l.length := by omega
    refine Ev.step (fun k => rfl) ?_
    have hw : wrap64 ((i : Int) + 1) = ((i + 1 : Nat) : Int) := by rw [w64 (by omega) (by omega)]; omega
    refine ev_pos (by omega) (ev_pos (by omega) (ev_pos (by omega) ?_))
    rw [rd_nat l i hlt, hw]
    have ih := children_loop f hf l hl hs n (i + 1) (by omega)
    have hlen := List.length_filter_le (has f) (l.take i)
    rw [List.length_take] at hlen
    rw [List.take_succ_eq_append_getElem hlt, List.filter_append, List.map_append] at ih
    obtain ⟨x, hb, hx⟩ := behind f l[i] hf
    refine ev_bindc hb ?_
    by_cases h : has f l[i] = true
    · rw [show [l[i]].filter (has f) = [l[i]] by simp [h]] at ih
      have hxr := hx h
      have hss := hs l[i] (List.getElem_mem hlt)
      have hrs := rest_size f l[i]
      obtain ⟨y, hc, hy⟩ := cut_first x (by rw [hxr]; omega)
      refine ev_pos h (ev_bindc hc (ev_pos (by rw [List.length_map]; omega) ?_))
      rw [hy, hxr]
      exact ih
    · rw [show [l[i]].filter (has f) = [] by simp [h], List.map_nil, List.append_nil] at ih
      exact ev_neg h ih
/-- A file's name. -/
abbrev nm (x : S49) : List UInt8 := ls x.f0
/-- Files that are a map. -/
def Asc (l : List S49) : Prop := (l.map nm).Pairwise (· < ·)
theorem rdF (l : List S49) (i : Nat) (h : i < l.length) : rd_T49 l (i : Int) = l[i] := by
  simp [rd_T49, h]
/-- What a map has for a name. -/
def look (l : List S49) (s : List UInt8) : Option S49 := l.find? fun y => nm y == s
theorem look_nm {l : List S49} {s : List UInt8} {y : S49} (h : look l s = some y) : nm y = s ∧ y ∈ l := ⟨by
  have := List.find?_some h
  simpa using this, List.mem_of_find?_eq_some h⟩
theorem look_none {l : List S49} {s : List UInt8} (h : ∀ y ∈ l, nm y ≠ s) : look l s = none := by
  unfold look
  rw [List.find?_eq_none]
  intro y hy
  simpa using h y hy
theorem wadd (i : Nat) (h : i ≤ 9000000000000000000) : wrap64 ((i : Int) + 1) = ((i + 1 : Nat) : Int) := by rw [w64 (by omega) (by omega)]; omega
theorem find_loop (l : List S49) (s : ByteArray) (hs : l.length ≤ 9000000) : ∀ n i : Nat, i + n = l.length → ∃ r : Int, Ev (fun k => bindleref25_Find.l0 k l s i) r ∧ ((r = -1 ∧ look (l.drop i) (ls s) = none) ∨ ∃ (j : Nat) (h : j < l.length), r = (j : Int) ∧ look (l.drop i) (ls s) = some l[j])
  | 0, i, hi => by
    refine ⟨-1, Ev.step (fun k => rfl) (ev_neg (by omega) (Ev.now _)), .inl ⟨rfl, ?_⟩⟩
    rw [List.drop_of_length_le (by omega)]
    rfl
  | n + 1, i, hi => by
    have dl : l.drop i = l[i] :: l.drop (i + 1) := List.drop_eq_getElem_cons (by omega)
    by_cases h : nm l[i] = ls s
    · refine ⟨(i : Int), Ev.step (fun k => rfl) (ev_pos (by omega) (ev_pos (by omega) ?_)), .inr ⟨i, by omega, rfl, ?_⟩⟩
      · rw [rdF l i (by omega)]
        exact ev_pos (by rw [toList_ls, toList_ls]; exact h) (Ev.now _)
      · rw [dl]
        unfold look
        rw [List.find?_cons_of_pos (by simpa using h)]
    · obtain ⟨r, h1, h2⟩ := find_loop l s hs n (i + 1) (by omega)
      refine ⟨r, Ev.step (fun k => rfl) (ev_pos (by omega) (ev_pos (by omega) ?_)), ?_⟩
      · rw [rdF l i (by omega), wadd i (by omega)]
        exact ev_neg (by rw [toList_ls, toList_ls]; exact h) h1
      · have e : look (l.drop i) (ls s) = look (l.drop (i + 1)) (ls s) := by
          rw [dl]
          unfold look
          rw [List.find?_cons_of_neg (by simpa using h)]
        rw [e]
        exact h2
theorem find_ev (l : List S49) (s : ByteArray) (hs : l.length ≤ 9000000) : ∃ r : Int, Ev (fun k => bindleref25_Find.f k l s) r ∧ ((r = -1 ∧ look l (ls s) = none) ∨ ∃ (j : Nat) (h : j < l.length), r = (j : Int) ∧ look l (ls s) = some l[j]) := by
  have := find_loop l s hs l.length 0 (by omega)
  rwa [List.drop_zero] at this
theorem place_look (s : ByteArray) : ∀ l : List S49, Asc l → look l (ls s) = match l[model_place.less l s]? with | some y => if (y.f0.data.toList == s.data.toList) = true then some y else none | none => none
  | [], _ => rfl
  | y :: r, h => by
    obtain ⟨h1, h2⟩ := List.pairwise_cons.1 (show (nm y :: r.map nm).Pairwise (· < ·) from h)
    have ih := place_look s r h2
    by_cases hl : nm y < ls s
    · have e1 : model_place.less (y :: r) s = model_place.less r s + 1 := by unfold model_place.less; rw [List.countP_cons_of_pos (by simpa using hl)]
      rw [e1, List.getElem?_cons_succ, ← ih]
      unfold look
      rw [List.find?_cons_of_neg (by simpa using fun e : nm y = ls s => str_irrefl _ (by rw [e] at hl; exact hl))]
    · have e0 : model_place.less r s = 0 := by
        unfold model_place.less
        rw [List.countP_eq_zero]
        intro z hz
        have := h1 (nm z) (List.mem_map_of_mem hz)
        simp only [decide_eq_true_eq]
        exact fun hzs => hl (str_trans this hzs)
      have e1 : model_place.less (y :: r) s = 0 := by
        unfold model_place.less at e0 ⊢
        rw [List.countP_cons_of_neg (by simpa using hl)]
        exact e0
      rw [e1, List.getElem?_cons_zero]
      dsimp only
      by_cases e : nm y = ls s
      · have e2 : (y.f0.data.toList == s.data.toList) = true := by simpa using e
        rw [if_pos e2]
        unfold look
        rw [List.find?_cons_of_pos (by simpa using e)]
      · have e2 : ¬ (y.f0.data.toList == s.data.toList) = true := by simpa using e
        rw [if_neg e2]
        refine look_none fun z hz => ?_
        rcases List.mem_cons.1 hz with rfl | hz
        · exact e
        · intro ez
          have := h1 (nm z) (List.mem_map_of_mem hz)
          rw [ez] at this
          exact hl this
theorem map_loop (l : List S49) (hs : l.length ≤ 9000000) : ∀ n i : Nat, 1 ≤ i → i + n = l.length → ∃ m : Bool, Ev (fun k => bindleref25_Map.l0 k l i) m ∧ (m = true → ((l.drop (i - 1)).map nm).Pairwise (· < ·)) ∧ (m = false → ¬ ((l.drop (i - 1)).map nm).Pairwise (· < ·))
  | 0, i, h1, hi => by
    refine ⟨true, Ev.step (fun k => by unfold bindleref25_Map.l0; exact rfl) (ev_neg (by omega) (Ev.now _)), fun _ => ?_, fun h => by cases h⟩
    rw [List.drop_eq_getElem_cons (by omega), List.drop_of_length_le (by omega)]
    simp
  | n + 1, i, h1, hi => by
    have dl : l.drop (i - 1) = l[i - 1] :: l.drop i := by
      have := List.drop_eq_getElem_cons (l := l) (i := i - 1) (by omega)
      rwa [show i - 1 + 1 = i by omega] at this
    have dl2 : l.drop i = l[i] :: l.drop (i + 1) := List.drop_eq_getElem_cons (by omega)
    obtain ⟨m, e1, e2, e3⟩ := map_loop l hs n (i + 1) (by omega) (by omega)
    rw [show i + 1 - 1 = i by omega] at e2 e3
    have hw : wrap64 ((i : Int) - 1) = ((i - 1 : Nat) : Int) := by rw [w64 (by omega) (by omega)]; omega
    by_cases hlt : nm l[i - 1] < nm l[i]
    · refine ⟨m, Ev.step (fun k => by unfold bindleref25_Map.l0; exact rfl) (ev_pos (by omega) ?_), fun h => ?_, fun h hp => e3 h ?_⟩
      · rw [hw]
        refine ev_pos (by omega) (ev_pos (by omega) (ev_pos (by omega) ?_))
        rw [rdF l i (by omega), rdF l (i - 1) (by omega), wadd i (by omega)]
        exact ev_pos (by rw [toList_ls, toList_ls, Go.Proofs.bytesLess_eq]; exact decide_eq_true hlt) e1
      · have hp := e2 h
        rw [dl, List.map_cons]
        refine List.pairwise_cons.2 ⟨fun z hz => ?_, hp⟩
        rw [dl2, List.map_cons] at hz hp
        rcases List.mem_cons.1 hz with rfl | hz
        · exact hlt
        · exact str_trans hlt ((List.pairwise_cons.1 hp).1 z hz)
      · rw [dl, List.map_cons] at hp
        exact (List.pairwise_cons.1 hp).2
    · refine ⟨false, Ev.step (fun k => by unfold bindleref25_Map.l0; exact rfl) (ev_pos (by omega) ?_), (fun h => by cases h), fun _ hp => ?_⟩
      · rw [hw]
        refine ev_pos (by omega) (ev_pos (by omega) (ev_pos (by omega) ?_))
        rw [rdF l i (by omega), rdF l (i - 1) (by omega)]
        exact ev_neg (by rw [toList_ls, toList_ls, Go.Proofs.bytesLess_eq]; simpa using hlt) (Ev.now _)
      · rw [dl, List.map_cons] at hp
        exact hlt ((List.pairwise_cons.1 hp).1 _ (by rw [dl2, List.map_cons]; exact List.mem_cons_self))
theorem map_ev (l : List S49) (hs : l.length ≤ 9000000) : ∃ m : Bool, Ev (fun k => bindleref25_Map.f k l) m ∧ (m = true ↔ Asc l) := by
  cases l with
  | nil => exact ⟨true, Ev.congr (fun k => by unfold bindleref25_Map.f; exact rfl) (Ev.step (fun k => by unfold bindleref25_Map.l0; exact rfl) (ev_neg (by simp) (Ev.now _))), fun _ => List.Pairwise.nil, fun _ => rfl⟩
  | cons y r =>
    obtain ⟨m, e1, e2, e3⟩ := map_loop (y :: r) hs r.length 1 (by omega) (by simp; omega)
    refine ⟨m, e1, e2, fun h => ?_⟩
    cases hm : m with
    | true => rfl
    | false => exact absurd h (e3 hm)
/-! ### The tree's totals, names, nodes -/
theorem findM (l : List S49) (s : ByteArray) (h : Asc l) (hl : l.length ≤ 1000000) (hd : ∀ y ∈ l, y.f1.length ≤ 140737488351232) : model_Find.f l s = some (match look l (ls s) with | some y => (y.f1, true) | none => ([], false)) := by
  have hp : (l.map (·.f0.data.toList)).Pairwise (· ≤ ·) := h.imp fun hx => str_lt_le hx
  have e1 : model_place.f l s = some (((model_place.less l s : Nat) : Int), match l[model_place.less l s]? with | some y => y.f0.data.toList == s.data.toList | none => false) := by
    unfold model_place.f
    rw [if_pos ⟨hl, hp⟩]
    rfl
  unfold model_Find.f
  rw [e1, place_look s l h, Option.bind_some]
  cases hy : l[model_place.less l s]? with
  | none => rfl
  | some y =>
    obtain ⟨hj, hy2⟩ := List.getElem?_eq_some_iff.1 hy
    dsimp only
    by_cases e : (y.f0.data.toList == s.data.toList) = true
    · rw [if_pos e, if_pos e, if_pos (by omega), if_pos (by omega), rdF l _ hj, hy2]
      have hm : y ∈ l := by rw [← hy2]; exact List.getElem_mem hj
      have e3 : slices_Clone_byte_byte.f y.f1 = some y.f1 := by
        unfold slices_Clone_byte_byte.f
        rw [if_pos (by have := hd y hm; omega)]
      rw [e3]
      rfl
    · rw [if_neg e, if_neg e]
def szL (l : List S49) (fd : ByteArray) : List Int := (l.filter fun x => has fd x.f0).map fun x => (x.f1.length : Int)
def cntZ (l : List Int) : Int := l.foldl (fun s _ => wrap64 (s + 1)) 0
def sumZ (l : List Int) : Int := l.foldl (fun s n => wrap64 (s + n)) 0
def totS (l : List S49) (fd : ByteArray) : Int × Int := (cntZ (szL l fd), sumZ (szL l fd))
theorem total_eq (l : List S49) (fd : ByteArray) (hl : l.length ≤ 1000000) (hf : fd.size ≤ 1000000) : tree_Total.f l fd = some (totS l fd) := by
  have e : tree_Total.szs l fd = szL l fd := by
    unfold tree_Total.szs szL
    congr 1
    refine List.filter_congr fun x _ => ?_
    unfold tree_Total.inB
    rw [in_of fd x.f0 hf]
    rfl
  unfold tree_Total.f
  rw [if_pos ⟨hl, fun x _ => by rw [in_of fd x.f0 hf]; rfl⟩, e]
  rfl
theorem refTotal_loop (l : List S49) (fd : ByteArray) (hl : l.length ≤ 1000000) (hf : fd.size ≤ 1000000) : ∀ n i : Nat, i + n = l.length →
    Ev (fun k => bindleref39_Total.l0 k l fd (cntZ (szL (l.take i) fd)) (sumZ (szL (l.take i) fd)) i) (totS l fd)
  | 0, i, hi => by
    refine Ev.step (fun k => by unfold bindleref39_Total.l0; exact rfl) (ev_neg (by omega) ?_)
    rw [List.take_of_length_le (by omega)]
    exact Ev.now _
  | n + 1, i, hi => by
    have hlt : i < l.length := by omega
    have ih := refTotal_loop l fd hl hf n (i + 1) (by omega)
    refine Ev.step (fun k => by unfold bindleref39_Total.l0; exact rfl) (ev_pos (by omega) (ev_pos (by omega) ?_))
    rw [rdF l i hlt]
    refine ev_bind (refIn fd l[i].f0 hf) ?_
    have ht : szL (l.take (i + 1)) fd = szL (l.take i) fd ++ (if has fd l[i].f0 = true then [(l[i].f1.length : Int)] else []) := by
      unfold szL
      rw [List.take_succ_eq_append_getElem hlt, List.filter_append, List.map_append]
      by_cases h : has fd l[i].f0 = true
      · rw [if_pos h, show [l[i]].filter (fun x => has fd x.f0) = [l[i]] by simp [h]]
        rfl
      · rw [if_neg h, show [l[i]].filter (fun x => has fd x.f0) = [] by simp [h]]
        rfl
    rw [ht] at ih
    by_cases h : has fd l[i].f0 = true
    · rw [if_pos h] at ih
      refine ev_pos h ?_
      rw [wadd i (by omega)]
      have e1 : cntZ (szL (l.take i) fd ++ [(l[i].f1.length : Int)]) = wrap64 (cntZ (szL (l.take i) fd) + 1) := by simp [cntZ]
      have e2 : sumZ (szL (l.take i) fd ++ [(l[i].f1.length : Int)]) = wrap64 (sumZ (szL (l.take i) fd) + (l[i].f1.length : Int)) := by simp [sumZ]
      rw [e1, e2] at ih
      exact ih
    · rw [if_neg h, List.append_nil] at ih
      refine ev_neg h ?_
      rw [wadd i (by omega)]
      exact ih
theorem refTotal (l : List S49) (fd : ByteArray) (hl : l.length ≤ 1000000) (hf : fd.size ≤ 1000000) : Ev (fun k => bindleref39_Total.f k l fd) (totS l fd) := refTotal_loop l fd hl hf l.length 0 (by omega)
theorem names_loop (l : List S49) (hl : l.length ≤ 1000000) : ∀ n i : Nat, i + n = l.length → Ev (fun k => tree_names.l0 k ((l.take i).map (·.f0)) l (l.length : Int) i) (l.map (·.f0))
  | 0, i, hi => by
    refine Ev.step (fun k => by unfold tree_names.l0; exact rfl) (ev_neg (by omega) ?_)
    rw [List.take_of_length_le (by omega)]
    exact Ev.now _
  | n + 1, i, hi => by
    have hlt : i < l.length := by omega
    have ih := names_loop l hl n (i + 1) (by omega)
    refine Ev.step (fun k => by unfold tree_names.l0; exact rfl) (ev_pos (by omega) (ev_pos (by omega) (ev_pos (by omega) (ev_pos (by rw [List.length_map, List.length_take]; omega) ?_))))
    rw [rdF l i hlt, wadd i (by omega)]
    rw [List.take_succ_eq_append_getElem hlt, List.map_append] at ih
    exact ih
def pathS (fd c : ByteArray) : ByteArray := if ls fd = [] then c else fd ++ (⟨#[47]⟩ : ByteArray) ++ c
theorem path_eq (fd c : ByteArray) (hf : fd.size ≤ 1000000) (hc : c.size ≤ 1000000) : tree_Path.f fd c = some (pathS fd c) := by
  unfold tree_Path.f pathS
  rw [toList_ls]
  split
  · rfl
  · rw [if_pos (by omega), if_pos (by rw [ByteArray.size_append, show (⟨#[47]⟩ : ByteArray).size = 1 from rfl]; omega)]
theorem path_size (fd c : ByteArray) : (pathS fd c).size ≤ fd.size + 1 + c.size := by
  unfold pathS
  split
  · omega
  · rw [ByteArray.size_append, ByteArray.size_append, show (⟨#[47]⟩ : ByteArray).size = 1 from rfl]; omega
def nodeS (l : List S49) (fd c : ByteArray) : S34 :=
  match look l (ls (pathS fd c)) with
  | some y => ⟨c, wrap64 ((totS l (pathS fd c)).1 + 1), wrap64 ((totS l (pathS fd c)).2 + (y.f1.length : Int)), decide ((totS l (pathS fd c)).1 > 0)⟩
  | none => ⟨c, (totS l (pathS fd c)).1, (totS l (pathS fd c)).2, decide ((totS l (pathS fd c)).1 > 0)⟩
/-- What is known of the files. -/
def okL (l : List S49) : Prop := l.length ≤ 60 ∧ Asc l ∧ (∀ y ∈ l, y.f1.length ≤ 70000) ∧ ∀ y ∈ l, y.f0.size ≤ 64
theorem node_eq (l : List S49) (fd c : ByteArray) (h : okL l) (hf : fd.size ≤ 10000) (hc : c.size ≤ 10000) : tree_node.f l fd c = some ((nodeS l fd c).f0, (nodeS l fd c).f1, (nodeS l fd c).f2, (nodeS l fd c).f3) := by
  obtain ⟨h1, h2, h3, h4⟩ := h
  have hp := path_size fd c
  unfold tree_node.f nodeS
  rw [path_eq fd c (by omega) (by omega), Option.bind_some, total_eq l _ (by omega) (by omega), Option.bind_some, findM l _ h2 (by omega) (fun y hy => by have := h3 y hy; omega), Option.bind_some]
  cases look l (ls (pathS fd c)) with
  | none => rfl
  | some y => rfl
def kidsS (l : List S49) (fd : ByteArray) : List ByteArray := (YtkccjohhakljnaaGreatDoorMSort.outs (((l.map (·.f0)).filter (has fd)).map (firstB fd))).map mk
theorem kids_len (l : List S49) (fd : ByteArray) (h : okL l) : (kidsS l fd).length ≤ 60 := by
  unfold kidsS
  rw [List.length_map]
  refine Nat.le_trans (YtkccjohhakljnaaGreatDoorMSort.outs_len _) ?_
  rw [List.length_map]
  refine Nat.le_trans (List.length_filter_le _ _) ?_
  rw [List.length_map]
  exact h.1
theorem kids_size (l : List S49) (fd : ByteArray) (h : okL l) : ∀ c ∈ kidsS l fd, c.size ≤ 64 := by
  intro c hc
  unfold kidsS at hc
  obtain ⟨x, hx, rfl⟩ := List.mem_map.1 hc
  obtain ⟨y, hy, rfl⟩ := List.mem_map.1 (((outs_spec _).2 x).1 hx)
  obtain ⟨z, hz, rfl⟩ := List.mem_map.1 hy
  obtain ⟨q, hq, rfl⟩ := List.mem_map.1 (List.mem_filter.1 hz).1
  have h1 := h.2.2.2 q hq
  have h2 := rest_size fd q.f0
  have h3 : (firstB fd q.f0).size ≤ (restB fd q.f0).size := by
    unfold firstB
    rw [mk_size, ← ls_len]
    cases hs : YtkccjohhakljnaaGreatDoorMpHelp.splitL 47 (ls (restB fd q.f0)) with
    | nil => exact Nat.zero_le _
    | cons a t => exact split_part (ls (restB fd q.f0)) a (by rw [hs]; exact List.mem_cons_self)
  show (firstB fd q.f0).size ≤ 64
  omega
theorem list_loop (l : List S49) (fd : ByteArray) (h : okL l) (hf : fd.size ≤ 10000) (K : List ByteArray) (hK : K.length ≤ 60) (hs : ∀ c ∈ K, c.size ≤ 64) : ∀ n i : Nat, i + n = K.length →
    Ev (fun k => tree_List.l0 k l fd ((K.take i).map (nodeS l fd)) K (K.length : Int) i) (K.map (nodeS l fd))
  | 0, i, hi => by
    refine Ev.step (fun k => by unfold tree_List.l0; exact rfl) (ev_neg (by omega) ?_)
    rw [List.take_of_length_le (by omega)]
    exact Ev.now _
  | n + 1, i, hi => by
    have hlt : i < K.length := by omega
    have ih := list_loop l fd h hf K hK hs n (i + 1) (by omega)
    have hc := hs _ (List.getElem_mem hlt)
    refine Ev.step (fun k => by unfold tree_List.l0; exact rfl) (ev_pos (by omega) (ev_pos (by omega) (ev_pos (by omega) ?_)))
    rw [rd_nat K i hlt]
    refine ev_bindc (node_eq l fd K[i] h hf (by omega)) (ev_pos (by rw [List.length_map, List.length_take]; omega) ?_)
    rw [wadd i (by omega)]
    rw [List.take_succ_eq_append_getElem hlt, List.map_append] at ih
    exact ih
theorem list_ev (l : List S49) (fd : ByteArray) (h : okL l) (hf : fd.size ≤ 10000) : Ev (fun k => tree_List.f k l fd) ((kidsS l fd).map (nodeS l fd)) := by
  have h1 := h.1
  have hch := children_loop fd (by omega) (l.map (·.f0)) (by rw [List.length_map]; omega) (fun e he => by
    obtain ⟨y, hy, rfl⟩ := List.mem_map.1 he
    have := h.2.2.2 y hy
    omega) (l.map (·.f0)).length 0 (by omega)
  unfold tree_List.f
  refine ev_bind (names_loop l (by omega) l.length 0 (by omega)) (ev_bind (show Ev (fun k => member_Children.f k (l.map (·.f0)) fd) (kidsS l fd) from hch) ?_)
  exact list_loop l fd h hf (kidsS l fd) (kids_len l fd h) (kids_size l fd h) (kidsS l fd).length 0 (by omega)
/-! ### The example -/
def exL : List S49 := [⟨(⟨#[97, 47, 98]⟩ : ByteArray), [120]⟩, ⟨(⟨#[97, 47, 99, 47, 100]⟩ : ByteArray), [120, 121]⟩]
theorem outs_of (l : List ByteArray) (h : (YtkccjohhakljnaaGreatDoorMSort.texts l).Pairwise fun x y => decide (x ≤ y) = true) : YtkccjohhakljnaaGreatDoorMSort.outs l = Lib.compact (YtkccjohhakljnaaGreatDoorMSort.texts l) := by
  unfold YtkccjohhakljnaaGreatDoorMSort.outs YtkccjohhakljnaaGreatDoorMSort.sorted
  rw [List.mergeSort_of_pairwise h]
theorem exL_ok : okL exL := by
  refine ⟨by decide, ?_, by decide, by decide⟩
  unfold Asc
  decide
theorem kids0 : kidsS exL ⟨#[]⟩ = [⟨#[97]⟩] := by
  have e : ((exL.map (·.f0)).filter (has ⟨#[]⟩)).map (firstB ⟨#[]⟩) = [⟨#[97]⟩, ⟨#[97]⟩] := by decide +kernel
  unfold kidsS
  rw [e, outs_of _ (by decide)]
  decide +kernel
theorem kids1 : kidsS exL ⟨#[97]⟩ = [⟨#[98]⟩, ⟨#[99]⟩] := by
  have e : ((exL.map (·.f0)).filter (has ⟨#[97]⟩)).map (firstB ⟨#[97]⟩) = [⟨#[98]⟩, ⟨#[99]⟩] := by decide +kernel
  unfold kidsS
  rw [e, outs_of _ (by decide)]
  decide +kernel
theorem kids2 : kidsS exL ⟨#[97, 47, 99]⟩ = [⟨#[100]⟩] := by
  have e : ((exL.map (·.f0)).filter (has ⟨#[97, 47, 99]⟩)).map (firstB ⟨#[97, 47, 99]⟩) = [⟨#[100]⟩] := by decide +kernel
  unfold kidsS
  rw [e, outs_of _ (by decide)]
  decide +kernel
abbrev nvA : YtkccjohhakljnaaGreatDoorTree.NV := (⟨#[97]⟩, 2, 3, true)
abbrev nvB : YtkccjohhakljnaaGreatDoorTree.NV := (⟨#[98]⟩, 1, 1, false)
abbrev nvC : YtkccjohhakljnaaGreatDoorTree.NV := (⟨#[99]⟩, 1, 2, true)
abbrev nvD : YtkccjohhakljnaaGreatDoorTree.NV := (⟨#[100]⟩, 1, 2, false)
abbrev exOut : List YtkccjohhakljnaaGreatDoorTree.PN := [(⟨#[97]⟩, nvA), (⟨#[97, 47, 98]⟩, nvB), (⟨#[97, 47, 99]⟩, nvC), (⟨#[97, 47, 99, 47, 100]⟩, nvD)]
theorem exWalk (L : ByteArray → Option (List YtkccjohhakljnaaGreatDoorTree.NV)) (h0 : L ⟨#[]⟩ = some [nvA]) (h1 : L ⟨#[97]⟩ = some [nvB, nvC]) (h2 : L ⟨#[97, 47, 99]⟩ = some [nvD]) (j : Nat) : YtkccjohhakljnaaGreatDoorTree.walkF L tree_Path.f (j + 3) ⟨#[]⟩ = some exOut := by
  have p0 : tree_Path.f ⟨#[]⟩ ⟨#[97]⟩ = some ⟨#[97]⟩ := by decide +kernel
  have p1 : tree_Path.f ⟨#[97]⟩ ⟨#[98]⟩ = some ⟨#[97, 47, 98]⟩ := by decide +kernel
  have p2 : tree_Path.f ⟨#[97]⟩ ⟨#[99]⟩ = some ⟨#[97, 47, 99]⟩ := by decide +kernel
  have p3 : tree_Path.f ⟨#[97, 47, 99]⟩ ⟨#[100]⟩ = some ⟨#[97, 47, 99, 47, 100]⟩ := by decide +kernel
  simp [YtkccjohhakljnaaGreatDoorTree.walkF, YtkccjohhakljnaaGreatDoorTree.goF, h0, h1, h2, p0, p1, p2, p3]
theorem lives_ev : Ev (fun k => bindlelaw39_lives.f k) true := by
  have hl : ∀ (fd : ByteArray) (ns : List YtkccjohhakljnaaGreatDoorTree.NV), fd.size ≤ 10000 → ((kidsS exL fd).map (nodeS exL fd)).map tree_Text.nv = ns → ns.length ≤ 1000000 → ∃ K, ∀ k, K ≤ k → tree_Text.listF k exL fd = some ns := by
    intro fd ns hf he hn
    obtain ⟨K, hK⟩ := list_ev exL fd exL_ok hf
    refine ⟨K, fun k hk => ?_⟩
    unfold tree_Text.listF
    rw [show tree_List.f k exL fd = _ from hK k hk, Option.bind_some, if_pos (by rw [← he, List.length_map] at hn; exact hn), he]
  obtain ⟨K0, g0⟩ := hl ⟨#[]⟩ [nvA] (by decide) (by rw [kids0]; decide +kernel) (by decide)
  obtain ⟨K1, g1⟩ := hl ⟨#[97]⟩ [nvB, nvC] (by decide) (by rw [kids1]; decide +kernel) (by decide)
  obtain ⟨K2, g2⟩ := hl ⟨#[97, 47, 99]⟩ [nvD] (by decide) (by rw [kids2]; decide +kernel) (by decide)
  refine ⟨K0 + K1 + K2 + 3, fun k hk => ?_⟩
  obtain ⟨j, rfl⟩ : ∃ j, k = j + 3 := ⟨k - 3, by omega⟩
  have ht : tree_Text.f (j + 3) exL ⟨#[]⟩ = some ⟨(YtkccjohhakljnaaGreatDoorTree.textU (tree_Text.dF ⟨#[]⟩) tree_Text.iF exOut).toArray⟩ := by
    unfold tree_Text.f
    rw [exWalk _ (g0 _ (by omega)) (g1 _ (by omega)) (g2 _ (by omega)) j, Option.bind_some, if_pos ⟨by decide, by decide +kernel⟩]
  unfold bindlelaw39_lives.f
  show (bindlelaw39_example.f.bind fun t => (tree_Text.f (j + 3) t ⟨#[]⟩).bind fun t188 => _) = some true
  rw [show bindlelaw39_example.f = some exL from rfl, Option.bind_some, ht]
  decide +kernel
/-! ### The document's nodes -/
def nodeR (l : List S49) (fd : ByteArray) (d : Int) (c : ByteArray) : S36 := ⟨(nodeS l fd c).f0, (nodeS l fd c).f1, (nodeS l fd c).f2, (nodeS l fd c).f3, pathS fd c, d⟩
theorem refNode (l : List S49) (fd : ByteArray) (d : Int) (h : okL l) (hf : fd.size ≤ 10000) (K : List ByteArray) (out : List S36) (ho : out.length ≤ 60) (i : Int) (c : ByteArray) (hc : c.size ≤ 64) (res : List S36) (hres : Ev (fun k => bindleref39_List.l1 k l fd d K (out ++ [nodeR l fd d c]) (wrap64 (i + 1))) res) :
    Ev (fun k => bindleref39_List.j3 k l fd d K out i c 0 0 false (pathS fd c) d) res := by
  obtain ⟨h1, h2, h3, h4⟩ := h
  have hp := path_size fd c
  obtain ⟨r, hr, hcase⟩ := find_ev l (pathS fd c) (by omega)
  refine Ev.step (fun k => by unfold bindleref39_List.j3; exact rfl) (ev_bind (refTotal l (pathS fd c) (by omega) (by omega)) (ev_bind hr ?_))
  rcases hcase with ⟨rfl, hn⟩ | ⟨j, hj, rfl, hl⟩
  · refine ev_neg (by omega) (ev_pos (by omega) ?_)
    unfold nodeR nodeS at hres
    rw [hn] at hres
    exact hres
  · refine ev_pos (by omega) (ev_pos (by omega) (ev_pos (by omega) (ev_pos (by omega) ?_)))
    rw [rdF l j hj]
    unfold nodeR nodeS at hres
    rw [hl] at hres
    exact hres
theorem refNodes (l : List S49) (fd : ByteArray) (d : Int) (h : okL l) (hf : fd.size ≤ 10000) (K : List ByteArray) (hK : K.length ≤ 60) (hs : ∀ c ∈ K, c.size ≤ 64) : ∀ n i : Nat, i + n = K.length →
    Ev (fun k => bindleref39_List.l1 k l fd d K ((K.take i).map (nodeR l fd d)) i) (K.map (nodeR l fd d))
  | 0, i, hi => by
    refine Ev.step (fun k => by unfold bindleref39_List.l1; exact rfl) (ev_neg (by omega) ?_)
    rw [List.take_of_length_le (by omega)]
    exact Ev.now _
  | n + 1, i, hi => by
    have hlt : i < K.length := by omega
    have ih := refNodes l fd d h hf K hK hs n (i + 1) (by omega)
    have hc := hs _ (List.getElem_mem hlt)
    rw [List.take_succ_eq_append_getElem hlt, List.map_append, ← wadd i (by omega)] at ih
    have hn := refNode l fd d h hf K ((K.take i).map (nodeR l fd d)) (by rw [List.length_map, List.length_take]; omega) i K[i] hc _ ih
    refine Ev.step (fun k => by unfold bindleref39_List.l1; exact rfl) (ev_pos (by omega) (ev_pos (by omega) ?_))
    rw [rd_nat K i hlt, toList_ls]
    by_cases h0 : ls fd = []
    · have hpe : pathS fd K[i] = K[i] := by unfold pathS; rw [if_pos h0]
      rw [hpe] at hn
      exact ev_pos h0 hn
    · have hpe : pathS fd K[i] = fd ++ (⟨#[47]⟩ : ByteArray) ++ K[i] := by unfold pathS; rw [if_neg h0]
      rw [hpe] at hn
      exact ev_neg h0 (ev_pos (by omega) (ev_pos (by rw [ByteArray.size_append, show (⟨#[47]⟩ : ByteArray).size = 1 from rfl]; omega) hn))
theorem refParts_loop2 (l : List S49) (fd : ByteArray) (d frm : Int) (h : okL l) (hf : fd.size ≤ 10000) (hfrm : frm = if ls fd = [] then 0 else ((fd.size + 1 : Nat) : Int)) (res : List S36)
    (hfin : Ev (fun k => (bindleref15_Sort.f k (((l.map (·.f0)).filter (has fd)).map (firstB fd))).bind fun t => bindleref39_List.l1 k l fd d t [] 0) res) : ∀ n i : Nat, i + n = l.length →
    Ev (fun k => bindleref39_List.l0 k l fd d ((((l.take i).map (·.f0)).filter (has fd)).map (firstB fd)) frm i) res
  | 0, i, hi => by
    refine Ev.step (fun k => by unfold bindleref39_List.l0; exact rfl) (ev_neg (by omega) ?_)
    rw [List.take_of_length_le (by omega)]
    exact hfin
  | n + 1, i, hi => by
    have hlt : i < l.length := by omega
    have ih := refParts_loop2 l fd d frm h hf hfrm res hfin n (i + 1) (by omega)
    have hns := h.2.2.2 _ (List.getElem_mem hlt)
    have hll := h.1
    have hlen := List.length_filter_le (has fd) ((l.take i).map (·.f0))
    rw [List.length_map, List.length_take] at hlen
    rw [List.take_succ_eq_append_getElem hlt, List.map_append, List.filter_append, List.map_append] at ih
    refine Ev.step (fun k => by unfold bindleref39_List.l0; exact rfl) (ev_pos (by omega) (ev_pos (by omega) ?_))
    rw [rdF l i hlt]
    refine ev_bind (refIn fd l[i].f0 (by omega)) ?_
    rw [wadd i (by omega)]
    by_cases hh : has fd l[i].f0 = true
    · rw [show ([l[i]].map (·.f0)).filter (has fd) = [l[i].f0] by simp [hh]] at ih
      have hb0 : ∀ z : ByteArray, 0 < ((partsB z).length : Int) := fun z => by
        have := List.length_pos_iff.2 (split_pos (ls z))
        unfold partsB
        rw [List.length_map]
        omega
      have hb1 : ∀ z : ByteArray, rdOf ByteArray.empty (partsB z) 0 = mk ((YtkccjohhakljnaaGreatDoorMpHelp.splitL 47 (ls z)).headD []) := fun z => by
        unfold partsB
        cases h : YtkccjohhakljnaaGreatDoorMpHelp.splitL 47 (ls z) with
        | nil => exact absurd h (split_pos _)
        | cons a t => rfl
      have hfr : 0 ≤ frm ∧ frm ≤ (l[i].f0.size : Int) ∧ l[i].f0.extract frm.toNat l[i].f0.size = restB fd l[i].f0 := by
        by_cases h0 : ls fd = []
        · rw [hfrm, if_pos h0]
          refine ⟨by omega, by omega, ?_⟩
          unfold restB
          rw [if_pos (by rw [h0]; rfl), extract_mk]
          show mk (((ls l[i].f0).drop 0).take _) = _
          rw [List.drop_zero, List.take_of_length_le (by rw [ls_len]; omega)]
        · have hie : (ls fd).isEmpty = false := List.isEmpty_eq_false_iff.2 h0
          have hpre : (ls fd ++ [47]).isPrefixOf (ls l[i].f0) = true := by
            have h2 : inB (ls fd) (ls l[i].f0) = true := hh
            unfold inB at h2
            rw [hie, Bool.false_or, Bool.and_eq_true, Bool.and_eq_true] at h2
            exact h2.2.2
          have hlt2 := ((prefix_iff _ _).1 hpre).1
          rw [ls_len, ls_len] at hlt2
          rw [hfrm, if_neg h0]
          refine ⟨by omega, by omega, ?_⟩
          unfold restB
          rw [if_neg (by rw [hie]; decide), Int.toNat_natCast, extract_mk, List.take_of_length_le (by rw [List.length_drop, ls_len]; omega)]
      have hrs := rest_size fd l[i].f0
      refine ev_pos hh (ev_pos hfr.1 (ev_pos hfr.2.1 ?_))
      rw [hfr.2.2]
      refine ev_bind (refParts (restB fd l[i].f0) (by omega)) (ev_pos (hb0 _) (ev_pos (by rw [List.length_map]; omega) ?_))
      rw [hb1]
      exact ih
    · rw [show ([l[i]].map (·.f0)).filter (has fd) = [] by simp [hh], List.map_nil, List.append_nil] at ih
      exact ev_neg hh ih
theorem refList_ev (l : List S49) (fd : ByteArray) (d : Int) (h : okL l) (hf : fd.size ≤ 10000) : Ev (fun k => bindleref39_List.f k l fd d) ((kidsS l fd).map (nodeR l fd d)) := by
  have h1 := h.1
  have hfl := List.length_filter_le (has fd) (l.map (·.f0))
  rw [List.length_map] at hfl
  have hfin : Ev (fun k => (bindleref15_Sort.f k (((l.map (·.f0)).filter (has fd)).map (firstB fd))).bind fun t => bindleref39_List.l1 k l fd d t [] 0) ((kidsS l fd).map (nodeR l fd d)) :=
    ev_bind (refSort _ (by rw [List.length_map]; omega)) (refNodes l fd d h hf (kidsS l fd) (kids_len l fd h) (kids_size l fd h) (kidsS l fd).length 0 (by omega))
  unfold bindleref39_List.f
  rw [toList_ls]
  by_cases h0 : ls fd = []
  · exact ev_pos h0 (Ev.step (fun k => by unfold bindleref39_List.j0; exact rfl) (refParts_loop2 l fd d 0 h hf (by rw [if_pos h0]) _ hfin l.length 0 (by omega)))
  · have hw2 : wrap64 ((fd.size : Int) + 1) = ((fd.size + 1 : Nat) : Int) := wadd _ (by omega)
    refine ev_neg h0 ?_
    rw [hw2]
    exact Ev.step (fun k => by unfold bindleref39_List.j0; exact rfl) (refParts_loop2 l fd d _ h hf (by rw [if_neg h0]) _ hfin l.length 0 (by omega))
/-! ### Children and their paths -/
abbrev sp : List UInt8 → List (List UInt8) := YtkccjohhakljnaaGreatDoorMpHelp.splitL 47
abbrev rt : List UInt8 → Bool := YtkccjohhakljnaaGreatDoorMpHelp.rightB
theorem right_iff (s : List UInt8) : rt s = true ↔ s.length ≤ 64 ∧ ∀ l ∈ sp s, YtkccjohhakljnaaGreatDoorMpHelp.partB l = true := by
  unfold rt YtkccjohhakljnaaGreatDoorMpHelp.rightB
  rw [Bool.and_eq_true, decide_eq_true_iff, List.all_eq_true]
theorem right_ne {s : List UInt8} (h : rt s = true) : s ≠ [] := by
  rintro rfl
  exact absurd h (by decide)
theorem split_app (x y : List UInt8) : YtkccjohhakljnaaGreatDoorMpHelp.splitL 47 (x ++ 47 :: y) = YtkccjohhakljnaaGreatDoorMpHelp.splitL 47 x ++ YtkccjohhakljnaaGreatDoorMpHelp.splitL 47 y := by
  induction x with
  | nil => rw [List.nil_append, split_eq]; rfl
  | cons c r ih =>
    by_cases hc : c = 47
    · subst hc
      rw [List.cons_append, split_eq, split_eq, ih]
      rfl
    · rw [List.cons_append, split_ne hc, split_ne hc, ih]
      cases h : YtkccjohhakljnaaGreatDoorMpHelp.splitL 47 r with
      | nil => exact absurd h (split_pos r)
      | cons a t => rfl
theorem split_none : ∀ l : List UInt8, (47 : UInt8) ∉ l → YtkccjohhakljnaaGreatDoorMpHelp.splitL 47 l = [l]
  | [], _ => rfl
  | c :: r, h => by
    rw [split_ne (fun e => h (by rw [e]; exact List.mem_cons_self)), split_none r (fun e => h (List.mem_cons_of_mem _ e))]
    rfl
theorem head_split : ∀ r : List UInt8, (47 : UInt8) ∉ (sp r).headD [] ∧ (r = (sp r).headD [] ∨ ∃ t, r = (sp r).headD [] ++ 47 :: t)
  | [] => ⟨by simp [sp, YtkccjohhakljnaaGreatDoorMpHelp.splitL], .inl rfl⟩
  | x :: r => by
    by_cases hx : x = 47
    · subst hx
      have e : sp (47 :: r) = [] :: sp r := split_eq r
      rw [e]
      exact ⟨by simp, .inr ⟨r, rfl⟩⟩
    · obtain ⟨h1, h2⟩ := head_split r
      have e : (sp (x :: r)).headD [] = x :: (sp r).headD [] := by
        show (YtkccjohhakljnaaGreatDoorMpHelp.splitL 47 (x :: r)).headD [] = x :: (YtkccjohhakljnaaGreatDoorMpHelp.splitL 47 r).headD []
        rw [split_ne hx]
        cases h : YtkccjohhakljnaaGreatDoorMpHelp.splitL 47 r with
        | nil => exact absurd h (split_pos r)
        | cons a t => rfl
      rw [e]
      refine ⟨fun h => ?_, ?_⟩
      · rcases List.mem_cons.1 h with h | h
        · exact hx h.symm
        · exact h1 h
      · rcases h2 with h | ⟨t, h⟩
        · exact .inl (by rw [← h])
        · exact .inr ⟨t, by rw [List.cons_append, ← h]⟩
def pathL (F c : List UInt8) : List UInt8 := if F = [] then c else F ++ 47 :: c
def fstL (F s : List UInt8) : List UInt8 := (sp (if F = [] then s else s.drop (F.length + 1))).headD []
theorem path_ls (fd c : ByteArray) : ls (pathS fd c) = pathL (ls fd) (ls c) := by
  unfold pathS pathL
  split
  · rfl
  · rw [ls_append, ls_append, show ls (⟨#[47]⟩ : ByteArray) = [47] from rfl, List.append_assoc]
    rfl
theorem first_ls (fd s : ByteArray) : ls (firstB fd s) = fstL (ls fd) (ls s) := by
  unfold firstB fstL restB
  rw [ls_mk]
  by_cases h : ls fd = []
  · rw [if_pos (by rw [h]; rfl), if_pos h]
  · rw [if_neg (by rw [List.isEmpty_iff]; exact h), if_neg h, ls_mk, ls_len]
theorem in_rest {F s : List UInt8} (h : inB F s = true) : rt s = true ∧ (F ≠ [] → rt F = true) ∧ ∃ r, s = pathL F r ∧ fstL F s = (sp r).headD [] := by
  unfold inB at h
  rw [Bool.and_eq_true] at h
  refine ⟨h.1, ?_⟩
  by_cases hF : F = []
  · subst hF
    exact ⟨fun h => absurd rfl h, s, rfl, rfl⟩
  · have h2 := h.2
    rw [List.isEmpty_eq_false_iff.2 hF, Bool.false_or, Bool.and_eq_true] at h2
    obtain ⟨t, ht⟩ := List.isPrefixOf_iff_prefix.1 h2.2
    refine ⟨fun _ => h2.1, t, ?_, ?_⟩
    · unfold pathL
      rw [if_neg hF, ← ht, List.append_assoc]
      rfl
    · unfold fstL
      rw [if_neg hF, ← ht, List.append_assoc, List.drop_append]
      have e : F.drop (F.length + 1) = [] := List.drop_of_length_le (by omega)
      rw [e, show F.length + 1 - F.length = 1 by omega]
      rfl
/-- A child that may be. -/
def KidOK (F c : List UInt8) : Prop := c ≠ [] ∧ (47 : UInt8) ∉ c ∧ rt (pathL F c) = true ∧ (F ≠ [] → rt F = true)
theorem path_ne {F c : List UInt8} (hc : c ≠ []) : pathL F c ≠ [] := by
  unfold pathL
  split
  · exact hc
  · simp
theorem in_path {p t : List UInt8} (hp : rt p = true) (hs : rt (p ++ 47 :: t) = true) : inB p (p ++ 47 :: t) = true := by
  unfold inB
  rw [show YtkccjohhakljnaaGreatDoorMpHelp.rightB (p ++ 47 :: t) = true from hs, show YtkccjohhakljnaaGreatDoorMpHelp.rightB p = true from hp, Bool.true_and, Bool.true_and, Bool.or_eq_true]
  refine .inr (List.isPrefixOf_iff_prefix.2 ⟨t, ?_⟩)
  rw [List.append_assoc]
  rfl
theorem path_of_ne {p : List UInt8} (h : p ≠ []) (r : List UInt8) : pathL p r = p ++ 47 :: r := by
  unfold pathL
  rw [if_neg h]
theorem path_path (F c t : List UInt8) : pathL F (c ++ 47 :: t) = pathL F c ++ 47 :: t := by
  unfold pathL
  split
  · rfl
  · rw [List.append_assoc]; rfl
theorem part_ne {l : List UInt8} (h : YtkccjohhakljnaaGreatDoorMpHelp.partB l = true) : l ≠ [] := by
  rintro rfl
  exact absurd h (by decide)
theorem kid_ok {F s : List UInt8} (h : inB F s = true) : KidOK F (fstL F s) ∧ (s = pathL F (fstL F s) ∨ inB (pathL F (fstL F s)) s = true) := by
  obtain ⟨hs, hF, r, hr, hf⟩ := in_rest h
  obtain ⟨h1, h2⟩ := head_split r
  rw [hf]
  obtain ⟨hl, hp⟩ := (right_iff s).1 hs
  have hmem : ∀ z ∈ sp r, YtkccjohhakljnaaGreatDoorMpHelp.partB z = true := by
    intro z hz
    refine hp z ?_
    rw [hr]
    unfold pathL
    by_cases h0 : F = []
    · rw [if_pos h0]; exact hz
    · rw [if_neg h0, show sp (F ++ 47 :: r) = sp F ++ sp r from split_app F r]
      exact List.mem_append_right _ hz
  have hhd : (sp r).headD [] ∈ sp r := by
    cases he : sp r with
    | nil => exact absurd he (split_pos r)
    | cons a t => exact List.mem_cons_self
  have hc0 := part_ne (hmem _ hhd)
  have hrp : rt (pathL F ((sp r).headD [])) = true := by
    refine (right_iff _).2 ⟨?_, fun z hz => ?_⟩
    · have : (pathL F ((sp r).headD [])).length ≤ s.length := by
        rcases h2 with h2 | ⟨t, h2⟩
        · rw [hr, ← h2]; exact Nat.le_refl _
        · rw [hr]
          conv => rhs; rw [h2, path_path F _ t]
          rw [List.length_append]; omega
      omega
    · have hz2 : z ∈ sp F ∧ F ≠ [] ∨ z = (sp r).headD [] := by
        unfold pathL at hz
        by_cases h0 : F = []
        · rw [if_pos h0, show sp ((sp r).headD []) = [(sp r).headD []] from split_none _ h1] at hz
          exact .inr (List.mem_singleton.1 hz)
        · rw [if_neg h0, show sp (F ++ 47 :: (sp r).headD []) = sp F ++ sp ((sp r).headD []) from split_app _ _, show sp ((sp r).headD []) = [(sp r).headD []] from split_none _ h1] at hz
          rcases List.mem_append.1 hz with hz | hz
          · exact .inl ⟨hz, h0⟩
          · exact .inr (List.mem_singleton.1 hz)
      rcases hz2 with ⟨hz2, h0⟩ | rfl
      · exact ((right_iff F).1 (hF h0)).2 z hz2
      · exact hmem _ hhd
  refine ⟨⟨hc0, h1, hrp, hF⟩, ?_⟩
  rcases h2 with h2 | ⟨t, h2⟩
  · exact .inl (by rw [← h2]; exact hr)
  · refine .inr ?_
    have e : s = pathL F ((sp r).headD []) ++ 47 :: t := by
      rw [← path_path F _ t, ← h2]; exact hr
    conv => lhs; arg 2; rw [e]
    exact in_path hrp (by rw [← e]; exact hs)
theorem kid_in {F c s : List UInt8} (hk : KidOK F c) (t : List UInt8) (ht : sp t ≠ [] → (sp t).headD [] = c) (hs : rt s = true) (he : s = pathL F t) : inB F s = true ∧ fstL F s = c := by
  have hi : inB F s = true := by
    by_cases h0 : F = []
    · subst h0
      unfold inB
      rw [show YtkccjohhakljnaaGreatDoorMpHelp.rightB s = true from hs]
      rfl
    · rw [he]
      unfold pathL
      rw [if_neg h0]
      refine in_path (hk.2.2.2 h0) ?_
      have := hs
      rw [he] at this
      unfold pathL at this
      rwa [if_neg h0] at this
  refine ⟨hi, ?_⟩
  obtain ⟨_, _, r, hr, hf⟩ := in_rest hi
  rw [hf]
  have : r = t := by
    rw [he] at hr
    unfold pathL at hr
    by_cases h0 : F = []
    · rw [if_pos h0, if_pos h0] at hr; exact hr.symm
    · rw [if_neg h0, if_neg h0] at hr
      have := List.append_cancel_left hr
      injection this with _ h
      exact h.symm
  rw [this]
  exact ht (split_pos t)
theorem kid_back {F c s : List UInt8} (hk : KidOK F c) (h : s = pathL F c ∨ inB (pathL F c) s = true) : inB F s = true ∧ fstL F s = c := by
  rcases h with h | h
  · refine kid_in hk c (fun _ => ?_) (by rw [h]; exact hk.2.2.1) h
    rw [show sp c = [c] from split_none c hk.2.1]
    rfl
  · obtain ⟨hs, _, r, hr, _⟩ := in_rest h
    have e : s = pathL F (c ++ 47 :: r) := by
      rw [path_path F c r, hr, path_of_ne (path_ne hk.1)]
    refine kid_in hk (c ++ 47 :: r) (fun _ => ?_) hs e
    rw [show sp (c ++ 47 :: r) = sp c ++ sp r from split_app c r, show sp c = [c] from split_none c hk.2.1]
    rfl
theorem in_longer {p s : List UInt8} (h : inB p s = true) : p.length < s.length := by
  obtain ⟨hs, _, r, hr, _⟩ := in_rest h
  unfold pathL at hr
  by_cases h0 : p = []
  · subst h0
    exact List.length_pos_iff.2 (right_ne hs)
  · rw [if_neg h0] at hr
    rw [hr, List.length_append, List.length_cons]
    omega
theorem path_longer (F c : List UInt8) (hc : c ≠ []) : F.length < (pathL F c).length := by
  unfold pathL
  split
  · rename_i h
    rw [h]
    exact List.length_pos_iff.2 hc
  · rw [List.length_append, List.length_cons]; omega
/-! ### What is gone through -/
theorem named_loop (l : List S49) (hs : l.length ≤ 9000000) : ∀ n i : Nat, i + n = l.length → ∃ m : Bool, Ev (fun k => bindleref39_Named.l0 k l i) m ∧ (m = true → Asc l)
  | 0, i, hi => by
    obtain ⟨m, hm, hm2⟩ := map_ev l hs
    exact ⟨m, Ev.step (fun k => by unfold bindleref39_Named.l0; exact rfl) (ev_neg (by omega) (ev_bind hm (Ev.now _))), fun h => hm2.1 h⟩
  | n + 1, i, hi => by
    have hlt : i < l.length := by omega
    obtain ⟨m, hm, hm2⟩ := named_loop l hs n (i + 1) (by omega)
    cases hr : YtkccjohhakljnaaGreatDoorMpHelp.rightB (ls l[i].f0) with
    | true =>
      refine ⟨m, Ev.step (fun k => by unfold bindleref39_Named.l0; exact rfl) (ev_pos (by omega) (ev_pos (by omega) ?_)), hm2⟩
      rw [rdF l i hlt]
      refine ev_bind (refRight _) (ev_pos hr ?_)
      rw [wadd i (by omega)]
      exact hm
    | false =>
      refine ⟨false, Ev.step (fun k => by unfold bindleref39_Named.l0; exact rfl) (ev_pos (by omega) (ev_pos (by omega) ?_)), fun h => by cases h⟩
      rw [rdF l i hlt]
      exact ev_bind (refRight _) (ev_neg (by rw [hr]; decide) (Ev.now _))
theorem great_fin (l : List S49) (i : Int) : ∃ w : Bool, Ev (fun k => bindlelaw39_great.j1 k l i false) w ∧ (w = false → l.length ≤ 60 ∧ Asc l) := by
  by_cases hl : (l.length : Int) > 60
  · exact ⟨true, Ev.step (fun k => by unfold bindlelaw39_great.j1; exact rfl) (ev_neg (by decide) (ev_pos hl (Ev.now _))), fun h => by cases h⟩
  · obtain ⟨m, hm, hm2⟩ := named_loop l (by omega) l.length 0 (by omega)
    refine ⟨!m, Ev.step (fun k => by unfold bindlelaw39_great.j1; exact rfl) (ev_neg (by decide) (ev_neg hl (ev_bind (show Ev (fun k => bindleref39_Named.f k l) m from hm) (Ev.now _)))), fun h => ⟨by omega, hm2 (by simpa using h)⟩⟩
theorem great_loop (l : List S49) : ∀ n i : Nat, i + n = 100 → ∃ w : Bool, Ev (fun k => bindlelaw39_great.l0 k l i) w ∧ (w = false → (l.length ≤ 60 ∧ Asc l) ∧ ∀ j : Nat, i ≤ j → (hj : j < l.length) → l[j].f0.size ≤ 64 ∧ l[j].f1.length ≤ 70000)
  | 0, i, hi => by
    obtain ⟨w, h1, h2⟩ := great_fin l i
    refine ⟨w, Ev.step (fun k => by unfold bindlelaw39_great.l0; exact rfl) ?_, fun h => ⟨h2 h, fun j h3 h4 => by have := (h2 h).1; omega⟩⟩
    by_cases hl : (i : Int) < (l.length : Int)
    · have hd : decide ((i : Int) < 100) = false := decide_eq_false (by omega)
      rw [hd]
      exact ev_pos hl h1
    · exact ev_neg hl h1
  | n + 1, i, hi => by
    by_cases hl : (i : Int) < (l.length : Int)
    · have hlt : i < l.length := by omega
      have hd : decide ((i : Int) < 100) = true := decide_eq_true (by omega)
      obtain ⟨w, h1, h2⟩ := great_loop l n (i + 1) (by omega)
      by_cases c1 : (l[i].f0.size : Int) > 64
      · refine ⟨true, Ev.step (fun k => by unfold bindlelaw39_great.l0; exact rfl) (ev_pos hl ?_), fun h => by cases h⟩
        rw [hd]
        refine Ev.step (fun k => by unfold bindlelaw39_great.j1; exact rfl) (ev_pos rfl (ev_pos (by omega) (ev_pos hl ?_)))
        rw [rdF l i hlt]
        exact ev_pos c1 (Ev.now _)
      · by_cases c2 : (l[i].f1.length : Int) > 70000
        · refine ⟨true, Ev.step (fun k => by unfold bindlelaw39_great.l0; exact rfl) (ev_pos hl ?_), fun h => by cases h⟩
          rw [hd]
          refine Ev.step (fun k => by unfold bindlelaw39_great.j1; exact rfl) (ev_pos rfl (ev_pos (by omega) (ev_pos hl ?_)))
          rw [rdF l i hlt]
          exact ev_neg c1 (ev_pos c2 (Ev.now _))
        · refine ⟨w, Ev.step (fun k => by unfold bindlelaw39_great.l0; exact rfl) (ev_pos hl ?_), fun h => ⟨(h2 h).1, fun j h3 h4 => ?_⟩⟩
          · rw [hd]
            refine Ev.step (fun k => by unfold bindlelaw39_great.j1; exact rfl) (ev_pos rfl (ev_pos (by omega) (ev_pos hl ?_)))
            rw [rdF l i hlt]
            refine ev_neg c1 (ev_neg c2 ?_)
            rw [wadd i (by omega)]
            exact h1
          · by_cases he : j = i
            · subst he
              exact ⟨by omega, by omega⟩
            · exact (h2 h).2 j (by omega) h4
    · obtain ⟨w, h1, h2⟩ := great_fin l i
      exact ⟨w, Ev.step (fun k => by unfold bindlelaw39_great.l0; exact rfl) (ev_neg hl h1), fun h => ⟨h2 h, fun j h3 h4 => by omega⟩⟩
theorem great_ev (l : List S49) : ∃ w : Bool, Ev (fun k => bindlelaw39_great.f k l) w ∧ (w = false → okL l) := by
  obtain ⟨w, h1, h2⟩ := great_loop l 100 0 (by omega)
  refine ⟨w, h1, fun h => ?_⟩
  obtain ⟨⟨h3, h4⟩, h5⟩ := h2 h
  refine ⟨h3, h4, fun y hy => ?_, fun y hy => ?_⟩
  · obtain ⟨j, hj, rfl⟩ := List.getElem_of_mem hy
    exact (h5 j (by omega) hj).2
  · obtain ⟨j, hj, rfl⟩ := List.getElem_of_mem hy
    exact (h5 j (by omega) hj).1
/-! ### Counting -/
/-- The weights of the files of which P holds. -/
def wsum (g : S49 → Int) (P : S49 → Bool) (l : List S49) : Int := (l.map fun y => if P y = true then g y else 0).sum
theorem wsum_cons (g : S49 → Int) (P : S49 → Bool) (y : S49) (r : List S49) : wsum g P (y :: r) = (if P y = true then g y else 0) + wsum g P r := by
  unfold wsum
  rw [List.map_cons, List.sum_cons]
theorem wsum_nonneg (g : S49 → Int) (P : S49 → Bool) : ∀ (l : List S49), (∀ y ∈ l, 0 ≤ g y) → 0 ≤ wsum g P l
  | [], _ => Int.le_refl 0
  | y :: r, h => by
    have ih := wsum_nonneg g P r (fun z hz => h z (List.mem_cons_of_mem _ hz))
    have hy := h y List.mem_cons_self
    rw [wsum_cons]
    split <;> omega
theorem wsum_le (g : S49 → Int) (P : S49 → Bool) (m : Int) (hm : 0 ≤ m) : ∀ (l : List S49), (∀ y ∈ l, g y ≤ m) → wsum g P l ≤ (l.length : Int) * m
  | [], _ => by simp [wsum]
  | y :: r, h => by
    have ih := wsum_le g P m hm r (fun z hz => h z (List.mem_cons_of_mem _ hz))
    have hy := h y List.mem_cons_self
    rw [wsum_cons, List.length_cons, Int.natCast_add, Int.add_mul, Int.natCast_one, Int.one_mul]
    split <;> omega
theorem wsum_split (g : S49 → Int) (P Q R : S49 → Bool) (h : ∀ y, R y = (P y || Q y)) (hx : ∀ y, P y = true → Q y = false) : ∀ l : List S49, wsum g P l + wsum g Q l = wsum g R l
  | [] => by simp [wsum]
  | y :: r => by
    have ih := wsum_split g P Q R h hx r
    rw [wsum_cons, wsum_cons, wsum_cons, h y, ← ih]
    cases hP : P y with
    | true => rw [hx y hP]; simp; omega
    | false => cases Q y <;> simp <;> omega
theorem wsum_none (g : S49 → Int) (P : S49 → Bool) : ∀ l : List S49, (∀ y ∈ l, P y = false) → wsum g P l = 0
  | [], _ => rfl
  | y :: r, h => by
    rw [wsum_cons, h y List.mem_cons_self, wsum_none g P r (fun z hz => h z (List.mem_cons_of_mem _ hz))]
    rfl
theorem wsum_pos (P : S49 → Bool) : ∀ (l : List S49) (y : S49), y ∈ l → P y = true → 1 ≤ wsum (fun _ => 1) P l
  | [], y, h, _ => by cases h
  | z :: r, y, h, hP => by
    rw [wsum_cons]
    have hn := wsum_nonneg (fun _ => 1) P r (fun _ _ => by decide)
    rcases List.mem_cons.1 h with rfl | h
    · rw [if_pos hP]; omega
    · have := wsum_pos P r y h hP
      split <;> omega
/-- One of the keys, each once, is a file's. -/
theorem key_one (a : Int) (x : List UInt8) : ∀ K : List (List UInt8), K.Pairwise (· < ·) → ((K.map fun c => if (x == c) = true then a else 0).sum = if x ∈ K then a else 0)
  | [], _ => by simp
  | c :: K, h => by
    obtain ⟨h1, h2⟩ := List.pairwise_cons.1 h
    have ih := key_one a x K h2
    rw [List.map_cons, List.sum_cons, ih]
    by_cases hx : x = c
    · subst hx
      have hn : x ∉ K := fun hm => str_irrefl x (h1 x hm)
      rw [if_pos (by simp), if_neg hn, if_pos List.mem_cons_self, Int.add_zero]
    · rw [if_neg (by simpa using hx), Int.zero_add]
      by_cases hm : x ∈ K
      · rw [if_pos hm, if_pos (List.mem_cons_of_mem _ hm)]
      · rw [if_neg hm, if_neg (fun h => by rcases List.mem_cons.1 h with h | h; exact hx h; exact hm h)]
theorem sum_add (f g : List UInt8 → Int) : ∀ K : List (List UInt8), (K.map fun c => f c + g c).sum = (K.map f).sum + (K.map g).sum
  | [] => by simp
  | c :: K => by
    have := sum_add f g K
    simp only [List.map_cons, List.sum_cons, this]
    omega
theorem sum_zero : ∀ K : List (List UInt8), (K.map fun _ => (0 : Int)).sum = 0
  | [] => rfl
  | c :: K => by
    rw [List.map_cons, List.sum_cons, sum_zero K]
    rfl
theorem keys_sum (g : S49 → Int) (P : S49 → Bool) (f : S49 → List UInt8) (K : List (List UInt8)) (hK : K.Pairwise (· < ·)) : ∀ l : List S49, (∀ y ∈ l, P y = true → f y ∈ K) → (K.map fun c => wsum g (fun y => P y && f y == c) l).sum = wsum g P l
  | [], _ => sum_zero K
  | y :: r, h => by
    have ih := keys_sum g P f K hK r (fun z hz => h z (List.mem_cons_of_mem _ hz))
    have e : (K.map fun c => wsum g (fun y => P y && f y == c) (y :: r)).sum = (K.map fun c => (if (P y && f y == c) = true then g y else 0) + wsum g (fun y => P y && f y == c) r).sum := by
      congr 1
    rw [e, sum_add, ih, wsum_cons]
    congr 1
    cases hP : P y with
    | false => simpa using sum_zero K
    | true =>
      have := key_one (g y) (f y) K hK
      rw [if_pos (h y List.mem_cons_self hP)] at this
      simpa using this
/-- What a path's files weigh: those in it, and the one that has its name. -/
def inW (g : S49 → Int) (l : List S49) (F : List UInt8) : Int := wsum g (fun y => inB F (nm y)) l
def oneW (g : S49 → Int) (l : List S49) (p : List UInt8) : Int := wsum g (fun y => nm y == p) l
theorem kid_sum (g : S49 → Int) (l : List S49) {F c : List UInt8} (hk : KidOK F c) : inW g l (pathL F c) + oneW g l (pathL F c) = wsum g (fun y => inB F (nm y) && fstL F (nm y) == c) l := by
  refine wsum_split g _ _ _ (fun y => ?_) (fun y hy => ?_) l
  · rw [Bool.eq_iff_iff, Bool.and_eq_true, Bool.or_eq_true]
    constructor
    · rintro ⟨h1, h2⟩
      have h2 : fstL F (nm y) = c := by simpa using h2
      rcases (kid_ok h1).2 with h | h
      · exact .inr (by rw [h2] at h; simpa using h)
      · exact .inl (by rw [h2] at h; exact h)
    · intro h
      have := kid_back hk (h.elim (fun h => .inr h) (fun h => .inl (by simpa using h)))
      exact ⟨this.1, by simpa using this.2⟩
  · have := in_longer hy
    simp only [beq_eq_false_iff_ne, ne_eq]
    intro e
    rw [e] at this
    omega
def kidL (l : List S49) (fd : ByteArray) : List (List UInt8) := YtkccjohhakljnaaGreatDoorMSort.outs (((l.map (·.f0)).filter (has fd)).map (firstB fd))
theorem kidL_asc (l : List S49) (fd : ByteArray) : (kidL l fd).Pairwise (· < ·) := (outs_spec _).1
theorem kidL_mem (l : List S49) (fd : ByteArray) (c : List UInt8) : c ∈ kidL l fd ↔ ∃ y ∈ l, inB (ls fd) (nm y) = true ∧ fstL (ls fd) (nm y) = c := by
  unfold kidL
  rw [(outs_spec _).2 c]
  constructor
  · intro h
    obtain ⟨a, ha, rfl⟩ := List.mem_map.1 h
    obtain ⟨z, hz, rfl⟩ := List.mem_map.1 ha
    obtain ⟨h1, h2⟩ := List.mem_filter.1 hz
    obtain ⟨y, hy, rfl⟩ := List.mem_map.1 h1
    exact ⟨y, hy, h2, (first_ls fd y.f0).symm⟩
  · rintro ⟨y, hy, h1, rfl⟩
    exact List.mem_map.2 ⟨firstB fd y.f0, List.mem_map.2 ⟨y.f0, List.mem_filter.2 ⟨List.mem_map.2 ⟨y, hy, rfl⟩, h1⟩, rfl⟩, first_ls fd y.f0⟩
theorem kidL_ok {l : List S49} {fd : ByteArray} {c : List UInt8} (h : c ∈ kidL l fd) : KidOK (ls fd) c ∧ ∃ y ∈ l, nm y = pathL (ls fd) c ∨ inB (pathL (ls fd) c) (nm y) = true := by
  obtain ⟨y, hy, h1, rfl⟩ := (kidL_mem l fd c).1 h
  exact ⟨(kid_ok h1).1, y, hy, (kid_ok h1).2⟩
/-- A folder has what its children have together. -/
theorem kids_total (g : S49 → Int) (l : List S49) (fd : ByteArray) : ((kidL l fd).map fun c => inW g l (pathL (ls fd) c) + oneW g l (pathL (ls fd) c)).sum = inW g l (ls fd) := by
  rw [show ((kidL l fd).map fun c => inW g l (pathL (ls fd) c) + oneW g l (pathL (ls fd) c)) = (kidL l fd).map fun c => wsum g (fun y => inB (ls fd) (nm y) && fstL (ls fd) (nm y) == c) l from List.map_congr_left fun c hc => kid_sum g l (kidL_ok hc).1]
  exact keys_sum g (fun y => inB (ls fd) (nm y)) (fun y => fstL (ls fd) (nm y)) (kidL l fd) (kidL_asc l fd) l (fun y hy hP => (kidL_mem l fd _).2 ⟨y, hy, hP, rfl⟩)
theorem one_look (g : S49 → Int) (p : List UInt8) : ∀ l : List S49, Asc l → oneW g l p = match look l p with | some y => g y | none => 0
  | [], _ => rfl
  | y :: r, h => by
    obtain ⟨h1, h2⟩ := List.pairwise_cons.1 (show (nm y :: r.map nm).Pairwise (· < ·) from h)
    have ih := one_look g p r h2
    unfold oneW look at *
    rw [wsum_cons]
    by_cases e : nm y = p
    · have hr : wsum g (fun y => nm y == p) r = 0 := wsum_none _ _ r fun z hz => by
        have := h1 (nm z) (List.mem_map_of_mem hz)
        rw [beq_eq_false_iff_ne]
        intro ez
        rw [e, ez] at this
        exact str_irrefl _ this
      rw [hr, if_pos (by simpa using e), List.find?_cons_of_pos (by simpa using e), Int.add_zero]
    · rw [if_neg (by simpa using e), List.find?_cons_of_neg (by simpa using e), Int.zero_add]
      exact ih
/-! ### The code's numbers -/
theorem cntZ_len : ∀ (L : List Int) (s : Int), 0 ≤ s → s + L.length ≤ 9223372036854775807 → L.foldl (fun s _ => wrap64 (s + 1)) s = s + L.length
  | [], s, _, _ => by simp
  | a :: L, s, h, h2 => by
    rw [List.length_cons, Int.natCast_add] at h2
    rw [List.foldl_cons, w64 (by omega) (by omega), cntZ_len L (s + 1) (by omega) (by omega), List.length_cons]
    omega
theorem sumZ_sum : ∀ (L : List Int) (s : Int), 0 ≤ s → (∀ a ∈ L, 0 ≤ a) → s + L.sum ≤ 9223372036854775807 → 0 ≤ L.sum ∧ L.foldl (fun s n => wrap64 (s + n)) s = s + L.sum
  | [], s, _, _, _ => by simp
  | a :: L, s, h, ha, h2 => by
    have h0 := ha a List.mem_cons_self
    have hL := fun b hb => ha b (List.mem_cons_of_mem a hb)
    have hn : 0 ≤ L.sum := by
      clear h2
      induction L with
      | nil => exact Int.le_refl 0
      | cons b L ih =>
        rw [List.sum_cons]
        have := hL b List.mem_cons_self
        have := ih (fun z hz => ha z (by rcases List.mem_cons.1 hz with rfl | hz; exact List.mem_cons_self; exact List.mem_cons_of_mem _ (List.mem_cons_of_mem _ hz))) (fun z hz => hL z (List.mem_cons_of_mem _ hz))
        omega
    rw [List.sum_cons] at h2 ⊢
    have := (sumZ_sum L (s + a) (by omega) hL (by omega)).2
    rw [List.foldl_cons, w64 (by omega) (by omega), this]
    exact ⟨by omega, by omega⟩
theorem szL_len (l : List S49) (fd : ByteArray) : ((szL l fd).length : Int) = inW (fun _ => 1) l (ls fd) := by
  induction l with
  | nil => rfl
  | cons y r ih =>
    unfold inW at *
    rw [wsum_cons, ← ih]
    unfold szL
    rw [List.length_map, List.length_map, List.filter_cons]
    have : has fd y.f0 = inB (ls fd) (nm y) := rfl
    rw [this]
    split <;> simp <;> omega
theorem szL_sum (l : List S49) (fd : ByteArray) : (szL l fd).sum = inW (fun y => (y.f1.length : Int)) l (ls fd) := by
  induction l with
  | nil => rfl
  | cons y r ih =>
    unfold inW at *
    rw [wsum_cons, ← ih]
    unfold szL
    rw [List.filter_cons]
    have : has fd y.f0 = inB (ls fd) (nm y) := rfl
    rw [this]
    split <;> simp
theorem small (l : List S49) (h : okL l) (P : S49 → Bool) : (0 ≤ wsum (fun _ => 1) P l ∧ wsum (fun _ => 1) P l ≤ 60) ∧ 0 ≤ wsum (fun y => (y.f1.length : Int)) P l ∧ wsum (fun y => (y.f1.length : Int)) P l ≤ 4200000 := by
  obtain ⟨h1, _, h3, _⟩ := h
  have a1 := wsum_nonneg (fun _ => 1) P l (fun _ _ => by decide)
  have a2 := wsum_le (fun _ => 1) P 1 (by decide) l (fun _ _ => Int.le_refl 1)
  have a3 := wsum_nonneg (fun y => (y.f1.length : Int)) P l (fun _ _ => Int.natCast_nonneg _)
  have a4 := wsum_le (fun y => (y.f1.length : Int)) P 70000 (by decide) l (fun y hy => by have := h3 y hy; show ((y.f1.length : Nat) : Int) ≤ 70000; omega)
  refine ⟨⟨a1, by omega⟩, a3, by omega⟩
theorem tot_num (l : List S49) (h : okL l) (fd : ByteArray) : totS l fd = (inW (fun _ => 1) l (ls fd), inW (fun y => (y.f1.length : Int)) l (ls fd)) := by
  have hs := small l h (fun y => inB (ls fd) (nm y))
  have e1 := szL_len l fd
  have e2 := szL_sum l fd
  unfold inW at e1 e2 ⊢
  unfold totS cntZ sumZ
  rw [cntZ_len _ 0 (by omega) (by omega), (sumZ_sum _ 0 (by omega) (fun a ha => by
    unfold szL at ha
    obtain ⟨y, _, rfl⟩ := List.mem_map.1 ha
    exact Int.natCast_nonneg _) (by omega)).2, e1, e2, Int.zero_add, Int.zero_add]
theorem node_num (l : List S49) (h : okL l) (fd c : ByteArray) : nodeS l fd c = ⟨c, inW (fun _ => 1) l (pathL (ls fd) (ls c)) + oneW (fun _ => 1) l (pathL (ls fd) (ls c)), inW (fun y => (y.f1.length : Int)) l (pathL (ls fd) (ls c)) + oneW (fun y => (y.f1.length : Int)) l (pathL (ls fd) (ls c)), decide (inW (fun _ => 1) l (pathL (ls fd) (ls c)) > 0)⟩ := by
  have hs := small l h (fun y => inB (pathL (ls fd) (ls c)) (nm y))
  unfold nodeS
  rw [tot_num l h, path_ls, one_look _ _ l h.2.1, one_look _ _ l h.2.1]
  unfold inW at *
  cases hl : look l (pathL (ls fd) (ls c)) with
  | none => simp
  | some y =>
    have := h.2.2.1 y (look_nm hl).2
    dsimp only
    rw [w64 (by omega) (by omega), w64 (by omega) (by omega)]
/-! ### The walk -/
theorem node_f0 (l : List S49) (fd c : ByteArray) : (nodeS l fd c).f0 = c := by
  unfold nodeS
  split <;> rfl
def walkS (l : List S49) : Nat → ByteArray → List YtkccjohhakljnaaGreatDoorTree.PN
  | 0, _ => []
  | m + 1, fd => (kidsS l fd).flatMap fun c => (pathS fd c, tree_Text.nv (nodeS l fd c)) :: (if (nodeS l fd c).f3 = true then walkS l m (pathS fd c) else [])
/-- No file below a folder has more than m bytes behind it. -/
def Deep (l : List S49) (m : Nat) (fd : ByteArray) : Prop := ∀ y ∈ l, inB (ls fd) (nm y) = true → (nm y).length ≤ fd.size + m
theorem kidsS_kidL (l : List S49) (fd : ByteArray) : kidsS l fd = (kidL l fd).map mk := rfl
theorem deep_zero {l : List S49} {fd : ByteArray} (h : Deep l 0 fd) : ∀ y ∈ l, inB (ls fd) (nm y) = false := by
  intro y hy
  rw [Bool.eq_false_iff]
  intro hi
  have h1 := h y hy hi
  have h2 := in_longer hi
  rw [ls_len] at h2
  omega
theorem kids_zero {l : List S49} {fd : ByteArray} (h : Deep l 0 fd) : kidsS l fd = [] := by
  rw [kidsS_kidL]
  cases hk : kidL l fd with
  | nil => rfl
  | cons c r =>
    obtain ⟨y, hy, h1, _⟩ := (kidL_mem l fd c).1 (by rw [hk]; exact List.mem_cons_self)
    rw [deep_zero h y hy] at h1
    cases h1
theorem deep_kid {l : List S49} {fd c : ByteArray} {m : Nat} (h : Deep l (m + 1) fd) (hc : c ∈ kidsS l fd) : Deep l m (pathS fd c) := by
  rw [kidsS_kidL] at hc
  obtain ⟨c', hc', rfl⟩ := List.mem_map.1 hc
  obtain ⟨hk, _⟩ := kidL_ok hc'
  intro y hy hi
  rw [path_ls, ls_mk] at hi
  have h1 := h y hy (kid_back hk (.inr hi)).1
  have h2 := path_longer (ls fd) c' hk.1
  have h3 : (pathS fd (mk c')).size = (pathL (ls fd) c').length := by rw [← ls_len, path_ls, ls_mk]
  rw [h3]
  rw [ls_len] at h2
  omega
/-- Answers that come with two fuels. -/
def Ev2 {α : Type} (g : Nat → Nat → Option α) (r : α) : Prop := ∃ K, ∀ a b, K ≤ a → K ≤ b → g a b = some r
theorem goF_ev (l : List S49) (rec : Nat → Nat → ByteArray → Option (List YtkccjohhakljnaaGreatDoorTree.PN)) (recS : ByteArray → List YtkccjohhakljnaaGreatDoorTree.PN) (fd : ByteArray) (hf : fd.size ≤ 10000) : ∀ K : List ByteArray, (∀ c ∈ K, c.size ≤ 64) → (∀ c ∈ K, (nodeS l fd c).f3 = true → Ev2 (fun a b => rec a b (pathS fd c)) (recS (pathS fd c))) →
    Ev2 (fun a b => YtkccjohhakljnaaGreatDoorTree.goF tree_Path.f (rec a b) fd ((K.map (nodeS l fd)).map tree_Text.nv)) (K.flatMap fun c => (pathS fd c, tree_Text.nv (nodeS l fd c)) :: (if (nodeS l fd c).f3 = true then recS (pathS fd c) else []))
  | [], _, _ => ⟨0, fun _ _ _ _ => rfl⟩
  | c :: K, hs, hr => by
    obtain ⟨K1, h1⟩ := goF_ev l rec recS fd hf K (fun x hx => hs x (List.mem_cons_of_mem _ hx)) (fun x hx => hr x (List.mem_cons_of_mem _ hx))
    have hc := hs c List.mem_cons_self
    have hp : tree_Path.f fd (nodeS l fd c).f0 = some (pathS fd c) := by rw [node_f0]; exact path_eq fd c (by omega) (by omega)
    have hsub : Ev2 (fun a b => if (nodeS l fd c).f3 = true then rec a b (pathS fd c) else some []) (if (nodeS l fd c).f3 = true then recS (pathS fd c) else []) := by
      by_cases h3 : (nodeS l fd c).f3 = true
      · obtain ⟨K2, h2⟩ := hr c List.mem_cons_self h3
        exact ⟨K2, fun a b ha hb => by simp only [if_pos h3]; exact h2 a b ha hb⟩
      · exact ⟨0, fun a b _ _ => by simp only [if_neg h3]⟩
    obtain ⟨K2, h2⟩ := hsub
    refine ⟨K1 + K2, fun a b ha hb => ?_⟩
    have e1 := h1 a b (by omega) (by omega)
    have e2 := h2 a b (by omega) (by omega)
    dsimp only at e1 e2 ⊢
    rw [List.map_cons, List.map_cons]
    show (tree_Path.f fd (nodeS l fd c).f0).bind (fun p => (if (nodeS l fd c).f3 = true then rec a b p else some []).bind fun sub => (YtkccjohhakljnaaGreatDoorTree.goF tree_Path.f (rec a b) fd ((K.map (nodeS l fd)).map tree_Text.nv)).bind fun rest => some ((p, tree_Text.nv (nodeS l fd c)) :: (sub ++ rest))) = _
    rw [hp, Option.bind_some, e2, Option.bind_some, e1, Option.bind_some, List.flatMap_cons]
    rfl
theorem listF_ev (l : List S49) (h : okL l) (fd : ByteArray) (hf : fd.size ≤ 10000) : ∃ K, ∀ k, K ≤ k → tree_Text.listF k l fd = some (((kidsS l fd).map (nodeS l fd)).map tree_Text.nv) := by
  obtain ⟨K, hK⟩ := list_ev l fd h hf
  refine ⟨K, fun k hk => ?_⟩
  unfold tree_Text.listF
  rw [show tree_List.f k l fd = _ from hK k hk, Option.bind_some, if_pos (by rw [List.length_map]; exact Nat.le_trans (kids_len l fd h) (by decide))]
theorem walk_ev (l : List S49) (h : okL l) : ∀ (m : Nat) (fd : ByteArray), fd.size + 65 * m ≤ 9000 → Deep l m fd → Ev2 (fun a b => YtkccjohhakljnaaGreatDoorTree.walkF (tree_Text.listF a l) tree_Path.f b fd) (walkS l m fd)
  | 0, fd, hf, hd => by
    obtain ⟨K, hK⟩ := listF_ev l h fd (by omega)
    refine ⟨K + 1, fun a b ha hb => ?_⟩
    obtain ⟨b, rfl⟩ : ∃ j, b = j + 1 := ⟨b - 1, by omega⟩
    show (tree_Text.listF a l fd).bind _ = _
    rw [hK a (by omega), kids_zero hd]
    rfl
  | m + 1, fd, hf, hd => by
    obtain ⟨K, hK⟩ := listF_ev l h fd (by omega)
    obtain ⟨K1, hK1⟩ := goF_ev l (fun a b p => YtkccjohhakljnaaGreatDoorTree.walkF (tree_Text.listF a l) tree_Path.f b p) (walkS l m) fd (by omega) (kidsS l fd) (kids_size l fd h) (fun c hc _ => by
      have := path_size fd c
      have := kids_size l fd h c hc
      exact walk_ev l h m (pathS fd c) (by omega) (deep_kid hd hc))
    refine ⟨K + K1 + 1, fun a b ha hb => ?_⟩
    obtain ⟨b, rfl⟩ : ∃ j, b = j + 1 := ⟨b - 1, by omega⟩
    show (tree_Text.listF a l fd).bind _ = _
    rw [hK a (by omega), Option.bind_some]
    exact hK1 a b (by omega) (by omega)
/-- How many of what is told are files. -/
def cntW (l : List S49) (out : List YtkccjohhakljnaaGreatDoorTree.PN) : Int := (out.map fun x => oneW (fun _ => 1) l (ls x.1)).sum
theorem sum_flat {α β : Type} (f : α → List β) (g : β → Int) : ∀ K : List α, ((K.flatMap f).map g).sum = (K.map fun c => ((f c).map g).sum).sum
  | [] => rfl
  | c :: K => by
    rw [List.flatMap_cons, List.map_append, List.sum_append, sum_flat f g K, List.map_cons, List.sum_cons]
theorem walk_cnt (l : List S49) (h : okL l) : ∀ (m : Nat) (fd : ByteArray), Deep l m fd → cntW l (walkS l m fd) = inW (fun _ => 1) l (ls fd)
  | 0, fd, hd => (wsum_none _ _ l (deep_zero hd)).symm
  | m + 1, fd, hd => by
    unfold cntW
    show (((kidsS l fd).flatMap _).map _).sum = _
    rw [sum_flat, kidsS_kidL, List.map_map, ← kids_total]
    congr 1
    refine List.map_congr_left fun c hc => ?_
    have ih := walk_cnt l h m (pathS fd (mk c)) (deep_kid hd (by rw [kidsS_kidL]; exact List.mem_map_of_mem hc))
    have hn := node_num l h fd (mk c)
    have hs := (small l h (fun y => inB (pathL (ls fd) c) (nm y))).1
    rw [ls_mk] at hn
    rw [path_ls, ls_mk] at ih
    show (((pathS fd (mk c), tree_Text.nv (nodeS l fd (mk c))) :: (if (nodeS l fd (mk c)).f3 = true then walkS l m (pathS fd (mk c)) else [])).map _).sum = _
    rw [List.map_cons, List.sum_cons]
    show oneW (fun _ => 1) l (ls (pathS fd (mk c))) + _ = _
    rw [show ls (pathS fd (mk c)) = pathL (ls fd) c by rw [path_ls, ls_mk]]
    by_cases h3 : (nodeS l fd (mk c)).f3 = true
    · rw [if_pos h3, Int.add_comm]
      unfold cntW at ih
      rw [ih]
    · rw [if_neg h3]
      rw [hn] at h3
      have : ¬ inW (fun _ => 1) l (pathL (ls fd) c) > 0 := by simpa using h3
      unfold inW at this ⊢
      rw [List.map_nil, List.sum_nil]
      omega
theorem walk_good (l : List S49) (h : okL l) : ∀ (m : Nat) (fd : ByteArray), ∀ x ∈ walkS l m fd, (look l (ls x.1)).isSome = true ∨ x.2.2.2.2 = true
  | 0, fd, x, hx => by cases hx
  | m + 1, fd, x, hx => by
    obtain ⟨c, hc, hx⟩ := List.mem_flatMap.1 (show x ∈ (kidsS l fd).flatMap _ from hx)
    rcases List.mem_cons.1 hx with rfl | hx
    · rw [kidsS_kidL] at hc
      obtain ⟨c', hc', rfl⟩ := List.mem_map.1 hc
      obtain ⟨_, y, hy, hyp⟩ := kidL_ok hc'
      rcases hyp with hyp | hyp
      · refine .inl ?_
        rw [path_ls, ls_mk]
        unfold look
        rw [List.find?_isSome]
        exact ⟨y, hy, by simpa using hyp⟩
      · refine .inr ?_
        have hn := node_num l h fd (mk c')
        rw [ls_mk] at hn
        show (nodeS l fd (mk c')).f3 = true
        rw [hn]
        have := wsum_pos (fun y => inB (pathL (ls fd) c') (nm y)) l y hy hyp
        exact decide_eq_true (show 0 < inW (fun _ => 1) l (pathL (ls fd) c') by unfold inW; omega)
    · split at hx
      · exact walk_good l h m _ x hx
      · cases hx
theorem deep_start {l : List S49} (h : okL l) (fd : ByteArray) : Deep l 64 fd := fun y hy _ => by
  have := h.2.2.2 y hy
  rw [ls_len]
  omega
/-! The numerals. -/
theorem nd_le : ∀ k u : Nat, u < 10 ^ (k + 1) → Lib.nDigits u ≤ k + 1
  | 0, u, h => by rw [Lib.nDigits_small (by simpa using h)]; omega
  | k + 1, u, h => by
    by_cases hu : u < 10
    · rw [Lib.nDigits_small hu]; omega
    · rw [Lib.nDigits_big hu]
      have := nd_le k (u / 10) (by rw [Nat.pow_succ] at h; omega)
      omega
theorem dec_len (u : Nat) (h : u < 10000000000000000000) : (Lib.decDigits u).length ≤ 19 := by
  rw [Lib.decDigits_length]
  exact nd_le 18 u (by simpa using h)
theorem itoa_len (n : Int) (h0 : -9223372036854775808 ≤ n) (h1 : n ≤ 9223372036854775807) : (Lib.itoa n).length ≤ 20 := by
  unfold Lib.itoa
  split
  · have := dec_len n.natAbs (by omega)
    simp only [List.length_cons]; omega
  · have := dec_len n.toNat (by omega)
    omega
/-! The document's numerals. -/
theorem digit_one : ∀ u : Nat, u < 10 → strOfNums [(wrap64 (48 + (u : Int))) % 256] = mk [UInt8.ofNat (48 + u)] := by decide +kernel
theorem digits_nat : ∀ m u : Nat, u < m → u < 9223372036854775808 → Ev (fun k => bindleref33_Digits.f k (u : Int)) (mk (Lib.decDigits u))
  | 0, _, h, _ => by omega
  | m + 1, u, hm, h => by
    refine Ev.step (fun k => by unfold bindleref33_Digits.f; exact rfl) (ev_neg (by omega) ?_)
    by_cases hu : u < 10
    · rw [Lib.decDigits, dif_pos hu, digit_one u hu]
      exact ev_pos (by omega) (Ev.now _)
    · have e1 : wrap64 (Int.tdiv (u : Int) 10) = ((u / 10 : Nat) : Int) := by rw [show Int.tdiv (u : Int) 10 = ((u / 10 : Nat) : Int) from rfl]; exact w64 (by omega) (by omega)
      have e2 : Int.tmod (u : Int) 10 = ((u % 10 : Nat) : Int) := rfl
      have h1 := digits_nat m (u / 10) (by omega) (by omega)
      have h2 := digits_nat m (u % 10) (by omega) (by omega)
      have l1 := dec_len (u / 10) (by omega)
      have l2 := dec_len (u % 10) (by omega)
      have e3 : Lib.decDigits (u % 10) = [UInt8.ofNat (48 + u % 10)] := by rw [Lib.decDigits, dif_pos (by omega)]
      rw [Lib.decDigits, dif_neg hu, ← e3, mk_append]
      refine ev_neg (by omega) ?_
      rw [e1, e2]
      exact ev_bind h1 (ev_bind h2 (ev_pos (by rw [mk_size, mk_size]; omega) (Ev.now _)))
theorem digits_neg : ∀ m u : Nat, u < m → 0 < u → u ≤ 9223372036854775808 → Ev (fun k => bindleref33_Digits.f k (-(u : Int))) (mk (45 :: Lib.decDigits u))
  | 0, _, h, _, _ => by omega
  | m + 1, u, hm, h0, h => by
    have c : ∀ l : List UInt8, mk (45 :: l) = (⟨#[45]⟩ : ByteArray) ++ mk l := fun l => mk_append [45] l
    refine Ev.step (fun k => by unfold bindleref33_Digits.f; exact rfl) (ev_pos (by omega) ?_)
    by_cases hu : u < 10
    · have e1 : wrap64 (-(-(u : Int))) = (u : Int) := by rw [Int.neg_neg]; exact w64 (by omega) (by omega)
      have h1 := digits_nat (u + 1) u (by omega) (by omega)
      have l1 := dec_len u (by omega)
      refine ev_pos (by omega) ?_
      rw [e1, c]
      exact ev_bind h1 (ev_pos (by rw [mk_size]; omega) (Ev.now _))
    · have e0 : Int.tdiv (-(u : Int)) 10 = -((u / 10 : Nat) : Int) := by rw [Int.neg_tdiv]; rfl
      have e1 : wrap64 (Int.tdiv (-(u : Int)) 10) = -((u / 10 : Nat) : Int) := by rw [e0]; exact w64 (by omega) (by omega)
      have e3 : wrap64 (-(Int.tmod (-(u : Int)) 10)) = ((u % 10 : Nat) : Int) := by rw [Int.neg_tmod, Int.neg_neg, show Int.tmod (u : Int) 10 = ((u % 10 : Nat) : Int) from rfl]; exact w64 (by omega) (by omega)
      have h1 := digits_neg m (u / 10) (by omega) (by omega) (by omega)
      have h2 := digits_nat (u % 10 + 1) (u % 10) (by omega) (by omega)
      have l1 := dec_len (u / 10) (by omega)
      have l2 := dec_len (u % 10) (by omega)
      have e4 : Lib.decDigits (u % 10) = [UInt8.ofNat (48 + u % 10)] := by rw [Lib.decDigits, dif_pos (by omega)]
      have e5 : (45 :: Lib.decDigits u) = (45 :: Lib.decDigits (u / 10)) ++ Lib.decDigits (u % 10) := by rw [e4]; rw [Lib.decDigits, dif_neg hu]; rfl
      rw [e5, mk_append]
      refine ev_neg (by omega) ?_
      rw [e1, e3]
      exact ev_bind h1 (ev_bind h2 (ev_pos (by rw [mk_size, mk_size, List.length_cons]; omega) (Ev.now _)))
theorem digits_ev (n : Int) (h0 : -9223372036854775808 ≤ n) (h1 : n ≤ 9223372036854775807) : Ev (fun k => bindleref33_Digits.f k n) (mk (Lib.itoa n)) := by
  unfold Lib.itoa
  split
  · have h := digits_neg (n.natAbs + 1) n.natAbs (by omega) (by omega) (by omega)
    rw [show -(n.natAbs : Int) = n by omega] at h
    exact h
  · have h := digits_nat (n.toNat + 1) n.toNat (by omega) (by omega)
    rw [show (n.toNat : Int) = n by omega] at h
    exact h
/-! ### The document's walk -/
def walkR (l : List S49) : Nat → Int → ByteArray → List S36
  | 0, _, _ => []
  | m + 1, d, fd => (kidsS l fd).flatMap fun c => nodeR l fd d c :: (if (nodeS l fd c).f3 = true then walkR l m (d + 1) (pathS fd c) else [])
def toPN (y : S36) : YtkccjohhakljnaaGreatDoorTree.PN := (y.f4, y.f0, y.f1, y.f2, y.f3)
theorem toPN_node (l : List S49) (fd : ByteArray) (d : Int) (c : ByteArray) : toPN (nodeR l fd d c) = (pathS fd c, tree_Text.nv (nodeS l fd c)) := rfl
theorem walk_same (l : List S49) : ∀ (m : Nat) (d : Int) (fd : ByteArray), (walkR l m d fd).map toPN = walkS l m fd
  | 0, _, _ => rfl
  | m + 1, d, fd => by
    show ((kidsS l fd).flatMap _).map toPN = (kidsS l fd).flatMap _
    rw [List.map_flatMap]
    congr 1
    funext c
    rw [List.map_cons, toPN_node]
    congr 1
    split
    · exact walk_same l m (d + 1) (pathS fd c)
    · rfl
theorem sum_le {α : Type} (f g : α → Int) : ∀ K : List α, (∀ c ∈ K, f c ≤ g c) → (K.map f).sum ≤ (K.map g).sum
  | [], _ => Int.le_refl 0
  | c :: K, h => by
    have h1 := h c List.mem_cons_self
    have h2 := sum_le f g K (fun x hx => h x (List.mem_cons_of_mem _ hx))
    rw [List.map_cons, List.map_cons, List.sum_cons, List.sum_cons]
    omega
theorem sum_mul {α : Type} (t : Int) (g : α → Int) : ∀ K : List α, (K.map fun c => t * g c).sum = t * (K.map g).sum
  | [] => by simp
  | c :: K => by rw [List.map_cons, List.map_cons, List.sum_cons, List.sum_cons, sum_mul t g K, Int.mul_add]
theorem sum_ones {α : Type} : ∀ K : List α, (K.map fun _ => (1 : Int)).sum = (K.length : Int)
  | [] => rfl
  | c :: K => by
    rw [List.map_cons, List.sum_cons, sum_ones K, List.length_cons]
    omega
theorem walk_len (l : List S49) (h : okL l) : ∀ (m : Nat) (fd : ByteArray), ((walkS l m fd).length : Int) ≤ (m : Int) * inW (fun _ => 1) l (ls fd)
  | 0, fd => by
    show ((([] : List YtkccjohhakljnaaGreatDoorTree.PN).length : Nat) : Int) ≤ _
    simp
  | m + 1, fd => by
    rw [← sum_ones]
    show (((kidsS l fd).flatMap _).map _).sum ≤ _
    rw [sum_flat, kidsS_kidL, List.map_map, ← kids_total, ← sum_mul]
    refine sum_le _ _ _ fun c hc => ?_
    show (((pathS fd (mk c), tree_Text.nv (nodeS l fd (mk c))) :: (if (nodeS l fd (mk c)).f3 = true then walkS l m (pathS fd (mk c)) else [])).map _).sum ≤ _
    rw [sum_ones, List.length_cons]
    have ih := walk_len l h m (pathS fd (mk c))
    rw [path_ls, ls_mk] at ih
    obtain ⟨_, y, hy, hyp⟩ := kidL_ok hc
    have a1 := (small l h (fun y => inB (pathL (ls fd) c) (nm y))).1.1
    have a2 := (small l h (fun y => nm y == pathL (ls fd) c)).1.1
    have a3 : 1 ≤ inW (fun _ => 1) l (pathL (ls fd) c) + oneW (fun _ => 1) l (pathL (ls fd) c) := by
      unfold inW oneW
      rcases hyp with hyp | hyp
      · have := wsum_pos (fun y => nm y == pathL (ls fd) c) l y hy (by simpa using hyp)
        omega
      · have := wsum_pos (fun y => inB (pathL (ls fd) c) (nm y)) l y hy hyp
        omega
    have b1 : 0 ≤ inW (fun _ => 1) l (pathL (ls fd) c) := a1
    have b2 : 0 ≤ oneW (fun _ => 1) l (pathL (ls fd) c) := a2
    generalize inW (fun _ => 1) l (pathL (ls fd) c) = a at *
    generalize oneW (fun _ => 1) l (pathL (ls fd) c) = b at *
    have e : ((m + 1 : Nat) : Int) * (a + b) = (m : Int) * a + (m : Int) * b + (a + b) := by
      rw [show ((m + 1 : Nat) : Int) = (m : Int) + 1 by omega, Int.add_mul, Int.one_mul, Int.mul_add]
    rw [e]
    have c1 : 0 ≤ (m : Int) * b := Int.mul_nonneg (by omega) b2
    have c2 : 0 ≤ (m : Int) * a := Int.mul_nonneg (by omega) b1
    split
    · omega
    · rw [List.length_nil]; omega
theorem walkR_len (l : List S49) (h : okL l) (m : Nat) (d : Int) (fd : ByteArray) (hm : m ≤ 64) : (walkR l m d fd).length ≤ 3840 := by
  have h1 := walk_len l h m fd
  rw [← walk_same l m d fd, List.length_map] at h1
  have h2 := (small l h (fun y => inB (ls fd) (nm y))).1
  have h3 : (m : Int) * inW (fun _ => 1) l (ls fd) ≤ 64 * 60 := Int.mul_le_mul (by omega) h2.2 h2.1 (by omega)
  omega
theorem rd36 (K : List S36) (i : Nat) (h : i < K.length) : rd_T36 K (i : Int) = K[i] := by simp [rd_T36, h]
theorem rd36_0 (y : S36) (K : List S36) : rd_T36 (y :: K) 0 = y := rd36 (y :: K) 0 (by simp)
/-- What a row of children, and all below them, come to. -/
def walkK (l : List S49) (m : Nat) (d : Int) (fd : ByteArray) (K : List ByteArray) : List S36 := K.flatMap fun c => nodeR l fd d c :: (if (nodeS l fd c).f3 = true then walkR l m (d + 1) (pathS fd c) else [])
theorem wait_one (l : List S49) (y : S36) (W out : List S36) (hW : W.length ≤ 1000000) (ho : out.length ≤ 1000000) (sub : List S36) (hs : sub.length ≤ 1000000) (res : List S36)
    (hsub : if y.f3 = true then Ev (fun k => bindleref39_List.f k l y.f4 (wrap64 (y.f5 + 1))) sub else sub = []) (h : Ev (fun k => bindleref39_Walk.l0 k l (sub ++ W) (out ++ [y])) res) : Ev (fun k => bindleref39_Walk.l0 k l (y :: W) out) res := by
  refine Ev.step (fun k => by unfold bindleref39_Walk.l0; exact rfl) (ev_pos (by rw [List.length_cons]; omega) (ev_pos (by rw [List.length_cons]; omega) (ev_pos (by omega) ?_)))
  rw [rd36_0]
  refine ev_bind (Ev.now _) ?_
  by_cases h3 : y.f3 = true
  · rw [if_pos h3] at hsub
    refine ev_pos h3 (ev_bind hsub (ev_pos (by rw [List.length_cons]; omega) (ev_bind (Ev.now _) (ev_pos ?_ h))))
    rw [List.drop_one, List.tail_cons]
    omega
  · rw [if_neg h3] at hsub
    subst hsub
    refine ev_neg h3 (ev_pos (by rw [List.length_cons]; omega) (ev_bind (Ev.now _) (ev_pos ?_ h)))
    rw [List.drop_one, List.tail_cons]
    simp only [List.length_nil]
    omega
theorem pile_ev (l : List S49) (h : okL l) : ∀ (m : Nat) (d : Int) (fd : ByteArray), 0 ≤ d → d + m ≤ 1000 → fd.size + 65 * (m + 1) ≤ 9000 → Deep l (m + 1) fd → m + 1 ≤ 64 → ∀ K : List ByteArray, (∀ c ∈ K, c ∈ kidsS l fd) → K.length ≤ 60 → ∀ (rest out res : List S36), rest.length + 60 * (m + 2) ≤ 100000 → out.length + (walkK l m d fd K).length ≤ 1000000 →
    Ev (fun k => bindleref39_Walk.l0 k l rest (out ++ walkK l m d fd K)) res → Ev (fun k => bindleref39_Walk.l0 k l (K.map (nodeR l fd d) ++ rest) out) res := by
  intro m
  induction m with
  | zero =>
    intro d fd hd hd2 hf hdeep hm K
    induction K with
    | nil =>
      intro _ _ rest out res _ _ hr
      rw [show walkK l 0 d fd [] = [] from rfl, List.append_nil] at hr
      exact hr
    | cons c K ihK =>
      intro hk hK rest out res hrl hol hr
      have e : walkK l 0 d fd (c :: K) = nodeR l fd d c :: walkK l 0 d fd K := by
        show (nodeR l fd d c :: _) ++ _ = _
        have : (if (nodeS l fd c).f3 = true then walkR l 0 (d + 1) (pathS fd c) else []) = [] := by split <;> rfl
        rw [this]
        rfl
      rw [e] at hr hol
      rw [List.length_cons] at hol hK
      have hc := hk c List.mem_cons_self
      have hcs := kids_size l fd h c hc
      have hps := path_size fd c
      have hkid := kids_zero (deep_kid hdeep hc)
      have hle := refList_ev l (pathS fd c) (d + 1) h (by omega)
      rw [hkid, List.map_nil] at hle
      have hw : wrap64 ((nodeR l fd d c).f5 + 1) = d + 1 := w64 (by show _ ≤ d + 1; omega) (by show d + 1 ≤ _; omega)
      refine wait_one l (nodeR l fd d c) (K.map (nodeR l fd d) ++ rest) out (by rw [List.length_append, List.length_map]; omega) (by omega) [] (by simp) res ?_ ?_
      · rw [hw]
        split
        · exact hle
        · rfl
      · rw [List.nil_append]
        refine ihK (fun x hx => hk x (List.mem_cons_of_mem _ hx)) (by omega) rest (out ++ [nodeR l fd d c]) res hrl (by rw [List.length_append, List.length_singleton]; omega) ?_
        rw [List.append_assoc]
        exact hr
  | succ m ih =>
    intro d fd hd hd2 hf hdeep hm K
    induction K with
    | nil =>
      intro _ _ rest out res _ _ hr
      rw [show walkK l (m + 1) d fd [] = [] from rfl, List.append_nil] at hr
      exact hr
    | cons c K ihK =>
      intro hk hK rest out res hrl hol hr
      have e : walkK l (m + 1) d fd (c :: K) = nodeR l fd d c :: ((if (nodeS l fd c).f3 = true then walkR l (m + 1) (d + 1) (pathS fd c) else []) ++ walkK l (m + 1) d fd K) := rfl
      rw [e] at hr hol
      rw [List.length_cons, List.length_append] at hol
      rw [List.length_cons] at hK
      have hc := hk c List.mem_cons_self
      have hcs := kids_size l fd h c hc
      have hps := path_size fd c
      have hle := refList_ev l (pathS fd c) (d + 1) h (by omega)
      have hw : wrap64 ((nodeR l fd d c).f5 + 1) = d + 1 := w64 (by show _ ≤ d + 1; omega) (by show d + 1 ≤ _; omega)
      have hkl := kids_len l (pathS fd c) h
      have hmore : ∀ o : List S36, o.length + (walkK l (m + 1) d fd K).length ≤ 1000000 → Ev (fun k => bindleref39_Walk.l0 k l rest (o ++ walkK l (m + 1) d fd K)) res → Ev (fun k => bindleref39_Walk.l0 k l (K.map (nodeR l fd d) ++ rest) o) res := fun o h1 h2 =>
        ihK (fun x hx => hk x (List.mem_cons_of_mem _ hx)) (by omega) rest o res hrl h1 h2
      by_cases h3 : (nodeS l fd c).f3 = true
      · rw [if_pos h3] at hr hol
        refine wait_one l (nodeR l fd d c) (K.map (nodeR l fd d) ++ rest) out (by rw [List.length_append, List.length_map]; omega) (by omega) ((kidsS l (pathS fd c)).map (nodeR l (pathS fd c) (d + 1))) (by rw [List.length_map]; omega) res ?_ ?_
        · rw [hw, if_pos (show (nodeR l fd d c).f3 = true from h3)]
          exact hle
        · have ew : walkR l (m + 1) (d + 1) (pathS fd c) = walkK l m (d + 1) (pathS fd c) (kidsS l (pathS fd c)) := rfl
          rw [ew] at hr hol
          refine ih (d + 1) (pathS fd c) (by omega) (by omega) (by omega) (deep_kid hdeep hc) (by omega) (kidsS l (pathS fd c)) (fun _ hx => hx) hkl (K.map (nodeR l fd d) ++ rest) (out ++ [nodeR l fd d c]) res (by rw [List.length_append, List.length_map]; omega) (by rw [List.length_append, List.length_singleton]; omega) ?_
          refine hmore _ (by rw [List.length_append, List.length_append, List.length_singleton]; omega) ?_
          rw [List.append_assoc, List.append_assoc]
          exact hr
      · rw [if_neg h3] at hr hol
        refine wait_one l (nodeR l fd d c) (K.map (nodeR l fd d) ++ rest) out (by rw [List.length_append, List.length_map]; omega) (by omega) [] (by simp) res ?_ ?_
        · rw [if_neg (show ¬ (nodeR l fd d c).f3 = true from h3)]
        · rw [List.nil_append]
          refine hmore _ (by rw [List.length_append, List.length_singleton]; rw [List.length_nil] at hol; omega) ?_
          rw [List.append_assoc]
          exact hr
theorem refWalk_ev (l : List S49) (h : okL l) (fd : ByteArray) (hf : fd.size ≤ 300) : Ev (fun k => bindleref39_Walk.f k l fd) (walkR l 64 0 fd) := by
  have hl := walkR_len l h 64 0 fd (by omega)
  have e : walkR l 64 0 fd = walkK l 63 0 fd (kidsS l fd) := rfl
  unfold bindleref39_Walk.f
  refine ev_bind (refList_ev l fd 0 h (by omega)) ?_
  have := pile_ev l h 63 0 fd (by omega) (by omega) (by omega) (deep_start h fd) (by omega) (kidsS l fd) (fun _ hx => hx) (kids_len l fd h) [] [] (walkR l 64 0 fd) (by simp) (by rw [← e, List.length_nil]; omega) (by
    rw [List.nil_append, ← e]
    exact Ev.step (fun k => by unfold bindleref39_Walk.l0; exact rfl) (ev_neg (by simp) (Ev.now _)))
  rw [List.append_nil] at this
  exact this
/-! ### How deep a path lies -/
theorem pathL_nil (c : List UInt8) : pathL [] c = c := by unfold pathL; rw [if_pos rfl]
theorem depth_eq (F p : ByteArray) (t : List UInt8) (h : ls p = pathL (ls F) t) (hF : F.size ≤ 1000000) : tree_depth.f F p = some ((t.count 47 : Nat) : Int) := by
  have hc : ∀ q : ByteArray, strings_Count.f q (⟨#[47]⟩ : ByteArray) = some (((ls q).count 47 : Nat) : Int) := fun _ => rfl
  unfold tree_depth.f
  rw [toList_ls]
  by_cases h0 : ls F = []
  · rw [if_pos h0, hc, h, h0, pathL_nil]
    rfl
  · rw [if_neg h0, if_pos (by omega)]
    have hp : ls p = ls (F ++ (⟨#[47]⟩ : ByteArray)) ++ t := by
      rw [h, ls_append]
      unfold pathL
      rw [if_neg h0, show ls (⟨#[47]⟩ : ByteArray) = [47] from rfl, List.append_assoc]
      rfl
    generalize F ++ (⟨#[47]⟩ : ByteArray) = G at hp
    have hs : p.size = G.size + t.length := by
      have := congrArg List.length hp
      rw [List.length_append, ls_len, ls_len] at this
      exact this
    have e1 : p.extract 0 ((G.size : Int) : Int).toNat = G := by
      rw [extract_mk, hp, Int.toNat_natCast, Nat.sub_zero, List.drop_zero, List.take_append_of_le_length (by rw [ls_len]; omega), List.take_of_length_le (by rw [ls_len]; omega)]
    have e2 : p.extract ((G.size : Int) : Int).toNat p.size = mk t := by
      rw [extract_mk, hp, Int.toNat_natCast, List.drop_append_of_le_length (by rw [ls_len]; omega), List.drop_of_length_le (by rw [ls_len]; omega), List.nil_append, List.take_of_length_le (by omega)]
    have h1 : stringslite_HasPrefix.f p G = some true := by
      unfold stringslite_HasPrefix.f
      rw [if_pos (by omega), if_pos (by omega), if_pos (by omega), e1]
      simp
    have h2 : strings_TrimPrefix.f p G = some (mk t) := by
      unfold strings_TrimPrefix.f stringslite_TrimPrefix.f
      rw [h1, Option.bind_some, if_pos rfl, if_pos (by omega), if_pos (by omega), e2]
      rfl
    rw [h2, Option.bind_some, hc]
    rfl
/-- A folder that lies so deep below another one. -/
def LV (F : List UInt8) (d : Int) (G : List UInt8) : Prop := (d = 0 ∧ G = F) ∨ ∃ t, t ≠ [] ∧ G = pathL F t ∧ ((t.count 47 : Nat) : Int) + 1 = d
theorem lv_kid {F G c : List UInt8} {d : Int} (h : LV F d G) (hc : KidOK G c) : ∃ t, t ≠ [] ∧ pathL G c = pathL F t ∧ ((t.count 47 : Nat) : Int) = d := by
  have hz : c.count 47 = 0 := List.count_eq_zero.2 hc.2.1
  rcases h with ⟨rfl, rfl⟩ | ⟨t, ht, rfl, hd⟩
  · exact ⟨c, hc.1, rfl, by rw [hz]; rfl⟩
  · refine ⟨t ++ 47 :: c, by simp, ?_, ?_⟩
    · rw [path_path, path_of_ne (path_ne ht)]
    · rw [List.count_append, List.count_cons_self, hz]
      omega
theorem lines_ok (l : List S49) (h : okL l) (F : List UInt8) : ∀ (m : Nat) (d : Int) (fd : ByteArray), 0 ≤ d → LV F d (ls fd) → ∀ y ∈ walkR l m d fd, (∃ t, ls y.f4 = pathL F t ∧ ((t.count 47 : Nat) : Int) = y.f5) ∧ y.f5 < d + m ∧ y.f0.size ≤ 64 ∧ 0 ≤ y.f2 ∧ y.f2 ≤ 9000000
  | 0, _, _, _, _, y, hy => by cases hy
  | m + 1, d, fd, hd, hlv, y, hy => by
    obtain ⟨c, hc, hy⟩ := List.mem_flatMap.1 (show y ∈ (kidsS l fd).flatMap _ from hy)
    have hcs := kids_size l fd h c hc
    rw [kidsS_kidL] at hc
    obtain ⟨c', hc', rfl⟩ := List.mem_map.1 hc
    obtain ⟨t, ht, e, hcnt⟩ := lv_kid hlv (kidL_ok hc').1
    have hp : ls (pathS fd (mk c')) = pathL F t := by rw [path_ls, ls_mk, e]
    rcases List.mem_cons.1 hy with rfl | hy
    · refine ⟨⟨t, hp, hcnt⟩, by show d < _; omega, ?_, ?_⟩
      · show (nodeS l fd (mk c')).f0.size ≤ 64
        rw [node_f0]
        exact hcs
      · show 0 ≤ (nodeS l fd (mk c')).f2 ∧ (nodeS l fd (mk c')).f2 ≤ 9000000
        rw [node_num l h fd (mk c')]
        have a1 := (small l h (fun y => inB (pathL (ls fd) (ls (mk c'))) (nm y))).2
        have a2 := (small l h (fun y => nm y == pathL (ls fd) (ls (mk c')))).2
        unfold inW oneW
        exact ⟨by show 0 ≤ _ + _; omega, by show _ + _ ≤ _; omega⟩
    · split at hy
      · have := lines_ok l h F m (d + 1) (pathS fd (mk c')) (by omega) (.inr ⟨t, ht, hp, by omega⟩) y hy
        exact ⟨this.1, by omega, this.2.2⟩
      · cases hy
/-! ### The texts -/
def lineR (y : S36) : List UInt8 := YtkccjohhakljnaaGreatDoorTree.spU y.f5.toNat ++ ls y.f0 ++ (if y.f3 = true then [47] else []) ++ (([32] ++ Lib.itoa y.f2) ++ [10])
def textR (ws : List S36) : List UInt8 := ws.flatMap lineR
/-- What is known of a node. -/
def okY (F : ByteArray) (y : S36) : Prop := (∃ t, ls y.f4 = pathL (ls F) t ∧ ((t.count 47 : Nat) : Int) = y.f5) ∧ y.f5 < 64 ∧ y.f0.size ≤ 64 ∧ 0 ≤ y.f2 ∧ y.f2 ≤ 9000000
theorem iF_eq (n : Int) (h0 : 0 ≤ n) (h1 : n ≤ 9000000) : strconv_Itoa.f n = some (mk (Lib.itoa n)) := by
  unfold strconv_Itoa.f
  rw [if_pos ⟨by omega, by omega⟩]
theorem okY_depth {F : ByteArray} {y : S36} (h : okY F y) (hF : F.size ≤ 1000000) : tree_depth.f F y.f4 = some y.f5 ∧ 0 ≤ y.f5 := by
  obtain ⟨⟨t, h1, h2⟩, _⟩ := h
  rw [depth_eq F y.f4 t h1 hF, h2]
  exact ⟨rfl, by omega⟩
theorem good_ok {F : ByteArray} {y : S36} (h : okY F y) (hF : F.size ≤ 1000000) : tree_Text.good F (toPN y) = true := by
  obtain ⟨h1, h2⟩ := okY_depth h hF
  have h3 := iF_eq y.f2 h.2.2.2.1 h.2.2.2.2
  have h4 := itoa_len y.f2 (by have := h.2.2.2.1; omega) (by have := h.2.2.2.2; omega)
  have h5 := h.2.1
  have h6 := h.2.2.1
  unfold tree_Text.good tree_Text.dF tree_Text.iF toPN
  dsimp only
  rw [h1, h3]
  simp only [Option.getD_some, Option.isSome_some]
  refine decide_eq_true ⟨by simp, h2, by omega, by omega, by simp, ?_⟩
  rw [mk_size]
  omega
theorem line_eq {F : ByteArray} {y : S36} (h : okY F y) (hF : F.size ≤ 1000000) : YtkccjohhakljnaaGreatDoorTree.lineU (tree_Text.dF F) tree_Text.iF (toPN y) = lineR y := by
  obtain ⟨h1, h2⟩ := okY_depth h hF
  have h3 := iF_eq y.f2 h.2.2.2.1 h.2.2.2.2
  unfold YtkccjohhakljnaaGreatDoorTree.lineU lineR tree_Text.dF tree_Text.iF toPN
  dsimp only
  rw [h1, h3]
  simp only [Option.getD_some]
  congr 1
theorem textU_eq {F : ByteArray} (hF : F.size ≤ 1000000) : ∀ ws : List S36, (∀ y ∈ ws, okY F y) → YtkccjohhakljnaaGreatDoorTree.textU (tree_Text.dF F) tree_Text.iF (ws.map toPN) = textR ws
  | [], _ => rfl
  | y :: ws, h => by
    show YtkccjohhakljnaaGreatDoorTree.lineU _ _ (toPN y) ++ YtkccjohhakljnaaGreatDoorTree.textU _ _ (ws.map toPN) = lineR y ++ textR ws
    rw [line_eq (h y List.mem_cons_self) hF, textU_eq hF ws (fun z hz => h z (List.mem_cons_of_mem _ hz))]
theorem spU_comm : ∀ n, [32, 32] ++ YtkccjohhakljnaaGreatDoorTree.spU n = YtkccjohhakljnaaGreatDoorTree.spU n ++ [32, 32]
  | 0 => rfl
  | n + 1 => by
    show [32, 32] ++ (YtkccjohhakljnaaGreatDoorTree.spU n ++ [32, 32]) = _
    rw [← List.append_assoc, spU_comm n]
    rfl
theorem line_len {F : ByteArray} {y : S36} (h : okY F y) : (lineR y).length ≤ 300 := by
  obtain ⟨⟨t, _, ht⟩, h5, h0, ha, hb⟩ := h
  have h4 := itoa_len y.f2 (by omega) (by omega)
  unfold lineR
  simp only [List.length_append, YtkccjohhakljnaaGreatDoorTree.spU_len, ls_len, List.length_cons, List.length_nil]
  split
  · simp only [List.length_cons, List.length_nil]; omega
  · simp only [List.length_nil]; omega
theorem mk_app2 (a : ByteArray) (x : List UInt8) : a ++ mk x = mk (ls a ++ x) := by rw [mk_append]
/-- Behind the blanks of a line. -/
theorem line_ev {F : ByteArray} (ws : List S36) (i : Nat) (hi : i < ws.length) (hl : ws.length ≤ 1000000) (h : okY F ws[i]) (res : ByteArray) : ∀ (n j : Nat) (acc : ByteArray), j + n = ws[i].f5.toNat → acc.size ≤ 1000000000 + 2 * j →
    Ev (fun k => bindleref39_Text.l0 k (acc ++ mk (YtkccjohhakljnaaGreatDoorTree.spU n ++ ls ws[i].f0 ++ (if ws[i].f3 = true then [47] else []) ++ (([32] ++ Lib.itoa ws[i].f2) ++ [10]))) ws ((i + 1 : Nat) : Int)) res →
    Ev (fun k => bindleref39_Text.l1 k acc ws i j) res
  | 0, j, acc, hj, ha, hr => by
    obtain ⟨⟨t, _, ht⟩, h5, h0, hb0, hb⟩ := h
    have h4 := itoa_len ws[i].f2 (by omega) (by omega)
    have hd := digits_ev ws[i].f2 (by omega) (by omega)
    refine Ev.step (fun k => by unfold bindleref39_Text.l1; exact rfl) (ev_pos (by omega) (ev_pos (by omega) ?_))
    rw [rd36 ws i hi]
    refine ev_neg (by omega) (ev_pos (by omega) ?_)
    have s1 : (⟨#[47]⟩ : ByteArray).size = 1 := rfl
    have s2 : (⟨#[32]⟩ : ByteArray).size = 1 := rfl
    have sd : (mk (Lib.itoa ws[i].f2)).size ≤ 20 := by rw [mk_size]; exact h4
    by_cases h3 : ws[i].f3 = true
    · rw [if_pos h3] at hr
      refine ev_pos h3 (ev_pos (by rw [ByteArray.size_append]; omega) (ev_pos (by rw [ByteArray.size_append, ByteArray.size_append]; omega) (ev_bind hd (ev_pos (by rw [ByteArray.size_append, ByteArray.size_append, ByteArray.size_append]; omega) (ev_pos (by rw [ByteArray.size_append, ByteArray.size_append, ByteArray.size_append, ByteArray.size_append]; omega) ?_)))))
      rw [wadd i (by omega)]
      refine cast (congrArg (fun z => Ev (fun k => bindleref39_Text.l0 k z ws ((i + 1 : Nat) : Int)) res) (ls_inj ?_)) hr
      simp only [ls_append, ls_mk]
      simp [YtkccjohhakljnaaGreatDoorTree.spU]
    · rw [if_neg h3] at hr
      refine ev_neg h3 (ev_pos (by rw [ByteArray.size_append]; omega) (ev_bind hd (ev_pos (by rw [ByteArray.size_append, ByteArray.size_append]; omega) (ev_pos (by rw [ByteArray.size_append, ByteArray.size_append, ByteArray.size_append]; omega) ?_))))
      rw [wadd i (by omega)]
      refine cast (congrArg (fun z => Ev (fun k => bindleref39_Text.l0 k z ws ((i + 1 : Nat) : Int)) res) (ls_inj ?_)) hr
      simp only [ls_append, ls_mk]
      simp [YtkccjohhakljnaaGreatDoorTree.spU]
  | n + 1, j, acc, hj, ha, hr => by
    have h5 := h.2.1
    refine Ev.step (fun k => by unfold bindleref39_Text.l1; exact rfl) (ev_pos (by omega) (ev_pos (by omega) ?_))
    rw [rd36 ws i hi]
    refine ev_pos (by omega) (ev_pos (by omega) ?_)
    rw [wadd j (by omega)]
    refine line_ev ws i hi hl h res n (j + 1) (acc ++ (⟨#[32, 32]⟩ : ByteArray)) (by omega) (by rw [ByteArray.size_append, show (⟨#[32, 32]⟩ : ByteArray).size = 2 from rfl]; omega) ?_
    refine cast (congrArg (fun z => Ev (fun k => bindleref39_Text.l0 k z ws ((i + 1 : Nat) : Int)) res) (ls_inj ?_)) hr
    simp only [ls_append, ls_mk]
    rw [show YtkccjohhakljnaaGreatDoorTree.spU (n + 1) = [32, 32] ++ YtkccjohhakljnaaGreatDoorTree.spU n from (spU_comm n).symm]
    simp
theorem refText_loop {F : ByteArray} (ws : List S36) (hl : ws.length ≤ 3840) (h : ∀ y ∈ ws, okY F y) : ∀ (n i : Nat) (acc : ByteArray), i + n = ws.length → acc.size ≤ 300 * i →
    Ev (fun k => bindleref39_Text.l0 k acc ws i) (acc ++ mk (textR (ws.drop i)))
  | 0, i, acc, hi, _ => by
    refine Ev.step (fun k => by unfold bindleref39_Text.l0; exact rfl) (ev_neg (by omega) ?_)
    rw [List.drop_of_length_le (by omega)]
    refine cast (congrArg (fun z => Ev (fun _ => some acc) z) (ls_inj ?_)) (Ev.now acc)
    rw [ls_append]
    simp [textR]
  | n + 1, i, acc, hi, ha => by
    have hlt : i < ws.length := by omega
    have hok := h _ (List.getElem_mem hlt)
    have hll := line_len hok
    refine Ev.step (fun k => by unfold bindleref39_Text.l0; exact rfl) (ev_pos (by omega) ?_)
    have hj : 0 + ws[i].f5.toNat = ws[i].f5.toNat := Nat.zero_add _
    refine line_ev ws i hlt (by omega) hok _ ws[i].f5.toNat 0 acc hj (by omega) ?_
    have ih := refText_loop ws hl h n (i + 1) (acc ++ mk (lineR ws[i])) (by omega) (by rw [ByteArray.size_append, mk_size (lineR ws[i])]; omega)
    refine cast (congrArg (fun z => Ev (fun k => bindleref39_Text.l0 k (acc ++ mk (lineR ws[i])) ws ((i + 1 : Nat) : Int)) z) (ls_inj ?_)) ih
    simp only [ls_append, ls_mk]
    rw [List.drop_eq_getElem_cons hlt]
    show _ = ls acc ++ (lineR ws[i] ++ textR (ws.drop (i + 1)))
    rw [List.append_assoc]
/-! ### The law -/
theorem TreeWalks : bindlelaw39_TreeWalks.Pure := by
  intro l fd till hg _ _
  obtain ⟨w, ⟨Kg, hgr⟩, hok⟩ := great_ev l
  obtain ⟨Kl, hlv⟩ := lives_ev
  by_cases ht : w = true ∨ 300 < fd.size
  · refine ⟨Kg + Kl, ?_⟩
    unfold bindlelaw39_TreeWalks.f
    rw [show bindlelaw39_great.f (Kg + Kl) l = _ from hgr _ (by omega), Option.bind_some, if_pos ht]
    exact hlv _ (by omega)
  · have h := hok (by simpa using fun e => ht (Or.inl e))
    have hf : fd.size ≤ 300 := by
      rcases Nat.lt_or_ge 300 fd.size with h | h
      · exact absurd (Or.inr h) ht
      · exact h
    obtain ⟨Kw, hwa⟩ := walk_ev l h 64 fd (by omega) (deep_start h fd)
    obtain ⟨Kr, hrw⟩ := refWalk_ev l h fd hf
    have hlen := walkR_len l h 64 0 fd (by omega)
    have hoks : ∀ y ∈ walkR l 64 0 fd, okY fd y := fun y hy => by
      have := lines_ok l h (ls fd) 64 0 fd (by omega) (.inl ⟨rfl, rfl⟩) y hy
      exact ⟨this.1, by omega, this.2.2⟩
    obtain ⟨Kt, hrt⟩ := refText_loop (F := fd) (walkR l 64 0 fd) hlen hoks (walkR l 64 0 fd).length 0 (⟨#[]⟩ : ByteArray) (by omega) (by decide)
    have hws := walk_same l 64 0 fd
    refine ⟨Kg + Kl + Kw + Kr + Kt, ?_⟩
    generalize hk : Kg + Kl + Kw + Kr + Kt = k
    have e1 : bindleref39_Walk.f k l fd = some (walkR l 64 0 fd) := hrw k (by omega)
    have e2 : YtkccjohhakljnaaGreatDoorTree.walkF (tree_Text.listF k l) tree_Path.f k fd = some (walkS l 64 fd) := hwa k k (by omega) (by omega)
    have e3 : tree_Text.f k l fd = some (mk (textR (walkR l 64 0 fd))) := by
      unfold tree_Text.f
      rw [e2, Option.bind_some, ← hws, if_pos, textU_eq (by omega) _ hoks]
      refine ⟨by rw [List.length_map]; omega, ?_⟩
      rw [List.all_eq_true]
      intro x hx
      obtain ⟨y, hy, rfl⟩ := List.mem_map.1 hx
      exact good_ok (hoks y hy) (by omega)
    have e4 : bindleref39_Text.f k l fd = some (mk (textR (walkR l 64 0 fd))) := by
      unfold bindleref39_Text.f
      rw [e1, Option.bind_some]
      have := hrt k (by omega)
      dsimp only at this
      rw [show ((0 : Nat) : Int) = 0 from rfl] at this
      rw [this]
      congr 1
    unfold bindlelaw39_TreeWalks.f
    rw [show bindlelaw39_great.f k l = _ from hgr k (by omega), Option.bind_some, if_neg ht, e1, Option.bind_some, e3, Option.bind_some, e4, Option.bind_some, e2, Option.bind_some, if_pos]
    · exact hlv k (by omega)
    refine ⟨rfl, by omega, by rw [← hws, List.length_map], fun i hi => ?_⟩
    have hi2 : i < (walkR l 64 0 fd).length := by rw [← hws, List.length_map] at hi; exact hi
    rw [rd36 _ i hi2]
    have ex : (walkS l 64 fd)[i] = toPN (walkR l 64 0 fd)[i] := by simp only [← hws, List.getElem_map]
    rw [ex]
    generalize (walkR l 64 0 fd)[i] = y
    unfold bindlelaw39_TreeWalks.okAt toPN bindlelaw39_node.f
    dsimp only
    rw [if_pos rfl, if_pos rfl, if_pos rfl]
    simp
end Go.Proofs.YtkccjohhakljnaaGreatDoor.Pure
