/- Statement 33.2: the line of any step and any answer, and the text of any of them, is the document's; of more steps than answers there is none. -/
import Derived.Test.YtodifojhegbjaaaDoorPReportLinesx7
import Derived.OpenShut
import Derived.Lib.ItoaNum
namespace Go.Proofs.YtodifojhegbjaaaDoor.Pure
open Go.RowKit Go.Proofs.YtodifojhegbjaaaDoor.PReportLines Go.Proofs.YtodifojhegbjaaaDoorW.PrintWords Go.Proofs.YtodifojhegbjaaaDoorW.PrintLast Go.Proofs.YtodifojhegbjaaaDoorW.PrintMore
theorem w64 {n : Int} (h : -9223372036854775808 ≤ n) (h' : n ≤ 9223372036854775807) : wrap64 n = n := by
  unfold wrap64
  omega
theorem w64_l (a b : Int) : wrap64 (wrap64 a + b) = wrap64 (a + b) := by
  unfold wrap64
  omega
theorem w64_r (a b : Int) : wrap64 (a + wrap64 b) = wrap64 (a + b) := by
  unfold wrap64
  omega
theorem i64_bounds {n : Int} (h : (Lit.int .i64 n).wf = true) : -9223372036854775808 ≤ n ∧ n ≤ 9223372036854775807 := Go.bounds_i64 h
theorem ev_const {α : Type} {o : Option α} {a : α} (h : o = some a) : Ev (fun _ => o) a := ⟨0, fun _ _ => h⟩
theorem ev_pos {α : Type} {c : Prop} [Decidable c] {g h : Nat → Option α} {r : α} (hc : c) (hg : Ev g r) : Ev (fun k => if c then g k else h k) r := by
  obtain ⟨K, hg⟩ := hg
  exact ⟨K, fun k hk => by simp only [if_pos hc]; exact hg k hk⟩
theorem ev_neg {α : Type} {c : Prop} [Decidable c] {g h : Nat → Option α} {r : α} (hc : ¬ c) (hg : Ev h r) : Ev (fun k => if c then g k else h k) r := by
  obtain ⟨K, hg⟩ := hg
  exact ⟨K, fun k hk => by simp only [if_neg hc]; exact hg k hk⟩
theorem ev_from {α : Type} {g : Nat → Option α} {r : α} (K : Nat) (h : ∀ k, K ≤ k → g k = some r) : Ev g r := ⟨K, h⟩
theorem ev_bind {α β : Type} {g : Nat → Option α} {f : Nat → α → Option β} {a : α} {r : β} (h : Ev g a) (k : Ev (fun n => f n a) r) : Ev (fun n => (g n).bind (f n)) r := h.bind k
theorem ev_bindc {α β : Type} {o : Option α} {f : Nat → α → Option β} {a : α} {r : β} (h : o = some a) (k : Ev (fun n => f n a) r) : Ev (fun n => o.bind (f n)) r := (ev_const h).bind k
theorem toList_inj {a b : ByteArray} (h : a.toList = b.toList) : a = b := by
  rw [ByteArray.toList_eq, ByteArray.toList_eq] at h
  exact Go.WideShapes.bytes_inj h
/-- A text's bytes as a list. -/
abbrev ls (a : ByteArray) : List UInt8 := a.data.toList
abbrev mk (l : List UInt8) : ByteArray := ⟨l.toArray⟩
theorem ls_len (a : ByteArray) : (ls a).length = a.size := Array.length_toList
theorem ls_mk (l : List UInt8) : ls (mk l) = l := rfl
theorem mk_ls (a : ByteArray) : mk (ls a) = a := rfl
theorem ls_inj {a b : ByteArray} (h : ls a = ls b) : a = b := Go.WideShapes.bytes_inj h
theorem mk_append (x y : List UInt8) : mk (x ++ y) = mk x ++ mk y := by
  apply ls_inj
  simp [ls, mk]
theorem mk_size (l : List UInt8) : (mk l).size = l.length := by
  show l.toArray.size = _
  rw [List.size_toArray]
theorem extract_ls (a : ByteArray) (i j : Nat) : ls (a.extract i j) = ((ls a).drop i).take (j - i) := by
  show (a.extract i j).data.toList = _
  rw [ByteArray.data_extract, Array.toList_extract]
theorem extract_mk (a : ByteArray) (i j : Nat) : a.extract i j = mk (((ls a).drop i).take (j - i)) := ls_inj (by rw [extract_ls])
theorem bt_nat (a : ByteArray) (i : Nat) (h : i < a.size) : bt a (i : Int) = (((ls a)[i]'(by rw [ls_len]; exact h)).toNat : Int) := by
  unfold bt
  rw [dif_pos (by simpa using h)]
  rfl
/-- A text's parts put together, with bytes 47 between. -/
def joinP : List (List UInt8) → List UInt8
  | [] => []
  | x :: r => x ++ r.flatMap (47 :: ·)
theorem joinP_snoc (l : List (List UInt8)) (h : l ≠ []) (x : List UInt8) : joinP (l ++ [x]) = joinP l ++ 47 :: x := by
  cases l with
  | nil => exact absurd rfl h
  | cons a r => simp [joinP]
theorem split_cons (x : UInt8) (r : List UInt8) : YtodifojhegbjaaaDoorMpHelp.splitL 47 (x :: r) = if x = 47 then [] :: YtodifojhegbjaaaDoorMpHelp.splitL 47 r else match YtodifojhegbjaaaDoorMpHelp.splitL 47 r with
    | h :: t => (x :: h) :: t
    | [] => [[x]] := rfl
def pre (p : List UInt8) : List (List UInt8) → List (List UInt8)
  | h :: t => (p ++ h) :: t
  | [] => [p]
theorem pre_nil {l : List (List UInt8)} (h : l ≠ []) : pre [] l = l := by
  cases l with
  | nil => exact absurd rfl h
  | cons a r => rfl
theorem pre_pre (p q : List UInt8) (l : List (List UInt8)) : pre p (pre q l) = pre (p ++ q) l := by
  cases l <;> simp [pre]
theorem split_ne {x : UInt8} (h : x ≠ 47) (r : List UInt8) : YtodifojhegbjaaaDoorMpHelp.splitL 47 (x :: r) = pre [x] (YtodifojhegbjaaaDoorMpHelp.splitL 47 r) := by
  rw [split_cons, if_neg h]
  cases YtodifojhegbjaaaDoorMpHelp.splitL 47 r <;> rfl
theorem split_eq (r : List UInt8) : YtodifojhegbjaaaDoorMpHelp.splitL 47 (47 :: r) = [] :: YtodifojhegbjaaaDoorMpHelp.splitL 47 r := by rw [split_cons, if_pos rfl]
theorem split_pos (s : List UInt8) : YtodifojhegbjaaaDoorMpHelp.splitL 47 s ≠ [] := YtodifojhegbjaaaDoorMpHelp.splitL_ne 47 s
theorem split_all (p : UInt8 → Bool) (hp : p 47 = true) : ∀ s : List UInt8, ((YtodifojhegbjaaaDoorMpHelp.splitL 47 s).all fun l => l.all p) = s.all p
  | [] => by rfl
  | x :: r => by
    have ih := split_all p hp r
    by_cases hx : x = 47
    · subst hx
      rw [split_eq, List.all_cons, ih, List.all_cons, hp]
      rfl
    · rw [split_ne hx, List.all_cons, ← ih]
      have := split_pos r
      cases h : YtodifojhegbjaaaDoorMpHelp.splitL 47 r with
      | nil => exact absurd h this
      | cons a t => simp [pre, Bool.and_assoc]
theorem split_join : ∀ s : List UInt8, joinP (YtodifojhegbjaaaDoorMpHelp.splitL 47 s) = s
  | [] => by rfl
  | x :: r => by
    have ih := split_join r
    have hn := split_pos r
    by_cases hx : x = 47
    · subst hx
      rw [split_eq]
      cases h : YtodifojhegbjaaaDoorMpHelp.splitL 47 r with
      | nil => exact absurd h hn
      | cons a t =>
        rw [h] at ih
        rw [← ih]
        simp [joinP]
    · rw [split_ne hx]
      cases h : YtodifojhegbjaaaDoorMpHelp.splitL 47 r with
      | nil => exact absurd h hn
      | cons a t =>
        rw [h] at ih
        rw [← ih]
        simp [joinP, pre]
theorem split_no : ∀ (s : List UInt8), ∀ l ∈ YtodifojhegbjaaaDoorMpHelp.splitL 47 s, (47 : UInt8) ∉ l
  | [] => by simp [YtodifojhegbjaaaDoorMpHelp.splitL]
  | x :: r => by
    have ih := split_no r
    by_cases hx : x = 47
    · subst hx
      rw [split_eq]
      intro l hl
      rcases List.mem_cons.1 hl with rfl | hl
      · simp
      · exact ih l hl
    · rw [split_ne hx]
      have hn := split_pos r
      cases h : YtodifojhegbjaaaDoorMpHelp.splitL 47 r with
      | nil => exact absurd h hn
      | cons a t =>
        rw [h] at ih
        intro l hl
        rcases List.mem_cons.1 hl with rfl | hl
        · simp only [List.cons_append, List.nil_append, List.mem_cons, not_or]
          exact ⟨fun e => hx e.symm, ih a List.mem_cons_self⟩
        · exact ih l (List.mem_cons_of_mem _ hl)
theorem split_len (s : List UInt8) : (YtodifojhegbjaaaDoorMpHelp.splitL 47 s).length ≤ s.length + 1 := by
  induction s with
  | nil => simp [YtodifojhegbjaaaDoorMpHelp.splitL]
  | cons x r ih =>
    by_cases hx : x = 47
    · subst hx
      rw [split_eq]
      simp only [List.length_cons]
      omega
    · rw [split_ne hx]
      cases h : YtodifojhegbjaaaDoorMpHelp.splitL 47 r with
      | nil => simp [pre]
      | cons a t => rw [h] at ih; simp only [pre, List.length_cons] at ih ⊢; omega
theorem split_part (s : List UInt8) : ∀ l ∈ YtodifojhegbjaaaDoorMpHelp.splitL 47 s, l.length ≤ s.length := by
  induction s with
  | nil => simp [YtodifojhegbjaaaDoorMpHelp.splitL]
  | cons x r ih =>
    intro l hl
    by_cases hx : x = 47
    · subst hx
      rw [split_eq] at hl
      rcases List.mem_cons.1 hl with rfl | hl
      · simp
      · have := ih l hl; simp only [List.length_cons]; omega
    · rw [split_ne hx] at hl
      cases h : YtodifojhegbjaaaDoorMpHelp.splitL 47 r with
      | nil => exact absurd h (split_pos r)
      | cons a t =>
        rw [h] at ih hl
        rcases List.mem_cons.1 hl with rfl | hl
        · have := ih a List.mem_cons_self; simp only [List.cons_append, List.nil_append, List.length_cons]; omega
        · have := ih l (List.mem_cons_of_mem _ hl); simp only [List.length_cons]; omega
/-- The document's parts. -/
def partsB (a : ByteArray) : List ByteArray := (YtodifojhegbjaaaDoorMpHelp.splitL 47 (ls a)).map mk
theorem refParts_loop (a : ByteArray) (hs : a.size ≤ 1000000) : ∀ (n i from_ : Nat) (acc : List ByteArray), i + n = a.size → from_ ≤ i → acc.length ≤ i →
    Ev (fun k => bindleref15_Parts.l0 k a acc from_ i) (acc ++ (pre (((ls a).drop from_).take (i - from_)) (YtodifojhegbjaaaDoorMpHelp.splitL 47 ((ls a).drop i))).map mk)
  | 0, i, from_, acc, hi, hf, hl => by
    refine Ev.step (fun k => rfl) ?_
    refine ev_neg (by omega) (ev_pos (by omega) (ev_pos (by omega) (ev_pos (by omega) ?_)))
    have hd : (ls a).drop i = [] := List.drop_of_length_le (by rw [ls_len]; omega)
    rw [hd]
    have e1 : a.extract (from_ : Int).toNat a.size = mk (((ls a).drop from_).take (i - from_)) := by
      rw [Int.toNat_natCast, extract_mk]
      congr 3
      omega
    rw [e1]
    have e2 : pre (((ls a).drop from_).take (i - from_)) (YtodifojhegbjaaaDoorMpHelp.splitL 47 []) = [((ls a).drop from_).take (i - from_)] := by simp [pre, YtodifojhegbjaaaDoorMpHelp.splitL]
    rw [e2]
    exact Ev.now _
  | n + 1, i, from_, acc, hi, hf, hl => by
    have hlt : i < (ls a).length := by rw [ls_len]; omega
    have hdr : (ls a).drop i = (ls a)[i] :: (ls a).drop (i + 1) := List.drop_eq_getElem_cons hlt
    refine Ev.step (fun k => rfl) ?_
    refine ev_pos (by omega) (ev_pos (by omega) ?_)
    have hb := bt_nat a i (by omega)
    have hw : wrap64 ((i : Int) + 1) = ((i + 1 : Nat) : Int) := by rw [w64 (by omega) (by omega)]; omega
    rw [hw]
    by_cases hc : (ls a)[i] = 47
    · have hc' : bt a (i : Int) = 47 := by rw [hb, hc]; rfl
      refine ev_pos hc' (ev_pos (by omega) (ev_pos (by omega) (ev_pos (by omega) (ev_pos (by omega) ?_))))
      have ih := refParts_loop a hs n (i + 1) (i + 1) (acc ++ [a.extract (from_ : Int).toNat (i : Int).toNat]) (by omega) (Nat.le_refl _) (by rw [List.length_append]; simp; omega)
      have e1 : a.extract (from_ : Int).toNat (i : Int).toNat = mk (((ls a).drop from_).take (i - from_)) := by rw [Int.toNat_natCast, Int.toNat_natCast, extract_mk]
      rw [e1] at ih ⊢
      rw [Nat.sub_self, List.take_zero, pre_nil (split_pos _)] at ih
      rw [hdr, hc, split_eq]
      simp only [pre, List.append_nil, List.map_cons]
      rw [List.append_assoc] at ih
      exact ih
    · have hc' : ¬ bt a (i : Int) = 47 := by
        rw [hb]
        intro e
        exact hc (UInt8.toNat_inj.1 (by have : ((ls a)[i].toNat : Int) = ((47 : UInt8).toNat : Int) := e; exact_mod_cast this))
      refine ev_neg hc' ?_
      have ih := refParts_loop a hs n (i + 1) from_ acc (by omega) (by omega) (by omega)
      have e2 : ((ls a).drop from_).take (i + 1 - from_) = ((ls a).drop from_).take (i - from_) ++ [(ls a)[i]] := by
        rw [show i + 1 - from_ = (i - from_) + 1 by omega, List.take_succ_eq_append_getElem (by rw [List.length_drop]; omega), List.getElem_drop]
        congr 3
        omega
      rw [hdr, split_ne hc, pre_pre, ← e2]
      exact ih
theorem refParts (a : ByteArray) (hs : a.size ≤ 1000000) : Ev (fun k => bindleref15_Parts.f k a) (partsB a) := by
  have := refParts_loop a hs a.size 0 0 [] (by omega) (Nat.le_refl _) (Nat.le_refl _)
  rw [Nat.sub_self, List.take_zero, pre_nil (split_pos _), List.drop_zero, List.nil_append] at this
  exact this
theorem all_two {α : Type} (p q : α → Bool) : ∀ l : List α, (l.all fun x => p x && q x) = (l.all p && l.all q)
  | [] => rfl
  | x :: r => by
    rw [List.all_cons, all_two p q r, List.all_cons, List.all_cons]
    cases p x <;> cases q x <;> cases r.all p <;> rfl
def fineB (c : UInt8) : Bool := decide (33 ≤ c.toNat) && decide (c.toNat ≤ 126)
def oddB (l : List UInt8) : Bool := !l.isEmpty && !(l == [46]) && !(l == [46, 46])
theorem right_alt (s : List UInt8) : YtodifojhegbjaaaDoorMpHelp.rightB s = (decide (s.length ≤ 64) && (s.all fineB && (YtodifojhegbjaaaDoorMpHelp.splitL 47 s).all oddB)) := by
  unfold YtodifojhegbjaaaDoorMpHelp.rightB
  rw [← split_all fineB (by decide) s]
  congr 1
  rw [← all_two]
  congr 1
  funext l
  unfold YtodifojhegbjaaaDoorMpHelp.partB oddB fineB
  rw [Bool.and_assoc, Bool.and_assoc, Bool.and_assoc]
theorem refRight_l1 (l : List (List UInt8)) : ∀ n i : Nat, i + n = l.length → l.length ≤ 1000000 → Ev (fun k => bindleref15_Right.l1 k (l.map mk) i) ((l.drop i).all oddB)
  | 0, i, hi, hl => by
    refine Ev.step (fun k => rfl) ?_
    rw [List.drop_of_length_le (by omega)]
    exact ev_neg (by rw [List.length_map]; omega) (Ev.now _)
  | n + 1, i, hi, hl => by
    have hlt : i < l.length := by omega
    refine Ev.step (fun k => rfl) ?_
    refine ev_pos (by rw [List.length_map]; omega) (ev_pos (by omega) ?_)
    have hr : (rdOf ByteArray.empty (l.map mk) (i : Int)).toList = l[i] := by
      rw [rdOf, Int.toNat_natCast, List.getD_eq_getElem?_getD, List.getElem?_map, List.getElem?_eq_getElem hlt, Option.map_some, Option.getD_some, ByteArray.toList_eq]
    have hw : wrap64 ((i : Int) + 1) = ((i + 1 : Nat) : Int) := by rw [w64 (by omega) (by omega)]; omega
    rw [hr, hw, List.drop_eq_getElem_cons hlt, List.all_cons]
    have ih := refRight_l1 l n (i + 1) (by omega) hl
    by_cases h1 : l[i] = []
    · rw [show oddB l[i] = false by rw [h1]; rfl]
      exact ev_pos h1 (Ev.now _)
    · by_cases h2 : l[i] = [46]
      · rw [show oddB l[i] = false by rw [h2]; rfl]
        exact ev_neg h1 (ev_pos h2 (Ev.now _))
      · by_cases h3 : l[i] = [46, 46]
        · rw [show oddB l[i] = false by rw [h3]; rfl]
          exact ev_neg h1 (ev_neg h2 (ev_pos h3 (Ev.now _)))
        · have e : oddB l[i] = true := by
            unfold oddB
            rw [List.isEmpty_eq_false_iff.2 h1, beq_eq_false_iff_ne.2 h2, beq_eq_false_iff_ne.2 h3]
            rfl
          rw [e]
          exact ev_neg h1 (ev_neg h2 (ev_neg h3 ih))
theorem refRight_l0 (a : ByteArray) (hs : a.size ≤ 64) : ∀ n i : Nat, i + n = a.size → Ev (fun k => bindleref15_Right.l0 k a i) (((ls a).drop i).all fineB && (YtodifojhegbjaaaDoorMpHelp.splitL 47 (ls a)).all oddB)
  | 0, i, hi => by
    refine Ev.step (fun k => rfl) ?_
    rw [List.drop_of_length_le (by rw [ls_len]; omega)]
    refine ev_neg (by omega) (ev_bind (refParts a (by omega)) ?_)
    have := refRight_l1 (YtodifojhegbjaaaDoorMpHelp.splitL 47 (ls a)) (YtodifojhegbjaaaDoorMpHelp.splitL 47 (ls a)).length 0 (by omega) (by have := split_len (ls a); rw [ls_len] at this; omega)
    rw [List.drop_zero] at this
    exact this
  | n + 1, i, hi => by
    have hlt : i < (ls a).length := by rw [ls_len]; omega
    refine Ev.step (fun k => rfl) ?_
    refine ev_pos (by omega) (ev_pos (by omega) ?_)
    have hb := bt_nat a i (by omega)
    have hw : wrap64 ((i : Int) + 1) = ((i + 1 : Nat) : Int) := by rw [w64 (by omega) (by omega)]; omega
    rw [hb, hw, List.drop_eq_getElem_cons hlt, List.all_cons]
    have ih := refRight_l0 a hs n (i + 1) (by omega)
    by_cases h1 : ((ls a)[i].toNat : Int) < 33
    · rw [show fineB (ls a)[i] = false by unfold fineB; rw [decide_eq_false (by omega)]; rfl]
      exact ev_pos h1 (Ev.now _)
    · by_cases h2 : ((ls a)[i].toNat : Int) > 126
      · rw [show fineB (ls a)[i] = false by unfold fineB; rw [decide_eq_false (p := (ls a)[i].toNat ≤ 126) (by omega), Bool.and_false]]
        exact ev_neg h1 (ev_pos h2 (Ev.now _))
      · rw [show fineB (ls a)[i] = true by unfold fineB; rw [decide_eq_true (by omega), decide_eq_true (by omega)]; rfl]
        exact ev_neg h1 (ev_neg h2 ih)
theorem refRight (a : ByteArray) : Ev (fun k => bindleref15_Right.f k a) (YtodifojhegbjaaaDoorMpHelp.rightB (ls a)) := by
  rw [right_alt, ls_len]
  by_cases h1 : (a.size : Int) < 1
  · have e : ls a = [] := List.eq_nil_of_length_eq_zero (by rw [ls_len]; omega)
    rw [e, show ((YtodifojhegbjaaaDoorMpHelp.splitL 47 []).all oddB) = false by decide, Bool.and_false, Bool.and_false]
    refine ev_pos h1 (Ev.step (fun k => rfl) ?_)
    exact ev_pos (c := true = true) (h := fun k => bindleref15_Right.l0 k a 0) rfl (Ev.now _)
  · refine ev_neg h1 ?_
    by_cases h2 : (a.size : Int) > 64
    · rw [decide_eq_true h2, decide_eq_false (by omega), Bool.false_and]
      refine Ev.step (fun k => rfl) ?_
      exact ev_pos (c := true = true) (h := fun k => bindleref15_Right.l0 k a 0) rfl (Ev.now _)
    · rw [decide_eq_false h2, decide_eq_true (by omega), Bool.true_and]
      refine Ev.step (fun k => rfl) ?_
      refine ev_neg (c := false = true) (g := fun _ => some false) (by decide) ?_
      have := refRight_l0 a (by omega) a.size 0 (by omega)
      rw [List.drop_zero] at this
      exact this
theorem int_cases {P : Int → Prop} (n : Nat) (h : ∀ k < n, P (k : Nat)) (i : Int) (h0 : 0 ≤ i) (h1 : i < n) : P i := by
  have := h i.toNat (by omega)
  rwa [Int.toNat_of_nonneg h0] at this
theorem word_ref (i : Int) : ∃ t, report_Word.f i = some t ∧ bindleref33_Word.f i = some t := by
  by_cases h : 1 ≤ i ∧ i ≤ 18
  · have key : ∀ k < 19, 1 ≤ k → report_Word.f ((k : Nat) : Int) = bindleref33_Word.f ((k : Nat) : Int) := by decide +kernel
    have := int_cases 19 (P := fun i => 1 ≤ i → report_Word.f i = bindleref33_Word.f i) (fun k hk h => key k hk (by omega)) i (by omega) (by omega) h.1
    exact ⟨_, rfl, this.symm⟩
  · refine ⟨⟨#[110, 111, 110, 101]⟩, ?_, ?_⟩
    · unfold report_Word.f
      rw [if_neg h]
    · unfold bindleref33_Word.f
      repeat rw [if_neg (by omega)]
theorem code_ref (i : Int) : ∃ t, report_Code.f i = some t ∧ bindleref33_Code.f i = some t := by
  by_cases h : 0 ≤ i ∧ i ≤ 16
  · have key : ∀ k < 17, report_Code.f ((k : Nat) : Int) = bindleref33_Code.f ((k : Nat) : Int) := by decide +kernel
    have := int_cases 17 (P := fun i => report_Code.f i = bindleref33_Code.f i) (fun k hk => key k hk) i (by omega) (by omega)
    exact ⟨_, rfl, this.symm⟩
  · refine ⟨⟨#[111, 116, 104, 101, 114]⟩, ?_, ?_⟩
    · unfold report_Code.f
      rw [if_neg h]
    · unfold bindleref33_Code.f
      rw [Option.bind_some]
      by_cases h0 : i < 0
      · rw [if_pos h0]
      · rw [if_neg h0, if_pos]
        show (17 : Int) ≤ i
        omega
theorem wadd (i : Nat) (h : i < 9000000000000000000) : wrap64 ((i : Int) + 1) = ((i + 1 : Nat) : Int) := by
  rw [w64 (by omega) (by omega)]
  omega
abbrev P66 := S66
abbrev P47 := S47
abbrev P51 := S51
theorem great_loop (l : List P66) : ∀ n i : Nat, i + n = 100 → ∃ w : Bool, Ev (fun k => bindlelaw33_great.l0 k l i) w ∧ (w = false → l.length ≤ 100 ∧ ∀ j : Nat, i ≤ j → j < l.length → (rd_T66 l j).f0.f1.size ≤ 300)
  | 0, i, hi => by
    have hfin : ∃ w : Bool, Ev (fun k => bindlelaw33_great.j1 k l i false) w ∧ (w = false → l.length ≤ 100 ∧ ∀ j : Nat, i ≤ j → j < l.length → (rd_T66 l j).f0.f1.size ≤ 300) := by
      refine ⟨_, Ev.step (fun k => by unfold bindlelaw33_great.j1; exact rfl) (ev_neg (by decide) (Ev.now _)), fun h => ?_⟩
      have := of_decide_eq_false h
      exact ⟨by omega, fun j h1 h2 => by omega⟩
    obtain ⟨w, h1, h2⟩ := hfin
    refine ⟨w, Ev.step (fun k => by unfold bindlelaw33_great.l0; exact rfl) ?_, h2⟩
    by_cases hl : (i : Int) < (l.length : Int)
    · have hd : decide ((i : Int) < 100) = false := decide_eq_false (by omega)
      rw [hd]
      exact ev_pos hl h1
    · exact ev_neg hl h1
  | n + 1, i, hi => by
    by_cases hl : (i : Int) < (l.length : Int)
    · have hd : decide ((i : Int) < 100) = true := decide_eq_true (by omega)
      obtain ⟨w, h1, h2⟩ := great_loop l n (i + 1) (by omega)
      by_cases c1 : (((rd_T66 l i).f0.f1).size : Int) > 300
      · refine ⟨true, Ev.step (fun k => by unfold bindlelaw33_great.l0; exact rfl) (ev_pos hl ?_), fun h => by cases h⟩
        rw [hd]
        exact Ev.step (fun k => by unfold bindlelaw33_great.j1; exact rfl) (ev_pos rfl (ev_pos (by omega) (ev_pos hl (ev_pos c1 (Ev.now _)))))
      · refine ⟨w, Ev.step (fun k => by unfold bindlelaw33_great.l0; exact rfl) (ev_pos hl ?_), fun h => ⟨(h2 h).1, fun j h3 h4 => ?_⟩⟩
        · rw [hd]
          refine Ev.step (fun k => by unfold bindlelaw33_great.j1; exact rfl) (ev_pos rfl (ev_pos (by omega) (ev_pos hl (ev_neg c1 ?_))))
          rw [wadd i (by omega)]
          exact h1
        · by_cases he : j = i
          · subst he
            omega
          · exact (h2 h).2 j (by omega) h4
    · have hd : ∃ w : Bool, Ev (fun k => bindlelaw33_great.j1 k l i false) w ∧ (w = false → l.length ≤ 100 ∧ ∀ j : Nat, i ≤ j → j < l.length → (rd_T66 l j).f0.f1.size ≤ 300) := by
        refine ⟨_, Ev.step (fun k => by unfold bindlelaw33_great.j1; exact rfl) (ev_neg (by decide) (Ev.now _)), fun h => ?_⟩
        have := of_decide_eq_false h
        exact ⟨by omega, fun j h1 h2 => by omega⟩
      obtain ⟨w, h1, h2⟩ := hd
      exact ⟨w, Ev.step (fun k => by unfold bindlelaw33_great.l0; exact rfl) (ev_neg hl h1), h2⟩
theorem parts_loop (l : List P66) (hs : l.length ≤ 100) : ∀ n i : Nat, i + n = l.length → Ev (fun k => bindlelaw33_parts.l0 k l ((l.take i).map (·.f0)) ((l.take i).map (·.f1)) i) (l.map (·.f0), l.map (·.f1))
  | 0, i, hi => by
    refine Ev.step (fun k => by unfold bindlelaw33_parts.l0; exact rfl) (ev_neg (by omega) ?_)
    rw [List.take_of_length_le (by omega)]
    exact Ev.now _
  | n + 1, i, hi => by
    refine Ev.step (fun k => by unfold bindlelaw33_parts.l0; exact rfl) (ev_pos (by omega) (ev_pos (by omega) (ev_pos (by rw [List.length_map, List.length_take]; omega) (ev_pos (by rw [List.length_map, List.length_take]; omega) ?_))))
    have h := parts_loop l hs n (i + 1) (by omega)
    have hr : rd_T66 l i = l[i]'(by omega) := by
      unfold rd_T66
      rw [Int.toNat_natCast, List.getD_eq_getElem?_getD, List.getElem?_eq_getElem (by omega), Option.getD_some]
    have ht : l.take (i + 1) = l.take i ++ [l[i]'(by omega)] := (List.take_append_getElem (by omega)).symm
    rw [ht, List.map_append, List.map_append, List.map_cons, List.map_cons, List.map_nil, List.map_nil] at h
    rw [wadd i (by omega), hr]
    exact h
theorem lives_ev : Ev (fun k => bindlelaw33_lives.f k) true := Ev.of bindlelaw33_lives.mono (k := 9) (by decide +kernel)
/-! The numerals. -/
theorem nd_le : ∀ k u : Nat, u < 10 ^ (k + 1) → Lib.nDigits u ≤ k + 1
  | 0, u, h => by rw [Lib.nDigits_small (by simpa using h)]; omega
  | k + 1, u, h => by
    by_cases hu : u < 10
    · rw [Lib.nDigits_small hu]; omega
    · rw [Lib.nDigits_big hu]
      have := nd_le k (u / 10) (by rw [Nat.pow_succ] at h; omega)
      omega
theorem dec_len (u : Nat) (h : u < 10000000000000000000) : (Lib.decDigits u).length ≤ 19 := by
  rw [Lib.decDigits_length]
  exact nd_le 18 u (by simpa using h)
theorem itoa_len (n : Int) (h0 : -9223372036854775808 ≤ n) (h1 : n ≤ 9223372036854775807) : (Lib.itoa n).length ≤ 20 := by
  unfold Lib.itoa
  split
  · have := dec_len n.natAbs (by omega)
    simp only [List.length_cons]; omega
  · have := dec_len n.toNat (by omega)
    omega
theorem word_len (i : Int) (t : ByteArray) (h : report_Word.f i = some t) : t.size ≤ 20 := by
  have key : ∀ w ∈ report_kinds.words, w.size ≤ 20 := by decide +kernel
  unfold report_Word.f at h
  obtain rfl := Option.some.inj h
  split
  · rw [List.getD_eq_getElem?_getD]
    by_cases hl : i.toNat < report_kinds.words.length
    · rw [List.getElem?_eq_getElem hl]
      exact key _ (List.getElem_mem hl)
    · rw [List.getElem?_eq_none (by omega)]
      decide
  · decide
theorem code_len (i : Int) (t : ByteArray) (h : report_Code.f i = some t) : t.size ≤ 20 := by
  have key : ∀ w ∈ report_codes.words, w.size ≤ 20 := by decide +kernel
  unfold report_Code.f at h
  obtain rfl := Option.some.inj h
  split
  · rw [List.getD_eq_getElem?_getD]
    by_cases hl : i.toNat < report_codes.words.length
    · rw [List.getElem?_eq_getElem hl]
      exact key _ (List.getElem_mem hl)
    · rw [List.getElem?_eq_none (by omega)]
      decide
  · decide
/-! A line. -/
def numB (n : Int) (u : ByteArray) : ByteArray := (⟨#[32]⟩ : ByteArray) ++ mk (Lib.itoa n) ++ u
def besB (kd : Int) (dl sz nl fl : Int) : ByteArray := if kd = 8 then numB dl ⟨#[98]⟩ else if kd = 9 then numB sz ⟨#[98]⟩ else if kd = 10 then numB nl ⟨#[120]⟩ else if kd = 2 then numB fl ⟨#[120]⟩ else if kd = 15 then numB fl ⟨#[120]⟩ else ⟨#[]⟩
def tailB (s : ByteArray) (rf po : Bool) : ByteArray := if rf = true then (if po = true then s ++ (⟨#[32, 114, 101, 102, 117, 115, 101, 100]⟩ : ByteArray) ++ (⟨#[32, 112, 111, 105, 115, 111, 110, 101, 100]⟩ : ByteArray) else s ++ (⟨#[32, 114, 101, 102, 117, 115, 101, 100]⟩ : ByteArray)) else if po = true then s ++ (⟨#[32, 112, 111, 105, 115, 111, 110, 101, 100]⟩ : ByteArray) else s
def headB (w nm cd : ByteArray) : ByteArray := (if YtodifojhegbjaaaDoorMpHelp.rightB (ls nm) = true then w ++ ((⟨#[32]⟩ : ByteArray) ++ nm) else w) ++ ((⟨#[58, 32]⟩ : ByteArray) ++ cd)
def lineB (o : P47) (a : P51) : ByteArray :=
  let h := headB ((report_Word.f o.f0).getD ⟨#[]⟩) o.f1 ((report_Code.f a.f0).getD ⟨#[]⟩)
  tailB (if a.f0 = 0 then h ++ besB o.f0 a.f1.length a.f2 a.f3.length a.f4.length else h) a.f5 a.f6
/-- What is known of a step and its answer. -/
def okOA (o : P47) (a : P51) : Prop := o.f1.size ≤ 300 ∧ a.f1.length ≤ 140737488355328 ∧ -9223372036854775808 ≤ a.f2 ∧ a.f2 ≤ 9223372036854775807 ∧ a.f3.length ≤ 140737488355328 ∧ a.f4.length ≤ 140737488355328
theorem num_len (n : Int) (u : ByteArray) (h0 : -9223372036854775808 ≤ n) (h1 : n ≤ 9223372036854775807) (hu : u.size ≤ 1) : (numB n u).size ≤ 22 := by
  have := itoa_len n h0 h1
  unfold numB
  have hz : (mk (Lib.itoa n)).size ≤ 20 := by rw [mk_size]; exact this
  rw [ByteArray.size_append, ByteArray.size_append, show (⟨#[32]⟩ : ByteArray).size = 1 from rfl]
  omega
theorem bes_len (o : P47) (a : P51) (h : okOA o a) : (besB o.f0 a.f1.length a.f2 a.f3.length a.f4.length).size ≤ 22 := by
  obtain ⟨h1, h2, h3, h4, h5, h6⟩ := h
  unfold besB
  repeat' split
  all_goals first | exact num_len _ _ (by omega) (by omega) (by decide) | decide
theorem head_len (w nm cd : ByteArray) (hw : w.size ≤ 20) (hn : nm.size ≤ 300) (hc : cd.size ≤ 20) : (headB w nm cd).size ≤ 343 := by
  unfold headB
  split
  · rw [ByteArray.size_append, ByteArray.size_append, ByteArray.size_append, ByteArray.size_append, show (⟨#[32]⟩ : ByteArray).size = 1 from rfl, show (⟨#[58, 32]⟩ : ByteArray).size = 2 from rfl]
    omega
  · rw [ByteArray.size_append, ByteArray.size_append, show (⟨#[58, 32]⟩ : ByteArray).size = 2 from rfl]
    omega
theorem size_le (n : Int) (u : ByteArray) (h0 : -9223372036854775808 ≤ n) (h1 : n ≤ 9223372036854775807) (hu : u.size ≤ 1) : report_size.f n u = some (numB n u) := by
  have := itoa_len n h0 h1
  have e : strconv_Itoa.f n = some (mk (Lib.itoa n)) := by unfold strconv_Itoa.f; rw [if_pos ⟨h0, h1⟩]
  have hz : (mk (Lib.itoa n)).size ≤ 20 := by rw [mk_size]; exact this
  unfold report_size.f
  rw [e, Option.bind_some, if_pos (by omega), if_pos (by rw [ByteArray.size_append, show (⟨#[32]⟩ : ByteArray).size = 1 from rfl]; omega)]
  rfl
theorem beside_eq (o : P47) (a : P51) (h : okOA o a) : report_beside.f o.f0 a.f0 a.f1 a.f2 a.f3 a.f4 a.f5 a.f6 = some (besB o.f0 a.f1.length a.f2 a.f3.length a.f4.length) := by
  obtain ⟨h1, h2, h3, h4, h5, h6⟩ := h
  have e1 := size_le (a.f1.length : Int) ⟨#[98]⟩ (by omega) (by omega) (by decide)
  have e2 := size_le a.f2 ⟨#[98]⟩ h3 h4 (by decide)
  have e3 := size_le (a.f3.length : Int) ⟨#[120]⟩ (by omega) (by omega) (by decide)
  have e4 := size_le (a.f4.length : Int) ⟨#[120]⟩ (by omega) (by omega) (by decide)
  unfold report_beside.f besB
  rw [e1, e2, e3, e4]
  simp only [Option.bind_some]
  repeat' split
  all_goals rfl
theorem tail_ev (s : ByteArray) (e : Int) (d : List Int) (sz : Int) (n : List ByteArray) (f : List S122) (rf po : Bool) (hs : s.size ≤ 1000) : Ev (fun k => report_Line.j1 k s e d sz n f rf po) (tailB s rf po) := by
  refine Ev.step (fun k => by unfold report_Line.j1; exact rfl) ?_
  unfold tailB
  have e8 : (⟨#[32, 114, 101, 102, 117, 115, 101, 100]⟩ : ByteArray).size = 8 := rfl
  cases rf <;> cases po
  · exact Ev.now _
  · exact ev_neg (by decide) (ev_pos rfl (ev_pos (by omega) (Ev.now _)))
  · exact ev_pos rfl (ev_pos (by omega) (ev_neg (by decide) (Ev.now _)))
  · exact ev_pos rfl (ev_pos (by omega) (ev_pos rfl (ev_pos (by rw [ByteArray.size_append, e8]; omega) (Ev.now _))))
theorem line_ev (o : P47) (a : P51) (h : okOA o a) : Ev (fun k => report_Line.f k o.f0 o.f1 o.f2 o.f3 o.f4.f0 o.f4.f1 o.f4.f2 a.f0 a.f1 a.f2 a.f3 a.f4 a.f5 a.f6) (lineB o a) := by
  have hw : report_Word.f o.f0 = some ((report_Word.f o.f0).getD ⟨#[]⟩) := rfl
  have hc : report_Code.f a.f0 = some ((report_Code.f a.f0).getD ⟨#[]⟩) := rfl
  unfold lineB
  have hwl := word_len _ _ hw
  have hcl := code_len _ _ hc
  generalize (report_Word.f o.f0).getD ⟨#[]⟩ = w at hw hwl
  generalize (report_Code.f a.f0).getD ⟨#[]⟩ = c at hc hcl
  dsimp only
  have e1 : (⟨#[32]⟩ : ByteArray).size = 1 := rfl
  have e2 : (⟨#[58, 32]⟩ : ByteArray).size = 2 := rfl
  have hn := h.1
  have go : ∀ s : ByteArray, s.size ≤ 321 → Ev (fun k => report_Line.j0 k s o.f0 o.f1 o.f2 o.f3 o.f4.f0 o.f4.f1 o.f4.f2 a.f0 a.f1 a.f2 a.f3 a.f4 a.f5 a.f6) (tailB (if a.f0 = 0 then (s ++ ((⟨#[58, 32]⟩ : ByteArray) ++ c)) ++ besB o.f0 a.f1.length a.f2 a.f3.length a.f4.length else s ++ ((⟨#[58, 32]⟩ : ByteArray) ++ c)) a.f5 a.f6) := by
    intro s hs
    have hb := bes_len o a h
    refine Ev.step (fun k => by unfold report_Line.j0; exact rfl) ?_
    refine ev_bindc hc ?_
    refine ev_pos (by omega) (ev_pos (by rw [ByteArray.size_append, e2]; omega) ?_)
    by_cases h0 : a.f0 = 0
    · rw [if_pos h0]
      refine ev_pos h0 (ev_bindc (beside_eq o a h) (ev_pos (by rw [ByteArray.size_append, ByteArray.size_append, e2]; omega) (tail_ev _ _ _ _ _ _ _ _ (by rw [ByteArray.size_append, ByteArray.size_append, ByteArray.size_append, e2]; omega))))
    · rw [if_neg h0]
      exact ev_neg h0 (tail_ev _ _ _ _ _ _ _ _ (by rw [ByteArray.size_append, ByteArray.size_append, e2]; omega))
  unfold report_Line.f headB
  refine ev_bindc hw (ev_bindc (show member_Right.f o.f1 = some (YtodifojhegbjaaaDoorMpHelp.rightB (ls o.f1)) from rfl) ?_)
  by_cases hr : YtodifojhegbjaaaDoorMpHelp.rightB (ls o.f1) = true
  · rw [if_pos hr]
    exact ev_pos hr (ev_pos (by omega) (ev_pos (by rw [ByteArray.size_append, e1]; omega) (go _ (by rw [ByteArray.size_append, ByteArray.size_append, e1]; omega))))
  · rw [if_neg hr]
    exact ev_neg hr (go _ (by omega))
theorem line_len (o : P47) (a : P51) (h : okOA o a) : (lineB o a).size ≤ 400 := by
  unfold lineB
  have hw : report_Word.f o.f0 = some ((report_Word.f o.f0).getD ⟨#[]⟩) := rfl
  have hc : report_Code.f a.f0 = some ((report_Code.f a.f0).getD ⟨#[]⟩) := rfl
  have h1 := head_len _ _ _ (word_len _ _ hw) h.1 (code_len _ _ hc)
  have hb := bes_len o a h
  generalize headB ((report_Word.f o.f0).getD ⟨#[]⟩) o.f1 ((report_Code.f a.f0).getD ⟨#[]⟩) = s at h1
  dsimp only
  have hs : (if a.f0 = 0 then s ++ besB o.f0 a.f1.length a.f2 a.f3.length a.f4.length else s).size ≤ 365 := by
    split
    · rw [ByteArray.size_append]; omega
    · omega
  generalize (if a.f0 = 0 then s ++ besB o.f0 a.f1.length a.f2 a.f3.length a.f4.length else s) = s2 at hs
  have e8 : (⟨#[32, 114, 101, 102, 117, 115, 101, 100]⟩ : ByteArray).size = 8 := rfl
  have e9 : (⟨#[32, 112, 111, 105, 115, 111, 110, 101, 100]⟩ : ByteArray).size = 9 := rfl
  unfold tailB
  cases a.f5 <;> cases a.f6 <;> simp only [Bool.false_eq_true, if_true, if_false, ByteArray.size_append, e8, e9] <;> omega
/-! All lines. -/
def textTo (L : Nat → ByteArray) : Nat → ByteArray
  | 0 => ⟨#[]⟩
  | i + 1 => textTo L i ++ (L i ++ (⟨#[10]⟩ : ByteArray))
theorem text_len (L : Nat → ByteArray) (n : Nat) (h : ∀ i, i < n → (L i).size ≤ 400) : ∀ i, i ≤ n → (textTo L i).size ≤ i * 401
  | 0, _ => Nat.zero_le _
  | i + 1, hi => by
    have h1 := text_len L n h i (by omega)
    have h2 := h i (by omega)
    show (textTo L i ++ (L i ++ (⟨#[10]⟩ : ByteArray))).size ≤ _
    rw [ByteArray.size_append, ByteArray.size_append, show (⟨#[10]⟩ : ByteArray).size = 1 from rfl]
    omega
theorem text_loop (o : List P47) (a : List P51) (ha : a.length = o.length) (hl : o.length ≤ 100) (hok : ∀ i : Nat, i < o.length → okOA (rd_T47 o i) (rd_T51 a i)) : ∀ n i : Nat, i + n = o.length →
    Ev (fun k => report_Text.l0 k a (textTo (fun j => lineB (rd_T47 o j) (rd_T51 a j)) i) o (o.length : Int) i) (textTo (fun j => lineB (rd_T47 o j) (rd_T51 a j)) o.length, 0)
  | 0, i, hi => by
    have e : i = o.length := by omega
    subst e
    exact Ev.step (fun k => by unfold report_Text.l0; exact rfl) (ev_neg (by omega) (Ev.now _))
  | n + 1, i, hi => by
    have h := text_loop o a ha hl hok n (i + 1) (by omega)
    have hi' := hok i (by omega)
    have ht := text_len (fun j => lineB (rd_T47 o j) (rd_T51 a j)) o.length (fun j hj => line_len _ _ (hok j hj)) i (by omega)
    have hln := line_len _ _ hi'
    have e1 : (⟨#[10]⟩ : ByteArray).size = 1 := rfl
    refine Ev.step (fun k => by unfold report_Text.l0; exact rfl) ?_
    refine ev_pos (by omega) (ev_pos (by omega) (ev_pos (by omega) (ev_pos (by omega) ?_)))
    refine ev_bind (line_ev _ _ hi') ?_
    refine ev_pos (by omega) (ev_pos (by rw [ByteArray.size_append, e1]; omega) ?_)
    rw [wadd i (by omega)]
    exact h
/-! The document's numerals. -/
theorem digit_one : ∀ u : Nat, u < 10 → strOfNums [(wrap64 (48 + (u : Int))) % 256] = mk [UInt8.ofNat (48 + u)] := by decide +kernel
theorem digits_nat : ∀ m u : Nat, u < m → u < 9223372036854775808 → Ev (fun k => bindleref33_Digits.f k (u : Int)) (mk (Lib.decDigits u))
  | 0, _, h, _ => by omega
  | m + 1, u, hm, h => by
    refine Ev.step (fun k => by unfold bindleref33_Digits.f; exact rfl) (ev_neg (by omega) ?_)
    by_cases hu : u < 10
    · rw [Lib.decDigits, dif_pos hu, digit_one u hu]
      exact ev_pos (by omega) (Ev.now _)
    · have e1 : wrap64 (Int.tdiv (u : Int) 10) = ((u / 10 : Nat) : Int) := by rw [show Int.tdiv (u : Int) 10 = ((u / 10 : Nat) : Int) from rfl]; exact w64 (by omega) (by omega)
      have e2 : Int.tmod (u : Int) 10 = ((u % 10 : Nat) : Int) := rfl
      have h1 := digits_nat m (u / 10) (by omega) (by omega)
      have h2 := digits_nat m (u % 10) (by omega) (by omega)
      have l1 := dec_len (u / 10) (by omega)
      have l2 := dec_len (u % 10) (by omega)
      have e3 : Lib.decDigits (u % 10) = [UInt8.ofNat (48 + u % 10)] := by rw [Lib.decDigits, dif_pos (by omega)]
      rw [Lib.decDigits, dif_neg hu, ← e3, mk_append]
      refine ev_neg (by omega) ?_
      rw [e1, e2]
      exact ev_bind h1 (ev_bind h2 (ev_pos (by rw [mk_size, mk_size]; omega) (Ev.now _)))
theorem digits_neg : ∀ m u : Nat, u < m → 0 < u → u ≤ 9223372036854775808 → Ev (fun k => bindleref33_Digits.f k (-(u : Int))) (mk (45 :: Lib.decDigits u))
  | 0, _, h, _, _ => by omega
  | m + 1, u, hm, h0, h => by
    have c : ∀ l : List UInt8, mk (45 :: l) = (⟨#[45]⟩ : ByteArray) ++ mk l := fun l => mk_append [45] l
    refine Ev.step (fun k => by unfold bindleref33_Digits.f; exact rfl) (ev_pos (by omega) ?_)
    by_cases hu : u < 10
    · have e1 : wrap64 (-(-(u : Int))) = (u : Int) := by rw [Int.neg_neg]; exact w64 (by omega) (by omega)
      have h1 := digits_nat (u + 1) u (by omega) (by omega)
      have l1 := dec_len u (by omega)
      refine ev_pos (by omega) ?_
      rw [e1, c]
      exact ev_bind h1 (ev_pos (by rw [mk_size]; omega) (Ev.now _))
    · have e0 : Int.tdiv (-(u : Int)) 10 = -((u / 10 : Nat) : Int) := by rw [Int.neg_tdiv]; rfl
      have e1 : wrap64 (Int.tdiv (-(u : Int)) 10) = -((u / 10 : Nat) : Int) := by rw [e0]; exact w64 (by omega) (by omega)
      have e3 : wrap64 (-(Int.tmod (-(u : Int)) 10)) = ((u % 10 : Nat) : Int) := by rw [Int.neg_tmod, Int.neg_neg, show Int.tmod (u : Int) 10 = ((u % 10 : Nat) : Int) from rfl]; exact w64 (by omega) (by omega)
      have h1 := digits_neg m (u / 10) (by omega) (by omega) (by omega)
      have h2 := digits_nat (u % 10 + 1) (u % 10) (by omega) (by omega)
      have l1 := dec_len (u / 10) (by omega)
      have l2 := dec_len (u % 10) (by omega)
      have e4 : Lib.decDigits (u % 10) = [UInt8.ofNat (48 + u % 10)] := by rw [Lib.decDigits, dif_pos (by omega)]
      have e5 : (45 :: Lib.decDigits u) = (45 :: Lib.decDigits (u / 10)) ++ Lib.decDigits (u % 10) := by rw [e4]; rw [Lib.decDigits, dif_neg hu]; rfl
      rw [e5, mk_append]
      refine ev_neg (by omega) ?_
      rw [e1, e3]
      exact ev_bind h1 (ev_bind h2 (ev_pos (by rw [mk_size, mk_size, List.length_cons]; omega) (Ev.now _)))
theorem digits_ev (n : Int) (h0 : -9223372036854775808 ≤ n) (h1 : n ≤ 9223372036854775807) : Ev (fun k => bindleref33_Digits.f k n) (mk (Lib.itoa n)) := by
  unfold Lib.itoa
  split
  · have h := digits_neg (n.natAbs + 1) n.natAbs (by omega) (by omega) (by omega)
    rw [show -(n.natAbs : Int) = n by omega] at h
    exact h
  · have h := digits_nat (n.toNat + 1) n.toNat (by omega) (by omega)
    rw [show (n.toNat : Int) = n by omega] at h
    exact h
/-! The document's line. -/
theorem rtail_ev (s : ByteArray) (e : Int) (d : List Int) (sz : Int) (n : List ByteArray) (f : List S122) (rf po : Bool) (hs : s.size ≤ 1000) : Ev (fun k => bindleref33_Line.j1 k s e d sz n f rf po) (tailB s rf po) := by
  refine Ev.step (fun k => by unfold bindleref33_Line.j1; exact rfl) ?_
  unfold tailB
  have e8 : (⟨#[32, 114, 101, 102, 117, 115, 101, 100]⟩ : ByteArray).size = 8 := rfl
  cases rf <;> cases po
  · exact Ev.now _
  · exact ev_neg (by decide) (ev_pos rfl (ev_pos (by omega) (Ev.now _)))
  · exact ev_pos rfl (ev_pos (by omega) (ev_neg (by decide) (Ev.now _)))
  · exact ev_pos rfl (ev_pos (by omega) (ev_pos rfl (ev_pos (by rw [ByteArray.size_append, e8]; omega) (Ev.now _))))
theorem rline_ev (o : P47) (a : P51) (h : okOA o a) : Ev (fun k => bindleref33_Line.f k o.f0 o.f1 o.f2 o.f3 o.f4.f0 o.f4.f1 o.f4.f2 a.f0 a.f1 a.f2 a.f3 a.f4 a.f5 a.f6) (lineB o a) := by
  obtain ⟨w, hw, hw2⟩ := word_ref o.f0
  obtain ⟨c, hc, hc2⟩ := code_ref a.f0
  have hwl := word_len _ _ hw
  have hcl := code_len _ _ hc
  unfold lineB
  rw [hw, hc, Option.getD_some, Option.getD_some]
  dsimp only
  have e1 : (⟨#[32]⟩ : ByteArray).size = 1 := rfl
  have e2 : (⟨#[58, 32]⟩ : ByteArray).size = 2 := rfl
  have hn := h.1
  have go : ∀ s : ByteArray, s.size ≤ 321 → Ev (fun k => bindleref33_Line.j0 k s o.f0 o.f1 o.f2 o.f3 o.f4.f0 o.f4.f1 o.f4.f2 a.f0 a.f1 a.f2 a.f3 a.f4 a.f5 a.f6) (tailB (if a.f0 = 0 then (s ++ ((⟨#[58, 32]⟩ : ByteArray) ++ c)) ++ besB o.f0 a.f1.length a.f2 a.f3.length a.f4.length else s ++ ((⟨#[58, 32]⟩ : ByteArray) ++ c)) a.f5 a.f6) := by
    intro s hs
    refine Ev.step (fun k => by unfold bindleref33_Line.j0; exact rfl) ?_
    refine ev_pos (by omega) ?_
    refine ev_bindc hc2 ?_
    refine ev_pos (by rw [ByteArray.size_append, e2]; omega) ?_
    have hh : (s ++ (⟨#[58, 32]⟩ : ByteArray) ++ c).size ≤ 343 := by rw [ByteArray.size_append, ByteArray.size_append, e2]; omega
    rw [← ByteArray.append_assoc]
    generalize s ++ (⟨#[58, 32]⟩ : ByteArray) ++ c = z at hh
    have num : ∀ (n : Int) (u : ByteArray), -9223372036854775808 ≤ n → n ≤ 9223372036854775807 → u.size = 1 →
        Ev (fun k => if z.size + 1 ≤ 9223372036854775807 then ((bindleref33_Digits.f k n).bind fun t152 => (if (z ++ (⟨#[32]⟩ : ByteArray)).size + t152.size ≤ 9223372036854775807 then (if ((z ++ (⟨#[32]⟩ : ByteArray)) ++ t152).size + 1 ≤ 9223372036854775807 then (bindleref33_Line.j1 k (((z ++ (⟨#[32]⟩ : ByteArray)) ++ t152) ++ u) a.f0 a.f1 a.f2 a.f3 a.f4 a.f5 a.f6) else (none)) else (none))) else (none)) (tailB (z ++ numB n u) a.f5 a.f6) := by
      intro n u h0 h1 hu
      have hl := itoa_len n h0 h1
      have e3 : z ++ numB n u = z ++ (⟨#[32]⟩ : ByteArray) ++ mk (Lib.itoa n) ++ u := by unfold numB; rw [← ByteArray.append_assoc, ← ByteArray.append_assoc]
      have hz : (mk (Lib.itoa n)).size ≤ 20 := by rw [mk_size]; exact hl
      rw [e3]
      exact ev_pos (by omega) (ev_bind (digits_ev n h0 h1) (ev_pos (by rw [ByteArray.size_append, e1]; omega) (ev_pos (by rw [ByteArray.size_append, ByteArray.size_append, e1]; omega) (rtail_ev _ _ _ _ _ _ _ _ (by rw [ByteArray.size_append, ByteArray.size_append, ByteArray.size_append, e1]; omega)))))
    obtain ⟨h1, h2, h3, h4, h5, h6⟩ := h
    by_cases h0 : a.f0 = 0
    · rw [if_pos h0]
      refine ev_pos h0 ?_
      unfold besB
      by_cases k1 : o.f0 = 8
      · rw [if_pos k1]; exact ev_pos k1 (num _ _ (by omega) (by omega) rfl)
      by_cases k2 : o.f0 = 9
      · rw [if_neg k1, if_pos k2]; exact ev_neg k1 (ev_pos k2 (num _ _ h3 h4 rfl))
      by_cases k3 : o.f0 = 10
      · rw [if_neg k1, if_neg k2, if_pos k3]; exact ev_neg k1 (ev_neg k2 (ev_pos k3 (num _ _ (by omega) (by omega) rfl)))
      by_cases k4 : o.f0 = 2
      · rw [if_neg k1, if_neg k2, if_neg k3, if_pos k4]; exact ev_neg k1 (ev_neg k2 (ev_neg k3 (ev_pos k4 (num _ _ (by omega) (by omega) rfl))))
      by_cases k5 : o.f0 = 15
      · rw [if_neg k1, if_neg k2, if_neg k3, if_neg k4, if_pos k5]; exact ev_neg k1 (ev_neg k2 (ev_neg k3 (ev_neg k4 (ev_pos k5 (num _ _ (by omega) (by omega) rfl)))))
      · rw [if_neg k1, if_neg k2, if_neg k3, if_neg k4, if_neg k5, show z ++ (⟨#[]⟩ : ByteArray) = z from ByteArray.append_empty]
        exact ev_neg k1 (ev_neg k2 (ev_neg k3 (ev_neg k4 (ev_neg k5 (rtail_ev _ _ _ _ _ _ _ _ (by omega))))))
    · rw [if_neg h0]
      exact ev_neg h0 (rtail_ev _ _ _ _ _ _ _ _ (by omega))
  unfold bindleref33_Line.f headB
  refine ev_bindc hw2 (ev_bind (refRight o.f1) ?_)
  by_cases hr : YtodifojhegbjaaaDoorMpHelp.rightB (ls o.f1) = true
  · rw [if_pos hr]
    refine ev_pos hr (ev_pos (by omega) (ev_pos (by rw [ByteArray.size_append, e1]; omega) ?_))
    rw [show w ++ ((⟨#[32]⟩ : ByteArray) ++ o.f1) = w ++ (⟨#[32]⟩ : ByteArray) ++ o.f1 from ByteArray.append_assoc.symm]
    exact go _ (by rw [ByteArray.size_append, ByteArray.size_append, e1]; omega)
  · rw [if_neg hr]
    exact ev_neg hr (go _ (by omega))
abbrev P53 := S53
def asA (a : P51) : P53 := ⟨a.f0, a.f1, a.f2, a.f3, a.f4, a.f5, a.f6⟩
theorem rd_asA (a : List P51) (i : Nat) (h : i < a.length) : rd_T53 (a.map asA) i = asA (rd_T51 a i) := by
  unfold rd_T53 rd_T51
  rw [Int.toNat_natCast, List.getD_eq_getElem?_getD, List.getD_eq_getElem?_getD, List.getElem?_eq_getElem (by rw [List.length_map]; exact h), List.getElem?_eq_getElem h, List.getElem_map]
  rfl
theorem rtext_loop (o : List P47) (a : List P51) (ha : a.length = o.length) (hl : o.length ≤ 100) (hok : ∀ i : Nat, i < o.length → okOA (rd_T47 o i) (rd_T51 a i)) : ∀ n i : Nat, i + n = o.length →
    Ev (fun k => bindleref33_Text.l0 k o (a.map asA) (textTo (fun j => lineB (rd_T47 o j) (rd_T51 a j)) i) i) (textTo (fun j => lineB (rd_T47 o j) (rd_T51 a j)) o.length)
  | 0, i, hi => by
    have e : i = o.length := by omega
    subst e
    exact Ev.step (fun k => by unfold bindleref33_Text.l0; exact rfl) (ev_neg (by omega) (Ev.now _))
  | n + 1, i, hi => by
    have h := rtext_loop o a ha hl hok n (i + 1) (by omega)
    have hi' := hok i (by omega)
    have ht := text_len (fun j => lineB (rd_T47 o j) (rd_T51 a j)) o.length (fun j hj => line_len _ _ (hok j hj)) i (by omega)
    have hln := line_len _ _ hi'
    have e1 : (⟨#[10]⟩ : ByteArray).size = 1 := rfl
    refine Ev.step (fun k => by unfold bindleref33_Text.l0; exact rfl) (ev_pos (by omega) (ev_pos (by omega) (ev_pos (by rw [List.length_map]; omega) ?_)))
    rw [rd_asA a i (by omega)]
    refine ev_bind (rline_ev _ _ hi') (ev_pos (by omega) (ev_pos (by rw [ByteArray.size_append]; omega) ?_))
    rw [wadd i (by omega), ByteArray.append_assoc]
    exact h
/-! The law. -/
theorem law_loop (l : List P66) (o : List P47) (a : List P51) (hlo : l.length = o.length) (ha : a.length = o.length) (hl : o.length ≤ 100) (hok : ∀ i : Nat, i < o.length → okOA (rd_T47 o i) (rd_T51 a i)) (m : P47) : ∀ n i : Nat, i + n = o.length →
    Ev (fun k => bindlelaw33_ReportLines.l0 k l o a ((a.take i).map asA) i m.f0 m.f1 m.f2 m.f3 m.f4.f0 m.f4.f1 m.f4.f2) true
  | 0, i, hi => by
    refine Ev.step (fun k => by unfold bindlelaw33_ReportLines.l0; exact rfl) (ev_neg (by omega) ?_)
    rw [List.take_of_length_le (by omega)]
    have h1 := text_loop o a ha hl hok o.length 0 (by omega)
    have h2 := rtext_loop o a ha hl hok o.length 0 (by omega)
    have h3 : ∀ x : P47, Ev (fun k => report_Text.f k (o ++ [x]) a) ((⟨#[]⟩ : ByteArray), 1) := fun x => by
      unfold report_Text.f
      exact ev_neg (by rw [List.length_append, ha, List.length_cons, List.length_nil]; omega) (Ev.now _)
    have h4 : Ev (fun k => report_Text.f k o a) (textTo (fun j => lineB (rd_T47 o j) (rd_T51 a j)) o.length, 0) := by
      unfold report_Text.f
      exact ev_pos (by omega) h1
    refine ev_bind h4 (ev_pos (by omega) (ev_bind (h3 _) ?_))
    refine ev_bindc (by unfold report_Sum.f; exact if_neg (by rw [List.length_append, ha, List.length_cons, List.length_nil]; omega)) (ev_bind (show Ev (fun k => bindleref33_Text.f k o (a.map asA)) _ from h2) ?_)
    exact ev_pos rfl (ev_pos rfl (ev_pos (by rw [ByteArray.toList_eq]) (ev_pos rfl (ev_pos rfl (ev_bind lives_ev (Ev.now _))))))
  | n + 1, i, hi => by
    have h := law_loop l o a hlo ha hl hok m n (i + 1) (by omega)
    have hi' := hok i (by omega)
    refine Ev.step (fun k => by unfold bindlelaw33_ReportLines.l0; exact rfl) (ev_pos (by omega) (ev_pos (by omega) (ev_pos (by omega) (ev_pos (by rw [List.length_map, List.length_take]; omega) (ev_bindc rfl (ev_pos (by omega) (ev_bind (line_ev _ _ hi') ?_)))))))
    have ht : a.take (i + 1) = a.take i ++ [rd_T51 a i] := by
      unfold rd_T51
      rw [Int.toNat_natCast, List.getD_eq_getElem?_getD, List.getElem?_eq_getElem (by omega), Option.getD_some]
      exact (List.take_append_getElem (by omega)).symm
    have hm : (a.take i).map asA ++ [(⟨(rd_T51 a i).f0, (rd_T51 a i).f1, (rd_T51 a i).f2, (rd_T51 a i).f3, (rd_T51 a i).f4, (rd_T51 a i).f5, (rd_T51 a i).f6⟩ : P53)] = (a.take (i + 1)).map asA := by rw [ht, List.map_append]; rfl
    have hr : rd_T53 ((a.take (i + 1)).map asA) i = asA (rd_T51 a i) := by
      rw [rd_asA _ i (by rw [List.length_take]; omega)]
      congr 1
      unfold rd_T51
      rw [Int.toNat_natCast, List.getD_eq_getElem?_getD, List.getD_eq_getElem?_getD, List.getElem?_take_of_lt (by omega)]
    rw [hm]
    refine ev_pos (by rw [List.length_map, List.length_take]; omega) ?_
    rw [hr]
    refine ev_bind (rline_ev _ _ hi') (ev_pos rfl ?_)
    rw [wadd i (by omega)]
    exact h
theorem ReportLines : bindlelaw33_ReportLines.Pure := by
  intro l m hg _
  obtain ⟨t, hgr, hlen⟩ := great_loop l 100 0 (by omega)
  have main : Ev (fun k => bindlelaw33_ReportLines.f k l m.f0 m.f1 m.f2 m.f3 m.f4.f0 m.f4.f1 m.f4.f2) true := by
    unfold bindlelaw33_ReportLines.f
    refine ev_bind hgr ?_
    by_cases ht : t = true
    · exact ev_pos ht (ev_bind lives_ev (Ev.now _))
    · have hl := hlen (by simpa using ht)
      refine ev_neg ht (ev_bind (parts_loop l hl.1 l.length 0 (by omega)) ?_)
      refine law_loop l (l.map (·.f0)) (l.map (·.f1)) (by rw [List.length_map]) (by rw [List.length_map, List.length_map]) (by rw [List.length_map]; exact hl.1) (fun i hi => ?_) m l.length 0 (by rw [List.length_map]; omega)
      rw [List.length_map] at hi
      have hs := hl.2 i (by omega) hi
      have hm := hg.2.2 _ (List.getElem_mem hi)
      have e0 : rd_T66 l i = l[i] := by
        unfold rd_T66
        rw [Int.toNat_natCast, List.getD_eq_getElem?_getD, List.getElem?_eq_getElem hi, Option.getD_some]
      have e1 : rd_T47 (l.map (·.f0)) i = l[i].f0 := by
        unfold rd_T47
        rw [Int.toNat_natCast, List.getD_eq_getElem?_getD, List.getElem?_map, List.getElem?_eq_getElem hi]
        rfl
      have e2 : rd_T51 (l.map (·.f1)) i = l[i].f1 := by
        unfold rd_T51
        rw [Int.toNat_natCast, List.getD_eq_getElem?_getD, List.getElem?_map, List.getElem?_eq_getElem hi]
        rfl
      rw [e1, e2]
      rw [e0] at hs
      have hb := i64_bounds hm.2.2.2.1
      have h1 := hm.2.2.1.2.1
      have h3 := hm.2.2.2.2.1.2.1
      have h4 := hm.2.2.2.2.2.1.2.1
      exact ⟨hs, by omega, hb.1, hb.2, by omega, by omega⟩
  obtain ⟨K, hK⟩ := main
  exact ⟨K, hK K (Nat.le_refl _)⟩
end Go.Proofs.YtodifojhegbjaaaDoor.Pure
