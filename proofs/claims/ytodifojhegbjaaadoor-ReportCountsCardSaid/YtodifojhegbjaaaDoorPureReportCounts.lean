/- Statement 33.3: each word of a Kind, and of an error, is that one's alone; Kinds are as many as steps, and a text has as many lines. -/
import Derived.Test.YtodifojhegbjaaaDoorPReportCountsx4
import Derived.OpenShut
import Derived.Lib.ItoaNum
namespace Go.Proofs.YtodifojhegbjaaaDoor.Pure
open Go.RowKit Go.Proofs.YtodifojhegbjaaaDoor.PReportCounts Go.Proofs.YtodifojhegbjaaaDoorW.PrintWords Go.Proofs.YtodifojhegbjaaaDoorW.PrintLast Go.Proofs.YtodifojhegbjaaaDoorW.PrintMore
theorem w64 {n : Int} (h : -9223372036854775808 ≤ n) (h' : n ≤ 9223372036854775807) : wrap64 n = n := by
  unfold wrap64
  omega
theorem w64_l (a b : Int) : wrap64 (wrap64 a + b) = wrap64 (a + b) := by
  unfold wrap64
  omega
theorem w64_r (a b : Int) : wrap64 (a + wrap64 b) = wrap64 (a + b) := by
  unfold wrap64
  omega
theorem i64_bounds {n : Int} (h : (Lit.int .i64 n).wf = true) : -9223372036854775808 ≤ n ∧ n ≤ 9223372036854775807 := Go.bounds_i64 h
theorem ev_const {α : Type} {o : Option α} {a : α} (h : o = some a) : Ev (fun _ => o) a := ⟨0, fun _ _ => h⟩
theorem ev_pos {α : Type} {c : Prop} [Decidable c] {g h : Nat → Option α} {r : α} (hc : c) (hg : Ev g r) : Ev (fun k => if c then g k else h k) r := by
  obtain ⟨K, hg⟩ := hg
  exact ⟨K, fun k hk => by simp only [if_pos hc]; exact hg k hk⟩
theorem ev_neg {α : Type} {c : Prop} [Decidable c] {g h : Nat → Option α} {r : α} (hc : ¬ c) (hg : Ev h r) : Ev (fun k => if c then g k else h k) r := by
  obtain ⟨K, hg⟩ := hg
  exact ⟨K, fun k hk => by simp only [if_neg hc]; exact hg k hk⟩
theorem ev_from {α : Type} {g : Nat → Option α} {r : α} (K : Nat) (h : ∀ k, K ≤ k → g k = some r) : Ev g r := ⟨K, h⟩
theorem ev_bind {α β : Type} {g : Nat → Option α} {f : Nat → α → Option β} {a : α} {r : β} (h : Ev g a) (k : Ev (fun n => f n a) r) : Ev (fun n => (g n).bind (f n)) r := h.bind k
theorem ev_bindc {α β : Type} {o : Option α} {f : Nat → α → Option β} {a : α} {r : β} (h : o = some a) (k : Ev (fun n => f n a) r) : Ev (fun n => o.bind (f n)) r := (ev_const h).bind k
theorem toList_inj {a b : ByteArray} (h : a.toList = b.toList) : a = b := by
  rw [ByteArray.toList_eq, ByteArray.toList_eq] at h
  exact Go.WideShapes.bytes_inj h
/-- A text's bytes as a list. -/
abbrev ls (a : ByteArray) : List UInt8 := a.data.toList
abbrev mk (l : List UInt8) : ByteArray := ⟨l.toArray⟩
theorem ls_len (a : ByteArray) : (ls a).length = a.size := Array.length_toList
theorem ls_mk (l : List UInt8) : ls (mk l) = l := rfl
theorem mk_ls (a : ByteArray) : mk (ls a) = a := rfl
theorem ls_inj {a b : ByteArray} (h : ls a = ls b) : a = b := Go.WideShapes.bytes_inj h
theorem mk_append (x y : List UInt8) : mk (x ++ y) = mk x ++ mk y := by
  apply ls_inj
  simp [ls, mk]
theorem mk_size (l : List UInt8) : (mk l).size = l.length := by
  show l.toArray.size = _
  rw [List.size_toArray]
theorem extract_ls (a : ByteArray) (i j : Nat) : ls (a.extract i j) = ((ls a).drop i).take (j - i) := by
  show (a.extract i j).data.toList = _
  rw [ByteArray.data_extract, Array.toList_extract]
theorem extract_mk (a : ByteArray) (i j : Nat) : a.extract i j = mk (((ls a).drop i).take (j - i)) := ls_inj (by rw [extract_ls])
theorem bt_nat (a : ByteArray) (i : Nat) (h : i < a.size) : bt a (i : Int) = (((ls a)[i]'(by rw [ls_len]; exact h)).toNat : Int) := by
  unfold bt
  rw [dif_pos (by simpa using h)]
  rfl
/-- A text's parts put together, with bytes 47 between. -/
def joinP : List (List UInt8) → List UInt8
  | [] => []
  | x :: r => x ++ r.flatMap (47 :: ·)
theorem joinP_snoc (l : List (List UInt8)) (h : l ≠ []) (x : List UInt8) : joinP (l ++ [x]) = joinP l ++ 47 :: x := by
  cases l with
  | nil => exact absurd rfl h
  | cons a r => simp [joinP]
theorem split_cons (x : UInt8) (r : List UInt8) : YtodifojhegbjaaaDoorMpHelp.splitL 47 (x :: r) = if x = 47 then [] :: YtodifojhegbjaaaDoorMpHelp.splitL 47 r else match YtodifojhegbjaaaDoorMpHelp.splitL 47 r with
    | h :: t => (x :: h) :: t
    | [] => [[x]] := rfl
def pre (p : List UInt8) : List (List UInt8) → List (List UInt8)
  | h :: t => (p ++ h) :: t
  | [] => [p]
theorem pre_nil {l : List (List UInt8)} (h : l ≠ []) : pre [] l = l := by
  cases l with
  | nil => exact absurd rfl h
  | cons a r => rfl
theorem pre_pre (p q : List UInt8) (l : List (List UInt8)) : pre p (pre q l) = pre (p ++ q) l := by
  cases l <;> simp [pre]
theorem split_ne {x : UInt8} (h : x ≠ 47) (r : List UInt8) : YtodifojhegbjaaaDoorMpHelp.splitL 47 (x :: r) = pre [x] (YtodifojhegbjaaaDoorMpHelp.splitL 47 r) := by
  rw [split_cons, if_neg h]
  cases YtodifojhegbjaaaDoorMpHelp.splitL 47 r <;> rfl
theorem split_eq (r : List UInt8) : YtodifojhegbjaaaDoorMpHelp.splitL 47 (47 :: r) = [] :: YtodifojhegbjaaaDoorMpHelp.splitL 47 r := by rw [split_cons, if_pos rfl]
theorem split_pos (s : List UInt8) : YtodifojhegbjaaaDoorMpHelp.splitL 47 s ≠ [] := YtodifojhegbjaaaDoorMpHelp.splitL_ne 47 s
theorem split_all (p : UInt8 → Bool) (hp : p 47 = true) : ∀ s : List UInt8, ((YtodifojhegbjaaaDoorMpHelp.splitL 47 s).all fun l => l.all p) = s.all p
  | [] => by rfl
  | x :: r => by
    have ih := split_all p hp r
    by_cases hx : x = 47
    · subst hx
      rw [split_eq, List.all_cons, ih, List.all_cons, hp]
      rfl
    · rw [split_ne hx, List.all_cons, ← ih]
      have := split_pos r
      cases h : YtodifojhegbjaaaDoorMpHelp.splitL 47 r with
      | nil => exact absurd h this
      | cons a t => simp [pre, Bool.and_assoc]
theorem split_join : ∀ s : List UInt8, joinP (YtodifojhegbjaaaDoorMpHelp.splitL 47 s) = s
  | [] => by rfl
  | x :: r => by
    have ih := split_join r
    have hn := split_pos r
    by_cases hx : x = 47
    · subst hx
      rw [split_eq]
      cases h : YtodifojhegbjaaaDoorMpHelp.splitL 47 r with
      | nil => exact absurd h hn
      | cons a t =>
        rw [h] at ih
        rw [← ih]
        simp [joinP]
    · rw [split_ne hx]
      cases h : YtodifojhegbjaaaDoorMpHelp.splitL 47 r with
      | nil => exact absurd h hn
      | cons a t =>
        rw [h] at ih
        rw [← ih]
        simp [joinP, pre]
theorem split_no : ∀ (s : List UInt8), ∀ l ∈ YtodifojhegbjaaaDoorMpHelp.splitL 47 s, (47 : UInt8) ∉ l
  | [] => by simp [YtodifojhegbjaaaDoorMpHelp.splitL]
  | x :: r => by
    have ih := split_no r
    by_cases hx : x = 47
    · subst hx
      rw [split_eq]
      intro l hl
      rcases List.mem_cons.1 hl with rfl | hl
      · simp
      · exact ih l hl
    · rw [split_ne hx]
      have hn := split_pos r
      cases h : YtodifojhegbjaaaDoorMpHelp.splitL 47 r with
      | nil => exact absurd h hn
      | cons a t =>
        rw [h] at ih
        intro l hl
        rcases List.mem_cons.1 hl with rfl | hl
        · simp only [List.cons_append, List.nil_append, List.mem_cons, not_or]
          exact ⟨fun e => hx e.symm, ih a List.mem_cons_self⟩
        · exact ih l (List.mem_cons_of_mem _ hl)
theorem split_len (s : List UInt8) : (YtodifojhegbjaaaDoorMpHelp.splitL 47 s).length ≤ s.length + 1 := by
  induction s with
  | nil => simp [YtodifojhegbjaaaDoorMpHelp.splitL]
  | cons x r ih =>
    by_cases hx : x = 47
    · subst hx
      rw [split_eq]
      simp only [List.length_cons]
      omega
    · rw [split_ne hx]
      cases h : YtodifojhegbjaaaDoorMpHelp.splitL 47 r with
      | nil => simp [pre]
      | cons a t => rw [h] at ih; simp only [pre, List.length_cons] at ih ⊢; omega
theorem split_part (s : List UInt8) : ∀ l ∈ YtodifojhegbjaaaDoorMpHelp.splitL 47 s, l.length ≤ s.length := by
  induction s with
  | nil => simp [YtodifojhegbjaaaDoorMpHelp.splitL]
  | cons x r ih =>
    intro l hl
    by_cases hx : x = 47
    · subst hx
      rw [split_eq] at hl
      rcases List.mem_cons.1 hl with rfl | hl
      · simp
      · have := ih l hl; simp only [List.length_cons]; omega
    · rw [split_ne hx] at hl
      cases h : YtodifojhegbjaaaDoorMpHelp.splitL 47 r with
      | nil => exact absurd h (split_pos r)
      | cons a t =>
        rw [h] at ih hl
        rcases List.mem_cons.1 hl with rfl | hl
        · have := ih a List.mem_cons_self; simp only [List.cons_append, List.nil_append, List.length_cons]; omega
        · have := ih l (List.mem_cons_of_mem _ hl); simp only [List.length_cons]; omega
/-- The document's parts. -/
def partsB (a : ByteArray) : List ByteArray := (YtodifojhegbjaaaDoorMpHelp.splitL 47 (ls a)).map mk
theorem all_two {α : Type} (p q : α → Bool) : ∀ l : List α, (l.all fun x => p x && q x) = (l.all p && l.all q)
  | [] => rfl
  | x :: r => by
    rw [List.all_cons, all_two p q r, List.all_cons, List.all_cons]
    cases p x <;> cases q x <;> cases r.all p <;> rfl
def fineB (c : UInt8) : Bool := decide (33 ≤ c.toNat) && decide (c.toNat ≤ 126)
def oddB (l : List UInt8) : Bool := !l.isEmpty && !(l == [46]) && !(l == [46, 46])
theorem right_alt (s : List UInt8) : YtodifojhegbjaaaDoorMpHelp.rightB s = (decide (s.length ≤ 64) && (s.all fineB && (YtodifojhegbjaaaDoorMpHelp.splitL 47 s).all oddB)) := by
  unfold YtodifojhegbjaaaDoorMpHelp.rightB
  rw [← split_all fineB (by decide) s]
  congr 1
  rw [← all_two]
  congr 1
  funext l
  unfold YtodifojhegbjaaaDoorMpHelp.partB oddB fineB
  rw [Bool.and_assoc, Bool.and_assoc, Bool.and_assoc]
theorem int_cases {P : Int → Prop} (n : Nat) (h : ∀ k < n, P (k : Nat)) (i : Int) (h0 : 0 ≤ i) (h1 : i < n) : P i := by
  have := h i.toNat (by omega)
  rwa [Int.toNat_of_nonneg h0] at this
theorem wadd (i : Nat) (h : i < 9000000000000000000) : wrap64 ((i : Int) + 1) = ((i + 1 : Nat) : Int) := by
  rw [w64 (by omega) (by omega)]
  omega
abbrev P66 := S66
abbrev P47 := S47
abbrev P51 := S51
theorem great_loop (l : List P66) : ∀ n i : Nat, i + n = 100 → ∃ w : Bool, Ev (fun k => bindlelaw33_great.l0 k l i) w ∧ (w = false → l.length ≤ 100 ∧ ∀ j : Nat, i ≤ j → j < l.length → (rd_T66 l j).f0.f1.size ≤ 300)
  | 0, i, hi => by
    have hfin : ∃ w : Bool, Ev (fun k => bindlelaw33_great.j1 k l i false) w ∧ (w = false → l.length ≤ 100 ∧ ∀ j : Nat, i ≤ j → j < l.length → (rd_T66 l j).f0.f1.size ≤ 300) := by
      refine ⟨_, Ev.step (fun k => by unfold bindlelaw33_great.j1; exact rfl) (ev_neg (by decide) (Ev.now _)), fun h => ?_⟩
      have := of_decide_eq_false h
      exact ⟨by omega, fun j h1 h2 => by omega⟩
    obtain ⟨w, h1, h2⟩ := hfin
    refine ⟨w, Ev.step (fun k => by unfold bindlelaw33_great.l0; exact rfl) ?_, h2⟩
    by_cases hl : (i : Int) < (l.length : Int)
    · have hd : decide ((i : Int) < 100) = false := decide_eq_false (by omega)
      rw [hd]
      exact ev_pos hl h1
    · exact ev_neg hl h1
  | n + 1, i, hi => by
    by_cases hl : (i : Int) < (l.length : Int)
    · have hd : decide ((i : Int) < 100) = true := decide_eq_true (by omega)
      obtain ⟨w, h1, h2⟩ := great_loop l n (i + 1) (by omega)
      by_cases c1 : (((rd_T66 l i).f0.f1).size : Int) > 300
      · refine ⟨true, Ev.step (fun k => by unfold bindlelaw33_great.l0; exact rfl) (ev_pos hl ?_), fun h => by cases h⟩
        rw [hd]
        exact Ev.step (fun k => by unfold bindlelaw33_great.j1; exact rfl) (ev_pos rfl (ev_pos (by omega) (ev_pos hl (ev_pos c1 (Ev.now _)))))
      · refine ⟨w, Ev.step (fun k => by unfold bindlelaw33_great.l0; exact rfl) (ev_pos hl ?_), fun h => ⟨(h2 h).1, fun j h3 h4 => ?_⟩⟩
        · rw [hd]
          refine Ev.step (fun k => by unfold bindlelaw33_great.j1; exact rfl) (ev_pos rfl (ev_pos (by omega) (ev_pos hl (ev_neg c1 ?_))))
          rw [wadd i (by omega)]
          exact h1
        · by_cases he : j = i
          · subst he
            omega
          · exact (h2 h).2 j (by omega) h4
    · have hd : ∃ w : Bool, Ev (fun k => bindlelaw33_great.j1 k l i false) w ∧ (w = false → l.length ≤ 100 ∧ ∀ j : Nat, i ≤ j → j < l.length → (rd_T66 l j).f0.f1.size ≤ 300) := by
        refine ⟨_, Ev.step (fun k => by unfold bindlelaw33_great.j1; exact rfl) (ev_neg (by decide) (Ev.now _)), fun h => ?_⟩
        have := of_decide_eq_false h
        exact ⟨by omega, fun j h1 h2 => by omega⟩
      obtain ⟨w, h1, h2⟩ := hd
      exact ⟨w, Ev.step (fun k => by unfold bindlelaw33_great.l0; exact rfl) (ev_neg hl h1), h2⟩
theorem parts_loop (l : List P66) (hs : l.length ≤ 100) : ∀ n i : Nat, i + n = l.length → Ev (fun k => bindlelaw33_parts.l0 k l ((l.take i).map (·.f0)) ((l.take i).map (·.f1)) i) (l.map (·.f0), l.map (·.f1))
  | 0, i, hi => by
    refine Ev.step (fun k => by unfold bindlelaw33_parts.l0; exact rfl) (ev_neg (by omega) ?_)
    rw [List.take_of_length_le (by omega)]
    exact Ev.now _
  | n + 1, i, hi => by
    refine Ev.step (fun k => by unfold bindlelaw33_parts.l0; exact rfl) (ev_pos (by omega) (ev_pos (by omega) (ev_pos (by rw [List.length_map, List.length_take]; omega) (ev_pos (by rw [List.length_map, List.length_take]; omega) ?_))))
    have h := parts_loop l hs n (i + 1) (by omega)
    have hr : rd_T66 l i = l[i]'(by omega) := by
      unfold rd_T66
      rw [Int.toNat_natCast, List.getD_eq_getElem?_getD, List.getElem?_eq_getElem (by omega), Option.getD_some]
    have ht : l.take (i + 1) = l.take i ++ [l[i]'(by omega)] := (List.take_append_getElem (by omega)).symm
    rw [ht, List.map_append, List.map_append, List.map_cons, List.map_cons, List.map_nil, List.map_nil] at h
    rw [wadd i (by omega), hr]
    exact h
theorem lives_ev : Ev (fun k => bindlelaw33_lives.f k) true := Ev.of bindlelaw33_lives.mono (k := 9) (by decide +kernel)
/-! The numerals. -/
theorem nd_le : ∀ k u : Nat, u < 10 ^ (k + 1) → Lib.nDigits u ≤ k + 1
  | 0, u, h => by rw [Lib.nDigits_small (by simpa using h)]; omega
  | k + 1, u, h => by
    by_cases hu : u < 10
    · rw [Lib.nDigits_small hu]; omega
    · rw [Lib.nDigits_big hu]
      have := nd_le k (u / 10) (by rw [Nat.pow_succ] at h; omega)
      omega
theorem dec_len (u : Nat) (h : u < 10000000000000000000) : (Lib.decDigits u).length ≤ 19 := by
  rw [Lib.decDigits_length]
  exact nd_le 18 u (by simpa using h)
theorem itoa_len (n : Int) (h0 : -9223372036854775808 ≤ n) (h1 : n ≤ 9223372036854775807) : (Lib.itoa n).length ≤ 20 := by
  unfold Lib.itoa
  split
  · have := dec_len n.natAbs (by omega)
    simp only [List.length_cons]; omega
  · have := dec_len n.toNat (by omega)
    omega
theorem word_len (i : Int) (t : ByteArray) (h : report_Word.f i = some t) : t.size ≤ 20 := by
  have key : ∀ w ∈ report_kinds.words, w.size ≤ 20 := by decide +kernel
  unfold report_Word.f at h
  obtain rfl := Option.some.inj h
  split
  · rw [List.getD_eq_getElem?_getD]
    by_cases hl : i.toNat < report_kinds.words.length
    · rw [List.getElem?_eq_getElem hl]
      exact key _ (List.getElem_mem hl)
    · rw [List.getElem?_eq_none (by omega)]
      decide
  · decide
theorem code_len (i : Int) (t : ByteArray) (h : report_Code.f i = some t) : t.size ≤ 20 := by
  have key : ∀ w ∈ report_codes.words, w.size ≤ 20 := by decide +kernel
  unfold report_Code.f at h
  obtain rfl := Option.some.inj h
  split
  · rw [List.getD_eq_getElem?_getD]
    by_cases hl : i.toNat < report_codes.words.length
    · rw [List.getElem?_eq_getElem hl]
      exact key _ (List.getElem_mem hl)
    · rw [List.getElem?_eq_none (by omega)]
      decide
  · decide
/-! A line. -/
def numB (n : Int) (u : ByteArray) : ByteArray := (⟨#[32]⟩ : ByteArray) ++ mk (Lib.itoa n) ++ u
def besB (kd : Int) (dl sz nl fl : Int) : ByteArray := if kd = 8 then numB dl ⟨#[98]⟩ else if kd = 9 then numB sz ⟨#[98]⟩ else if kd = 10 then numB nl ⟨#[120]⟩ else if kd = 2 then numB fl ⟨#[120]⟩ else if kd = 15 then numB fl ⟨#[120]⟩ else ⟨#[]⟩
def tailB (s : ByteArray) (rf po : Bool) : ByteArray := if rf = true then (if po = true then s ++ (⟨#[32, 114, 101, 102, 117, 115, 101, 100]⟩ : ByteArray) ++ (⟨#[32, 112, 111, 105, 115, 111, 110, 101, 100]⟩ : ByteArray) else s ++ (⟨#[32, 114, 101, 102, 117, 115, 101, 100]⟩ : ByteArray)) else if po = true then s ++ (⟨#[32, 112, 111, 105, 115, 111, 110, 101, 100]⟩ : ByteArray) else s
def headB (w nm cd : ByteArray) : ByteArray := (if YtodifojhegbjaaaDoorMpHelp.rightB (ls nm) = true then w ++ ((⟨#[32]⟩ : ByteArray) ++ nm) else w) ++ ((⟨#[58, 32]⟩ : ByteArray) ++ cd)
def lineB (o : P47) (a : P51) : ByteArray :=
  let h := headB ((report_Word.f o.f0).getD ⟨#[]⟩) o.f1 ((report_Code.f a.f0).getD ⟨#[]⟩)
  tailB (if a.f0 = 0 then h ++ besB o.f0 a.f1.length a.f2 a.f3.length a.f4.length else h) a.f5 a.f6
/-- What is known of a step and its answer. -/
def okOA (o : P47) (a : P51) : Prop := o.f1.size ≤ 300 ∧ a.f1.length ≤ 140737488355328 ∧ -9223372036854775808 ≤ a.f2 ∧ a.f2 ≤ 9223372036854775807 ∧ a.f3.length ≤ 140737488355328 ∧ a.f4.length ≤ 140737488355328
theorem num_len (n : Int) (u : ByteArray) (h0 : -9223372036854775808 ≤ n) (h1 : n ≤ 9223372036854775807) (hu : u.size ≤ 1) : (numB n u).size ≤ 22 := by
  have := itoa_len n h0 h1
  unfold numB
  have hz : (mk (Lib.itoa n)).size ≤ 20 := by rw [mk_size]; exact this
  rw [ByteArray.size_append, ByteArray.size_append, show (⟨#[32]⟩ : ByteArray).size = 1 from rfl]
  omega
theorem bes_len (o : P47) (a : P51) (h : okOA o a) : (besB o.f0 a.f1.length a.f2 a.f3.length a.f4.length).size ≤ 22 := by
  obtain ⟨h1, h2, h3, h4, h5, h6⟩ := h
  unfold besB
  repeat' split
  all_goals first | exact num_len _ _ (by omega) (by omega) (by decide) | decide
theorem head_len (w nm cd : ByteArray) (hw : w.size ≤ 20) (hn : nm.size ≤ 300) (hc : cd.size ≤ 20) : (headB w nm cd).size ≤ 343 := by
  unfold headB
  split
  · rw [ByteArray.size_append, ByteArray.size_append, ByteArray.size_append, ByteArray.size_append, show (⟨#[32]⟩ : ByteArray).size = 1 from rfl, show (⟨#[58, 32]⟩ : ByteArray).size = 2 from rfl]
    omega
  · rw [ByteArray.size_append, ByteArray.size_append, show (⟨#[58, 32]⟩ : ByteArray).size = 2 from rfl]
    omega
theorem size_le (n : Int) (u : ByteArray) (h0 : -9223372036854775808 ≤ n) (h1 : n ≤ 9223372036854775807) (hu : u.size ≤ 1) : report_size.f n u = some (numB n u) := by
  have := itoa_len n h0 h1
  have e : strconv_Itoa.f n = some (mk (Lib.itoa n)) := by unfold strconv_Itoa.f; rw [if_pos ⟨h0, h1⟩]
  have hz : (mk (Lib.itoa n)).size ≤ 20 := by rw [mk_size]; exact this
  unfold report_size.f
  rw [e, Option.bind_some, if_pos (by omega), if_pos (by rw [ByteArray.size_append, show (⟨#[32]⟩ : ByteArray).size = 1 from rfl]; omega)]
  rfl
theorem beside_eq (o : P47) (a : P51) (h : okOA o a) : report_beside.f o.f0 a.f0 a.f1 a.f2 a.f3 a.f4 a.f5 a.f6 = some (besB o.f0 a.f1.length a.f2 a.f3.length a.f4.length) := by
  obtain ⟨h1, h2, h3, h4, h5, h6⟩ := h
  have e1 := size_le (a.f1.length : Int) ⟨#[98]⟩ (by omega) (by omega) (by decide)
  have e2 := size_le a.f2 ⟨#[98]⟩ h3 h4 (by decide)
  have e3 := size_le (a.f3.length : Int) ⟨#[120]⟩ (by omega) (by omega) (by decide)
  have e4 := size_le (a.f4.length : Int) ⟨#[120]⟩ (by omega) (by omega) (by decide)
  unfold report_beside.f besB
  rw [e1, e2, e3, e4]
  simp only [Option.bind_some]
  repeat' split
  all_goals rfl
theorem tail_ev (s : ByteArray) (e : Int) (d : List Int) (sz : Int) (n : List ByteArray) (f : List S122) (rf po : Bool) (hs : s.size ≤ 1000) : Ev (fun k => report_Line.j1 k s e d sz n f rf po) (tailB s rf po) := by
  refine Ev.step (fun k => by unfold report_Line.j1; exact rfl) ?_
  unfold tailB
  have e8 : (⟨#[32, 114, 101, 102, 117, 115, 101, 100]⟩ : ByteArray).size = 8 := rfl
  cases rf <;> cases po
  · exact Ev.now _
  · exact ev_neg (by decide) (ev_pos rfl (ev_pos (by omega) (Ev.now _)))
  · exact ev_pos rfl (ev_pos (by omega) (ev_neg (by decide) (Ev.now _)))
  · exact ev_pos rfl (ev_pos (by omega) (ev_pos rfl (ev_pos (by rw [ByteArray.size_append, e8]; omega) (Ev.now _))))
theorem line_ev (o : P47) (a : P51) (h : okOA o a) : Ev (fun k => report_Line.f k o.f0 o.f1 o.f2 o.f3 o.f4.f0 o.f4.f1 o.f4.f2 a.f0 a.f1 a.f2 a.f3 a.f4 a.f5 a.f6) (lineB o a) := by
  have hw : report_Word.f o.f0 = some ((report_Word.f o.f0).getD ⟨#[]⟩) := rfl
  have hc : report_Code.f a.f0 = some ((report_Code.f a.f0).getD ⟨#[]⟩) := rfl
  unfold lineB
  have hwl := word_len _ _ hw
  have hcl := code_len _ _ hc
  generalize (report_Word.f o.f0).getD ⟨#[]⟩ = w at hw hwl
  generalize (report_Code.f a.f0).getD ⟨#[]⟩ = c at hc hcl
  dsimp only
  have e1 : (⟨#[32]⟩ : ByteArray).size = 1 := rfl
  have e2 : (⟨#[58, 32]⟩ : ByteArray).size = 2 := rfl
  have hn := h.1
  have go : ∀ s : ByteArray, s.size ≤ 321 → Ev (fun k => report_Line.j0 k s o.f0 o.f1 o.f2 o.f3 o.f4.f0 o.f4.f1 o.f4.f2 a.f0 a.f1 a.f2 a.f3 a.f4 a.f5 a.f6) (tailB (if a.f0 = 0 then (s ++ ((⟨#[58, 32]⟩ : ByteArray) ++ c)) ++ besB o.f0 a.f1.length a.f2 a.f3.length a.f4.length else s ++ ((⟨#[58, 32]⟩ : ByteArray) ++ c)) a.f5 a.f6) := by
    intro s hs
    have hb := bes_len o a h
    refine Ev.step (fun k => by unfold report_Line.j0; exact rfl) ?_
    refine ev_bindc hc ?_
    refine ev_pos (by omega) (ev_pos (by rw [ByteArray.size_append, e2]; omega) ?_)
    by_cases h0 : a.f0 = 0
    · rw [if_pos h0]
      refine ev_pos h0 (ev_bindc (beside_eq o a h) (ev_pos (by rw [ByteArray.size_append, ByteArray.size_append, e2]; omega) (tail_ev _ _ _ _ _ _ _ _ (by rw [ByteArray.size_append, ByteArray.size_append, ByteArray.size_append, e2]; omega))))
    · rw [if_neg h0]
      exact ev_neg h0 (tail_ev _ _ _ _ _ _ _ _ (by rw [ByteArray.size_append, ByteArray.size_append, e2]; omega))
  unfold report_Line.f headB
  refine ev_bindc hw (ev_bindc (show member_Right.f o.f1 = some (YtodifojhegbjaaaDoorMpHelp.rightB (ls o.f1)) from rfl) ?_)
  by_cases hr : YtodifojhegbjaaaDoorMpHelp.rightB (ls o.f1) = true
  · rw [if_pos hr]
    exact ev_pos hr (ev_pos (by omega) (ev_pos (by rw [ByteArray.size_append, e1]; omega) (go _ (by rw [ByteArray.size_append, ByteArray.size_append, e1]; omega))))
  · rw [if_neg hr]
    exact ev_neg hr (go _ (by omega))
theorem line_len (o : P47) (a : P51) (h : okOA o a) : (lineB o a).size ≤ 400 := by
  unfold lineB
  have hw : report_Word.f o.f0 = some ((report_Word.f o.f0).getD ⟨#[]⟩) := rfl
  have hc : report_Code.f a.f0 = some ((report_Code.f a.f0).getD ⟨#[]⟩) := rfl
  have h1 := head_len _ _ _ (word_len _ _ hw) h.1 (code_len _ _ hc)
  have hb := bes_len o a h
  generalize headB ((report_Word.f o.f0).getD ⟨#[]⟩) o.f1 ((report_Code.f a.f0).getD ⟨#[]⟩) = s at h1
  dsimp only
  have hs : (if a.f0 = 0 then s ++ besB o.f0 a.f1.length a.f2 a.f3.length a.f4.length else s).size ≤ 365 := by
    split
    · rw [ByteArray.size_append]; omega
    · omega
  generalize (if a.f0 = 0 then s ++ besB o.f0 a.f1.length a.f2 a.f3.length a.f4.length else s) = s2 at hs
  have e8 : (⟨#[32, 114, 101, 102, 117, 115, 101, 100]⟩ : ByteArray).size = 8 := rfl
  have e9 : (⟨#[32, 112, 111, 105, 115, 111, 110, 101, 100]⟩ : ByteArray).size = 9 := rfl
  unfold tailB
  cases a.f5 <;> cases a.f6 <;> simp only [Bool.false_eq_true, if_true, if_false, ByteArray.size_append, e8, e9] <;> omega
/-! All lines. -/
def textTo (L : Nat → ByteArray) : Nat → ByteArray
  | 0 => ⟨#[]⟩
  | i + 1 => textTo L i ++ (L i ++ (⟨#[10]⟩ : ByteArray))
theorem text_len (L : Nat → ByteArray) (n : Nat) (h : ∀ i, i < n → (L i).size ≤ 400) : ∀ i, i ≤ n → (textTo L i).size ≤ i * 401
  | 0, _ => Nat.zero_le _
  | i + 1, hi => by
    have h1 := text_len L n h i (by omega)
    have h2 := h i (by omega)
    show (textTo L i ++ (L i ++ (⟨#[10]⟩ : ByteArray))).size ≤ _
    rw [ByteArray.size_append, ByteArray.size_append, show (⟨#[10]⟩ : ByteArray).size = 1 from rfl]
    omega
theorem text_loop (o : List P47) (a : List P51) (ha : a.length = o.length) (hl : o.length ≤ 100) (hok : ∀ i : Nat, i < o.length → okOA (rd_T47 o i) (rd_T51 a i)) : ∀ n i : Nat, i + n = o.length →
    Ev (fun k => report_Text.l0 k a (textTo (fun j => lineB (rd_T47 o j) (rd_T51 a j)) i) o (o.length : Int) i) (textTo (fun j => lineB (rd_T47 o j) (rd_T51 a j)) o.length, 0)
  | 0, i, hi => by
    have e : i = o.length := by omega
    subst e
    exact Ev.step (fun k => by unfold report_Text.l0; exact rfl) (ev_neg (by omega) (Ev.now _))
  | n + 1, i, hi => by
    have h := text_loop o a ha hl hok n (i + 1) (by omega)
    have hi' := hok i (by omega)
    have ht := text_len (fun j => lineB (rd_T47 o j) (rd_T51 a j)) o.length (fun j hj => line_len _ _ (hok j hj)) i (by omega)
    have hln := line_len _ _ hi'
    have e1 : (⟨#[10]⟩ : ByteArray).size = 1 := rfl
    refine Ev.step (fun k => by unfold report_Text.l0; exact rfl) ?_
    refine ev_pos (by omega) (ev_pos (by omega) (ev_pos (by omega) (ev_pos (by omega) ?_)))
    refine ev_bind (line_ev _ _ hi') ?_
    refine ev_pos (by omega) (ev_pos (by rw [ByteArray.size_append, e1]; omega) ?_)
    rw [wadd i (by omega)]
    exact h
/-! The counts. -/
theorem at_set (xs : List Int) (i j : Nat) (v : Int) (h : i ≠ j) : report_Sum.at_ (xs.set i v) j = report_Sum.at_ xs j := by
  show (xs.set i v).getD j 0 = xs.getD j 0
  rw [List.getD_eq_getElem?_getD, List.getD_eq_getElem?_getD, List.getElem?_set_ne h]
theorem at_set_self (xs : List Int) (i : Nat) (v : Int) (h : i < xs.length) : report_Sum.at_ (xs.set i v) i = v := by
  show (xs.set i v).getD i 0 = v
  rw [List.getD_eq_getElem?_getD, List.getElem?_set_self h]
  rfl
theorem set_at (xs : List Int) (j : Nat) : xs.set j (report_Sum.at_ xs j) = xs := by
  apply List.ext_getElem?
  intro i
  by_cases h : j = i
  · subst h
    by_cases hl : j < xs.length
    · rw [List.getElem?_set_self hl, List.getElem?_eq_getElem hl]
      show some (xs.getD j 0) = _
      rw [List.getD_eq_getElem?_getD, List.getElem?_eq_getElem hl]
      rfl
    · rw [List.set_eq_of_length_le (by omega)]
  · rw [List.getElem?_set_ne h]
theorem inc_len (xs : List Int) (j : Nat) : (report_Sum.inc xs j).length = xs.length := List.length_set
theorem inc_set0 (xs : List Int) (N : Int) (j : Nat) (h : j ≠ 0) : report_Sum.inc (xs.set 0 N) j = (report_Sum.inc xs j).set 0 N := by
  show (xs.set 0 N).set j (wrap64 (report_Sum.at_ (xs.set 0 N) j + 1)) = (xs.set j (wrap64 (report_Sum.at_ xs j + 1))).set 0 N
  rw [at_set _ _ _ _ (Ne.symm h), List.set_comm _ _ (Ne.symm h)]
theorem inc0_set0 (xs : List Int) (N : Int) : (report_Sum.inc xs 0).set 0 N = xs.set 0 N := List.set_set ..
theorem inc_at0 (xs : List Int) (j : Nat) (h : j ≠ 0) : report_Sum.at_ (report_Sum.inc xs j) 0 = report_Sum.at_ xs 0 := at_set _ _ _ _ h
theorem ite_inc (c : Prop) [Decidable c] (xs : List Int) (N : Int) (j : Nat) (h : j ≠ 0) : (if c then report_Sum.inc (xs.set 0 N) j else xs.set 0 N) = (if c then report_Sum.inc xs j else xs).set 0 N := by
  by_cases hc : c
  · rw [if_pos hc, if_pos hc, inc_set0 _ _ _ h]
  · rw [if_neg hc, if_neg hc]
theorem fin_set (xs : List Int) (m : Int) : (if report_Sum.at_ xs 3 < m then xs.set 3 m else xs) = xs.set 3 (max (report_Sum.at_ xs 3) m) := by
  by_cases h : report_Sum.at_ xs 3 < m
  · rw [if_pos h, Int.max_eq_right (by omega)]
  · rw [if_neg h, Int.max_eq_left (by omega), set_at]
/-- Forty numbers in bounds. -/
def Bd (M : Int) (xs : List Int) : Prop := xs.length = 40 ∧ ∀ x ∈ xs, 0 ≤ x ∧ x ≤ M
theorem Bd.at_ {M : Int} {xs : List Int} (h : Bd M xs) (hM : 0 ≤ M) (j : Nat) : 0 ≤ report_Sum.at_ xs j ∧ report_Sum.at_ xs j ≤ M := by
  show 0 ≤ xs.getD j 0 ∧ xs.getD j 0 ≤ M
  rw [List.getD_eq_getElem?_getD]
  by_cases hl : j < xs.length
  · rw [List.getElem?_eq_getElem hl]
    exact h.2 _ (List.getElem_mem hl)
  · rw [List.getElem?_eq_none (by omega)]
    exact ⟨Int.le_refl _, hM⟩
theorem Bd.mono {M M' : Int} {xs : List Int} (h : Bd M xs) (hm : M ≤ M') : Bd M' xs := ⟨h.1, fun x hx => ⟨(h.2 x hx).1, Int.le_trans (h.2 x hx).2 hm⟩⟩
theorem Bd.set {M : Int} {xs : List Int} (h : Bd M xs) (j : Nat) (v : Int) (h0 : 0 ≤ v) (h1 : v ≤ M) : Bd M (xs.set j v) := by
  refine ⟨by rw [List.length_set]; exact h.1, fun x hx => ?_⟩
  rcases List.mem_or_eq_of_mem_set hx with hx | hx
  · exact h.2 x hx
  · subst hx
    exact ⟨h0, h1⟩
theorem Bd.inc {M : Int} {xs : List Int} (h : Bd M xs) (hM : 0 ≤ M) (hM2 : M ≤ 1000000000000000000) (j : Nat) : Bd (M + 1) (report_Sum.inc xs j) := by
  have hb := h.at_ hM j
  refine Bd.set (h.mono (by omega)) j _ ?_ ?_
  · show 0 ≤ wrap64 (report_Sum.at_ xs j + 1)
    rw [w64 (by omega) (by omega)]; omega
  · show wrap64 (report_Sum.at_ xs j + 1) ≤ M + 1
    rw [w64 (by omega) (by omega)]; omega
theorem Bd.ite {M : Int} {xs : List Int} (h : Bd M xs) (hM : 0 ≤ M) (hM2 : M ≤ 1000000000000000000) (j : Nat) (c : Prop) [Decidable c] : Bd (M + 1) (if c then report_Sum.inc xs j else xs) := by
  by_cases hc : c
  · rw [if_pos hc]; exact h.inc hM hM2 j
  · rw [if_neg hc]; exact h.mono (by omega)
theorem ite_at0 (c : Prop) [Decidable c] (xs : List Int) (j : Nat) (h : j ≠ 0) : report_Sum.at_ (if c then report_Sum.inc xs j else xs) 0 = report_Sum.at_ xs 0 := by
  by_cases hc : c
  · rw [if_pos hc, inc_at0 _ _ h]
  · rw [if_neg hc]
theorem step_bd (M : Int) (xs : List Int) (o : P47) (a : P51) (h : Bd M xs) (h0 : 140737488351232 ≤ M) (h1 : M ≤ 900000000000000000) (ha : a.f1.length ≤ 140737488351232) : Bd (M + 5) (report_Sum.stepL xs o a) := by
  unfold report_Sum.stepL report_Sum.addL
  dsimp only
  have b1 := h.inc (by omega) (by omega) 0
  have b2 := b1.inc (by omega) (by omega) (4 + report_Sum.kN o.f0)
  have b3 := b2.ite (by omega) (by omega) (23 + report_Sum.eN a.f0) (report_Sum.eB a.f0 = true)
  have b4 := b3.ite (by omega) (by omega) 1 (a.f5 = true)
  have b5 := b4.ite (by omega) (by omega) 2 (a.f6 = true)
  have b6 := b5.at_ (by omega) 3
  have hm : (max (report_Sum.at_ _ 3) (a.f1.length : Int)) ≤ M + 5 := Int.max_le.2 ⟨Int.le_trans b6.2 (by omega), by omega⟩
  exact (b5.mono (by omega)).set 3 _ (Int.le_trans b6.1 (Int.le_max_left _ _)) hm
theorem step_at0 (M : Int) (xs : List Int) (o : P47) (a : P51) (h : Bd M xs) (h0 : 0 ≤ M) (h1 : M ≤ 900000000000000000) : report_Sum.at_ (report_Sum.stepL xs o a) 0 = report_Sum.at_ xs 0 + 1 := by
  unfold report_Sum.stepL report_Sum.addL
  dsimp only
  have hb := h.at_ h0 0
  refine (at_set _ _ _ _ (by omega)).trans ((ite_at0 _ _ _ (by omega)).trans ((ite_at0 _ _ _ (by omega)).trans ((ite_at0 _ _ _ (by omega)).trans ((inc_at0 _ _ (by omega)).trans ?_))))
  refine (at_set_self _ _ _ (by rw [h.1]; omega)).trans ?_
  exact w64 (by omega) (by omega)
/-! As many Kinds as steps. -/
def plainK (xs : List Int) : Nat → Int
  | 0 => 0
  | i + 1 => plainK xs i + report_Sum.at_ xs (4 + i)
theorem plain_out (xs : List Int) (j : Nat) (v : Int) : ∀ n : Nat, (j < 4 ∨ 4 + n ≤ j) → plainK (xs.set j v) n = plainK xs n
  | 0, _ => rfl
  | n + 1, h => by
    show plainK (xs.set j v) n + report_Sum.at_ (xs.set j v) (4 + n) = plainK xs n + report_Sum.at_ xs (4 + n)
    rw [plain_out xs j v n (by omega), at_set _ _ _ _ (by omega)]
theorem plain_in (xs : List Int) (i : Nat) (v : Int) (hl : 4 + i < xs.length) : ∀ n : Nat, i < n → plainK (xs.set (4 + i) v) n = plainK xs n + (v - report_Sum.at_ xs (4 + i))
  | 0, h => by omega
  | n + 1, h => by
    show plainK (xs.set (4 + i) v) n + report_Sum.at_ (xs.set (4 + i) v) (4 + n) = plainK xs n + report_Sum.at_ xs (4 + n) + (v - report_Sum.at_ xs (4 + i))
    by_cases he : i = n
    · subst he
      rw [plain_out xs (4 + i) v i (by omega), at_set_self _ _ _ hl]
      omega
    · rw [plain_in xs i v hl n (by omega), at_set _ _ _ _ (by omega)]
      omega
theorem plain_ite (c : Prop) [Decidable c] (xs : List Int) (j : Nat) (h : j < 4 ∨ 23 ≤ j) : plainK (if c then report_Sum.inc xs j else xs) 19 = plainK xs 19 := by
  by_cases hc : c
  · rw [if_pos hc]; exact plain_out _ _ _ _ (by omega)
  · rw [if_neg hc]
theorem step_plain (M : Int) (xs : List Int) (o : P47) (a : P51) (h : Bd M xs) (h0 : 0 ≤ M) (h1 : M ≤ 900000000000000000) : plainK (report_Sum.stepL xs o a) 19 = plainK xs 19 + 1 := by
  have hk : report_Sum.kN o.f0 < 19 := by unfold report_Sum.kN; split <;> omega
  unfold report_Sum.stepL report_Sum.addL
  dsimp only
  have b1 := h.inc h0 (by omega) 0
  have hb := b1.at_ (by omega) (4 + report_Sum.kN o.f0)
  refine (plain_out _ _ _ _ (by omega)).trans ((plain_ite _ _ _ (by omega)).trans ((plain_ite _ _ _ (by omega)).trans ((plain_ite _ _ _ (by omega)).trans ?_)))
  refine (plain_in _ _ _ (by rw [b1.1]; omega) 19 hk).trans ?_
  have e : plainK (report_Sum.inc xs 0) 19 = plainK xs 19 := plain_out _ _ _ _ (by omega)
  have w : wrap64 (report_Sum.at_ (report_Sum.inc xs 0) (4 + report_Sum.kN o.f0) + 1) = report_Sum.at_ (report_Sum.inc xs 0) (4 + report_Sum.kN o.f0) + 1 := w64 (by omega) (by omega)
  rw [e, w]
  omega
theorem counts (o : List P47) (a : List P51) (ha : ∀ x ∈ a, x.f1.length ≤ 140737488351232) : ∀ k : Nat, k ≤ a.length → k ≤ 100 → Bd (140737488351232 + 5 * (k : Int)) (report_Sum.sumTo o a k) ∧ report_Sum.at_ (report_Sum.sumTo o a k) 0 = (k : Int) ∧ plainK (report_Sum.sumTo o a k) 19 = (k : Int)
  | 0, _, _ => by
    refine ⟨⟨rfl, fun x hx => ?_⟩, rfl, (show plainK report_Sum.zero 19 = 0 by decide +kernel)⟩
    have hx : x ∈ List.replicate 40 (0 : Int) := hx
    have := List.eq_of_mem_replicate hx
    omega
  | k + 1, hk, hk2 => by
    obtain ⟨h2, h3, h4⟩ := counts o a ha k (by omega) (by omega)
    have hr : (rd_T51 a (k : Int)).f1.length ≤ 140737488351232 := by
      have he : rd_T51 a (k : Int) = a[k]'(by omega) := by
        unfold rd_T51
        rw [Int.toNat_natCast, List.getD_eq_getElem?_getD, List.getElem?_eq_getElem (by omega), Option.getD_some]
      rw [he]
      exact ha _ (List.getElem_mem _)
    refine ⟨?_, ?_, ?_⟩
    · exact (step_bd _ _ (rd_T47 o (k : Int)) _ h2 (by omega) (by omega) hr).mono (by omega)
    · refine (step_at0 _ _ (rd_T47 o (k : Int)) _ h2 (by omega) (by omega)).trans ?_
      rw [h3]
      omega
    · refine (step_plain _ _ (rd_T47 o (k : Int)) _ h2 (by omega) (by omega)).trans ?_
      rw [h4]
      omega
theorem sumK_plain (M : Int) (xs : List Int) (h : Bd M xs) (h0 : 0 ≤ M) (h1 : M ≤ 200000000000000000) : ∀ n : Nat, n ≤ 19 → bindlelaw33_ReportCounts.sumK xs n = plainK xs n ∧ 0 ≤ plainK xs n ∧ plainK xs n ≤ M * n
  | 0, _ => ⟨rfl, Int.le_refl _, by show (0 : Int) ≤ M * 0; omega⟩
  | n + 1, hn => by
    obtain ⟨i1, i2, i3⟩ := sumK_plain M xs h h0 h1 n (by omega)
    have hb := h.at_ h0 (4 + n)
    have hm : M * ((n : Nat) : Int) ≤ M * 18 := Int.mul_le_mul_of_nonneg_left (by omega) h0
    have he : M * ((n + 1 : Nat) : Int) = M * (n : Int) + M := by rw [Int.natCast_add, Int.mul_add]; show _ + M * 1 = _; rw [Int.mul_one]
    refine ⟨?_, ?_, ?_⟩
    · show wrap64 (bindlelaw33_ReportCounts.sumK xs n + report_Sum.at_ xs (4 + n)) = plainK xs n + report_Sum.at_ xs (4 + n)
      rw [i1]
      exact w64 (by omega) (by omega)
    · show 0 ≤ plainK xs n + report_Sum.at_ xs (4 + n)
      omega
    · show plainK xs n + report_Sum.at_ xs (4 + n) ≤ _
      rw [he]
      omega
/-! As many lines as steps. -/
theorem ls_app (a b : ByteArray) : ls (a ++ b) = ls a ++ ls b := by
  have h : a ++ b = mk (ls a ++ ls b) := (mk_append (ls a) (ls b)).symm
  rw [h]
def no10 (b : ByteArray) : Prop := (10 : UInt8) ∉ ls b
theorem no10_app {a b : ByteArray} (h1 : no10 a) (h2 : no10 b) : no10 (a ++ b) := by
  unfold no10
  rw [ls_app, List.mem_append]
  exact fun h => h.elim h1 h2
theorem no10_word (i : Int) : no10 ((report_Word.f i).getD ⟨#[]⟩) := by
  have key : ∀ w ∈ report_kinds.words, (10 : UInt8) ∉ ls w := by decide +kernel
  show (10 : UInt8) ∉ ls (if 1 ≤ i ∧ i ≤ 18 then report_kinds.words.getD i.toNat ByteArray.empty else ⟨#[110, 111, 110, 101]⟩)
  split
  · rw [List.getD_eq_getElem?_getD]
    by_cases hl : i.toNat < report_kinds.words.length
    · rw [List.getElem?_eq_getElem hl]
      exact key _ (List.getElem_mem hl)
    · rw [List.getElem?_eq_none (by omega)]
      decide
  · decide
theorem no10_code (i : Int) : no10 ((report_Code.f i).getD ⟨#[]⟩) := by
  have key : ∀ w ∈ report_codes.words, (10 : UInt8) ∉ ls w := by decide +kernel
  show (10 : UInt8) ∉ ls (if 0 ≤ i ∧ i ≤ 16 then report_codes.words.getD i.toNat ByteArray.empty else ⟨#[111, 116, 104, 101, 114]⟩)
  split
  · rw [List.getD_eq_getElem?_getD]
    by_cases hl : i.toNat < report_codes.words.length
    · rw [List.getElem?_eq_getElem hl]
      exact key _ (List.getElem_mem hl)
    · rw [List.getElem?_eq_none (by omega)]
      decide
  · decide
theorem no10_dec : ∀ m u : Nat, u < m → (10 : UInt8) ∉ Lib.decDigits u
  | 0, u, h => by omega
  | m + 1, u, h => by
    have key : ∀ d : Nat, d < 10 → UInt8.ofNat (48 + d) ≠ 10 := by decide +kernel
    rw [Lib.decDigits]
    by_cases hu : u < 10
    · rw [dif_pos hu, List.mem_singleton]
      exact fun e => key u hu e.symm
    · rw [dif_neg hu, List.mem_append, List.mem_singleton]
      exact fun e => e.elim (no10_dec m (u / 10) (by omega)) (fun e => key (u % 10) (by omega) e.symm)
theorem no10_num (n : Int) (u : ByteArray) (hu : no10 u) : no10 (numB n u) := by
  unfold numB
  refine no10_app (no10_app (by unfold no10; decide) ?_) hu
  show (10 : UInt8) ∉ Lib.itoa n
  unfold Lib.itoa
  split
  · rw [List.mem_cons]
    exact fun e => e.elim (fun e => by revert e; decide) (no10_dec _ _ (Nat.lt_succ_self _))
  · exact no10_dec _ _ (Nat.lt_succ_self _)
theorem no10_right (nm : ByteArray) (h : YtodifojhegbjaaaDoorMpHelp.rightB (ls nm) = true) : no10 nm := by
  rw [right_alt, Bool.and_eq_true, Bool.and_eq_true, List.all_eq_true] at h
  intro hm
  have := h.2.1 _ hm
  revert this
  decide
theorem no10_line (o : P47) (a : P51) : no10 (lineB o a) := by
  unfold lineB
  dsimp only
  have hh : no10 (headB ((report_Word.f o.f0).getD ⟨#[]⟩) o.f1 ((report_Code.f a.f0).getD ⟨#[]⟩)) := by
    unfold headB
    refine no10_app ?_ (no10_app (by unfold no10; decide) (no10_code _))
    split
    · rename_i hr
      exact no10_app (no10_word _) (no10_app (by unfold no10; decide) (no10_right _ hr))
    · exact no10_word _
  have hb : no10 (besB o.f0 a.f1.length a.f2 a.f3.length a.f4.length) := by
    unfold besB
    repeat' split
    all_goals first | exact no10_num _ _ (by unfold no10; decide) | (unfold no10; decide)
  have hs : no10 (if a.f0 = 0 then headB ((report_Word.f o.f0).getD ⟨#[]⟩) o.f1 ((report_Code.f a.f0).getD ⟨#[]⟩) ++ besB o.f0 a.f1.length a.f2 a.f3.length a.f4.length else headB ((report_Word.f o.f0).getD ⟨#[]⟩) o.f1 ((report_Code.f a.f0).getD ⟨#[]⟩)) := by
    split
    · exact no10_app hh hb
    · exact hh
  generalize (if a.f0 = 0 then headB ((report_Word.f o.f0).getD ⟨#[]⟩) o.f1 ((report_Code.f a.f0).getD ⟨#[]⟩) ++ besB o.f0 a.f1.length a.f2 a.f3.length a.f4.length else headB ((report_Word.f o.f0).getD ⟨#[]⟩) o.f1 ((report_Code.f a.f0).getD ⟨#[]⟩)) = s at hs
  have h8 : no10 (⟨#[32, 114, 101, 102, 117, 115, 101, 100]⟩ : ByteArray) := by unfold no10; decide
  have h9 : no10 (⟨#[32, 112, 111, 105, 115, 111, 110, 101, 100]⟩ : ByteArray) := by unfold no10; decide
  unfold tailB
  repeat' split
  · exact no10_app (no10_app hs h8) h9
  · exact no10_app hs h8
  · exact no10_app hs h9
  · exact hs
theorem text_count (L : Nat → ByteArray) (h : ∀ i, no10 (L i)) : ∀ n : Nat, (ls (textTo L n)).count 10 = n
  | 0 => rfl
  | n + 1 => by
    show (ls (textTo L n ++ (L n ++ (⟨#[10]⟩ : ByteArray)))).count 10 = n + 1
    rw [ls_app, ls_app, List.count_append, List.count_append, text_count L h n, List.count_eq_zero.2 (h n)]
    rfl
theorem lines_count (t : ByteArray) (hs : t.size ≤ 1000000000) : ∀ n : Nat, n ≤ t.size → bindlelaw33_ReportCounts.linesTo t n = ((((ls t).take n).count 10 : Nat) : Int)
  | 0, _ => rfl
  | n + 1, hn => by
    have ih := lines_count t hs n (by omega)
    have hl : n < (ls t).length := by rw [ls_len]; omega
    have ht : (ls t).take (n + 1) = (ls t).take n ++ [(ls t)[n]] := (List.take_append_getElem hl).symm
    have hb := bt_nat t n (by omega)
    have hc : ((ls t).take n).count 10 ≤ n := Nat.le_trans List.count_le_length (by rw [List.length_take]; omega)
    show (if bt t (n : Int) = 10 then wrap64 (bindlelaw33_ReportCounts.linesTo t n + 1) else bindlelaw33_ReportCounts.linesTo t n) = _
    rw [ht, List.count_append, ih, hb]
    by_cases he : (ls t)[n] = 10
    · rw [he, if_pos (by decide), w64 (by omega) (by omega), show [(10 : UInt8)].count 10 = 1 from rfl]
      omega
    · rw [if_neg (fun e => he (UInt8.toNat_inj.1 (by show (ls t)[n].toNat = 10; omega))), List.count_singleton, if_neg (fun e => he (beq_iff_eq.1 e))]
      rfl
/-! Each word is one Kind's alone. -/
theorem words_ok (j q : Int) : bindlelaw33_ReportCounts.WC j q := by
  have k1 : ∀ a < 19, 1 ≤ a → report_Kind.f (bindlelaw33_ReportCounts.W ((a : Nat) : Int)) = some ((a : Nat) : Int) := by decide +kernel
  have k2 : ((List.range 19).all fun a => (List.range 19).all fun b => a == 0 || b == 0 || a == b || !((bindlelaw33_ReportCounts.W ((a : Nat) : Int)).data.toList == (bindlelaw33_ReportCounts.W ((b : Nat) : Int)).data.toList)) = true := by decide +kernel
  have k3 : ∀ a < 17, report_Error.f (bindlelaw33_ReportCounts.Cd ((a : Nat) : Int)) = some (((a : Nat) : Int), true) := by decide +kernel
  have out : ∀ i : Int, ¬ (1 ≤ i ∧ i ≤ 18) → bindlelaw33_ReportCounts.W i = bindlelaw33_ReportCounts.W 0 := by
    intro i hi
    unfold bindlelaw33_ReportCounts.W report_Word.f
    rw [if_neg hi, if_neg (by omega)]
  unfold bindlelaw33_ReportCounts.WC
  refine ⟨fun h => ?_, fun h => ?_, fun h => ?_⟩
  · have := int_cases 19 (P := fun i => 1 ≤ i → report_Kind.f (bindlelaw33_ReportCounts.W i) = some i) (fun k hk h => k1 k hk (by omega)) j (by omega) (by omega)
    exact this h.1
  · by_cases hq : 1 ≤ q ∧ q ≤ 18
    · by_cases hj : 1 ≤ j ∧ j ≤ 18
      · exfalso
        have := List.all_eq_true.1 (List.all_eq_true.1 k2 j.toNat (List.mem_range.2 (by omega))) q.toNat (List.mem_range.2 (by omega))
        rw [Int.toNat_of_nonneg (by omega), Int.toNat_of_nonneg (by omega)] at this
        have e := h.2
        rw [ByteArray.toList_eq, ByteArray.toList_eq] at e
        rw [e] at this
        have hne := h.1
        simp only [beq_self_eq_true, Bool.not_true, Bool.or_false, Bool.or_eq_true, beq_iff_eq] at this
        omega
      · rw [out j hj]
    · rw [h.2, out q hq]
  · exact int_cases 17 (P := fun i => report_Error.f (bindlelaw33_ReportCounts.Cd i) = some (i, true)) (fun k hk => k3 k hk) j h.1 (by omega)
theorem ReportCounts : bindlelaw33_ReportCounts.Pure := by
  intro l j q hg _ _
  obtain ⟨t, hgr, hlen⟩ := great_loop l 100 0 (by omega)
  have main : Ev (fun k => bindlelaw33_ReportCounts.f k l j q) true := by
    unfold bindlelaw33_ReportCounts.f
    refine ev_bind hgr ?_
    by_cases ht : t = true
    · exact ev_pos ht lives_ev
    · have hl := hlen (by simpa using ht)
      refine ev_neg ht (ev_bind (parts_loop l hl.1 l.length 0 (by omega)) ?_)
      have hok : ∀ i : Nat, i < (l.map (·.f0)).length → okOA (rd_T47 (l.map (·.f0)) i) (rd_T51 (l.map (·.f1)) i) := by
        intro i hi
        rw [List.length_map] at hi
        have hs := hl.2 i (by omega) hi
        have hm := hg.2.2 _ (List.getElem_mem hi)
        have e0 : rd_T66 l i = l[i] := by
          unfold rd_T66
          rw [Int.toNat_natCast, List.getD_eq_getElem?_getD, List.getElem?_eq_getElem hi, Option.getD_some]
        have e1 : rd_T47 (l.map (·.f0)) i = l[i].f0 := by
          unfold rd_T47
          rw [Int.toNat_natCast, List.getD_eq_getElem?_getD, List.getElem?_map, List.getElem?_eq_getElem hi]
          rfl
        have e2 : rd_T51 (l.map (·.f1)) i = l[i].f1 := by
          unfold rd_T51
          rw [Int.toNat_natCast, List.getD_eq_getElem?_getD, List.getElem?_map, List.getElem?_eq_getElem hi]
          rfl
        rw [e1, e2]
        rw [e0] at hs
        have hb := i64_bounds hm.2.2.2.1
        have h1 := hm.2.2.1.2.1
        have h3 := hm.2.2.2.2.1.2.1
        have h4 := hm.2.2.2.2.2.1.2.1
        exact ⟨hs, by omega, hb.1, hb.2, by omega, by omega⟩
      have htx : Ev (fun k => report_Text.f k (l.map (·.f0)) (l.map (·.f1))) (textTo (fun j => lineB (rd_T47 (l.map (·.f0)) j) (rd_T51 (l.map (·.f1)) j)) (l.map (·.f0)).length, 0) := by
        unfold report_Text.f
        exact ev_pos (by rw [List.length_map, List.length_map]) (text_loop _ _ (by rw [List.length_map, List.length_map]) (by rw [List.length_map]; exact hl.1) hok (l.map (·.f0)).length 0 (by omega))
      have hc := counts (l.map (·.f0)) (l.map (·.f1)) (fun x hx => by
        obtain ⟨y, hy, rfl⟩ := List.mem_map.1 hx
        have := (hg.2.2 y hy).2.2.1.2.1
        omega) l.length (by rw [List.length_map]; exact Nat.le_refl _) hl.1
      have hsz := text_len (fun j => lineB (rd_T47 (l.map (·.f0)) j) (rd_T51 (l.map (·.f1)) j)) (l.map (·.f0)).length (fun j hj => line_len _ _ (hok j hj)) (l.map (·.f0)).length (Nat.le_refl _)
      have hct := text_count (fun j => lineB (rd_T47 (l.map (·.f0)) j) (rd_T51 (l.map (·.f1)) j)) (fun i => no10_line _ _) (l.map (·.f0)).length
      refine ev_bind htx (ev_pos ?_ lives_ev)
      dsimp only
      have e0 : (l.map (·.f0)).length = l.length := List.length_map _
      rw [e0] at hsz hct ⊢
      have hl1 := hl.1
      have hli := lines_count (textTo (fun j => lineB (rd_T47 (l.map (·.f0)) j) (rd_T51 (l.map (·.f1)) j)) l.length) (by omega) _ (Nat.le_refl _)
      rw [List.take_of_length_le (by rw [ls_len]; exact Nat.le_refl _), hct] at hli
      have hk := sumK_plain _ _ hc.1 (by omega) (by omega) 19 (Nat.le_refl _)
      exact ⟨words_ok j q, rfl, List.length_map _, by omega, by omega, rfl, by rw [hk.1]; exact hc.2.2, hc.2.1, hli, hc.1.1⟩
  obtain ⟨K, hK⟩ := main
  exact ⟨K, hK K (Nat.le_refl _)⟩
end Go.Proofs.YtodifojhegbjaaaDoor.Pure
