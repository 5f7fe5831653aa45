/- Statement 15.3: names, parts, folders put together. -/
import Derived.Test.YtcfcbkcaondfcaaDoorPMemberJoinsx3
import Derived.OpenShut
namespace Go.Proofs.YtcfcbkcaondfcaaDoor.Pure
open Go.RowKit Go.Proofs.YtcfcbkcaondfcaaDoor.PMemberJoins Go.Proofs.YtcfcbkcaondfcaaDoorW.PrintWords Go.Proofs.YtcfcbkcaondfcaaDoorW.PrintLast Go.Proofs.YtcfcbkcaondfcaaDoorW.PrintMore
theorem w64 {n : Int} (h : -9223372036854775808 ≤ n) (h' : n ≤ 9223372036854775807) : wrap64 n = n := by
  unfold wrap64
  omega
theorem w64_l (a b : Int) : wrap64 (wrap64 a + b) = wrap64 (a + b) := by
  unfold wrap64
  omega
theorem w64_r (a b : Int) : wrap64 (a + wrap64 b) = wrap64 (a + b) := by
  unfold wrap64
  omega
theorem i64_bounds {n : Int} (h : (Lit.int .i64 n).wf = true) : -9223372036854775808 ≤ n ∧ n ≤ 9223372036854775807 := Go.bounds_i64 h
theorem ev_const {α : Type} {o : Option α} {a : α} (h : o = some a) : Ev (fun _ => o) a := ⟨0, fun _ _ => h⟩
theorem ev_pos {α : Type} {c : Prop} [Decidable c] {g h : Nat → Option α} {r : α} (hc : c) (hg : Ev g r) : Ev (fun k => if c then g k else h k) r := by
  obtain ⟨K, hg⟩ := hg
  exact ⟨K, fun k hk => by simp only [if_pos hc]; exact hg k hk⟩
theorem ev_neg {α : Type} {c : Prop} [Decidable c] {g h : Nat → Option α} {r : α} (hc : ¬ c) (hg : Ev h r) : Ev (fun k => if c then g k else h k) r := by
  obtain ⟨K, hg⟩ := hg
  exact ⟨K, fun k hk => by simp only [if_neg hc]; exact hg k hk⟩
theorem ev_from {α : Type} {g : Nat → Option α} {r : α} (K : Nat) (h : ∀ k, K ≤ k → g k = some r) : Ev g r := ⟨K, h⟩
theorem ev_bind {α β : Type} {g : Nat → Option α} {f : Nat → α → Option β} {a : α} {r : β} (h : Ev g a) (k : Ev (fun n => f n a) r) : Ev (fun n => (g n).bind (f n)) r := h.bind k
theorem ev_bindc {α β : Type} {o : Option α} {f : Nat → α → Option β} {a : α} {r : β} (h : o = some a) (k : Ev (fun n => f n a) r) : Ev (fun n => o.bind (f n)) r := (ev_const h).bind k
theorem toList_inj {a b : ByteArray} (h : a.toList = b.toList) : a = b := by
  rw [ByteArray.toList_eq, ByteArray.toList_eq] at h
  exact Go.WideShapes.bytes_inj h
/-- A text's bytes as a list. -/
abbrev ls (a : ByteArray) : List UInt8 := a.data.toList
abbrev mk (l : List UInt8) : ByteArray := ⟨l.toArray⟩
theorem ls_len (a : ByteArray) : (ls a).length = a.size := Array.length_toList
theorem ls_mk (l : List UInt8) : ls (mk l) = l := rfl
theorem mk_ls (a : ByteArray) : mk (ls a) = a := rfl
theorem ls_inj {a b : ByteArray} (h : ls a = ls b) : a = b := Go.WideShapes.bytes_inj h
theorem mk_append (x y : List UInt8) : mk (x ++ y) = mk x ++ mk y := by
  apply ls_inj
  simp [ls, mk]
theorem mk_size (l : List UInt8) : (mk l).size = l.length := by
  show l.toArray.size = _
  rw [List.size_toArray]
theorem extract_ls (a : ByteArray) (i j : Nat) : ls (a.extract i j) = ((ls a).drop i).take (j - i) := by
  show (a.extract i j).data.toList = _
  rw [ByteArray.data_extract, Array.toList_extract]
theorem extract_mk (a : ByteArray) (i j : Nat) : a.extract i j = mk (((ls a).drop i).take (j - i)) := ls_inj (by rw [extract_ls])
theorem bt_nat (a : ByteArray) (i : Nat) (h : i < a.size) : bt a (i : Int) = (((ls a)[i]'(by rw [ls_len]; exact h)).toNat : Int) := by
  unfold bt
  rw [dif_pos (by simpa using h)]
  rfl
/-- A text's parts put together, with bytes 47 between. -/
def joinP : List (List UInt8) → List UInt8
  | [] => []
  | x :: r => x ++ r.flatMap (47 :: ·)
theorem joinP_snoc (l : List (List UInt8)) (h : l ≠ []) (x : List UInt8) : joinP (l ++ [x]) = joinP l ++ 47 :: x := by
  cases l with
  | nil => exact absurd rfl h
  | cons a r => simp [joinP]
theorem split_cons (x : UInt8) (r : List UInt8) : YtcfcbkcaondfcaaDoorMpHelp.splitL 47 (x :: r) = if x = 47 then [] :: YtcfcbkcaondfcaaDoorMpHelp.splitL 47 r else match YtcfcbkcaondfcaaDoorMpHelp.splitL 47 r with
    | h :: t => (x :: h) :: t
    | [] => [[x]] := rfl
def pre (p : List UInt8) : List (List UInt8) → List (List UInt8)
  | h :: t => (p ++ h) :: t
  | [] => [p]
theorem pre_nil {l : List (List UInt8)} (h : l ≠ []) : pre [] l = l := by
  cases l with
  | nil => exact absurd rfl h
  | cons a r => rfl
theorem pre_pre (p q : List UInt8) (l : List (List UInt8)) : pre p (pre q l) = pre (p ++ q) l := by
  cases l <;> simp [pre]
theorem split_ne {x : UInt8} (h : x ≠ 47) (r : List UInt8) : YtcfcbkcaondfcaaDoorMpHelp.splitL 47 (x :: r) = pre [x] (YtcfcbkcaondfcaaDoorMpHelp.splitL 47 r) := by
  rw [split_cons, if_neg h]
  cases YtcfcbkcaondfcaaDoorMpHelp.splitL 47 r <;> rfl
theorem split_eq (r : List UInt8) : YtcfcbkcaondfcaaDoorMpHelp.splitL 47 (47 :: r) = [] :: YtcfcbkcaondfcaaDoorMpHelp.splitL 47 r := by rw [split_cons, if_pos rfl]
theorem split_pos (s : List UInt8) : YtcfcbkcaondfcaaDoorMpHelp.splitL 47 s ≠ [] := YtcfcbkcaondfcaaDoorMpHelp.splitL_ne 47 s
theorem split_all (p : UInt8 → Bool) (hp : p 47 = true) : ∀ s : List UInt8, ((YtcfcbkcaondfcaaDoorMpHelp.splitL 47 s).all fun l => l.all p) = s.all p
  | [] => by rfl
  | x :: r => by
    have ih := split_all p hp r
    by_cases hx : x = 47
    · subst hx
      rw [split_eq, List.all_cons, ih, List.all_cons, hp]
      rfl
    · rw [split_ne hx, List.all_cons, ← ih]
      have := split_pos r
      cases h : YtcfcbkcaondfcaaDoorMpHelp.splitL 47 r with
      | nil => exact absurd h this
      | cons a t => simp [pre, Bool.and_assoc]
theorem split_join : ∀ s : List UInt8, joinP (YtcfcbkcaondfcaaDoorMpHelp.splitL 47 s) = s
  | [] => by rfl
  | x :: r => by
    have ih := split_join r
    have hn := split_pos r
    by_cases hx : x = 47
    · subst hx
      rw [split_eq]
      cases h : YtcfcbkcaondfcaaDoorMpHelp.splitL 47 r with
      | nil => exact absurd h hn
      | cons a t =>
        rw [h] at ih
        rw [← ih]
        simp [joinP]
    · rw [split_ne hx]
      cases h : YtcfcbkcaondfcaaDoorMpHelp.splitL 47 r with
      | nil => exact absurd h hn
      | cons a t =>
        rw [h] at ih
        rw [← ih]
        simp [joinP, pre]
theorem split_no : ∀ (s : List UInt8), ∀ l ∈ YtcfcbkcaondfcaaDoorMpHelp.splitL 47 s, (47 : UInt8) ∉ l
  | [] => by simp [YtcfcbkcaondfcaaDoorMpHelp.splitL]
  | x :: r => by
    have ih := split_no r
    by_cases hx : x = 47
    · subst hx
      rw [split_eq]
      intro l hl
      rcases List.mem_cons.1 hl with rfl | hl
      · simp
      · exact ih l hl
    · rw [split_ne hx]
      have hn := split_pos r
      cases h : YtcfcbkcaondfcaaDoorMpHelp.splitL 47 r with
      | nil => exact absurd h hn
      | cons a t =>
        rw [h] at ih
        intro l hl
        rcases List.mem_cons.1 hl with rfl | hl
        · simp only [List.cons_append, List.nil_append, List.mem_cons, not_or]
          exact ⟨fun e => hx e.symm, ih a List.mem_cons_self⟩
        · exact ih l (List.mem_cons_of_mem _ hl)
theorem split_len (s : List UInt8) : (YtcfcbkcaondfcaaDoorMpHelp.splitL 47 s).length ≤ s.length + 1 := by
  induction s with
  | nil => simp [YtcfcbkcaondfcaaDoorMpHelp.splitL]
  | cons x r ih =>
    by_cases hx : x = 47
    · subst hx
      rw [split_eq]
      simp only [List.length_cons]
      omega
    · rw [split_ne hx]
      cases h : YtcfcbkcaondfcaaDoorMpHelp.splitL 47 r with
      | nil => simp [pre]
      | cons a t => rw [h] at ih; simp only [pre, List.length_cons] at ih ⊢; omega
theorem split_part (s : List UInt8) : ∀ l ∈ YtcfcbkcaondfcaaDoorMpHelp.splitL 47 s, l.length ≤ s.length := by
  induction s with
  | nil => simp [YtcfcbkcaondfcaaDoorMpHelp.splitL]
  | cons x r ih =>
    intro l hl
    by_cases hx : x = 47
    · subst hx
      rw [split_eq] at hl
      rcases List.mem_cons.1 hl with rfl | hl
      · simp
      · have := ih l hl; simp only [List.length_cons]; omega
    · rw [split_ne hx] at hl
      cases h : YtcfcbkcaondfcaaDoorMpHelp.splitL 47 r with
      | nil => exact absurd h (split_pos r)
      | cons a t =>
        rw [h] at ih hl
        rcases List.mem_cons.1 hl with rfl | hl
        · have := ih a List.mem_cons_self; simp only [List.cons_append, List.nil_append, List.length_cons]; omega
        · have := ih l (List.mem_cons_of_mem _ hl); simp only [List.length_cons]; omega
/-- The document's parts. -/
def partsB (a : ByteArray) : List ByteArray := (YtcfcbkcaondfcaaDoorMpHelp.splitL 47 (ls a)).map mk
theorem split_app (x y : List UInt8) : YtcfcbkcaondfcaaDoorMpHelp.splitL 47 (x ++ 47 :: y) = YtcfcbkcaondfcaaDoorMpHelp.splitL 47 x ++ YtcfcbkcaondfcaaDoorMpHelp.splitL 47 y := by
  induction x with
  | nil => rw [List.nil_append, split_eq]; rfl
  | cons c r ih =>
    by_cases hc : c = 47
    · subst hc
      rw [List.cons_append, split_eq, split_eq, ih]
      rfl
    · rw [List.cons_append, split_ne hc, split_ne hc, ih]
      cases h : YtcfcbkcaondfcaaDoorMpHelp.splitL 47 r with
      | nil => exact absurd h (split_pos r)
      | cons a t => rfl
theorem split_none : ∀ l : List UInt8, (47 : UInt8) ∉ l → YtcfcbkcaondfcaaDoorMpHelp.splitL 47 l = [l]
  | [], _ => rfl
  | c :: r, h => by
    rw [split_ne (fun e => h (by rw [e]; exact List.mem_cons_self)), split_none r (fun e => h (List.mem_cons_of_mem _ e))]
    rfl
theorem split_joinP : ∀ L : List (List UInt8), L ≠ [] → (∀ l ∈ L, (47 : UInt8) ∉ l) → YtcfcbkcaondfcaaDoorMpHelp.splitL 47 (joinP L) = L
  | [], h, _ => absurd rfl h
  | [x], _, h => by
    rw [show joinP [x] = x by simp [joinP]]
    exact split_none x (h x List.mem_cons_self)
  | x :: y :: r, _, h => by
    have e : joinP (x :: y :: r) = x ++ 47 :: joinP (y :: r) := by simp [joinP]
    rw [e, split_app, split_none x (h x List.mem_cons_self), split_joinP (y :: r) (by simp) (fun l hl => h l (List.mem_cons_of_mem _ hl))]
    rfl
theorem li_hit (a : ByteArray) (p : Nat) (hs : a.size ≤ 1000000) (hp : p < a.size) (h47 : (ls a)[p]'(by rw [ls_len]; exact hp) = 47) : ∀ n : Nat, p + n < a.size →
    (∀ i, p < i → i ≤ p + n → (h : i < (ls a).length) → (ls a)[i] ≠ 47) → Ev (fun k => bytealg_LastIndexByteString.l0 k a 47 ((p + n : Nat) : Int)) (p : Int)
  | 0, hn, _ => by
    refine Ev.step (fun k => rfl) ?_
    refine ev_pos (by omega) (ev_pos (by omega) (ev_pos (by omega) ?_))
    rw [Nat.add_zero, bt_nat a p hp, h47]
    exact ev_pos rfl (Ev.now _)
  | n + 1, hn, hno => by
    refine Ev.step (fun k => rfl) ?_
    refine ev_pos (by omega) (ev_pos (by omega) (ev_pos (by omega) ?_))
    have hlt : p + (n + 1) < (ls a).length := by rw [ls_len]; exact hn
    have hc : ¬ bt a ((p + (n + 1) : Nat) : Int) = 47 := by
      rw [bt_nat a _ hn]
      intro e
      exact hno (p + (n + 1)) (by omega) (Nat.le_refl _) hlt (UInt8.toNat_inj.1 (by have : ((ls a)[p + (n + 1)].toNat : Int) = ((47 : UInt8).toNat : Int) := e; exact_mod_cast this))
    have hw : wrap64 (((p + (n + 1) : Nat) : Int) - 1) = ((p + n : Nat) : Int) := by rw [w64 (by omega) (by omega)]; omega
    rw [hw]
    exact ev_neg hc (li_hit a p hs hp h47 n (by omega) fun i h1 h2 h => hno i h1 (by omega) h)
theorem li_miss (a : ByteArray) (hs : a.size ≤ 1000000) : ∀ n : Nat, n ≤ a.size → (∀ i, i < n → (h : i < (ls a).length) → (ls a)[i] ≠ 47) → Ev (fun k => bytealg_LastIndexByteString.l0 k a 47 ((n : Int) - 1)) (-1)
  | 0, _, _ => by
    refine Ev.step (fun k => rfl) ?_
    exact ev_neg (by omega) (Ev.now _)
  | n + 1, hn, hno => by
    refine Ev.step (fun k => rfl) ?_
    have e0 : ((n + 1 : Nat) : Int) - 1 = (n : Int) := by omega
    rw [e0]
    refine ev_pos (by omega) (ev_pos (by omega) (ev_pos (by omega) ?_))
    have hlt : n < (ls a).length := by rw [ls_len]; omega
    have hc : ¬ bt a (n : Int) = 47 := by
      rw [bt_nat a n (by omega)]
      intro e
      exact hno n (Nat.lt_succ_self _) hlt (UInt8.toNat_inj.1 (by have : ((ls a)[n].toNat : Int) = ((47 : UInt8).toNat : Int) := e; exact_mod_cast this))
    have hw : wrap64 ((n : Int) - 1) = (n : Int) - 1 := w64 (by omega) (by omega)
    rw [hw]
    exact ev_neg hc (li_miss a hs n (by omega) fun i h1 h => hno i (by omega) h)
/-- The text of a name's folder. -/
def foldB (a : ByteArray) : ByteArray := mk (joinP (YtcfcbkcaondfcaaDoorMpHelp.splitL 47 (ls a)).dropLast)
theorem mx_nat (n : Nat) : mx 0 (n : Int) = n := by
  unfold mx
  by_cases h : (0 : Int) < n
  · rw [if_pos h]
  · rw [if_neg h]; omega
theorem folder (a : ByteArray) (hs : a.size ≤ 1000000) : Ev (fun k => member_Folder.f k a) (if YtcfcbkcaondfcaaDoorMpHelp.rightB (ls a) = true then (foldB a, true) else (mk [], false)) := by
  refine ev_bindc (show member_Right.f a = some (YtcfcbkcaondfcaaDoorMpHelp.rightB (ls a)) from rfl) ?_
  by_cases hr : YtcfcbkcaondfcaaDoorMpHelp.rightB (ls a) = true
  · rw [if_pos hr]
    refine ev_pos hr ?_
    have hn := split_pos (ls a)
    have hd := List.dropLast_concat_getLast hn
    have hj := split_join (ls a)
    have hl47 := split_no (ls a) _ (List.getLast_mem hn)
    generalize hL : (YtcfcbkcaondfcaaDoorMpHelp.splitL 47 (ls a)).getLast hn = last at hd hl47
    have hf : foldB a = mk (joinP (YtcfcbkcaondfcaaDoorMpHelp.splitL 47 (ls a)).dropLast) := rfl
    generalize (YtcfcbkcaondfcaaDoorMpHelp.splitL 47 (ls a)).dropLast = init at hd hf
    rw [← hd] at hj
    have hLI : ∀ k, strings_LastIndex.f k a (⟨#[47]⟩ : ByteArray) = bytealg_LastIndexByteString.l0 k a 47 (wrap64 ((a.size : Int) - 1)) := fun k => rfl
    have hw : wrap64 ((a.size : Int) - 1) = (a.size : Int) - 1 := w64 (by omega) (by omega)
    by_cases hi : init = []
    · subst hi
      have hls : ls a = last := by rw [← hj]; simp [joinP]
      have hEv : Ev (fun k => strings_LastIndex.f k a (⟨#[47]⟩ : ByteArray)) (-1) := by
        refine Ev.congr hLI ?_
        rw [hw]
        refine li_miss a hs a.size (Nat.le_refl _) fun i _ h e => hl47 ?_
        rw [← hls, ← e]
        exact List.getElem_mem h
      refine ev_bind hEv (ev_pos (by decide) (ev_pos (by show (0 : Int) ≤ _; omega) ?_))
      rw [hf]
      have e : a.extract 0 (mx 0 (-1) : Int).toNat = mk (joinP []) := by
        rw [extract_mk]
        rfl
      rw [e]
      exact Ev.now _
    · rw [joinP_snoc init hi] at hj
      have hsz : (joinP init).length + last.length + 1 = a.size := by
        rw [← ls_len, ← hj, List.length_append, List.length_cons]
        omega
      have hp : (joinP init).length < a.size := by omega
      have h47 : (ls a)[(joinP init).length]'(by rw [ls_len]; exact hp) = 47 := by
        have : (ls a)[(joinP init).length]? = some 47 := by rw [← hj]; simp
        exact (List.getElem?_eq_some_iff.1 this).2
      have hEv : Ev (fun k => strings_LastIndex.f k a (⟨#[47]⟩ : ByteArray)) ((joinP init).length : Int) := by
        refine Ev.congr hLI ?_
        rw [hw, show (a.size : Int) - 1 = (((joinP init).length + last.length : Nat) : Int) by omega]
        refine li_hit a _ hs hp h47 last.length (by omega) fun i h1 _ h e => hl47 ?_
        have h3 : (ls a)[i]? = some 47 := List.getElem?_eq_some_iff.2 ⟨h, e⟩
        rw [← hj, List.getElem?_append_right (by omega), show i - (joinP init).length = (i - (joinP init).length - 1) + 1 by omega, List.getElem?_cons_succ] at h3
        exact List.mem_of_getElem? h3
      refine ev_bind hEv ?_
      rw [mx_nat]
      refine ev_pos (by omega) (ev_pos (by omega) ?_)
      have e : a.extract 0 (((joinP init).length : Nat) : Int).toNat = foldB a := by
        rw [hf, extract_mk, Int.toNat_natCast, List.drop_zero, Nat.sub_zero, ← hj, List.take_left']
        rfl
      rw [e]
      exact Ev.now _
  · rw [if_neg hr]
    exact ev_neg hr (Ev.now _)
theorem outs_two : YtcfcbkcaondfcaaDoorMSort.outs [mk [98], mk [99]] = [[98], [99]] := by
  have e : YtcfcbkcaondfcaaDoorMSort.sorted [mk [98], mk [99]] = [[98], [99]] := by
    refine List.mergeSort_of_pairwise ?_
    simp [YtcfcbkcaondfcaaDoorMSort.texts]
    decide
  unfold YtcfcbkcaondfcaaDoorMSort.outs
  rw [e]
  decide +kernel
theorem lives_children : member_Children.f 9 [(⟨#[97, 47, 98]⟩ : ByteArray), (⟨#[97, 47, 99, 47, 100]⟩ : ByteArray)] (⟨#[97]⟩ : ByteArray) = (member_Sort.f [mk [98], mk [99]]).bind fun t => some t := by kernel_rfl
theorem lives_true : bindlelaw15_lives.f 9 = some true := by
  unfold bindlelaw15_lives.f
  rw [lives_children]
  unfold member_Sort.f
  rw [if_pos (by decide), outs_two]
  decide +kernel
theorem lives : Ev (fun k => bindlelaw15_lives.f k) true := Ev.of (fun k => bindlelaw15_lives.mono k) lives_true
theorem parts_of (a : ByteArray) (hs : a.size ≤ 1000000) : member_Parts.f a = some (if YtcfcbkcaondfcaaDoorMpHelp.rightB (ls a) = true then partsB a else []) := by
  have h2 : strings_Split.f a (⟨#[47]⟩ : ByteArray) = some (partsB a) := by
    show (if a.size ≤ 1000000 then some ((YtcfcbkcaondfcaaDoorMpHelp.splitL 47 a.data.toList).map fun l => (⟨l.toArray⟩ : ByteArray)) else none) = _
    rw [if_pos hs]
    rfl
  unfold member_Parts.f
  rw [show member_Right.f a = some (YtcfcbkcaondfcaaDoorMpHelp.rightB (ls a)) from rfl, Option.bind_some, h2, Option.bind_some]
  by_cases hr : YtcfcbkcaondfcaaDoorMpHelp.rightB (ls a) = true
  · rw [if_pos hr, if_pos hr]
  · rw [if_neg hr, if_neg hr]
theorem joinP_app (l m : List (List UInt8)) (h : l ≠ []) : joinP (l ++ m) = joinP l ++ m.flatMap (47 :: ·) := by
  cases l with
  | nil => exact absurd rfl h
  | cons a r => simp [joinP]
theorem joinP_take_le (L : List (List UInt8)) (j : Nat) : (joinP (L.take j)).length ≤ (joinP L).length := by
  by_cases h : L.take j = []
  · rw [h]; simp [joinP]
  · have := congrArg List.length (joinP_app (L.take j) (L.drop j) h)
    rw [List.take_append_drop, List.length_append] at this
    omega
theorem part_le (L : List (List UInt8)) (l : List UInt8) (h : l ∈ L) : l.length ≤ (joinP L).length := by
  obtain ⟨a, b, rfl⟩ := List.append_of_mem h
  cases a with
  | nil => simp [joinP]
  | cons x r =>
    simp [joinP]
    omega
theorem toList_ls (a : ByteArray) : a.toList = ls a := ByteArray.toList_eq a
theorem ls_append (a b : ByteArray) : ls (a ++ b) = ls a ++ ls b := by simp [ls]
theorem hasPrefix (s p : ByteArray) : stringslite_HasPrefix.f s p = some ((ls p).isPrefixOf (ls s)) := by
  unfold stringslite_HasPrefix.f
  by_cases h : (s.size : Int) ≥ (p.size : Int)
  · rw [if_pos h, if_pos (by omega), if_pos (by omega), toList_ls, toList_ls, extract_ls, Int.toNat_natCast, List.drop_zero, Nat.sub_zero]
    congr 1
    rw [Bool.eq_iff_iff, beq_iff_eq, List.isPrefixOf_iff_prefix, List.prefix_iff_eq_take, ls_len]
    exact eq_comm
  · rw [if_neg h]
    congr 1
    symm
    rw [Bool.eq_false_iff]
    intro e
    have := (List.isPrefixOf_iff_prefix.1 e).length_le
    rw [ls_len, ls_len] at this
    omega
theorem cutPrefix (s p : ByteArray) : strings_CutPrefix.f s p = some (if (ls p).isPrefixOf (ls s) = true then (mk ((ls s).drop p.size), true) else (s, false)) := by
  unfold strings_CutPrefix.f stringslite_CutPrefix.f
  rw [hasPrefix, Option.bind_some]
  by_cases h : (ls p).isPrefixOf (ls s) = true
  · have hl := (List.isPrefixOf_iff_prefix.1 h).length_le
    rw [ls_len, ls_len] at hl
    rw [if_pos h, if_pos (by omega), if_pos (by omega), if_pos h, extract_mk, Int.toNat_natCast]
    rw [List.take_of_length_le (by rw [List.length_drop, ls_len]; omega)]
    rfl
  · rw [if_neg h, if_neg h]
    rfl
/-- Has a folder a name? -/
def inB (f s : List UInt8) : Bool := YtcfcbkcaondfcaaDoorMpHelp.rightB s && (f.isEmpty || (YtcfcbkcaondfcaaDoorMpHelp.rightB f && (f ++ [47]).isPrefixOf s))
/-- What stands behind a folder. -/
def restB (f s : ByteArray) : ByteArray := if (ls f).isEmpty = true then s else mk ((ls s).drop (f.size + 1))
theorem behind (f s : ByteArray) (hf : f.size ≤ 1000000) : ∃ x, member_behind.f f s = some (x, inB (ls f) (ls s)) ∧ (inB (ls f) (ls s) = true → x = restB f s) := by
  unfold member_behind.f inB restB
  rw [show member_Right.f s = some (YtcfcbkcaondfcaaDoorMpHelp.rightB (ls s)) from rfl, Option.bind_some]
  cases h1 : YtcfcbkcaondfcaaDoorMpHelp.rightB (ls s) with
  | false => exact ⟨_, rfl, fun h => by cases h⟩
  | true =>
    rw [if_pos rfl, toList_ls]
    by_cases h2 : ls f = []
    · rw [if_pos h2, h2]
      exact ⟨_, rfl, fun _ => rfl⟩
    · have e2 : (ls f).isEmpty = false := List.isEmpty_eq_false_iff.2 h2
      rw [if_neg h2, show member_Right.f f = some (YtcfcbkcaondfcaaDoorMpHelp.rightB (ls f)) from rfl, Option.bind_some, e2]
      cases h3 : YtcfcbkcaondfcaaDoorMpHelp.rightB (ls f) with
      | false => exact ⟨_, rfl, fun h => by cases h⟩
      | true =>
        rw [if_pos rfl, if_pos (by omega), cutPrefix, Option.bind_some, ls_append, show ls (⟨#[47]⟩ : ByteArray) = [47] from rfl]
        cases h4 : (ls f ++ [47]).isPrefixOf (ls s) with
        | false => exact ⟨_, rfl, fun h => by cases h⟩
        | true =>
          refine ⟨_, rfl, fun _ => ?_⟩
          rw [if_pos rfl, if_neg (by decide), ByteArray.size_append]
          rfl
theorem in_of (f s : ByteArray) (hf : f.size ≤ 1000000) : member_In.f f s = some (inB (ls f) (ls s)) := by
  obtain ⟨x, h, _⟩ := behind f s hf
  unfold member_In.f
  rw [h, Option.bind_some]
theorem rd_nat (l : List ByteArray) (i : Nat) (h : i < l.length) : rdOf ByteArray.empty l (i : Int) = l[i] := by
  rw [rdOf, Int.toNat_natCast, List.getD_eq_getElem?_getD, List.getElem?_eq_getElem h, Option.getD_some]
theorem rd_mk (l : List (List UInt8)) (i : Nat) (h : i < l.length) : rdOf ByteArray.empty (l.map mk) (i : Int) = mk l[i] := by
  rw [rd_nat _ _ (by rw [List.length_map]; exact h), List.getElem_map]
abbrev sp : List UInt8 → List (List UInt8) := YtcfcbkcaondfcaaDoorMpHelp.splitL 47
abbrev rt : List UInt8 → Bool := YtcfcbkcaondfcaaDoorMpHelp.rightB
theorem right_iff (s : List UInt8) : rt s = true ↔ s.length ≤ 64 ∧ ∀ l ∈ sp s, YtcfcbkcaondfcaaDoorMpHelp.partB l = true := by
  unfold rt YtcfcbkcaondfcaaDoorMpHelp.rightB
  rw [Bool.and_eq_true, decide_eq_true_iff, List.all_eq_true]
theorem right_ne {s : List UInt8} (h : rt s = true) : s ≠ [] := by
  rintro rfl
  exact absurd h (by decide)
theorem part_split {s l : List UInt8} (hl : l ∈ sp s) : sp l = [l] := split_none l (split_no s l hl)
theorem right_part {s l : List UInt8} (h : rt s = true) (hl : l ∈ sp s) : rt l = true := by
  obtain ⟨h1, h2⟩ := (right_iff s).1 h
  refine (right_iff l).2 ⟨Nat.le_trans (split_part s l hl) h1, fun x hx => ?_⟩
  rw [part_split hl, List.mem_singleton] at hx
  rw [hx]
  exact h2 l hl
theorem right_join {x y : List UInt8} (hx : rt x = true) (hy : rt y = true) (hl : x.length + y.length < 64) : rt (x ++ 47 :: y) = true := by
  obtain ⟨_, h2⟩ := (right_iff x).1 hx
  obtain ⟨_, h3⟩ := (right_iff y).1 hy
  refine (right_iff _).2 ⟨by rw [List.length_append, List.length_cons]; omega, fun l hm => ?_⟩
  rw [show sp (x ++ 47 :: y) = sp x ++ sp y from split_app x y] at hm
  rcases List.mem_append.1 hm with h | h
  · exact h2 l h
  · exact h3 l h
theorem in_self (s : List UInt8) (h : rt s = true) : inB s s = false := by
  unfold inB
  rw [show YtcfcbkcaondfcaaDoorMpHelp.rightB s = true from h, List.isEmpty_eq_false_iff.2 (right_ne h)]
  simp only [Bool.true_and, Bool.false_or]
  rw [Bool.eq_false_iff]
  intro e
  have := (List.isPrefixOf_iff_prefix.1 e).length_le
  rw [List.length_append, List.length_cons, List.length_nil] at this
  omega
theorem in_nil (s : List UInt8) (h : rt s = true) : inB [] s = true := by
  unfold inB
  rw [show YtcfcbkcaondfcaaDoorMpHelp.rightB s = true from h]
  rfl
theorem in_join (x y : List UInt8) (hx : rt x = true) (h : rt (x ++ 47 :: y) = true) : inB x (x ++ 47 :: y) = true := by
  unfold inB
  rw [show YtcfcbkcaondfcaaDoorMpHelp.rightB x = true from hx, show YtcfcbkcaondfcaaDoorMpHelp.rightB (x ++ 47 :: y) = true from h]
  have : (x ++ [47]).isPrefixOf (x ++ 47 :: y) = true := List.isPrefixOf_iff_prefix.2 ⟨y, by simp⟩
  rw [this]
  simp
theorem in_less (x y : List UInt8) : inB (x ++ 47 :: y) x = false := by
  unfold inB
  have e1 : (x ++ 47 :: y).isEmpty = false := by simp
  have e2 : (x ++ 47 :: y ++ [47]).isPrefixOf x = false := by
    rw [Bool.eq_false_iff]
    intro e
    have := (List.isPrefixOf_iff_prefix.1 e).length_le
    simp at this
    omega
  rw [e1, e2]
  simp
theorem in_folder (s : List UInt8) (h : rt s = true) : inB (joinP (sp s).dropLast) s = true := by
  have hn := split_pos s
  have hd := List.dropLast_concat_getLast hn
  have hj := split_join s
  obtain ⟨h1, h2⟩ := (right_iff s).1 h
  have hno := split_no s
  unfold sp at h2 ⊢
  generalize (YtcfcbkcaondfcaaDoorMpHelp.splitL 47 s).getLast hn = last at hd
  generalize hI : (YtcfcbkcaondfcaaDoorMpHelp.splitL 47 s).dropLast = init at hd ⊢
  rw [← hd] at hj h2 hno
  by_cases hi : init = []
  · subst hi
    exact in_nil s h
  · rw [joinP_snoc init hi] at hj
    have hin : sp (joinP init) = init := split_joinP init hi fun l hl => hno l (List.mem_append_left _ hl)
    have hr : rt (joinP init) = true := (right_iff _).2 ⟨by
      have := congrArg List.length hj
      rw [List.length_append, List.length_cons] at this
      omega, fun l hl => by
      rw [hin] at hl
      exact h2 l (List.mem_append_left _ hl)⟩
    have := in_join (joinP init) last hr (by rw [hj]; exact h)
    rwa [hj] at this
theorem fold_len (x y : List UInt8) : x.length ≤ (joinP (sp (x ++ 47 :: y)).dropLast).length := by
  have hy := split_pos y
  rw [show sp (x ++ 47 :: y) = sp x ++ sp y from split_app x y, List.dropLast_append_of_ne_nil hy, joinP_app _ _ (split_pos x), List.length_append, split_join]
  omega
theorem join_loop (a : ByteArray) (L : List (List UInt8)) (hlen : L.length ≤ 1000000) (hsz : (joinP L).length ≤ 1000000) (hr : ∀ l ∈ L, rt l = true ∧ sp l = [l]) (r : Bool)
    (hfin : Ev (fun k => (member_Folder.f k a).bind fun bt159 => ((member_Right.f a).bind fun t161 => (if t161 = true then (if (mk (joinP L)).toList = a.toList then ((member_In.f bt159.1 a).bind fun t162 => (if t162 = true then ((member_In.f (⟨#[]⟩ : ByteArray) a).bind fun t163 => (if t163 = true then ((member_In.f a a).bind fun t164 => (if t164 = true then (some false) else ((bindlelaw15_lives.f k).bind fun t165 => (some t165)))) else (some false))) else (some false))) else (some false)) else ((bindlelaw15_lives.f k).bind fun t166 => (some t166))))) r) :
    ∀ n i : Nat, i + n = L.length → Ev (fun k => bindlelaw15_MemberJoins.l0 k a (L.map mk) (mk (joinP (L.take i))) i) r
  | 0, i, hi => by
    refine Ev.step (fun k => rfl) ?_
    have hml : (L.map mk).length = L.length := List.length_map _
    refine ev_neg (by rw [hml]; omega) ?_
    rw [List.take_of_length_le (by omega)]
    exact hfin
  | n + 1, i, hi => by
    have hml : (L.map mk).length = L.length := List.length_map _
    refine Ev.step (fun k => rfl) ?_
    refine ev_pos (by rw [hml]; omega) (ev_pos (by omega) ?_)
    have hw : wrap64 ((i : Int) + 1) = ((i + 1 : Nat) : Int) := by rw [w64 (by omega) (by omega)]; omega
    have hrd := rd_mk L i (by omega)
    have h1 := joinP_take_le L i
    have h2 := part_le L L[i] (List.getElem_mem _)
    obtain ⟨h3, h4⟩ := hr L[i] (List.getElem_mem _)
    have ht : L.take (i + 1) = L.take i ++ [L[i]] := List.take_succ_eq_append_getElem (by omega)
    have ih := join_loop a L hlen hsz hr r hfin n (i + 1) (by omega)
    have sz1 := mk_size (joinP (L.take i))
    have sz2 := mk_size L[i]
    have hp : member_Parts.f (mk L[i]) = some [mk L[i]] := by
      rw [parts_of _ (by omega), show YtcfcbkcaondfcaaDoorMpHelp.rightB (ls (mk L[i])) = true from h3, if_pos rfl]
      show some ((sp L[i]).map mk) = _
      rw [h4]
      rfl
    rw [hrd]
    refine ev_bindc (show member_Right.f (mk L[i]) = some true from congrArg some h3) (ev_pos rfl (ev_bindc hp ?_))
    have hf0 : (((([mk L[i]] : List ByteArray).length : Nat) : Int) != 1) = false := rfl
    rw [hf0]
    refine Ev.step (fun k => by rw [bindlelaw15_MemberJoins.j4, if_neg (by decide), hrd, hw]) ?_
    by_cases h0 : (i : Int) > 0
    · have hne : L.take i ≠ [] := by
        intro e
        have := congrArg List.length e
        rw [List.length_take, List.length_nil] at this
        omega
      rw [ht, joinP_snoc _ hne] at ih
      refine ev_pos h0 (ev_pos (by omega) (ev_pos (by omega) (ev_pos (by omega) (ev_pos ?_ ?_))))
      · rw [ByteArray.size_append, show (⟨#[47]⟩ : ByteArray).size = 1 from rfl]; omega
      · have e : mk (joinP (L.take i)) ++ (⟨#[47]⟩ : ByteArray) ++ mk L[i] = mk (joinP (L.take i) ++ 47 :: L[i]) := by
          rw [show (⟨#[47]⟩ : ByteArray) = mk [47] from rfl, ← mk_append, ← mk_append]
          simp
        rw [e]
        exact ih
    · have h00 : i = 0 := by omega
      subst h00
      have e : mk (joinP (L.take 0)) ++ mk L[0] = mk (joinP (L.take (0 + 1))) := by
        rw [ht, ← mk_append]
        simp [joinP]
      refine ev_neg h0 (ev_pos (by omega) (ev_pos (by omega) (ev_pos (by omega) ?_)))
      rw [e]
      exact ih
theorem j2 (a : ByteArray) (hs : a.size ≤ 200) : Ev (fun k => bindlelaw15_MemberJoins.j2 k a) true := by
  refine Ev.step (fun k => rfl) ?_
  refine ev_bindc (parts_of a (by omega)) ?_
  have hR : member_Right.f a = some (YtcfcbkcaondfcaaDoorMpHelp.rightB (ls a)) := rfl
  have hF := folder a (by omega)
  cases hr : YtcfcbkcaondfcaaDoorMpHelp.rightB (ls a) with
  | false =>
    rw [hr] at hR hF
    simp only [Bool.false_eq_true, if_false] at hF ⊢
    refine join_loop a [] (by simp) (by simp [joinP]) (fun l hl => by cases hl) true ?_ 0 0 rfl
    exact ev_bind hF (ev_bindc hR (ev_neg (by decide) (ev_bind lives (Ev.now _))))
  | true =>
    rw [hr] at hR hF
    simp only [if_true] at hF ⊢
    have hL := split_len (ls a)
    rw [ls_len] at hL
    have hL' : (sp (ls a)).length ≤ a.size + 1 := hL
    have hj := split_join (ls a)
    have hfs : (foldB a).size ≤ 1000000 := by
      unfold foldB
      rw [mk_size, List.dropLast_eq_take]
      have := joinP_take_le (YtcfcbkcaondfcaaDoorMpHelp.splitL 47 (ls a)) ((YtcfcbkcaondfcaaDoorMpHelp.splitL 47 (ls a)).length - 1)
      rw [hj, ls_len] at this
      omega
    refine join_loop a (sp (ls a)) (by omega) (by rw [hj, ls_len]; omega) (fun l hl => ⟨right_part hr hl, part_split hl⟩) true ?_ (sp (ls a)).length 0 (by omega)
    refine ev_bind hF (ev_bindc hR (ev_pos rfl (ev_pos (by rw [hj]) ?_)))
    refine ev_bindc (in_of (foldB a) a hfs) ?_
    rw [show inB (ls (foldB a)) (ls a) = true from in_folder (ls a) hr]
    refine ev_pos rfl (ev_bindc (in_of (⟨#[]⟩ : ByteArray) a (by decide)) ?_)
    rw [show inB (ls (⟨#[]⟩ : ByteArray)) (ls a) = true from in_nil (ls a) hr]
    refine ev_pos rfl (ev_bindc (in_of a a (by omega)) ?_)
    rw [in_self (ls a) hr]
    exact ev_neg (by decide) (ev_bind lives (Ev.now _))
theorem MemberJoins : bindlelaw15_MemberJoins.Pure := by
  intro a b _ _
  refine Ev.rounds ?_
  by_cases hs : (a.size : Int) > 200
  · refine ev_pos hs ?_
    refine Ev.step (f := fun k => (bindlelaw15_lives.f k).bind fun t => some t) (fun k => ?_) (ev_bind lives (Ev.now _))
    rw [bindlelaw15_MemberJoins.j0, if_pos rfl]
  refine ev_neg hs ?_
  by_cases ht : (b.size : Int) > 200
  · refine Ev.step (f := fun k => (bindlelaw15_lives.f k).bind fun t => some t) (fun k => ?_) (ev_bind lives (Ev.now _))
    rw [bindlelaw15_MemberJoins.j0, if_pos (decide_eq_true ht)]
  have hE := j2 a (by omega)
  have hno : Ev (fun k => bindlelaw15_MemberJoins.j1 k a b false) true := by
    refine Ev.step (f := fun k => bindlelaw15_MemberJoins.j2 k a) (fun k => ?_) hE
    rw [bindlelaw15_MemberJoins.j1, if_neg (by decide)]
  refine Ev.step (fun k => rfl) ?_
  refine ev_neg (by simpa using ht) (ev_bindc (show member_Right.f a = some (rt (ls a)) from rfl) ?_)
  by_cases hra : rt (ls a) = true
  case neg => exact ev_neg hra hno
  refine ev_pos hra (ev_bindc (show member_Right.f b = some (rt (ls b)) from rfl) ?_)
  by_cases hrb : rt (ls b) = true
  case neg => exact ev_neg hrb hno
  refine ev_pos hrb ?_
  rw [w64 (by omega) (by omega)]
  by_cases hl : (a.size : Int) + (b.size : Int) < 64
  case neg => rw [decide_eq_false hl]; exact hno
  rw [decide_eq_true hl]
  have hla := ls_len a
  have hlb := ls_len b
  have hc : ls (a ++ (⟨#[47]⟩ : ByteArray) ++ b) = ls a ++ 47 :: ls b := by rw [ls_append, ls_append]; simp [ls]
  have hcs : (a ++ (⟨#[47]⟩ : ByteArray) ++ b).size = a.size + 1 + b.size := by rw [ByteArray.size_append, ByteArray.size_append]; rfl
  have hrc : rt (ls (a ++ (⟨#[47]⟩ : ByteArray) ++ b)) = true := by rw [hc]; exact right_join hra hrb (by omega)
  have hF := folder (a ++ (⟨#[47]⟩ : ByteArray) ++ b) (by omega)
  rw [if_pos hrc] at hF
  refine Ev.step (fun k => by rw [bindlelaw15_MemberJoins.j1, if_pos rfl]) ?_
  refine (ev_pos (by omega) (ev_pos (by rw [ByteArray.size_append]; show a.size + 1 + b.size ≤ _; omega) (ev_bind hF (ev_bindc (show member_Right.f (a ++ (⟨#[47]⟩ : ByteArray) ++ b) = some (rt (ls (a ++ (⟨#[47]⟩ : ByteArray) ++ b))) from rfl) (ev_pos hrc (ev_bindc (in_of a (a ++ (⟨#[47]⟩ : ByteArray) ++ b) (by omega)) ?_))))))
  rw [show inB (ls a) (ls (a ++ (⟨#[47]⟩ : ByteArray) ++ b)) = true by rw [hc]; exact in_join _ _ hra (by rw [← hc]; exact hrc)]
  refine ev_pos rfl (ev_pos rfl (ev_neg ?_ (ev_bindc (in_of (a ++ (⟨#[47]⟩ : ByteArray) ++ b) a (by omega)) ?_)))
  · have h2 : a.size ≤ (foldB (a ++ (⟨#[47]⟩ : ByteArray) ++ b)).size := by
      rw [show (foldB (a ++ (⟨#[47]⟩ : ByteArray) ++ b)).size = _ from mk_size _, hc, ← hla]
      exact fold_len (ls a) (ls b)
    show ¬ ((foldB (a ++ (⟨#[47]⟩ : ByteArray) ++ b)).size : Int) < (a.size : Int)
    omega
  · rw [show inB (ls (a ++ (⟨#[47]⟩ : ByteArray) ++ b)) (ls a) = false by rw [hc]; exact in_less _ _]
    exact ev_neg (by decide) hE
end Go.Proofs.YtcfcbkcaondfcaaDoor.Pure
