/- The machine side of a law: for each Go function that it uses a Lean function with the same answers, and the proof that the Go code comes to them; or the row of the law over these. Written by a program of this session. -/
import Derived.Test.YtcfcbkcaondfcaaDoorPPlanJoinsx0
import Derived.Test.YtcfcbkcaondfcaaDoorPPlanJoinsx2
import Derived.Test.YtcfcbkcaondfcaaDoorPPlanJoinsx3
namespace Go.Proofs.YtcfcbkcaondfcaaDoor.PPlanJoins
open Go.RowKit Go.Proofs.YtcfcbkcaondfcaaDoorW.PrintWords Go.Proofs.YtcfcbkcaondfcaaDoorW.PrintLast Go.Proofs.YtcfcbkcaondfcaaDoorW.PrintMore
attribute [local go_sem] max2_int min2_int max_two min_two max_three min_three max_four min_four   -- for this text's walks alone
set_option linter.unusedVariables false
set_option linter.unusedSimpArgs false

/-! ### api_File: function 59 (told by hand) -/
def api_File.f (l0 : List S45) : Option (List S45) := if l0.length ≤ 1000000 then some l0 else none
theorem api_File.info : (Tryd.prog.info? 45).map (fun i => (i.zero, i.size, i.bytes)) = some (some (.agg #[.string ByteArray.empty, .slice none 0 0]), 2, 40) := by kernel_rfl
set_option maxHeartbeats 2000000 in
theorem api_File.calls (P0_ : Nat → Prop) (A0 : Option Addr) (c0 : Nat) (l0 : List S45) (r : List S45) (w : World) (hs0 : Kd.V k45 45 w w.heap.size (fun k_ => P0_ k_) (.slice A0 l0.length c0) l0) (h : api_File.f l0 = some r) :
    Calls Tryd.prog 59 #[.slice A0 l0.length c0] w fun e w' => ∃ v0_ : Value, e = .returned (v0_) ∧ Kd.N k45 45 w' w.heap.size (fun k_ => (P0_ k_ ∨ w.heap.size ≤ k_)) v0_ r ∧ Below w.heap.size w w' := by
  unfold api_File.f at h
  by_cases hb : l0.length ≤ 1000000
  case neg => rw [if_neg hb] at h; cases h
  rw [if_pos hb] at h
  obtain rfl := Option.some.inj h
  have q22 : ∀ (w : World) (a : Option Addr) (n c n' c' : Nat), (binOp .eql 36 (.slice a n c) (.slice none n' c')).run Tryd.prog w = .ok (.bool a.isNone) w := fun w a n c n' c' => Lib.run_eql_slice_nil w _ _ a n c n' c' Tryd.underlying36
  cases A0 with
  | none =>
    have hr0 := (Kd.V_reads' hs0).2.2
    have h0 : l0 = [] := by
      rcases Nat.eq_zero_or_pos l0.length with h | h
      · exact List.eq_nil_of_length_eq_zero h
      · obtain ⟨ad, e, _⟩ := hr0.2.2 h
        cases e
    subst h0
    clear hr0 hs0 hb h
    go_enter Tryd.func59, Tryd.ntmps59
    go_wp2
    go_ret
    exact ⟨_, rfl, Kd.N_nil _ _ _ _ _, Below.refl _ _⟩
  | some ad =>
    have HF := Aside0.mk (Kd.V_F (Kd.V_bound hs0))
    clear hs0 h
    have HO : Kd.N k45 45 (w.alloc (.cells #[] 45)) w.heap.size (fun k_ => P0_ k_ ∨ w.heap.size ≤ k_) (.slice (some ⟨w.heap.size, 0, none⟩) 0 0) [] :=
      ⟨fun k hk => .inr (by have : w.heap.size = k := by simpa [Value.ownBlock] using hk
                            omega), [], rfl, ⟨fun k hk => hk.symm, [], World.ownsRow_made w #[] 0 (Nat.le_refl _) (Nat.zero_le _) rfl, Reps.none _ _⟩, fun j x c hx => by simp at hx⟩
    have HOA := Aside0.mk HO
    clear HO
    go_enter Tryd.func59, Tryd.ntmps59
    go_wp2_with (at_builtin; go_loud (refine Kd.N_append_rows k45 (w0 := w) w.heap.size rfl _ _ 36 45 (.agg #[.string ByteArray.empty, .slice none 0 0]) 40 rfl Tryd.underlying36 api_File.info rfl (by decide) (by decide) (.slice (some ⟨w.heap.size, 0, none⟩) 0 0) [] l0 (some ad) l0.length c0 (fun k_ => P0_ k_ ∨ w.heap.size ≤ k_) (fun k_ => P0_ k_ ∧ k_ < w.heap.size) rfl rfl HOA.out (Kd.F_alloc HF.out _) (fun k hk => ⟨.inl hk.1, fun he => by have : k = w.heap.size := (by simpa [Value.ownBlock] using he); have := hk.2; omega⟩) (fun k hk => .inr (by have := YtcfcbkcaondfcaaDoorMpHelp.size_new w (.cells #[] 45); omega)) (below_alloc (Below.refl _ _) _) (by rw [YtcfcbkcaondfcaaDoorMpHelp.size_new]; omega) (by simp; omega) ?_); intro v1 w1 hN hB hg hob)
    go_ret
    exact ⟨_, rfl, hN, hB⟩


/-! ### strings_Count: function 90 (told by hand) -/
def strings_Count.f (a0 a1 : ByteArray) : Option Int := match a1.data.toList with
  | [c] => some ((Lib.countByte a0.data.toList c : Nat) : Int)
  | _ => none
theorem strings_Count.calls (a0 a1 : ByteArray) (r : Int) (w : World) (h : strings_Count.f a0 a1 = some r) : Calls Tryd.prog 90 #[.string a0, .string a1] w fun e w' => e = .returned (.int .i64 r) ∧ Drawn0 w w' := by
  obtain ⟨⟨l⟩⟩ := a1
  match l, h with
  | [c], h =>
    obtain rfl := Option.some.inj h
    refine (Tryd.strings_Count_one a0 c w).mono ?_
    rintro e w' ⟨rfl, rfl⟩
    exact ⟨rfl, Drawn0.refl _⟩


/-! ### strings_Index: function 91 (told by hand) -/
def strings_Index.f (a0 a1 : ByteArray) : Option Int := match a1.data.toList with
  | [c] => some (Lib.indexByte a0.data.toList c)
  | _ => none
theorem strings_Index.calls (a0 a1 : ByteArray) (r : Int) (w : World) (h : strings_Index.f a0 a1 = some r) : Calls Tryd.prog 91 #[.string a0, .string a1] w fun e w' => e = .returned (.int .i64 r) ∧ Drawn0 w w' := by
  obtain ⟨⟨l⟩⟩ := a1
  match l, h with
  | [c], h =>
    obtain rfl := Option.some.inj h
    refine (Tryd.strings_Index_one a0 c w).mono ?_
    rintro e w' ⟨rfl, rfl⟩
    exact ⟨rfl, Drawn0.refl _⟩


/-! ### strings_Split: function 47 (told by hand) -/
def strings_Split.f (a0 a1 : ByteArray) : Option (List ByteArray) := match a1.data.toList with
  | [c] => if a0.size ≤ 1000000 then some ((YtcfcbkcaondfcaaDoorMpHelp.splitL c a0.data.toList).map fun l => ⟨l.toArray⟩) else none
  | _ => none
theorem strings_Split.gen (a0 : ByteArray) (c : UInt8) (w : World) (hs : a0.size ≤ 1000000) : Calls Tryd.prog 72 #[.string a0, .string ⟨#[c]⟩, .int .i64 0, .int .i64 (-1)] w fun e w' =>
    e = .returned (.slice (some ⟨w.heap.size, 0, none⟩) (YtcfcbkcaondfcaaDoorMpHelp.splitL c a0.data.toList).length (YtcfcbkcaondfcaaDoorMpHelp.splitL c a0.data.toList).length) ∧ w' = w.alloc (.cells (((YtcfcbkcaondfcaaDoorMpHelp.splitL c a0.data.toList).map fun l => Value.string ⟨l.toArray⟩)).toArray 9) := by
  have hcb : Lib.countB a0 ⟨#[c]⟩ = a0.data.toList.count c := by
    exact Lib.count_one c a0.data.toList
  have hle : a0.data.toList.count c ≤ a0.size := by
    have h1 := List.count_le_length (a := c) (l := a0.data.toList)
    rw [Array.length_toList] at h1
    exact h1
  have hlen := Lib.splitB_all ⟨#[c]⟩ (Nat.le_refl 1) 0 _ a0 rfl
  rw [hcb, YtcfcbkcaondfcaaDoorMpHelp.splitB_one, List.length_map] at hlen
  refine (Any.strings_genSplit_core Tryd.lays221 (by kernel_rfl) a0 ⟨#[c]⟩ 0 (-1) (a0.data.toList.count c + 1) w (by omega) (Nat.le_refl 1) (Nat.zero_le _) (fun x cs _ => ?_) ?_ (by decide) (by decide) (by rw [hcb, if_pos (by decide), Int.min_eq_left (by omega)]; rfl)).mono ?_
  · refine (Tryd.strings_Index_one x c _).mono ?_
    rintro e w' ⟨rfl, rfl⟩
    exact ⟨by rw [show Lib.indexB x ⟨#[c]⟩ = Lib.index x.data.toList [c] from rfl, Lib.index_one], rfl⟩
  · refine (Tryd.strings_Count_one a0 c _).mono ?_
    rintro e w' ⟨rfl, rfl⟩
    exact ⟨by rw [hcb]; rfl, rfl⟩
  · rintro e w' ⟨rfl, rfl⟩
    rw [Nat.add_sub_cancel, YtcfcbkcaondfcaaDoorMpHelp.splitB_one, List.length_map, ← hlen]
    refine ⟨rfl, ?_⟩
    have hcl : Lib.cellsOf ((YtcfcbkcaondfcaaDoorMpHelp.splitL c a0.data.toList).map fun l => (⟨l.toArray⟩ : ByteArray)) (YtcfcbkcaondfcaaDoorMpHelp.splitL c a0.data.toList).length = ((YtcfcbkcaondfcaaDoorMpHelp.splitL c a0.data.toList).map fun l => Value.string ⟨l.toArray⟩).toArray := by
      have := Lib.cellsOf_full ((YtcfcbkcaondfcaaDoorMpHelp.splitL c a0.data.toList).map fun l => (⟨l.toArray⟩ : ByteArray))
      rw [List.length_map] at this
      rw [this, List.map_map]
      rfl
    rw [hcl]
    rfl
theorem strings_Split.calls_at (a0 : ByteArray) (c : UInt8) (w : World) (hs : a0.size ≤ 1000000) : Calls Tryd.prog 47 #[.string a0, .string ⟨#[c]⟩] w fun e w' =>
    e = .returned (.slice (some ⟨w.heap.size, 0, none⟩) (YtcfcbkcaondfcaaDoorMpHelp.splitL c a0.data.toList).length (YtcfcbkcaondfcaaDoorMpHelp.splitL c a0.data.toList).length) ∧ w' = w.alloc (.cells (((YtcfcbkcaondfcaaDoorMpHelp.splitL c a0.data.toList).map fun l => Value.string ⟨l.toArray⟩)).toArray 9) := by
  generalize hL : YtcfcbkcaondfcaaDoorMpHelp.splitL c a0.data.toList = L
  have HL := Aside0.mk hL
  clear hL
  go_enter Tryd.func47, Tryd.ntmps47
  go_wp2_with fail
  refine (strings_Split.gen a0 c w hs).mono ?_
  rw [HL.out]
  rintro e w' ⟨rfl, rfl⟩
  go_wp2
  go_ret
  exact ⟨rfl, rfl⟩
theorem strings_Split.calls (a0 a1 : ByteArray) (r : List ByteArray) (w : World) (h : strings_Split.f a0 a1 = some r) : Calls Tryd.prog 47 #[.string a0, .string a1] w fun e w' => ∃ v0_ : Value, e = .returned (v0_) ∧ Kd.R Kd.string 9 w' w.heap.size (fun _ => True) v0_ r ∧ Below w.heap.size w w' := by
  obtain ⟨⟨l⟩⟩ := a1
  match l, h with
  | [c], h =>
    simp only [strings_Split.f] at h
    by_cases hs : a0.size ≤ 1000000
    · rw [if_pos hs] at h
      obtain rfl := Option.some.inj h
      refine (strings_Split.calls_at a0 c w hs).mono ?_
      rintro e w' ⟨rfl, rfl⟩
      refine ⟨_, rfl, ⟨fun _ _ => trivial, (YtcfcbkcaondfcaaDoorMpHelp.splitL c a0.data.toList).map fun l => Value.string ⟨l.toArray⟩, ⟨by simp [Kd.string, Kd.scalar], .inr ⟨w.heap.size, (YtcfcbkcaondfcaaDoorMpHelp.splitL c a0.data.toList).length, _, by simp, Nat.le_refl _, YtcfcbkcaondfcaaDoorMpHelp.heap_new _ _, by simp, ?_, by simp [Kd.string, Kd.scalar], by simp [Kd.string, Kd.scalar, List.take_of_length_le]⟩⟩, ?_⟩, below_alloc (Below.refl _ _) _⟩
      · have h1 : (YtcfcbkcaondfcaaDoorMpHelp.splitL c a0.data.toList).length ≤ a0.size + 1 := by
          have hlen := Lib.splitB_all ⟨#[c]⟩ (Nat.le_refl 1) 0 _ a0 rfl
          have hcb : Lib.countB a0 ⟨#[c]⟩ = a0.data.toList.count c := by
            exact Lib.count_one c a0.data.toList
          rw [hcb, YtcfcbkcaondfcaaDoorMpHelp.splitB_one, List.length_map] at hlen
          have h1 := List.count_le_length (a := c) (l := a0.data.toList)
          rw [Array.length_toList] at h1
          have : a0.data.size = a0.size := rfl
          omega
        refine Nat.le_trans h1 (Nat.le_trans (Nat.succ_le_succ hs) (by decide))
      · refine ⟨by simp [Kd.string, Kd.scalar], fun j p hj => ?_⟩
        rw [List.getElem?_map] at hj
        obtain ⟨q, hq, rfl⟩ := Option.map_eq_some_iff.1 hj
        show List.take 1 (List.drop (j * 1) ((YtcfcbkcaondfcaaDoorMpHelp.splitL c a0.data.toList).map fun l => Value.string ⟨l.toArray⟩)) = [Value.string ⟨q.toArray⟩]
        obtain ⟨hlt, hget⟩ := List.getElem?_eq_some_iff.1 hq
        rw [Nat.mul_one, List.drop_eq_getElem_cons (by rw [List.length_map]; exact hlt), List.getElem_map, hget]
        rfl
    · rw [if_neg hs] at h
      cases h


/-! ### member_part: function 51 (told by hand) -/
def member_part.f (a0 : ByteArray) : Option Bool := some (YtcfcbkcaondfcaaDoorMpHelp.partB a0.data.toList)
def member_part.fine (c : Nat) : Bool := decide (33 ≤ c) && decide (c ≤ 126)
theorem member_part.all_of (s : ByteArray) (h : ∀ j (hj : j < s.size), member_part.fine (s[j]'hj).toNat = true) : s.data.toList.all (fun c => decide (33 ≤ c.toNat) && decide (c.toNat ≤ 126)) = true := by
  rw [List.all_eq_true]
  intro c hc
  obtain ⟨j, hj, rfl⟩ := List.getElem_of_mem hc
  have hj' : j < s.size := by
    rw [Array.length_toList] at hj
    exact hj
  exact h j hj'
theorem member_part.not_all (s : ByteArray) (j : Nat) (hj : j < s.size) (h : member_part.fine (s[j]'hj).toNat = false) : YtcfcbkcaondfcaaDoorMpHelp.partB s.data.toList = false := by
  unfold YtcfcbkcaondfcaaDoorMpHelp.partB
  have hm : s[j]'hj ∈ s.data.toList := by
    have : s[j]'hj = s.data.toList[j]'(by rw [Array.length_toList]; exact hj) := rfl
    rw [this]
    exact List.getElem_mem _
  have : s.data.toList.all (fun c => decide (33 ≤ c.toNat) && decide (c.toNat ≤ 126)) = false := by
    rw [List.all_eq_false]
    refine ⟨_, hm, ?_⟩
    show ¬ (member_part.fine (s[j]'hj).toNat = true)
    rw [h]
    decide
  rw [this]
  rfl
set_option maxRecDepth 1000000 in
set_option maxHeartbeats 4000000 in
theorem member_part.calls (a0 : ByteArray) (r : Bool) (w : World) (h : member_part.f a0 = some r) : Calls Tryd.prog 51 #[.string a0] w fun e w' => e = .returned (.bool r) ∧ Below w.heap.size w w' := by
  have HR := Aside0.mk (Option.some.inj h)
  clear h
  go_enter Tryd.func51, Tryd.ntmps51
  go_wp2
  go_loopw [] (fun w' => ∃ (pos : Nat), w' = w.iter a0 pos ∧ Aside0 (∀ j (hj : j < a0.size), j < pos → member_part.fine (a0[j]'hj).toNat = true)) (fun w' => a0.size - w'.iterPos w.heap.size)
  case atStart => exact ⟨0, rfl, ⟨fun j _ hj => absurd hj (Nat.not_lt_zero _)⟩⟩
  case round =>
    obtain ⟨pos, rfl, HA⟩ := hrel
    by_cases hp : pos < a0.size
    · have hnx : ∀ ty, (Instr.next (.pointer (some ⟨w.heap.size, 0, none⟩)) true ty).run Tryd.prog (w.iter a0 pos) = _ := fun ty => run_next_any w a0 pos ty hp
      obtain ⟨rn, hrn⟩ : ∃ rn, rn = (Utf8.decode a0 pos).1 := ⟨_, rfl⟩
      obtain ⟨wd, hwd⟩ : ∃ wd, wd = (Utf8.decode a0 pos).2 := ⟨_, rfl⟩
      rw [← hrn, ← hwd] at hnx
      by_cases hf : member_part.fine (a0[pos]'hp).toNat = true
      · have ha : (a0[pos]'hp).toNat < 128 := by
          simp [member_part.fine] at hf
          omega
        have hd := decode_ascii a0 pos hp ha
        rw [hd] at hrn hwd
        dsimp only at hrn hwd
        subst hwd
        have h33 : 33 ≤ rn := by
          simp [member_part.fine] at hf
          omega
        have h126 : rn ≤ 126 := by
          simp [member_part.fine] at hf
          omega
        have HA2 : Aside0 (∀ j (hj : j < a0.size), j < pos + 1 → member_part.fine (a0[j]'hj).toNat = true) := ⟨fun j hj hlt => by
          by_cases e : j = pos
          · subst e
            exact hf
          · exact HA.out j hj (by omega)⟩
        clear hf HA hrn ha hd HR
        have b1 : decide ((rn : Int) < 33) = false := decide_eq_false (by omega)
        have b2 : decide (126 < (rn : Int)) = false := decide_eq_false (by omega)
        clear h33 h126
        go_wp2
        go_roundw
        case rel => exact ⟨pos + 1, rfl, HA2⟩
        case measure =>
          simp
          omega
      · have hf' : member_part.fine (a0[pos]'hp).toNat = false := by simpa using hf
        have hr := member_part.not_all a0 pos hp hf'
        have HF := Aside0.mk (HR.out.symm.trans hr)
        have hlo : rn < 33 ∨ 126 < rn := by
          by_cases ha : (a0[pos]'hp).toNat < 128
          · have hd := decode_ascii a0 pos hp ha
            rw [hd] at hrn
            dsimp only at hrn
            simp [member_part.fine] at hf'
            omega
          · have hh := decode_high a0 pos hp (by omega)
            omega
        clear hr hf hf' HA HR hrn hwd
        rcases hlo with hlo | hlo
        · have b1 : decide ((rn : Int) < 33) = true := decide_eq_true (by omega)
          clear hlo
          go_wp2
          go_ret
          exact ⟨by rw [HF.out]; rfl, below_alloc (Below.refl _ _) _⟩
        · have b1 : decide ((rn : Int) < 33) = false := decide_eq_false (by omega)
          have b2 : decide (126 < (rn : Int)) = true := decide_eq_true (by omega)
          clear hlo
          go_wp2
          go_ret
          exact ⟨by rw [HF.out]; rfl, below_alloc (Below.refl _ _) _⟩
    · have hnx : ∀ ty, (Instr.next (.pointer (some ⟨w.heap.size, 0, none⟩)) true ty).run Tryd.prog (w.iter a0 pos) = _ := fun ty => run_next_end w a0 pos ty hp
      have hall := member_part.all_of a0 (fun j hj => HA.out j hj (by omega))
      have hr := HR.out
      unfold YtcfcbkcaondfcaaDoorMpHelp.partB at hr
      rw [hall] at hr
      rw [← Lib.toList_data] at hr
      have HF := Aside0.mk hr
      clear hr hall HR HA
      go_wp2
      all_goals
        go_ret
        refine ⟨?_, below_alloc (Below.refl _ _) _⟩
        rw [← HF.out]
        first
        | rfl
        | (simp only [*]; rfl)
        | (simp [*]; done)


/-! ### member_Right: function 25 (told by hand) -/
def member_Right.f (a0 : ByteArray) : Option Bool := some (YtcfcbkcaondfcaaDoorMpHelp.rightB a0.data.toList)
theorem member_Right.clo (s : ByteArray) (w : World) : Calls Tryd.prog 50 #[.string s] w fun e w' => e = .returned (.bool (!YtcfcbkcaondfcaaDoorMpHelp.partB s.data.toList)) ∧ Below w.heap.size w w' := by
  generalize hb : YtcfcbkcaondfcaaDoorMpHelp.partB s.data.toList = b
  have HB := Aside0.mk hb
  clear hb
  go_enter Tryd.func50, Tryd.ntmps50
  go_wp2_with fail
  refine (member_part.calls s b _ (by unfold member_part.f; rw [HB.out])).mono ?_
  rintro e w1 ⟨rfl, hb⟩
  have HW := Aside0.mk hb
  clear hb HB
  go_wp2
  go_ret
  exact ⟨rfl, HW.out⟩
/-- Where the first part stands that may not be. -/
def member_Right.bad (L : List (List UInt8)) : Int := if L.all YtcfcbkcaondfcaaDoorMpHelp.partB = true then -1 else 0
set_option maxRecDepth 100000 in
set_option maxHeartbeats 4000000 in
theorem member_Right.idx (b : Nat) (L : List (List UInt8)) (n : Nat) (w : World) (hL : L.length ≤ 1000000) (hb : w.heap[b]? = some (.cells (L.map fun l => Value.string ⟨l.toArray⟩).toArray 9 (0, 0))) :
    Calls Tryd.prog 75 #[.slice (some ⟨b, 0, none⟩) L.length n, .func (.func 50) #[] #[]] w fun e w' => (∃ r : Int, e = .returned (.int .i64 r) ∧ decide (r ≥ 0) = !(L.all YtcfcbkcaondfcaaDoorMpHelp.partB)) ∧ Below w.heap.size w w' := by
  have HBL := Aside0.mk hb
  clear hb
  go_enter Tryd.func75, Tryd.ntmps75
  go_wp2_with fail
  go_loopw [8] (fun i w' => ∃ k : Nat, k ≤ L.length ∧ i = .int .i64 k ∧ Aside0 ((L.take k).all YtcfcbkcaondfcaaDoorMpHelp.partB = true) ∧ Aside0 (Below w.heap.size w w')) (fun i _ => L.length - (intOf i).toNat)
  case atStart => exact ⟨0, Nat.zero_le _, rfl, ⟨by simp⟩, ⟨Below.refl _ _⟩⟩
  case round =>
    obtain ⟨k, hk, rfl, HA, HB⟩ := hrel
    by_cases hlt : k < L.length
    · have hcell := cell_of_row _ b k _ _ _ (blk_below HBL.out HB.out)
      rw [List.getElem?_toArray, List.getElem?_map, List.getElem?_eq_getElem hlt, Option.map_some] at hcell
      generalize hq : L[k]'hlt = q at hcell
      have hfr := blk_frozen (blk_below HBL.out HB.out) k
      cases hp : YtcfcbkcaondfcaaDoorMpHelp.partB q with
      | true =>
        have HA2 : Aside0 ((L.take (k + 1)).all YtcfcbkcaondfcaaDoorMpHelp.partB = true) := ⟨by
          rw [List.take_succ_eq_append_getElem hlt, List.all_append, HA.out, hq]
          simp [hp]⟩
        have HP := Aside0.mk hp
        have HW0 := Aside0.mk HB.out.size
        clear hp HA hq
        go_wp2_with fail
        refine (member_Right.clo ⟨q.toArray⟩ _).mono ?_
        rw [show (⟨q.toArray⟩ : ByteArray).data.toList = q from rfl, HP.out]
        rintro e w1 ⟨rfl, hb⟩
        have HB2 := Aside0.mk (below_step HB.out hb)
        clear hb HB HP hcell
        go_wp2
        go_roundw
        case rel => exact ⟨k + 1, by omega, by go_num, HA2, HB2⟩
        case measure => simp [intOf]; omega
      | false =>
        have HR : Aside0 (L.all YtcfcbkcaondfcaaDoorMpHelp.partB = false) := ⟨by
          rw [List.all_eq_false]
          exact ⟨q, hq ▸ List.getElem_mem hlt, by rw [hp]; decide⟩⟩
        have HP := Aside0.mk hp
        clear hp HA hq
        go_wp2_with fail
        refine (member_Right.clo ⟨q.toArray⟩ _).mono ?_
        rw [show (⟨q.toArray⟩ : ByteArray).data.toList = q from rfl, HP.out]
        rintro e w1 ⟨rfl, hb⟩
        have HB2 := Aside0.mk (below_step HB.out hb)
        clear hb HB HP hcell
        go_wp2
        go_ret
        exact ⟨⟨_, rfl, by rw [HR.out]; simp⟩, HB2.out⟩
    · have hk' : k = L.length := by omega
      subst hk'
      have HR : Aside0 (L.all YtcfcbkcaondfcaaDoorMpHelp.partB = true) := ⟨by
        have := HA.out
        rwa [List.take_length] at this⟩
      clear HA
      go_wp2
      go_ret
      exact ⟨⟨_, rfl, by rw [HR.out]; simp⟩, HB.out⟩
set_option maxRecDepth 100000 in
theorem member_Right.con (b : Nat) (L : List (List UInt8)) (n : Nat) (w : World) (hL : L.length ≤ 1000000) (hb : w.heap[b]? = some (.cells (L.map fun l => Value.string ⟨l.toArray⟩).toArray 9 (0, 0))) :
    Calls Tryd.prog 49 #[.slice (some ⟨b, 0, none⟩) L.length n, .func (.func 50) #[] #[]] w fun e w' => e = .returned (.bool (!(L.all YtcfcbkcaondfcaaDoorMpHelp.partB))) ∧ Below w.heap.size w w' := by
  generalize hx : (!(L.all YtcfcbkcaondfcaaDoorMpHelp.partB)) = x
  have HX := Aside0.mk hx
  clear hx
  have HBL := Aside0.mk hb
  clear hb
  go_enter Tryd.func49, Tryd.ntmps49
  go_wp2_with fail
  refine (member_Right.idx b L n _ hL HBL.out).mono ?_
  rintro e w1 ⟨⟨r, rfl, hr⟩, hb⟩
  rw [HX.out] at hr
  have HW := Aside0.mk hb
  have HR := Aside0.mk hr
  clear hb HX HBL hr
  go_wp2
  go_ret
  exact ⟨by rw [← HR.out]; rfl, HW.out⟩
set_option maxRecDepth 100000 in
theorem member_Right.calls (a0 : ByteArray) (r : Bool) (w : World) (h : member_Right.f a0 = some r) : Calls Tryd.prog 25 #[.string a0] w fun e w' => e = .returned (.bool r) ∧ Below w.heap.size w w' := by
  have hr := Option.some.inj h
  unfold YtcfcbkcaondfcaaDoorMpHelp.rightB at hr
  rw [show a0.data.toList.length = a0.size from by rw [Array.length_toList]; rfl] at hr
  clear h
  by_cases hs : a0.size ≤ 64
  · rw [decide_eq_true hs, Bool.true_and] at hr
    have HR := Aside0.mk hr
    clear hr
    have hlen : (YtcfcbkcaondfcaaDoorMpHelp.splitL 47 a0.data.toList).length ≤ 1000000 := by
      have hlen := Lib.splitB_all ⟨#[47]⟩ (Nat.le_refl 1) 0 _ a0 rfl
      have hcb : Lib.countB a0 ⟨#[47]⟩ = a0.data.toList.count 47 := Lib.count_one 47 a0.data.toList
      rw [hcb, YtcfcbkcaondfcaaDoorMpHelp.splitB_one, List.length_map] at hlen
      have h1 := List.count_le_length (a := (47 : UInt8)) (l := a0.data.toList)
      rw [Array.length_toList] at h1
      have : a0.data.size = a0.size := rfl
      omega
    have h64 : decide ((a0.size : Int) ≤ 64) = true := decide_eq_true (by omega)
    have HS := Aside0.mk hs
    have HL := Aside0.mk hlen
    clear hs hlen
    go_enter Tryd.func25, Tryd.ntmps25
    go_wp2_with fail
    have hs := HS.out
    refine (strings_Split.calls_at a0 47 w (by omega)).mono ?_
    clear hs
    generalize YtcfcbkcaondfcaaDoorMpHelp.splitL 47 a0.data.toList = L at HR HL ⊢
    rintro e w1 ⟨rfl, rfl⟩
    go_wp2_with fail
    refine (member_Right.con w.heap.size L _ _ HL.out (YtcfcbkcaondfcaaDoorMpHelp.heap_new _ _)).mono ?_
    rw [HR.out]
    rintro e w2 ⟨rfl, hb⟩
    have HW := Aside0.mk (below_step (below_alloc (Below.refl w.heap.size w) _) hb)
    clear hb HR HL
    go_wp2
    go_ret
    exact ⟨by simp, HW.out⟩
  · rw [decide_eq_false hs, Bool.false_and] at hr
    subst hr
    have h64 : decide ((a0.size : Int) ≤ 64) = false := decide_eq_false (by omega)
    clear hs
    go_enter Tryd.func25, Tryd.ntmps25
    go_wp2
    go_ret
    exact ⟨rfl, Below.refl _ _⟩


/-! ### plan_refused: function 60 -/
def plan_refused.j0 : Nat → List (S45) → Bool → Bool → Int → ByteArray → List Int → Int → List Bool → Int → Int → Option (Int)
 | 0, _, _, _, _, _, _, _, _, _, _ => none
 | k + 1, x0, x5, x11, x132000, x132001, x132002, x132003, x132004, x132005, x132006 => if x11 = true then (some 7) else (if x132000 = 11 then (some 0) else (if x132000 = 3 then ((member_Right.f x132001).bind fun t134 => (if t134 = true then (if (x132002.length : Int) > 65536 then (some 5) else (if x5 = true then (some 0) else (if (x0.length : Int) ≥ 200 then (some 14) else (some 0)))) else (some 6))) else (some 1)))
def plan_refused.f (k : Nat) (l0 : List (S45)) (a1_0 : Int) (a1_1 : ByteArray) (l1_2 : List Int) (a1_3 : Int) (l1_4 : List Bool) (a1_5 : Int) (a1_6 : Int) : Option (Int) := (plan_of.f l0 a1_1).bind fun bt132 => (if a1_0 = 11 then (plan_refused.j0 k l0 bt132.1 (!bt132.1) a1_0 a1_1 l1_2 a1_3 l1_4 a1_5 a1_6) else (plan_refused.j0 k l0 bt132.1 false a1_0 a1_1 l1_2 a1_3 l1_4 a1_5 a1_6))
theorem plan_refused.mono_l : ∀ k, (∀ y0 y1 y2 y3 y4 y5 y6 y7 y8 y9, LeO (plan_refused.j0 k y0 y1 y2 y3 y4 y5 y6 y7 y8 y9) (plan_refused.j0 (k + 1) y0 y1 y2 y3 y4 y5 y6 y7 y8 y9))
 | 0 => fun _ _ _ _ _ _ _ _ _ _ r h => by simp [plan_refused.j0] at h
 | k + 1 => by
  have ih0 := plan_refused.mono_l k
  ·intro y0 y1 y2 y3 y4 y5 y6 y7 y8 y9
   unfold plan_refused.j0
   repeat' first
   | (with_reducible exact ih0 _ _ _ _ _ _ _ _ _ _)
   | (with_reducible exact LeO.refl _)
   | (with_reducible exact LeO.none _)
   | (with_reducible refine LeO.ite ?_ ?_)
   | (with_reducible refine LeO.bind ?_ (fun _ => ?_))
   | exact ih0 _ _ _ _ _ _ _ _ _ _
   | exact LeO.none _
   | refine LeO.ite ?_ ?_
   | refine LeO.bind ?_ (fun _ => ?_)
theorem plan_refused.mono : ∀ a0 a1 a2 a3 a4 a5 a6 a7 k, LeO (plan_refused.f k a0 a1 a2 a3 a4 a5 a6 a7) (plan_refused.f (k + 1) a0 a1 a2 a3 a4 a5 a6 a7) := by
 intro a0 a1 a2 a3 a4 a5 a6 a7 k
 have ih0 := plan_refused.mono_l k
 unfold plan_refused.f
 repeat' first
   | (with_reducible exact ih0 _ _ _ _ _ _ _ _ _ _)
   | (with_reducible exact LeO.refl _)
   | (with_reducible exact LeO.none _)
   | (with_reducible refine LeO.ite ?_ ?_)
   | (with_reducible refine LeO.bind ?_ (fun _ => ?_))
   | exact ih0 _ _ _ _ _ _ _ _ _ _
   | exact LeO.none _
   | refine LeO.ite ?_ ?_
   | refine LeO.bind ?_ (fun _ => ?_)
set_option maxHeartbeats 8000000 in
set_option maxRecDepth 100000 in
theorem plan_refused.calls (k : Nat) (A0 : Option Addr) (c0 : Nat) (l0 : List (S45)) (a1_0 : Int) (a1_1 : ByteArray) (A1_2 : Option Addr) (c1_2 : Nat) (l1_2 : List Int) (a1_3 : Int) (A1_4 : Option Addr) (c1_4 : Nat) (l1_4 : List Bool) (a1_5 : Int) (a1_6 : Int) (r : Int) (w : World) (hr0 : Kd.C k45 w A0 l0.length l0) (hc0 : l0.length ≤ c0) (hr1_2 : Kd.C (Kd.int .u8) w A1_2 l1_2.length l1_2) (hc1_2 : l1_2.length ≤ c1_2) (hr1_4 : Kd.C Kd.bool w A1_4 l1_4.length l1_4) (hc1_4 : l1_4.length ≤ c1_4) (h : plan_refused.f k l0 a1_0 a1_1 l1_2 a1_3 l1_4 a1_5 a1_6 = some r) :
  Calls Tryd.prog 60 #[.slice A0 l0.length c0, .agg #[.int .i64 a1_0, .string a1_1, .slice A1_2 l1_2.length c1_2, .int .i64 a1_3, .slice A1_4 l1_4.length c1_4, .int .i64 a1_5, .int .u8 a1_6]] w fun e w' => e = .returned (.int .i64 r) ∧ Below w.heap.size w w' := by
 have hu72 := Tryd.underlying72
 have hfd76_0 : ∀ (w : World) (c0_ c1_ : Value), (Instr.field 76 (.agg #[c0_, c1_]) 0).run Tryd.prog w = .ok c0_ w := fun w c0_ c1_ => YtcfcbkcaondfcaaDoorMpHelp.run_field Tryd.underlying76 rfl (by first | exact fun w => Tryd.isAgg4 w | (intro w; rfl) | (intro w; kernel_rfl)) rfl
 have HR0 := Aside0.mk hr0
 have HC0 := Aside0.mk hc0
 clear hr0 hc0
 have HR1_2 := Aside0.mk hr1_2
 have HC1_2 := Aside0.mk hc1_2
 clear hr1_2 hc1_2
 have HR1_4 := Aside0.mk hr1_4
 have HC1_4 := Aside0.mk hc1_4
 clear hr1_4 hc1_4
 have HB := Aside0.mk (Below.refl w.heap.size w)
 have H : ((plan_of.f l0 a1_1).bind fun bt132 => (if a1_0 = 11 then (plan_refused.j0 k l0 bt132.1 (!bt132.1) a1_0 a1_1 l1_2 a1_3 l1_4 a1_5 a1_6) else (plan_refused.j0 k l0 bt132.1 false a1_0 a1_1 l1_2 a1_3 l1_4 a1_5 a1_6))) = some r := h
 clear h
 replace H := Option.bind_eq_some_iff.mp H
 obtain ⟨⟨t132, t133⟩, A30, H⟩ := H
 replace H : (if a1_0 = 11 then (plan_refused.j0 k l0 t132 (!t132) a1_0 a1_1 l1_2 a1_3 l1_4 a1_5 a1_6) else (plan_refused.j0 k l0 t132 false a1_0 a1_1 l1_2 a1_3 l1_4 a1_5 a1_6)) = some r := H
 have A3 := Aside0.mk A30
 clear A30
 have HC4 := Aside0.mk H
 clear H
 go_enter Tryd.func60, Tryd.ntmps60
 go_upto_region 2 with (first | ((with_reducible refine gate_dst (N := 3) rfl ?_); (try (refine gate_guard (by rfl) ?_; dsimp only)); refine box_event ?hg (N := 3) ?hd (cs := #[.int .i64 a1_0, .string a1_1, .slice A1_2 l1_2.length c1_2, .int .i64 a1_3, .slice A1_4 l1_4.length c1_4, .int .i64 a1_5, .int .u8 a1_6]) (t := 72) ?hr ?_; (case hd => rfl); (case hg => rfl); (case hr => first | (go_simp; done) | (go_simp; rfl)); intro gb131 hg w5 hbox hb; have n0_ := Aside0.mk (below_step (by repeat (first | (with_reducible first | exact HB.out | apply below_alloc | apply pw_below_drewN | apply below_drew1) | exact HB.out)) hb); have n1_ := Aside0.mk (hbox); have n2_ := Aside0.mk ((by rw [hg]; exact (below_size (by repeat (first | (with_reducible first | exact HB.out | apply below_alloc | apply pw_below_drewN | apply below_drew1) | exact HB.out))) : w.heap.size ≤ gb131)); have n3_ := Aside0.mk ((by rw [hg]; exact (below_size (by repeat (first | (with_reducible first | exact HB.out | apply below_alloc | apply pw_below_drewN | apply below_drew1) | exact HB.out))) : w.heap.size ≤ gb131)); clear HB; have HB := n0_; have BK131 := n1_; have GW131 := n2_; have GE131 := n3_; clear n0_ n1_ n2_ n3_; clear hb hbox hg; have hcz6_0 : w5.cell? ⟨gb131, 0, none⟩ = some (.int .i64 a1_0) := (blk_cell BK131.out 0).trans rfl; have hcz6_1 : w5.cell? ⟨gb131, 1, none⟩ = some (.string a1_1) := (blk_cell BK131.out 1).trans rfl; have hcz6_2 : w5.cell? ⟨gb131, 2, none⟩ = some (.slice A1_2 l1_2.length c1_2) := (blk_cell BK131.out 2).trans rfl; have hcz6_3 : w5.cell? ⟨gb131, 3, none⟩ = some (.int .i64 a1_3) := (blk_cell BK131.out 3).trans rfl; have hcz6_4 : w5.cell? ⟨gb131, 4, none⟩ = some (.slice A1_4 l1_4.length c1_4) := (blk_cell BK131.out 4).trans rfl; have hcz6_5 : w5.cell? ⟨gb131, 5, none⟩ = some (.int .i64 a1_5) := (blk_cell BK131.out 5).trans rfl; have hcz6_6 : w5.cell? ⟨gb131, 6, none⟩ = some (.int .u8 a1_6) := (blk_cell BK131.out 6).trans rfl; have hfz6_0 := blk_frozen BK131.out 0; have hfz6_1 := blk_frozen BK131.out 1; have hfz6_2 := blk_frozen BK131.out 2; have hfz6_3 := blk_frozen BK131.out 3; have hfz6_4 := blk_frozen BK131.out 4; have hfz6_5 := blk_frozen BK131.out 5; have hfz6_6 := blk_frozen BK131.out 6) | ((with_reducible refine gate_callee (f := 55) rfl ?_); refine goesL_ (some 9) rfl rfl Tryd.func55 (by kernel_rfl) rfl #[.slice A0 l0.length c0, .string a1_1] rfl (by (try simp only [List.map_toArray, List.map_cons, List.map_nil]); first | done | rfl | (simp only [List.length_drop, List.length_take]; rfl)) ?_; (with_reducible refine (plan_of.calls _ _ l0 a1_1 t132 t133 _ ?side1 ?side2 A3.out).mono ?_); (case side1 => repeat (first | exact (Kd.C_below HR0.out HB.out) | (with_reducible refine Kd.C_alloc ?_ _) | (with_reducible refine Kd.C_drewN ?_ _) | (with_reducible refine Kd.C_drew ?_))); (case side2 => exact HC0.out); rintro e w7 ⟨rfl, hb⟩; refine ⟨_, rfl, ?_⟩; have n0_ := Aside0.mk (blk_below (g := gb131) (o := .cells #[.int .i64 a1_0, .string a1_1, .slice A1_2 l1_2.length c1_2, .int .i64 a1_3, .slice A1_4 l1_4.length c1_4, .int .i64 a1_5, .int .u8 a1_6] 72 (0, 0)) (by (with_reducible repeat (first | refine blk_drewN ?_ _ | refine blk_drew ?_ | refine blk_alloc ?_ _)); exact BK131.out) hb); have n1_ := Aside0.mk (below_step (by repeat (first | (with_reducible first | exact HB.out | apply below_alloc | apply pw_below_drewN | apply below_drew1 | refine below_set ?_ GE131.out) | exact HB.out)) hb); clear BK131; clear HB; have BK131 := n0_; have HB := n1_; clear n0_ n1_; (try clear hb); (try clear hb2); (try clear hk); (try clear hi)))
 (try simp only [Act.put, List.setIfInBounds_toArray, List.set_cons_zero, List.set_cons_succ])
 go_cut [11] (fun v11 wc => ∃ (kq : Nat) (x11_3 : Bool), v11 = .bool x11_3 ∧ Aside0 (plan_refused.j0 kq l0 t132 x11_3 a1_0 a1_1 l1_2 a1_3 l1_4 a1_5 a1_6 = some r) ∧ Aside0 (kq ≤ k) ∧ Aside0 (wc.heap[gb131]? = some (.cells #[.int .i64 a1_0, .string a1_1, (.slice A1_2 l1_2.length c1_2), .int .i64 a1_3, (.slice A1_4 l1_4.length c1_4), .int .i64 a1_5, .int .u8 a1_6] 72 (0, 0))) ∧ Aside0 (Below w.heap.size w wc))
 case first =>
  have H := HC4.out
  clear HC4
  by_cases c8 : a1_0 = 11
  ·rw [if_pos c8] at H
   have c8b0 : (a1_0 == 11) = true := beq_iff_eq.mpr c8
   have c8b1 : (a1_0 != 11) = false := bne_eq_false_iff_eq.mpr c8
   clear c8
   (first | rw [c8b0] | (simp only [i64_w, i32_w]; rw [c8b0]) | rw [c8b1] | skip)
   have H' := Aside0.mk H
   clear H
   have hcz9_0 : w7.cell? ⟨gb131, 0, none⟩ = some (.int .i64 a1_0) := (blk_cell BK131.out 0).trans rfl
   have hcz9_1 : w7.cell? ⟨gb131, 1, none⟩ = some (.string a1_1) := (blk_cell BK131.out 1).trans rfl
   have hcz9_2 : w7.cell? ⟨gb131, 2, none⟩ = some (.slice A1_2 l1_2.length c1_2) := (blk_cell BK131.out 2).trans rfl
   have hcz9_3 : w7.cell? ⟨gb131, 3, none⟩ = some (.int .i64 a1_3) := (blk_cell BK131.out 3).trans rfl
   have hcz9_4 : w7.cell? ⟨gb131, 4, none⟩ = some (.slice A1_4 l1_4.length c1_4) := (blk_cell BK131.out 4).trans rfl
   have hcz9_5 : w7.cell? ⟨gb131, 5, none⟩ = some (.int .i64 a1_5) := (blk_cell BK131.out 5).trans rfl
   have hcz9_6 : w7.cell? ⟨gb131, 6, none⟩ = some (.int .u8 a1_6) := (blk_cell BK131.out 6).trans rfl
   have hfz9_0 := blk_frozen BK131.out 0
   have hfz9_1 := blk_frozen BK131.out 1
   have hfz9_2 := blk_frozen BK131.out 2
   have hfz9_3 := blk_frozen BK131.out 3
   have hfz9_4 := blk_frozen BK131.out 4
   have hfz9_5 := blk_frozen BK131.out 5
   have hfz9_6 := blk_frozen BK131.out 6
   go_wp2
   go_meet
   case rel => exact ⟨_, (!t132), (by first | rfl | (simp only [YtcfcbkcaondfcaaDoorMpHelp.leq_not, YtcfcbkcaondfcaaDoorMpHelp.gtr_less]; done) | (simp; done) | (simp [*]; done)), H', ⟨by first | omega | exact Nat.le_refl _⟩, ⟨by (with_reducible repeat (first | refine blk_drewN ?_ _ | refine blk_drew ?_ | refine blk_alloc ?_ _)); exact BK131.out⟩, ⟨by repeat (first | (with_reducible first | exact HB.out | apply below_alloc | apply pw_below_drewN | apply below_drew1 | refine below_set ?_ GE131.out) | exact HB.out)⟩⟩
  ·rw [if_neg c8] at H
   have c8b0 : (a1_0 == 11) = false := beq_eq_false_iff_ne.mpr c8
   have c8b1 : (a1_0 != 11) = true := bne_iff_ne.mpr c8
   (first | rw [c8b0] | (simp only [i64_w, i32_w]; rw [c8b0]) | rw [c8b1] | skip)
   have H' := Aside0.mk H
   clear H
   have hcz10_0 : w7.cell? ⟨gb131, 0, none⟩ = some (.int .i64 a1_0) := (blk_cell BK131.out 0).trans rfl
   have hcz10_1 : w7.cell? ⟨gb131, 1, none⟩ = some (.string a1_1) := (blk_cell BK131.out 1).trans rfl
   have hcz10_2 : w7.cell? ⟨gb131, 2, none⟩ = some (.slice A1_2 l1_2.length c1_2) := (blk_cell BK131.out 2).trans rfl
   have hcz10_3 : w7.cell? ⟨gb131, 3, none⟩ = some (.int .i64 a1_3) := (blk_cell BK131.out 3).trans rfl
   have hcz10_4 : w7.cell? ⟨gb131, 4, none⟩ = some (.slice A1_4 l1_4.length c1_4) := (blk_cell BK131.out 4).trans rfl
   have hcz10_5 : w7.cell? ⟨gb131, 5, none⟩ = some (.int .i64 a1_5) := (blk_cell BK131.out 5).trans rfl
   have hcz10_6 : w7.cell? ⟨gb131, 6, none⟩ = some (.int .u8 a1_6) := (blk_cell BK131.out 6).trans rfl
   have hfz10_0 := blk_frozen BK131.out 0
   have hfz10_1 := blk_frozen BK131.out 1
   have hfz10_2 := blk_frozen BK131.out 2
   have hfz10_3 := blk_frozen BK131.out 3
   have hfz10_4 := blk_frozen BK131.out 4
   have hfz10_5 := blk_frozen BK131.out 5
   have hfz10_6 := blk_frozen BK131.out 6
   go_wp2
   go_meet
   case rel => exact ⟨_, (false), (by first | rfl | (simp only [YtcfcbkcaondfcaaDoorMpHelp.leq_not, YtcfcbkcaondfcaaDoorMpHelp.gtr_less]; done) | (simp; done) | (simp [*]; done)), H', ⟨by first | omega | exact Nat.le_refl _⟩, ⟨by (with_reducible repeat (first | refine blk_drewN ?_ _ | refine blk_drew ?_ | refine blk_alloc ?_ _)); exact BK131.out⟩, ⟨by repeat (first | (with_reducible first | exact HB.out | apply below_alloc | apply pw_below_drewN | apply below_drew1 | refine below_set ?_ GE131.out) | exact HB.out)⟩⟩
 case rest =>
  clear HC4
  try clear c1
  try clear p2
  try clear c5
  try clear c6
  try clear c8
  try clear c8b0
  try clear c8b1
  try clear hcz10_0
  try clear hcz10_1
  try clear hcz10_2
  try clear hcz10_3
  try clear hcz10_4
  try clear hcz10_5
  try clear hcz10_6
  try clear hcz6_0
  try clear hcz6_1
  try clear hcz6_2
  try clear hcz6_3
  try clear hcz6_4
  try clear hcz6_5
  try clear hcz6_6
  try clear hcz9_0
  try clear hcz9_1
  try clear hcz9_2
  try clear hcz9_3
  try clear hcz9_4
  try clear hcz9_5
  try clear hcz9_6
  try clear hfz10_0
  try clear hfz10_1
  try clear hfz10_2
  try clear hfz10_3
  try clear hfz10_4
  try clear hfz10_5
  try clear hfz10_6
  try clear hfz6_0
  try clear hfz6_1
  try clear hfz6_2
  try clear hfz6_3
  try clear hfz6_4
  try clear hfz6_5
  try clear hfz6_6
  try clear hfz9_0
  try clear hfz9_1
  try clear hfz9_2
  try clear hfz9_3
  try clear hfz9_4
  try clear hfz9_5
  try clear hfz9_6
  obtain ⟨kq, x11_3, rfl, HA, HJ3, BK131, HB⟩ := hcut
  cases kq with
  | zero => exact absurd HA.out (by simp [plan_refused.j0])
  | succ kj3 =>
   have H := HA.out
   clear HA
   simp only [plan_refused.j0] at H
   by_cases c11 : x11_3 = true
   ·subst c11
    have H1 : (some 7) = some r := by rw [if_pos rfl] at H; exact H
    clear H
    have H := H1
    clear H1
    obtain rfl := Option.some.inj H
    go_wp2
    go_ret
    exact ⟨by first | rfl | (simp [errW_none, errW_some] <;> rfl) | (simp [*, errW_none, errW_some] <;> rfl), by repeat (first | (with_reducible first | exact HB.out | apply below_alloc | apply pw_below_drewN | apply below_drew1 | refine below_set ?_ GE131.out) | exact HB.out)⟩
   ·replace c11 := Bool.eq_false_iff.mpr c11
    subst c11
    have H1 : (if a1_0 = 11 then (some 0) else (if a1_0 = 3 then ((member_Right.f a1_1).bind fun t134 => (if t134 = true then (if (l1_2.length : Int) > 65536 then (some 5) else (if t132 = true then (some 0) else (if (l0.length : Int) ≥ 200 then (some 14) else (some 0)))) else (some 6))) else (some 1))) = some r := by rw [if_neg (show ¬ (false = true) by decide)] at H; exact H
    clear H
    have H := H1
    clear H1
    by_cases c12 : a1_0 = 11
    ·rw [if_pos c12] at H
     have c12b0 : (a1_0 == 11) = true := beq_iff_eq.mpr c12
     have c12b1 : (a1_0 != 11) = false := bne_eq_false_iff_eq.mpr c12
     clear c12
     obtain rfl := Option.some.inj H
     have hcz13_0 : wc.cell? ⟨gb131, 0, none⟩ = some (.int .i64 a1_0) := (blk_cell BK131.out 0).trans rfl
     have hcz13_1 : wc.cell? ⟨gb131, 1, none⟩ = some (.string a1_1) := (blk_cell BK131.out 1).trans rfl
     have hcz13_2 : wc.cell? ⟨gb131, 2, none⟩ = some (.slice A1_2 l1_2.length c1_2) := (blk_cell BK131.out 2).trans rfl
     have hcz13_3 : wc.cell? ⟨gb131, 3, none⟩ = some (.int .i64 a1_3) := (blk_cell BK131.out 3).trans rfl
     have hcz13_4 : wc.cell? ⟨gb131, 4, none⟩ = some (.slice A1_4 l1_4.length c1_4) := (blk_cell BK131.out 4).trans rfl
     have hcz13_5 : wc.cell? ⟨gb131, 5, none⟩ = some (.int .i64 a1_5) := (blk_cell BK131.out 5).trans rfl
     have hcz13_6 : wc.cell? ⟨gb131, 6, none⟩ = some (.int .u8 a1_6) := (blk_cell BK131.out 6).trans rfl
     have hfz13_0 := blk_frozen BK131.out 0
     have hfz13_1 := blk_frozen BK131.out 1
     have hfz13_2 := blk_frozen BK131.out 2
     have hfz13_3 := blk_frozen BK131.out 3
     have hfz13_4 := blk_frozen BK131.out 4
     have hfz13_5 := blk_frozen BK131.out 5
     have hfz13_6 := blk_frozen BK131.out 6
     go_wp2
     go_ret
     exact ⟨by first | rfl | (simp [errW_none, errW_some] <;> rfl) | (simp [*, errW_none, errW_some] <;> rfl), by repeat (first | (with_reducible first | exact HB.out | apply below_alloc | apply pw_below_drewN | apply below_drew1 | refine below_set ?_ GE131.out) | exact HB.out)⟩
    ·rw [if_neg c12] at H
     have c12b0 : (a1_0 == 11) = false := beq_eq_false_iff_ne.mpr c12
     have c12b1 : (a1_0 != 11) = true := bne_iff_ne.mpr c12
     by_cases c14 : a1_0 = 3
     ·rw [if_pos c14] at H
      have c14b0 : (a1_0 == 3) = true := beq_iff_eq.mpr c14
      have c14b1 : (a1_0 != 3) = false := bne_eq_false_iff_eq.mpr c14
      clear c14
      replace H := Option.bind_eq_some_iff.mp H
      obtain ⟨t134, A150, H⟩ := H
      replace H : (if t134 = true then (if (l1_2.length : Int) > 65536 then (some 5) else (if t132 = true then (some 0) else (if (l0.length : Int) ≥ 200 then (some 14) else (some 0)))) else (some 6)) = some r := H
      have A15 := Aside0.mk A150
      clear A150
      by_cases c16 : t134 = true
      ·subst c16
       have H1 : (if (l1_2.length : Int) > 65536 then (some 5) else (if t132 = true then (some 0) else (if (l0.length : Int) ≥ 200 then (some 14) else (some 0)))) = some r := by rw [if_pos rfl] at H; exact H
       clear H
       have H := H1
       clear H1
       by_cases c17 : (l1_2.length : Int) > 65536
       ·rw [if_pos c17] at H
        have c17b0 : decide (65536 < (l1_2.length : Int)) = true := decide_eq_true c17
        have c17b1 : decide (65536 < l1_2.length) = true := decide_eq_true (by omega)
        clear c17
        obtain rfl := Option.some.inj H
        have hcz18_0 : wc.cell? ⟨gb131, 0, none⟩ = some (.int .i64 a1_0) := (blk_cell BK131.out 0).trans rfl
        have hcz18_1 : wc.cell? ⟨gb131, 1, none⟩ = some (.string a1_1) := (blk_cell BK131.out 1).trans rfl
        have hcz18_2 : wc.cell? ⟨gb131, 2, none⟩ = some (.slice A1_2 l1_2.length c1_2) := (blk_cell BK131.out 2).trans rfl
        have hcz18_3 : wc.cell? ⟨gb131, 3, none⟩ = some (.int .i64 a1_3) := (blk_cell BK131.out 3).trans rfl
        have hcz18_4 : wc.cell? ⟨gb131, 4, none⟩ = some (.slice A1_4 l1_4.length c1_4) := (blk_cell BK131.out 4).trans rfl
        have hcz18_5 : wc.cell? ⟨gb131, 5, none⟩ = some (.int .i64 a1_5) := (blk_cell BK131.out 5).trans rfl
        have hcz18_6 : wc.cell? ⟨gb131, 6, none⟩ = some (.int .u8 a1_6) := (blk_cell BK131.out 6).trans rfl
        have hfz18_0 := blk_frozen BK131.out 0
        have hfz18_1 := blk_frozen BK131.out 1
        have hfz18_2 := blk_frozen BK131.out 2
        have hfz18_3 := blk_frozen BK131.out 3
        have hfz18_4 := blk_frozen BK131.out 4
        have hfz18_5 := blk_frozen BK131.out 5
        have hfz18_6 := blk_frozen BK131.out 6
        go_wp2_with (first | ((with_reducible refine gate_callee (f := 25) rfl ?_); refine goesL_ (some 30) rfl rfl Tryd.func25 (by kernel_rfl) rfl #[.string a1_1] rfl (by (try simp only [List.map_toArray, List.map_cons, List.map_nil]); first | done | rfl | (simp only [List.length_drop, List.length_take]; rfl)) ?_; (with_reducible refine (member_Right.calls a1_1 true _ A15.out).mono ?_); rintro e w19 ⟨rfl, hb⟩; refine ⟨_, rfl, ?_⟩; have n0_ := Aside0.mk (blk_below (g := gb131) (o := .cells #[.int .i64 a1_0, .string a1_1, .slice A1_2 l1_2.length c1_2, .int .i64 a1_3, .slice A1_4 l1_4.length c1_4, .int .i64 a1_5, .int .u8 a1_6] 72 (0, 0)) (by (with_reducible repeat (first | refine blk_drewN ?_ _ | refine blk_drew ?_ | refine blk_alloc ?_ _)); exact BK131.out) hb); have n1_ := Aside0.mk (below_step (by repeat (first | (with_reducible first | exact HB.out | apply below_alloc | apply pw_below_drewN | apply below_drew1 | refine below_set ?_ GE131.out) | exact HB.out)) hb); clear BK131; clear HB; have BK131 := n0_; have HB := n1_; clear n0_ n1_; (try clear hb); (try clear hb2); (try clear hk); (try clear hi); have hcz20_0 : w19.cell? ⟨gb131, 0, none⟩ = some (.int .i64 a1_0) := (blk_cell BK131.out 0).trans rfl; have hcz20_1 : w19.cell? ⟨gb131, 1, none⟩ = some (.string a1_1) := (blk_cell BK131.out 1).trans rfl; have hcz20_2 : w19.cell? ⟨gb131, 2, none⟩ = some (.slice A1_2 l1_2.length c1_2) := (blk_cell BK131.out 2).trans rfl; have hcz20_3 : w19.cell? ⟨gb131, 3, none⟩ = some (.int .i64 a1_3) := (blk_cell BK131.out 3).trans rfl; have hcz20_4 : w19.cell? ⟨gb131, 4, none⟩ = some (.slice A1_4 l1_4.length c1_4) := (blk_cell BK131.out 4).trans rfl; have hcz20_5 : w19.cell? ⟨gb131, 5, none⟩ = some (.int .i64 a1_5) := (blk_cell BK131.out 5).trans rfl; have hcz20_6 : w19.cell? ⟨gb131, 6, none⟩ = some (.int .u8 a1_6) := (blk_cell BK131.out 6).trans rfl; have hfz20_0 := blk_frozen BK131.out 0; have hfz20_1 := blk_frozen BK131.out 1; have hfz20_2 := blk_frozen BK131.out 2; have hfz20_3 := blk_frozen BK131.out 3; have hfz20_4 := blk_frozen BK131.out 4; have hfz20_5 := blk_frozen BK131.out 5; have hfz20_6 := blk_frozen BK131.out 6))
        go_ret
        exact ⟨by first | rfl | (simp [errW_none, errW_some] <;> rfl) | (simp [*, errW_none, errW_some] <;> rfl), by repeat (first | (with_reducible first | exact HB.out | apply below_alloc | apply pw_below_drewN | apply below_drew1 | refine below_set ?_ GE131.out) | exact HB.out)⟩
       ·rw [if_neg c17] at H
        have c17b0 : decide (65536 < (l1_2.length : Int)) = false := decide_eq_false c17
        have c17b1 : decide (65536 < l1_2.length) = false := decide_eq_false (by omega)
        clear c17
        by_cases c21 : t132 = true
        ·subst c21
         have H1 : (some 0) = some r := by rw [if_pos rfl] at H; exact H
         clear H
         have H := H1
         clear H1
         obtain rfl := Option.some.inj H
         have hcz22_0 : wc.cell? ⟨gb131, 0, none⟩ = some (.int .i64 a1_0) := (blk_cell BK131.out 0).trans rfl
         have hcz22_1 : wc.cell? ⟨gb131, 1, none⟩ = some (.string a1_1) := (blk_cell BK131.out 1).trans rfl
         have hcz22_2 : wc.cell? ⟨gb131, 2, none⟩ = some (.slice A1_2 l1_2.length c1_2) := (blk_cell BK131.out 2).trans rfl
         have hcz22_3 : wc.cell? ⟨gb131, 3, none⟩ = some (.int .i64 a1_3) := (blk_cell BK131.out 3).trans rfl
         have hcz22_4 : wc.cell? ⟨gb131, 4, none⟩ = some (.slice A1_4 l1_4.length c1_4) := (blk_cell BK131.out 4).trans rfl
         have hcz22_5 : wc.cell? ⟨gb131, 5, none⟩ = some (.int .i64 a1_5) := (blk_cell BK131.out 5).trans rfl
         have hcz22_6 : wc.cell? ⟨gb131, 6, none⟩ = some (.int .u8 a1_6) := (blk_cell BK131.out 6).trans rfl
         have hfz22_0 := blk_frozen BK131.out 0
         have hfz22_1 := blk_frozen BK131.out 1
         have hfz22_2 := blk_frozen BK131.out 2
         have hfz22_3 := blk_frozen BK131.out 3
         have hfz22_4 := blk_frozen BK131.out 4
         have hfz22_5 := blk_frozen BK131.out 5
         have hfz22_6 := blk_frozen BK131.out 6
         go_wp2_with (first | ((with_reducible refine gate_callee (f := 25) rfl ?_); refine goesL_ (some 30) rfl rfl Tryd.func25 (by kernel_rfl) rfl #[.string a1_1] rfl (by (try simp only [List.map_toArray, List.map_cons, List.map_nil]); first | done | rfl | (simp only [List.length_drop, List.length_take]; rfl)) ?_; (with_reducible refine (member_Right.calls a1_1 true _ A15.out).mono ?_); rintro e w23 ⟨rfl, hb⟩; refine ⟨_, rfl, ?_⟩; have n0_ := Aside0.mk (blk_below (g := gb131) (o := .cells #[.int .i64 a1_0, .string a1_1, .slice A1_2 l1_2.length c1_2, .int .i64 a1_3, .slice A1_4 l1_4.length c1_4, .int .i64 a1_5, .int .u8 a1_6] 72 (0, 0)) (by (with_reducible repeat (first | refine blk_drewN ?_ _ | refine blk_drew ?_ | refine blk_alloc ?_ _)); exact BK131.out) hb); have n1_ := Aside0.mk (below_step (by repeat (first | (with_reducible first | exact HB.out | apply below_alloc | apply pw_below_drewN | apply below_drew1 | refine below_set ?_ GE131.out) | exact HB.out)) hb); clear BK131; clear HB; have BK131 := n0_; have HB := n1_; clear n0_ n1_; (try clear hb); (try clear hb2); (try clear hk); (try clear hi); have hcz24_0 : w23.cell? ⟨gb131, 0, none⟩ = some (.int .i64 a1_0) := (blk_cell BK131.out 0).trans rfl; have hcz24_1 : w23.cell? ⟨gb131, 1, none⟩ = some (.string a1_1) := (blk_cell BK131.out 1).trans rfl; have hcz24_2 : w23.cell? ⟨gb131, 2, none⟩ = some (.slice A1_2 l1_2.length c1_2) := (blk_cell BK131.out 2).trans rfl; have hcz24_3 : w23.cell? ⟨gb131, 3, none⟩ = some (.int .i64 a1_3) := (blk_cell BK131.out 3).trans rfl; have hcz24_4 : w23.cell? ⟨gb131, 4, none⟩ = some (.slice A1_4 l1_4.length c1_4) := (blk_cell BK131.out 4).trans rfl; have hcz24_5 : w23.cell? ⟨gb131, 5, none⟩ = some (.int .i64 a1_5) := (blk_cell BK131.out 5).trans rfl; have hcz24_6 : w23.cell? ⟨gb131, 6, none⟩ = some (.int .u8 a1_6) := (blk_cell BK131.out 6).trans rfl; have hfz24_0 := blk_frozen BK131.out 0; have hfz24_1 := blk_frozen BK131.out 1; have hfz24_2 := blk_frozen BK131.out 2; have hfz24_3 := blk_frozen BK131.out 3; have hfz24_4 := blk_frozen BK131.out 4; have hfz24_5 := blk_frozen BK131.out 5; have hfz24_6 := blk_frozen BK131.out 6))
         go_ret
         exact ⟨by first | rfl | (simp [errW_none, errW_some] <;> rfl) | (simp [*, errW_none, errW_some] <;> rfl), by repeat (first | (with_reducible first | exact HB.out | apply below_alloc | apply pw_below_drewN | apply below_drew1 | refine below_set ?_ GE131.out) | exact HB.out)⟩
        ·replace c21 := Bool.eq_false_iff.mpr c21
         subst c21
         have H1 : (if (l0.length : Int) ≥ 200 then (some 14) else (some 0)) = some r := by rw [if_neg (show ¬ (false = true) by decide)] at H; exact H
         clear H
         have H := H1
         clear H1
         by_cases c25 : (l0.length : Int) ≥ 200
         ·rw [if_pos c25] at H
          have c25b0 : decide (200 ≤ (l0.length : Int)) = true := decide_eq_true c25
          have c25b1 : decide (200 ≤ l0.length) = true := decide_eq_true (by omega)
          clear c25
          obtain rfl := Option.some.inj H
          have hcz26_0 : wc.cell? ⟨gb131, 0, none⟩ = some (.int .i64 a1_0) := (blk_cell BK131.out 0).trans rfl
          have hcz26_1 : wc.cell? ⟨gb131, 1, none⟩ = some (.string a1_1) := (blk_cell BK131.out 1).trans rfl
          have hcz26_2 : wc.cell? ⟨gb131, 2, none⟩ = some (.slice A1_2 l1_2.length c1_2) := (blk_cell BK131.out 2).trans rfl
          have hcz26_3 : wc.cell? ⟨gb131, 3, none⟩ = some (.int .i64 a1_3) := (blk_cell BK131.out 3).trans rfl
          have hcz26_4 : wc.cell? ⟨gb131, 4, none⟩ = some (.slice A1_4 l1_4.length c1_4) := (blk_cell BK131.out 4).trans rfl
          have hcz26_5 : wc.cell? ⟨gb131, 5, none⟩ = some (.int .i64 a1_5) := (blk_cell BK131.out 5).trans rfl
          have hcz26_6 : wc.cell? ⟨gb131, 6, none⟩ = some (.int .u8 a1_6) := (blk_cell BK131.out 6).trans rfl
          have hfz26_0 := blk_frozen BK131.out 0
          have hfz26_1 := blk_frozen BK131.out 1
          have hfz26_2 := blk_frozen BK131.out 2
          have hfz26_3 := blk_frozen BK131.out 3
          have hfz26_4 := blk_frozen BK131.out 4
          have hfz26_5 := blk_frozen BK131.out 5
          have hfz26_6 := blk_frozen BK131.out 6
          go_wp2_with (first | ((with_reducible refine gate_callee (f := 25) rfl ?_); refine goesL_ (some 30) rfl rfl Tryd.func25 (by kernel_rfl) rfl #[.string a1_1] rfl (by (try simp only [List.map_toArray, List.map_cons, List.map_nil]); first | done | rfl | (simp only [List.length_drop, List.length_take]; rfl)) ?_; (with_reducible refine (member_Right.calls a1_1 true _ A15.out).mono ?_); rintro e w27 ⟨rfl, hb⟩; refine ⟨_, rfl, ?_⟩; have n0_ := Aside0.mk (blk_below (g := gb131) (o := .cells #[.int .i64 a1_0, .string a1_1, .slice A1_2 l1_2.length c1_2, .int .i64 a1_3, .slice A1_4 l1_4.length c1_4, .int .i64 a1_5, .int .u8 a1_6] 72 (0, 0)) (by (with_reducible repeat (first | refine blk_drewN ?_ _ | refine blk_drew ?_ | refine blk_alloc ?_ _)); exact BK131.out) hb); have n1_ := Aside0.mk (below_step (by repeat (first | (with_reducible first | exact HB.out | apply below_alloc | apply pw_below_drewN | apply below_drew1 | refine below_set ?_ GE131.out) | exact HB.out)) hb); clear BK131; clear HB; have BK131 := n0_; have HB := n1_; clear n0_ n1_; (try clear hb); (try clear hb2); (try clear hk); (try clear hi); have hcz28_0 : w27.cell? ⟨gb131, 0, none⟩ = some (.int .i64 a1_0) := (blk_cell BK131.out 0).trans rfl; have hcz28_1 : w27.cell? ⟨gb131, 1, none⟩ = some (.string a1_1) := (blk_cell BK131.out 1).trans rfl; have hcz28_2 : w27.cell? ⟨gb131, 2, none⟩ = some (.slice A1_2 l1_2.length c1_2) := (blk_cell BK131.out 2).trans rfl; have hcz28_3 : w27.cell? ⟨gb131, 3, none⟩ = some (.int .i64 a1_3) := (blk_cell BK131.out 3).trans rfl; have hcz28_4 : w27.cell? ⟨gb131, 4, none⟩ = some (.slice A1_4 l1_4.length c1_4) := (blk_cell BK131.out 4).trans rfl; have hcz28_5 : w27.cell? ⟨gb131, 5, none⟩ = some (.int .i64 a1_5) := (blk_cell BK131.out 5).trans rfl; have hcz28_6 : w27.cell? ⟨gb131, 6, none⟩ = some (.int .u8 a1_6) := (blk_cell BK131.out 6).trans rfl; have hfz28_0 := blk_frozen BK131.out 0; have hfz28_1 := blk_frozen BK131.out 1; have hfz28_2 := blk_frozen BK131.out 2; have hfz28_3 := blk_frozen BK131.out 3; have hfz28_4 := blk_frozen BK131.out 4; have hfz28_5 := blk_frozen BK131.out 5; have hfz28_6 := blk_frozen BK131.out 6))
          go_ret
          exact ⟨by first | rfl | (simp [errW_none, errW_some] <;> rfl) | (simp [*, errW_none, errW_some] <;> rfl), by repeat (first | (with_reducible first | exact HB.out | apply below_alloc | apply pw_below_drewN | apply below_drew1 | refine below_set ?_ GE131.out) | exact HB.out)⟩
         ·rw [if_neg c25] at H
          have c25b0 : decide (200 ≤ (l0.length : Int)) = false := decide_eq_false c25
          have c25b1 : decide (200 ≤ l0.length) = false := decide_eq_false (by omega)
          clear c25
          obtain rfl := Option.some.inj H
          have hcz29_0 : wc.cell? ⟨gb131, 0, none⟩ = some (.int .i64 a1_0) := (blk_cell BK131.out 0).trans rfl
          have hcz29_1 : wc.cell? ⟨gb131, 1, none⟩ = some (.string a1_1) := (blk_cell BK131.out 1).trans rfl
          have hcz29_2 : wc.cell? ⟨gb131, 2, none⟩ = some (.slice A1_2 l1_2.length c1_2) := (blk_cell BK131.out 2).trans rfl
          have hcz29_3 : wc.cell? ⟨gb131, 3, none⟩ = some (.int .i64 a1_3) := (blk_cell BK131.out 3).trans rfl
          have hcz29_4 : wc.cell? ⟨gb131, 4, none⟩ = some (.slice A1_4 l1_4.length c1_4) := (blk_cell BK131.out 4).trans rfl
          have hcz29_5 : wc.cell? ⟨gb131, 5, none⟩ = some (.int .i64 a1_5) := (blk_cell BK131.out 5).trans rfl
          have hcz29_6 : wc.cell? ⟨gb131, 6, none⟩ = some (.int .u8 a1_6) := (blk_cell BK131.out 6).trans rfl
          have hfz29_0 := blk_frozen BK131.out 0
          have hfz29_1 := blk_frozen BK131.out 1
          have hfz29_2 := blk_frozen BK131.out 2
          have hfz29_3 := blk_frozen BK131.out 3
          have hfz29_4 := blk_frozen BK131.out 4
          have hfz29_5 := blk_frozen BK131.out 5
          have hfz29_6 := blk_frozen BK131.out 6
          go_wp2_with (first | ((with_reducible refine gate_callee (f := 25) rfl ?_); refine goesL_ (some 30) rfl rfl Tryd.func25 (by kernel_rfl) rfl #[.string a1_1] rfl (by (try simp only [List.map_toArray, List.map_cons, List.map_nil]); first | done | rfl | (simp only [List.length_drop, List.length_take]; rfl)) ?_; (with_reducible refine (member_Right.calls a1_1 true _ A15.out).mono ?_); rintro e w30 ⟨rfl, hb⟩; refine ⟨_, rfl, ?_⟩; have n0_ := Aside0.mk (blk_below (g := gb131) (o := .cells #[.int .i64 a1_0, .string a1_1, .slice A1_2 l1_2.length c1_2, .int .i64 a1_3, .slice A1_4 l1_4.length c1_4, .int .i64 a1_5, .int .u8 a1_6] 72 (0, 0)) (by (with_reducible repeat (first | refine blk_drewN ?_ _ | refine blk_drew ?_ | refine blk_alloc ?_ _)); exact BK131.out) hb); have n1_ := Aside0.mk (below_step (by repeat (first | (with_reducible first | exact HB.out | apply below_alloc | apply pw_below_drewN | apply below_drew1 | refine below_set ?_ GE131.out) | exact HB.out)) hb); clear BK131; clear HB; have BK131 := n0_; have HB := n1_; clear n0_ n1_; (try clear hb); (try clear hb2); (try clear hk); (try clear hi); have hcz31_0 : w30.cell? ⟨gb131, 0, none⟩ = some (.int .i64 a1_0) := (blk_cell BK131.out 0).trans rfl; have hcz31_1 : w30.cell? ⟨gb131, 1, none⟩ = some (.string a1_1) := (blk_cell BK131.out 1).trans rfl; have hcz31_2 : w30.cell? ⟨gb131, 2, none⟩ = some (.slice A1_2 l1_2.length c1_2) := (blk_cell BK131.out 2).trans rfl; have hcz31_3 : w30.cell? ⟨gb131, 3, none⟩ = some (.int .i64 a1_3) := (blk_cell BK131.out 3).trans rfl; have hcz31_4 : w30.cell? ⟨gb131, 4, none⟩ = some (.slice A1_4 l1_4.length c1_4) := (blk_cell BK131.out 4).trans rfl; have hcz31_5 : w30.cell? ⟨gb131, 5, none⟩ = some (.int .i64 a1_5) := (blk_cell BK131.out 5).trans rfl; have hcz31_6 : w30.cell? ⟨gb131, 6, none⟩ = some (.int .u8 a1_6) := (blk_cell BK131.out 6).trans rfl; have hfz31_0 := blk_frozen BK131.out 0; have hfz31_1 := blk_frozen BK131.out 1; have hfz31_2 := blk_frozen BK131.out 2; have hfz31_3 := blk_frozen BK131.out 3; have hfz31_4 := blk_frozen BK131.out 4; have hfz31_5 := blk_frozen BK131.out 5; have hfz31_6 := blk_frozen BK131.out 6))
          go_ret
          exact ⟨by first | rfl | (simp [errW_none, errW_some] <;> rfl) | (simp [*, errW_none, errW_some] <;> rfl), by repeat (first | (with_reducible first | exact HB.out | apply below_alloc | apply pw_below_drewN | apply below_drew1 | refine below_set ?_ GE131.out) | exact HB.out)⟩
      ·replace c16 := Bool.eq_false_iff.mpr c16
       subst c16
       have H1 : (some 6) = some r := by rw [if_neg (show ¬ (false = true) by decide)] at H; exact H
       clear H
       have H := H1
       clear H1
       obtain rfl := Option.some.inj H
       have hcz32_0 : wc.cell? ⟨gb131, 0, none⟩ = some (.int .i64 a1_0) := (blk_cell BK131.out 0).trans rfl
       have hcz32_1 : wc.cell? ⟨gb131, 1, none⟩ = some (.string a1_1) := (blk_cell BK131.out 1).trans rfl
       have hcz32_2 : wc.cell? ⟨gb131, 2, none⟩ = some (.slice A1_2 l1_2.length c1_2) := (blk_cell BK131.out 2).trans rfl
       have hcz32_3 : wc.cell? ⟨gb131, 3, none⟩ = some (.int .i64 a1_3) := (blk_cell BK131.out 3).trans rfl
       have hcz32_4 : wc.cell? ⟨gb131, 4, none⟩ = some (.slice A1_4 l1_4.length c1_4) := (blk_cell BK131.out 4).trans rfl
       have hcz32_5 : wc.cell? ⟨gb131, 5, none⟩ = some (.int .i64 a1_5) := (blk_cell BK131.out 5).trans rfl
       have hcz32_6 : wc.cell? ⟨gb131, 6, none⟩ = some (.int .u8 a1_6) := (blk_cell BK131.out 6).trans rfl
       have hfz32_0 := blk_frozen BK131.out 0
       have hfz32_1 := blk_frozen BK131.out 1
       have hfz32_2 := blk_frozen BK131.out 2
       have hfz32_3 := blk_frozen BK131.out 3
       have hfz32_4 := blk_frozen BK131.out 4
       have hfz32_5 := blk_frozen BK131.out 5
       have hfz32_6 := blk_frozen BK131.out 6
       go_wp2_with (first | ((with_reducible refine gate_callee (f := 25) rfl ?_); refine goesL_ (some 30) rfl rfl Tryd.func25 (by kernel_rfl) rfl #[.string a1_1] rfl (by (try simp only [List.map_toArray, List.map_cons, List.map_nil]); first | done | rfl | (simp only [List.length_drop, List.length_take]; rfl)) ?_; (with_reducible refine (member_Right.calls a1_1 false _ A15.out).mono ?_); rintro e w33 ⟨rfl, hb⟩; refine ⟨_, rfl, ?_⟩; have n0_ := Aside0.mk (blk_below (g := gb131) (o := .cells #[.int .i64 a1_0, .string a1_1, .slice A1_2 l1_2.length c1_2, .int .i64 a1_3, .slice A1_4 l1_4.length c1_4, .int .i64 a1_5, .int .u8 a1_6] 72 (0, 0)) (by (with_reducible repeat (first | refine blk_drewN ?_ _ | refine blk_drew ?_ | refine blk_alloc ?_ _)); exact BK131.out) hb); have n1_ := Aside0.mk (below_step (by repeat (first | (with_reducible first | exact HB.out | apply below_alloc | apply pw_below_drewN | apply below_drew1 | refine below_set ?_ GE131.out) | exact HB.out)) hb); clear BK131; clear HB; have BK131 := n0_; have HB := n1_; clear n0_ n1_; (try clear hb); (try clear hb2); (try clear hk); (try clear hi)))
       go_ret
       exact ⟨by first | rfl | (simp [errW_none, errW_some] <;> rfl) | (simp [*, errW_none, errW_some] <;> rfl), by repeat (first | (with_reducible first | exact HB.out | apply below_alloc | apply pw_below_drewN | apply below_drew1 | refine below_set ?_ GE131.out) | exact HB.out)⟩
     ·rw [if_neg c14] at H
      have c14b0 : (a1_0 == 3) = false := beq_eq_false_iff_ne.mpr c14
      have c14b1 : (a1_0 != 3) = true := bne_iff_ne.mpr c14
      obtain rfl := Option.some.inj H
      have hcz34_0 : wc.cell? ⟨gb131, 0, none⟩ = some (.int .i64 a1_0) := (blk_cell BK131.out 0).trans rfl
      have hcz34_1 : wc.cell? ⟨gb131, 1, none⟩ = some (.string a1_1) := (blk_cell BK131.out 1).trans rfl
      have hcz34_2 : wc.cell? ⟨gb131, 2, none⟩ = some (.slice A1_2 l1_2.length c1_2) := (blk_cell BK131.out 2).trans rfl
      have hcz34_3 : wc.cell? ⟨gb131, 3, none⟩ = some (.int .i64 a1_3) := (blk_cell BK131.out 3).trans rfl
      have hcz34_4 : wc.cell? ⟨gb131, 4, none⟩ = some (.slice A1_4 l1_4.length c1_4) := (blk_cell BK131.out 4).trans rfl
      have hcz34_5 : wc.cell? ⟨gb131, 5, none⟩ = some (.int .i64 a1_5) := (blk_cell BK131.out 5).trans rfl
      have hcz34_6 : wc.cell? ⟨gb131, 6, none⟩ = some (.int .u8 a1_6) := (blk_cell BK131.out 6).trans rfl
      have hfz34_0 := blk_frozen BK131.out 0
      have hfz34_1 := blk_frozen BK131.out 1
      have hfz34_2 := blk_frozen BK131.out 2
      have hfz34_3 := blk_frozen BK131.out 3
      have hfz34_4 := blk_frozen BK131.out 4
      have hfz34_5 := blk_frozen BK131.out 5
      have hfz34_6 := blk_frozen BK131.out 6
      go_wp2
      go_ret
      exact ⟨by first | rfl | (simp [errW_none, errW_some] <;> rfl) | (simp [*, errW_none, errW_some] <;> rfl), by repeat (first | (with_reducible first | exact HB.out | apply below_alloc | apply pw_below_drewN | apply below_drew1 | refine below_set ?_ GE131.out) | exact HB.out)⟩

/-! ### model_copied: function 79 (told by hand) -/
def model_copied.f (l0 : List S45) : Option (List S45) := if l0.length ≤ 1000000 ∧ (l0.all fun y => decide (y.f1.length ≤ 140737488355328)) = true then some l0 else none
theorem model_copied.info : (Tryd.prog.info? 45).map (fun i => (i.zero, i.size, i.bytes)) = some (some (.agg #[.string ByteArray.empty, .slice none 0 0]), 2, 40) := by kernel_rfl
/-- What a region holds: a file's own copy. -/
abbrev model_copied.Bx (gb : Nat) (n : ByteArray) (v : Value) (W : World) : Prop := W.heap[gb]? = some (.cells #[.string n, v] 45 (0, 0)) ∧ W.cell? ⟨gb, 0, none⟩ = some (.string n) ∧ W.cell? ⟨gb, 1, none⟩ = some v
theorem model_copied.bx {gb : Nat} {n : ByteArray} {v : Value} {W : World} (h : W.heap[gb]? = some (.cells #[.string n, v] 45 (0, 0))) : model_copied.Bx gb n v W := ⟨h, by rw [cell_of_row W gb 0 _ _ (0, 0) h]; rfl, by rw [cell_of_row W gb 1 _ _ (0, 0) h]; rfl⟩
theorem model_copied.elem (y : S45) {W W' : World} {A2 : Option Addr} {c2 : Nat} (h : Kd.R (Kd.int .u8) 5 W' W.heap.size (fun _ => True) (.slice A2 y.f1.length c2) y.f1) : Kd.FK k45 W' (fun q => W.heap.size ≤ q) y [.string y.f0, .slice A2 y.f1.length c2] :=
  k45_mkF _ _ y (Kd.R_reads' h).2.1 (Kd.R_F (Kd.R_mono (Kd.R_bound h) (fun q hq => hq.2.1)))
set_option maxRecDepth 100000 in
set_option maxHeartbeats 4000000 in
theorem model_copied.go (A0 : Option Addr) (c0 : Nat) (l0 : List (S45)) (w : World) (hr0 : Kd.C k45 w A0 l0.length l0) (hlen : l0.length ≤ 1000000) (hd : ∀ y ∈ l0, y.f1.length ≤ 140737488355328) :
    Calls Tryd.prog 79 #[.slice A0 l0.length c0] w fun e w' => ∃ g : Nat, e = .returned (.slice (some ⟨g, 0, none⟩) l0.length l0.length) ∧ w.heap.size ≤ g ∧ Kd.N k45 45 w' w.heap.size (fun k_ => (w.heap.size ≤ k_)) (.slice (some ⟨g, 0, none⟩) l0.length l0.length) l0 ∧ Below w.heap.size w w' := by
  have HL := Aside0.mk hlen
  have hel : ∀ i, (hi : i < l0.length) → ∃ ad A1 c1, A0 = some ad ∧ l0[i].f1.length ≤ c1 ∧ ∀ W, Below w.heap.size w W → W.cell? (ad.add (i * 2)) = some (.string l0[i].f0) ∧ W.cell? ⟨(ad.add (i * 2)).block, (ad.add (i * 2)).off + 1, none⟩ = some (.slice A1 l0[i].f1.length c1) ∧ (Kd.int .u8).C W A1 l0[i].f1.length l0[i].f1 := fun i hi => by
    obtain ⟨ad, A1, c1, e, h1, h2, h3, h4⟩ := at_T45 hr0 (i : Int) (by omega) (by omega)
    have er : rd_T45 l0 (i : Int) = l0[i] := by
      simp [rd_T45, hi]
    rw [er, Int.toNat_natCast] at h1
    rw [er, Int.toNat_natCast] at h2
    rw [er] at h3 h4
    have hlt : (ad.add (i * 2)).block < w.heap.size := World.block_lt_of_cell? w _ h1
    exact ⟨ad, A1, c1, e, h3, fun W hW => ⟨(hW.cell (p := ad.add (i * 2)) hlt).trans h1, (hW.cell (p := ⟨(ad.add (i * 2)).block, (ad.add (i * 2)).off + 1, none⟩) hlt).trans h2, Kd.C_below h4 hW⟩⟩
  have HE := Aside0.mk hel
  have HD := Aside0.mk hd
  have hlz : (l0.length : Int) ≤ 1000000 := by omega
  obtain ⟨i0, hi, hzz⟩ := Option.map_eq_some_iff.1 model_copied.info
  simp only [Prod.mk.injEq] at hzz
  obtain ⟨hz0, hz1, hz2⟩ := hzz
  have hmk : ∀ W, (Instr.makeSlice 36 (.int .i64 0) (.int .i64 (l0.length : Int))).run Tryd.prog W = .ok (.slice (some ⟨W.heap.size, 0, none⟩) 0 l0.length) (W.alloc (.cells (madeCells (Value.agg #[.string ByteArray.empty, .slice none 0 0]).cells (l0.length * 2)) 45)) := fun W => by
    have := run_make (P := Tryd.prog) (w := W) 36 45 i0 _ Tryd.underlying36 hi hz0 .i64 .i64 0 (l0.length : Int) (by omega) (by omega) (by rw [hz2]; omega) (by omega)
    rw [hz1] at this
    simpa using this
  have HI := Aside0.mk hi
  have HZ1 := Aside0.mk hz1
  have hN0 : Kd.N k45 45 (w.alloc (.cells (madeCells (Value.agg #[.string ByteArray.empty, .slice none 0 0]).cells (l0.length * 2)) 45)) w.heap.size (fun k_ => w.heap.size ≤ k_) (.slice (some ⟨w.heap.size, 0, none⟩) 0 l0.length) [] :=
    ⟨fun k hk => by have : w.heap.size = k := by simpa [Value.ownBlock] using hk
                    omega, [], rfl, ⟨fun k hk => hk.symm, [], World.ownsRow_made w _ l0.length (Nat.le_refl _) (by simp only [maxLen]; omega) (by rw [size_madeCells]; rfl), Reps.none _ _⟩, fun j x c hx => by simp at hx⟩
  have HN0 := Aside0.mk hN0
  have HB0 := Aside0.mk (below_alloc (Below.refl w.heap.size w) (.cells (madeCells (Value.agg #[.string ByteArray.empty, .slice none 0 0]).cells (l0.length * 2)) 45))
  clear hel hd hr0 hi hz0 hz1 hz2 hN0
  go_enter Tryd.func79, Tryd.ntmps79
  generalize hmc : Obj.cells (madeCells (Value.agg #[.string ByteArray.empty, .slice none 0 0]).cells (l0.length * 2)) 45 = mc at *
  go_wp2_with fail
  generalize hgg : w.heap.size = g at *
  have HGG := Aside0.mk hgg
  clear hgg hmc
  go_loopw [3, 11] (fun s3 s11 w' => ∃ k : Nat, k ≤ l0.length ∧ s3 = .slice (some ⟨g, 0, none⟩) k l0.length ∧ s11 = .int .i64 k ∧ Aside0 (Below g w w') ∧ Aside0 (Kd.N k45 45 w' g (fun k_ => g ≤ k_) (.slice (some ⟨g, 0, none⟩) k l0.length) (l0.take k))) (fun _ i _ => l0.length - (intOf i).toNat)
  case atStart => exact ⟨0, Nat.zero_le _, rfl, rfl, HB0, HN0⟩
  case round =>
    obtain ⟨k, hk, rfl, rfl, HB, HO⟩ := hrel
    by_cases hlt : k < l0.length
    · obtain ⟨ad, A1, c1, rfl, hle, hcs⟩ := HE.out k hlt
      obtain ⟨hx0, hx1, hC⟩ := hcs _ HB.out
      have HCS := Aside0.mk hcs
      have htk : l0.take (k + 1) = l0.take k ++ [l0[k]] := List.take_succ_eq_append_getElem hlt
      have HTK := Aside0.mk htk
      have hdk := HD.out l0[k] (List.getElem_mem hlt)
      have HDK := Aside0.mk hdk
      have hltz : (k : Int) < (l0.length : Int) := by omega
      clear hcs htk hdk hC
      generalize l0[k] = y at *
      go_wp2_with fail
      have hG0 : (wr.alloc (.cells #[.string y.f0, .slice A1 y.f1.length c1] 45)).heap[wr.heap.size]? = some (.cells #[.string y.f0, .slice A1 y.f1.length c1] 45 (0, 0)) := YtcfcbkcaondfcaaDoorMpHelp.heap_new wr _
      have hB0 : Below g w (wr.alloc (.cells #[.string y.f0, .slice A1 y.f1.length c1] 45)) := HGG.out ▸ below_alloc (HGG.out.symm ▸ HB.out) _
      have hN0 := Kd.N_alloc HO.out (.cells #[.string y.f0, .slice A1 y.f1.length c1] 45)
      have hC0 := (HCS.out _ hB0).2.2
      have hgl : g < wr.heap.size := Kd.N_lt HO.out g rfl
      have hbl : wr.heap.size < (wr.alloc (.cells #[.string y.f0, .slice A1 y.f1.length c1] 45)).heap.size := by rw [YtcfcbkcaondfcaaDoorMpHelp.size_new]; omega
      generalize wr.alloc (.cells #[.string y.f0, .slice A1 y.f1.length c1] 45) = W0 at hG0 hB0 hN0 hC0 hbl ⊢
      generalize wr.heap.size = gb at *
      have HG0 := Aside0.mk hG0
      have HB1 := Aside0.mk hB0
      have HN1 := Aside0.mk hN0
      have HC1 := Aside0.mk hC0
      have HBL := Aside0.mk hbl
      have HGL := Aside0.mk hgl
      have hcl := fun W (hb : Below W0.heap.size W0 W) => slices_Clone_byte_byte.calls A1 c1 y.f1 y.f1 W (Kd.C_below HC1.out hb) hle (by unfold slices_Clone_byte_byte.f; rw [if_pos HDK.out])
      have HCL := Aside0.mk hcl
      clear hG0 hB0 hN0 hC0 hbl hgl hcl hx0 hx1
      have hgW : g ≤ W0.heap.size := by have := HBL.out; have := HGL.out; omega
      go_region_held3 (fun W => W.heap[gb]? = some (.cells #[.string y.f0, .slice A1 y.f1.length c1] 45 (0, 0)) ∧ W.cell? ⟨gb, 0, none⟩ = some (.string y.f0) ∧ W.cell? ⟨gb, 1, none⟩ = some (.slice A1 y.f1.length c1)) ((first | (with_reducible exact model_copied.bx (blk_drew HG0.out)) | (with_reducible exact model_copied.bx (blk_below (blk_drew HG0.out) hb3)) | (with_reducible exact model_copied.bx (blk_alloc (blk_below (blk_drew HG0.out) hb3) _)) | (with_reducible exact model_copied.bx (blk_grown (blk_below (blk_drew HG0.out) hb3) hg9 (by have := HGL.out; simp; omega))))) (first | (go_at_call 80; refine (HCL.out _ (below_drew1 (Below.refl _ _))).mono ?_; rintro e w3 ⟨v, rfl, hRv, hb3⟩; obtain ⟨A2, c2, rfl⟩ := Kd.R_slice hRv) | (refine YtcfcbkcaondfcaaDoorMpRows.N_append_spare_step k45 (w0 := w) g (by rfl) _ _ 36 45 i0 (by rfl) Tryd.underlying36 HI.out HZ1.out (by decide) g k l0.length (l0.take k) y [.string y.f0, .slice A2 y.f1.length c2] (fun k_ => g ≤ k_) (fun k_ => W0.heap.size ≤ k_) (by rfl) (by rfl) (model_copied.elem y hRv) (fun q (hq : W0.heap.size ≤ q) => ⟨Nat.le_trans hgW hq, Nat.ne_of_gt (Nat.lt_of_lt_of_le (Nat.lt_trans HGL.out HBL.out) hq)⟩) (Kd.N_below (Kd.N_drew HN1.out) hb3) ((below_drew1 HB1.out).trans (hb3.mono hgW)) (Nat.le_refl _) (fun q hq => Nat.le_trans hgW (Nat.le_trans hb3.size hq)) (by omega) ?_; intro w9 hN9 hB9 hg9))
      have HN9 := Aside0.mk hN9
      have HB9 := Aside0.mk hB9
      clear hN9 hB9 hg9 hRv hb3
      go_wp2
      go_roundw
      case rel => exact ⟨k + 1, by omega, rfl, by go_num, HB9, ⟨by rw [HTK.out]; exact HN9.out⟩⟩
      case measure => simp [intOf]; omega
    · obtain rfl : k = l0.length := by omega
      have hO := HO.out
      rw [List.take_length] at hO
      have HO2 := Aside0.mk hO
      clear hO
      go_wp2
      go_ret
      exact ⟨g, rfl, Nat.le_of_eq HGG.out, by rw [HGG.out]; exact HO2.out, by rw [HGG.out]; exact HB.out⟩


end Go.Proofs.YtcfcbkcaondfcaaDoor.PPlanJoins
