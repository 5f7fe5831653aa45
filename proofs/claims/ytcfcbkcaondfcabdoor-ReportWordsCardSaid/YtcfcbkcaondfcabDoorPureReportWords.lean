/- Statement 33.1: the words of kinds and errors, and back, are the document's. -/
import Derived.Test.YtcfcbkcaondfcabDoorPReportWordsx4
import Derived.OpenShut
namespace Go.Proofs.YtcfcbkcaondfcabDoor.Pure
open Go.RowKit Go.Proofs.YtcfcbkcaondfcabDoor.PReportWords Go.Proofs.YtcfcbkcaondfcabDoorW.PrintWords Go.Proofs.YtcfcbkcaondfcabDoorW.PrintLast
theorem w64 {n : Int} (h : -9223372036854775808 ≤ n) (h' : n ≤ 9223372036854775807) : wrap64 n = n := by
  unfold wrap64
  omega
theorem toList_inj {a b : ByteArray} (h : a.toList = b.toList) : a = b := by
  rw [ByteArray.toList_eq, ByteArray.toList_eq] at h
  exact Go.WideShapes.bytes_inj h
theorem int_cases {P : Int → Prop} (n : Nat) (h : ∀ k < n, P (k : Nat)) (i : Int) (h0 : 0 ≤ i) (h1 : i < n) : P i := by
  have := h i.toNat (by omega)
  rwa [Int.toNat_of_nonneg h0] at this
theorem refWord_mem (i : Int) (h0 : 1 ≤ i) (h1 : i < 19) : ∃ t, bindleref33_Word.f i = some t ∧ t ∈ report_kinds.words.drop 1 := by
  have key : ∀ k < 19, 1 ≤ k → ∃ t ∈ report_kinds.words.drop 1, bindleref33_Word.f ((k : Nat) : Int) = some t := by decide +kernel
  have := int_cases 19 (P := fun i => 1 ≤ i → ∃ t ∈ report_kinds.words.drop 1, bindleref33_Word.f i = some t) (fun k hk h => key k hk (by omega)) i (by omega) (by omega) h0
  obtain ⟨t, a, b⟩ := this
  exact ⟨t, b, a⟩
theorem refCode_mem (i : Int) (h0 : 0 ≤ i) (h1 : i < 17) : ∃ t, bindleref33_Code.f i = some t ∧ t ∈ report_codes.words := by
  have key : ∀ k < 17, ∃ t ∈ report_codes.words, bindleref33_Code.f ((k : Nat) : Int) = some t := by decide +kernel
  obtain ⟨t, a, b⟩ := int_cases 17 (P := fun i => ∃ t ∈ report_codes.words, bindleref33_Code.f i = some t) (fun k hk => key k hk) i h0 h1
  exact ⟨t, b, a⟩
theorem word_ref (i : Int) : ∃ t, report_Word.f i = some t ∧ bindleref33_Word.f i = some t := by
  by_cases h : 1 ≤ i ∧ i ≤ 18
  · have key : ∀ k < 19, 1 ≤ k → report_Word.f ((k : Nat) : Int) = bindleref33_Word.f ((k : Nat) : Int) := by decide +kernel
    have := int_cases 19 (P := fun i => 1 ≤ i → report_Word.f i = bindleref33_Word.f i) (fun k hk h => key k hk (by omega)) i (by omega) (by omega) h.1
    exact ⟨_, rfl, this.symm⟩
  · refine ⟨⟨#[110, 111, 110, 101]⟩, ?_, ?_⟩
    · unfold report_Word.f
      rw [if_neg h]
    · unfold bindleref33_Word.f
      repeat rw [if_neg (by omega)]
theorem code_ref (i : Int) : ∃ t, report_Code.f i = some t ∧ bindleref33_Code.f i = some t := by
  by_cases h : 0 ≤ i ∧ i ≤ 16
  · have key : ∀ k < 17, report_Code.f ((k : Nat) : Int) = bindleref33_Code.f ((k : Nat) : Int) := by decide +kernel
    have := int_cases 17 (P := fun i => report_Code.f i = bindleref33_Code.f i) (fun k hk => key k hk) i (by omega) (by omega)
    exact ⟨_, rfl, this.symm⟩
  · refine ⟨⟨#[111, 116, 104, 101, 114]⟩, ?_, ?_⟩
    · unfold report_Code.f
      rw [if_neg h]
    · unfold bindleref33_Code.f
      rw [Option.bind_some]
      by_cases h0 : i < 0
      · rw [if_pos h0]
      · rw [if_neg h0, if_pos]
        show (17 : Int) ≤ i
        omega
theorem kindAt_out (s : List UInt8) : ∀ (l : List ByteArray) (k : Nat), (∀ (j : Nat) (w : ByteArray), l[j]? = some w → 0 < k + j → s = w.toList → False) → report_Kind.at_ l k s = 0
  | [], _, _ => rfl
  | w :: l, k, h => by
    rw [report_Kind.at_, if_neg, kindAt_out s l (k + 1) fun j v hv hp => h (j + 1) v hv (by omega)]
    intro e
    simp only [Bool.and_eq_true, beq_iff_eq, decide_eq_true_eq] at e
    exact h 0 w rfl e.2 e.1.symm
theorem errAt_out (s : List UInt8) : ∀ (l : List ByteArray) (k : Nat), (∀ w ∈ l, s = w.toList → False) → report_Error.at_ l k s = (0, false)
  | [], _, _ => rfl
  | w :: l, k, h => by
    rw [report_Error.at_, if_neg, errAt_out s l (k + 1) fun v hv => h v (List.mem_cons_of_mem _ hv)]
    intro e
    exact h w List.mem_cons_self (beq_iff_eq.1 e).symm
theorem lives_true : bindlelaw33_lives.f 9 = some true := by decide +kernel
abbrev rkw : List ByteArray := report_kinds.words.drop 1
abbrev rcw : List ByteArray := report_codes.words
theorem words_right : ∀ w ∈ rkw ++ rcw, bindlelaw33_ReportWords.l0 60 w 0 1 = some true := by decide +kernel
theorem l0_out (x : ByteArray) (hx : x ∉ rkw ++ rcw) (k : Nat) : ∀ n : Nat, n ≤ 18 → bindlelaw33_ReportWords.l0 (k + n) x 0 (19 - n) = bindlelaw33_ReportWords.l0 k x 0 19
  | 0, _ => rfl
  | n + 1, hn => by
    rw [← l0_out x hx k n (by omega)]
    obtain ⟨t, ht, hm⟩ := refWord_mem (19 - ((n + 1 : Nat) : Int)) (by omega) (by omega)
    show bindlelaw33_ReportWords.l0 (k + n + 1) x 0 _ = _
    rw [bindlelaw33_ReportWords.l0, if_pos (by omega), ht, Option.bind_some, if_neg (fun e => hx (by rw [← toList_inj e]; exact List.mem_append_left _ hm)), w64 (by omega) (by omega)]
    congr 1
    omega
theorem l1_out (x : ByteArray) (hx : x ∉ rkw ++ rcw) (k : Nat) : ∀ n : Nat, n ≤ 17 → bindlelaw33_ReportWords.l1 (k + n) x 0 0 false (17 - n) = bindlelaw33_ReportWords.l1 k x 0 0 false 17
  | 0, _ => rfl
  | n + 1, hn => by
    rw [← l1_out x hx k n (by omega)]
    obtain ⟨t, ht, hm⟩ := refCode_mem (17 - ((n + 1 : Nat) : Int)) (by omega) (by omega)
    show bindlelaw33_ReportWords.l1 (k + n + 1) x 0 0 false _ = _
    rw [bindlelaw33_ReportWords.l1, if_pos (by omega), ht, Option.bind_some, if_neg (fun e => hx (by rw [← toList_inj e]; exact List.mem_append_right _ hm)), w64 (by omega) (by omega)]
    congr 1
    omega
theorem ReportWords : bindlelaw33_ReportWords.Pure := by
  intro a0 a1 a2 _ _ _
  refine ⟨61, ?_⟩
  obtain ⟨t, h1, h2⟩ := word_ref a0
  obtain ⟨u, h3, h4⟩ := code_ref a1
  unfold bindlelaw33_ReportWords.f
  rw [h1, h2, h3, h4]
  simp only [Option.bind_some, if_true, bne_self_eq_false]
  rw [bindlelaw33_ReportWords.j0, if_neg (by simp)]
  by_cases hx : a2 ∈ rkw ++ rcw
  · exact words_right a2 hx
  · have e0 := l0_out a2 hx 42 18 (Nat.le_refl _)
    have e1 := l1_out a2 hx 24 17 (Nat.le_refl _)
    have hk : report_Kind.f a2 = some 0 := congrArg some (kindAt_out _ _ 0 fun j w hw hp e => hx (by
      rw [toList_inj e]
      refine List.mem_append_left _ (List.mem_iff_getElem?.2 ⟨j - 1, ?_⟩)
      rw [List.getElem?_drop, show 1 + (j - 1) = j by omega]
      exact hw))
    have he : report_Error.f a2 = some (0, false) := congrArg some (errAt_out _ _ 0 fun w hw e => hx (by rw [toList_inj e]; exact List.mem_append_right _ hw))
    refine e0.trans ?_
    rw [bindlelaw33_ReportWords.l0, if_neg (by omega)]
    refine e1.trans ?_
    rw [bindlelaw33_ReportWords.l1, if_neg (by omega), he, Option.bind_some, hk, Option.bind_some]
    have hl : bindlelaw33_lives.f 23 = some true := by decide +kernel
    rw [if_pos rfl, if_pos rfl, if_pos (by rfl), hl]
    rfl
end Go.Proofs.YtcfcbkcaondfcabDoor.Pure
