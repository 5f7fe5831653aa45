/- The machine side of a law: for each Go function that it uses a Lean function with the same answers, and the proof that the Go code comes to them; or the row of the law over these. Written by a program of this session. -/
import Derived.Test.YtkccjohhakljnaaGreatDoorPTreeWalksx0
import Derived.Test.YtkccjohhakljnaaGreatDoorPTreeWalksx2
import Derived.Test.YtkccjohhakljnaaGreatDoorPTreeWalksx3
import Derived.Test.YtkccjohhakljnaaGreatDoorPTreeWalksx4
import Derived.Test.YtkccjohhakljnaaGreatDoorPTreeWalksx7
namespace Go.Proofs.YtkccjohhakljnaaGreatDoor.PTreeWalks
open Go.RowKit Go.Proofs.YtkccjohhakljnaaGreatDoorW.PrintWords Go.Proofs.YtkccjohhakljnaaGreatDoorW.PrintLast Go.Proofs.YtkccjohhakljnaaGreatDoorW.PrintMore
attribute [local go_sem] max2_int min2_int max_two min_two max_three min_three max_four min_four   -- for this text's walks alone
set_option linter.unusedVariables false
set_option linter.unusedSimpArgs false

/-! ### bindlelaw39_TreeWalks: function 4 (told by hand) -/
/-- A node that is told, and the document's. -/
def bindlelaw39_TreeWalks.okAt (x : YtkccjohhakljnaaGreatDoorTree.PN) (y : S36) : Bool := decide (x.1 = y.f4 ∧ bindlelaw39_node.f x.2.1 x.2.2.1 x.2.2.2.1 x.2.2.2.2 y.f0 y.f1 y.f2 y.f3 y.f4 y.f5 = some true)
def bindlelaw39_TreeWalks.okW (out : List YtkccjohhakljnaaGreatDoorTree.PN) (ws : List S36) : Prop := out.length = ws.length ∧ ∀ i : Nat, (h : i < out.length) → bindlelaw39_TreeWalks.okAt out[i] (rd_T36 ws i) = true
instance (out : List YtkccjohhakljnaaGreatDoorTree.PN) (ws : List S36) : Decidable (bindlelaw39_TreeWalks.okW out ws) := by unfold bindlelaw39_TreeWalks.okW; exact inferInstance
def bindlelaw39_TreeWalks.f (k : Nat) (l0 : List S49) (a1 : ByteArray) (a2 : Int) : Option Bool := (bindlelaw39_great.f k l0).bind fun t => if t = true ∨ 300 < a1.size then bindlelaw39_lives.f k else (bindleref39_Walk.f k l0 a1).bind fun ws => (tree_Text.f k l0 a1).bind fun s => (bindleref39_Text.f k l0 a1).bind fun s2 => (YtkccjohhakljnaaGreatDoorTree.walkF (tree_Text.listF k l0) tree_Path.f k a1).bind fun out => if s = s2 ∧ ws.length ≤ 1000000 ∧ bindlelaw39_TreeWalks.okW out ws then bindlelaw39_lives.f k else none
/-- What is kept while the law runs: the box of the number. -/
def bindlelaw39_TreeWalks.P (z : Int) (w W : World) : Prop := Boxed W w.heap.size 3 (.int .i64 z) ∧ Below w.heap.size w W
theorem bindlelaw39_TreeWalks.P.step {z : Int} {w W W' : World} (h : bindlelaw39_TreeWalks.P z w W) (hb : Below W.heap.size W W') : bindlelaw39_TreeWalks.P z w W' :=
  ⟨h.1.kept (grown_of_below hb none) (by simp), h.2.trans (hb.mono h.2.size)⟩
theorem bindlelaw39_TreeWalks.P.new (z : Int) (w : World) : bindlelaw39_TreeWalks.P z w (w.alloc (.cells #[.int .i64 z] 3)) := ⟨Boxed.new w _ _, (Below.refl _ w).alloc (Nat.le_refl _) _⟩
theorem bindlelaw39_TreeWalks.bkeep {W W' : World} {B : Nat} {t : TypeId} {v : Value} (hb : Below W.heap.size W W') (h : Boxed W B t v) : Boxed W' B t v := (hb.block B h.lt).trans h
theorem bindlelaw39_TreeWalks.last_of {α : Type} {pre out : List α} {x : α} (h : pre ++ [x] <+: out) : ∃ h : pre.length < out.length, x = out[pre.length] := by
  obtain ⟨t, rfl⟩ := h
  refine ⟨by simp, ?_⟩
  simp
set_option maxRecDepth 100000 in
set_option maxHeartbeats 4000000 in
theorem bindlelaw39_TreeWalks.calls (k : Nat) (A0 : Option Addr) (c0 : Nat) (l0 : List S49) (a1 : ByteArray) (a2 : Int) (r : Bool) (w : World) (hr0 : Kd.C k49 w A0 l0.length l0) (hc0 : l0.length ≤ c0) (ht_ : YtkccjohhakljnaaGreatDoorTab.TabOK w) (h : bindlelaw39_TreeWalks.f k l0 a1 a2 = some r) :
    Calls Tryz.prog 4 #[.slice A0 l0.length c0, .string a1, .int .i64 a2] w fun e w' => e = .returned (.bool r) ∧ Below w.heap.size w w' := by
  unfold bindlelaw39_TreeWalks.f at h
  obtain ⟨t, hg, h⟩ := Option.bind_eq_some_iff.1 h
  have HG := Aside0.mk hg
  have HT := Aside0.mk ht_
  have HR0 := Aside0.mk hr0
  have HC0 := Aside0.mk hc0
  clear hg ht_ hr0 hc0
  have hP0 := bindlelaw39_TreeWalks.P.new a2 w
  by_cases hc : t = true ∨ 300 < a1.size
  case pos =>
    rw [if_pos hc] at h
    have HL := Aside0.mk h
    clear h
    go_enter Tryz.func4, Tryz.ntmps4
    go_upto_region 1 with (fail)
    generalize w.alloc (.cells #[.int .i64 a2] 3) = W0 at hP0 ⊢
    cases t with
    | true =>
      go_wp2_with (first | (go_at_call 6; refine (bindlelaw39_great.calls k _ _ l0 true _ (Kd.C_below HR0.out hP0.2) HC0.out HG.out).mono ?_; rintro e w1 ⟨rfl, hb1⟩; have hP1 := hP0.step hb1) | (go_at_call 7; refine (bindlelaw39_lives.calls k r _ (YtkccjohhakljnaaGreatDoorTab.tab_below HT.out hP1.2) HL.out).mono ?_; rintro e w2 ⟨rfl, hb2⟩; have hP2 := hP1.step hb2) | fail)
      go_ret
      exact ⟨rfl, hP2.2⟩
    | false =>
      have h3 : 300 < a1.size := hc.resolve_left (by decide)
      have h3d : decide (300 < (a1.size : Int)) = true := decide_eq_true (by omega)
      go_wp2_with (first | (go_at_call 6; refine (bindlelaw39_great.calls k _ _ l0 false _ (Kd.C_below HR0.out hP0.2) HC0.out HG.out).mono ?_; rintro e w1 ⟨rfl, hb1⟩; have hP1 := hP0.step hb1) | (go_at_call 7; refine (bindlelaw39_lives.calls k r _ (YtkccjohhakljnaaGreatDoorTab.tab_below HT.out hP1.2) HL.out).mono ?_; rintro e w2 ⟨rfl, hb2⟩; have hP2 := hP1.step hb2) | fail)
      go_ret
      exact ⟨rfl, hP2.2⟩
  case neg =>
    rw [if_neg hc] at h
    replace h := Option.bind_eq_some_iff.1 h
    obtain ⟨ws, hrw, h⟩ := h
    replace h := Option.bind_eq_some_iff.1 h
    obtain ⟨s, htx, h⟩ := h
    replace h := Option.bind_eq_some_iff.1 h
    obtain ⟨s2, htr, h⟩ := h
    replace h := Option.bind_eq_some_iff.1 h
    obtain ⟨out, hwa, h⟩ := h
    by_cases hcc : s = s2 ∧ ws.length ≤ 1000000 ∧ bindlelaw39_TreeWalks.okW out ws
    case neg => rw [if_neg hcc] at h; cases h
    rw [if_pos hcc] at h
    obtain ⟨rfl, hwl, hok⟩ := hcc
    have HL := Aside0.mk h
    have HRW := Aside0.mk hrw
    have HTX := Aside0.mk htx
    have HTR := Aside0.mk htr
    have HWA := Aside0.mk hwa
    have HOK := Aside0.mk hok
    clear h hrw htx htr hwa hok
    obtain rfl : t = false := by
      cases t with
      | true => exact absurd (Or.inl rfl) hc
      | false => rfl
    have h3 : a1.size ≤ 300 := by
      rcases Nat.lt_or_ge 300 a1.size with h | h
      · exact absurd (Or.inr h) hc
      · exact h
    have h3d : decide (300 < (a1.size : Int)) = false := decide_eq_false (by omega)
    clear hc
    go_enter Tryz.func4, Tryz.ntmps4
    go_upto_region 1 with (fail)
    generalize w.alloc (.cells #[.int .i64 a2] 3) = W0 at hP0 ⊢
    go_upto_region 4 with (first
      | (go_at_call 6; refine (bindlelaw39_great.calls k _ _ l0 false _ (Kd.C_below HR0.out hP0.2) HC0.out HG.out).mono ?_; rintro e W1 ⟨rfl, hb1⟩; have hP1 := hP0.step hb1; clear hb1 hP0)
      | (go_at_call 14; refine (bindleref39_Walk.calls k _ _ l0 a1 ws _ (Kd.C_below HR0.out hP1.2) HC0.out HRW.out).mono ?_; rintro e W2 ⟨v2, rfl, hR2, hb2⟩; have hP2 := hP1.step hb2; clear hb2 hP1; have hN2 := Kd.R_N hR2; obtain ⟨Aw, cw, rfl⟩ := Kd.N_slice hN2; have HCK := Aside0.mk (Kd.N_reads' hN2).2.2; clear hR2 hN2)
      | fail)
    have hP3 := hP2.step ((Below.refl _ _).alloc (Nat.le_refl _) (.cells #[.slice Aw ws.length cw] 29))
    have hbw := Boxed.new W2 29 (.slice Aw ws.length cw)
    have hs3 : (W2.alloc (.cells #[.slice Aw ws.length cw] 29)).heap.size = W2.heap.size + 1 := by simp
    have hB23 : Below W2.heap.size W2 (W2.alloc (.cells #[.slice Aw ws.length cw] 29)) := (Below.refl _ _).alloc (Nat.le_refl _) _
    generalize W2.alloc (.cells #[.slice Aw ws.length cw] 29) = W3 at hP3 hbw hs3 hB23 ⊢
    have hnil : ∀ (W : World) (f : Fn) (t b : Array Value), Sem.run Tryz.prog (binOp .eql 40 (.func f t b) .nilFunc) W = .ok (.bool false) W := fun _ _ _ _ => rfl
    go_upto_region 5 with (first
      | (go_at_call 15; refine ((callsIn_wide (n := 6)).1 (YtkccjohhakljnaaGreatDoorTree.Walk_in 6 A0 l0.length c0 a1 _)).mono ?_; rintro e W4 ⟨rfl, rfl⟩)
      | fail)
    have hP4 : bindlelaw39_TreeWalks.P a2 w ((W3.alloc (.cells #[.slice A0 l0.length c0] 22)).alloc (.cells #[.string a1] 9)) := (hP3.step ((Below.refl _ _).alloc (Nat.le_refl _) _)).step ((Below.refl _ _).alloc (Nat.le_refl _) _)
    have hbf := Boxed.new (W3.alloc (.cells #[.slice A0 l0.length c0] 22)) 9 (.string a1)
    have hbs := (Boxed.new W3 22 (.slice A0 l0.length c0)).alloc (.cells #[.string a1] 9)
    have hbw4 := (hbw.alloc (.cells #[.slice A0 l0.length c0] 22)).alloc (.cells #[.string a1] 9)
    rw [World.size_alloc] at hbf
    have hB24 : Below W2.heap.size W2 ((W3.alloc (.cells #[.slice A0 l0.length c0] 22)).alloc (.cells #[.string a1] 9)) := (hB23.alloc (by omega) _).alloc (by rw [World.size_alloc]; omega) _
    generalize ((W3.alloc (.cells #[.slice A0 l0.length c0] 22)).alloc (.cells #[.string a1] 9)) = W4 at hP4 hbf hbs hbw4 hB24 ⊢
    clear hP3 hbw hB23 hP2
    go_upto_region 7 with (first
      | (go_at_call 16; refine (tree_Text.calls k _ _ l0 a1 s _ (Kd.C_below HR0.out hP4.2) HC0.out (YtkccjohhakljnaaGreatDoorTab.tab_below HT.out hP4.2) HTX.out).mono ?_; rintro e W5 ⟨rfl, hb5⟩; have hP5 := hP4.step hb5)
      | (go_at_call 17; refine (bindleref39_Text.calls k _ _ l0 a1 s _ (Kd.C_below HR0.out hP5.2) HC0.out HTR.out).mono ?_; rintro e W6 ⟨rfl, hb6⟩; have hP6 := hP5.step hb6)
      | fail)
    have hb46 : Below W4.heap.size W4 W6 := hb5.trans (hb6.mono hb5.size)
    have hg46 := grown_of_below hb46 none
    have hbf6 := hbf.kept hg46 (by simp)
    have hbs6 := hbs.kept hg46 (by simp)
    have hbw6 := hbw4.kept hg46 (by simp)
    have hB26 := hB24.trans (hb46.mono hB24.size)
    clear hP4 hP5 hbf hbs hbw4 hB24 hb5 hb6 hb46 hg46
    have HC6 := Aside0.mk (Kd.C_below HCK.out hB26)
    clear HCK hB26
    go_upto_region 9 with (fail)
    have hB67 : Below W6.heap.size W6 ((W6.alloc (.cells #[.int .i64 0] 3)).alloc (.cells #[.bool true] 4)) := ((Below.refl _ _).alloc (Nat.le_refl _) _).alloc (by rw [World.size_alloc]; omega) _
    have hbn := Boxed.new (W6.alloc (.cells #[.int .i64 0] 3)) 4 (.bool true)
    have hbi := (Boxed.new W6 3 (.int .i64 0)).alloc (.cells #[.bool true] 4)
    rw [World.size_alloc] at hbn
    have hbf7 := (hbf6.alloc (.cells #[.int .i64 0] 3)).alloc (.cells #[.bool true] 4)
    have hbs7 := (hbs6.alloc (.cells #[.int .i64 0] 3)).alloc (.cells #[.bool true] 4)
    have hs7 : ((W6.alloc (.cells #[.int .i64 0] 3)).alloc (.cells #[.bool true] 4)).heap.size = W6.heap.size + 2 := by simp
    generalize ((W6.alloc (.cells #[.int .i64 0] 3)).alloc (.cells #[.bool true] 4)) = W7 at hB67 hbn hbi hbf7 hbs7 hs7 ⊢
    have hwl6 := hbw6.lt
    have htl6 := hP6.1.lt
    have hlen := HOK.out.1
    have key := YtkccjohhakljnaaGreatDoorTree.walk1f 18 (fun _ _ => rfl) #[.pointer (some ⟨W6.heap.size + 1, 0, none⟩), .pointer (some ⟨W6.heap.size, 0, none⟩), .pointer (some ⟨W2.heap.size, 0, none⟩), .pointer (some ⟨w.heap.size, 0, none⟩)] W3.heap.size (W3.heap.size + 1) W6.heap.size (W6.heap.size + 2) l0.length c0 A0 W6 (tree_Text.listF k l0) tree_Path.f a1 k out
      (fun pre W => ((Boxed W (W6.heap.size + 1) 4 (.bool true) ∧ Boxed W W6.heap.size 3 (.int .i64 (pre.length : Int))) ∧ Below W6.heap.size W6 W) ∧ ∀ j : Nat, 1 ≤ j → j ≤ pre.length → (j : Int) ≠ a2)
      (fun pre W => ((Boxed W (W6.heap.size + 1) 4 (.bool true) ∧ Boxed W W6.heap.size 3 (.int .i64 (pre.length : Int))) ∧ Below W6.heap.size W6 W) ∧ 1 ≤ pre.length ∧ (pre.length : Int) = a2)
      (fun fd ns hns => by
        unfold tree_Text.listF at hns
        obtain ⟨q, hq, hns⟩ := Option.bind_eq_some_iff.1 hns
        by_cases hl : q.length ≤ 1000000
        case neg => rw [if_neg hl] at hns; cases hns
        rw [if_pos hl] at hns
        obtain rfl := Option.some.inj hns
        refine ⟨by rw [List.length_map]; exact hl, fun W hB => (tree_List.calls k A0 c0 l0 fd q W (Kd.C_below (Kd.C_below HR0.out hP6.2) hB) HC0.out hq).mono ?_⟩
        rintro e W' ⟨v, he, hR, hb⟩
        exact ⟨v, he, tree_Text.nodes hR, hb⟩)
      (fun fd nm p hp W => (tree_Path.calls fd nm p W hp).mono fun e W' h => ⟨h.1, h.2.below⟩)
      (fun pre W W' hj hg => ⟨⟨⟨hj.1.1.1.kept hg (by simp), hj.1.1.2.kept hg (by simp)⟩, hj.1.2.trans (YtkccjohhakljnaaGreatDoorTree.below_of_grown hg hj.1.2.size)⟩, hj.2⟩)
      (fun pre x W hpx hj hnx => by
        obtain ⟨hil, rfl⟩ := bindlelaw39_TreeWalks.last_of hpx
        have hat := HOK.out.2 pre.length hil
        obtain ⟨hp4, hnode⟩ := of_decide_eq_true (show decide _ = true from hat)
        obtain ⟨ad, he, d0, d1, d2, d3, d4, d5⟩ := at_T36 (Kd.C_below HC6.out hj.1.2) (pre.length : Int) (by omega) (by omega)
        subst he
        simp only [Int.toNat_natCast] at d0 d1 d2 d3 d4 d5
        generalize rd_T36 ws (pre.length : Int) = y at hp4 hnode d0 d1 d2 d3 d4 d5
        rw [← hp4] at d4 hnode
        have := YtkccjohhakljnaaGreatDoorTree.walks1 (W6.heap.size + 1) W6.heap.size W2.heap.size w.heap.size W6.heap.size (W6.heap.size + 2) ws.length cw pre.length ad out[pre.length].1 y.f0 y.f1 y.f2 y.f5 a2 y.f3 out[pre.length].2 W (by omega) (by omega) (by omega) (by omega) (by omega) hwl6 htl6 hnx (by omega) hwl
          (fun W' => (bindlelaw39_node.calls _ _ _ _ _ _ _ _ _ _ true W' hnode).mono fun e W'' h => h)
          hj.1.1.1 hj.1.1.2 (bindlelaw39_TreeWalks.bkeep hj.1.2 hbw6) (bindlelaw39_TreeWalks.bkeep hj.1.2 hP6.1) d0 d1 d2 d3 d4 d5
        simp only [List.append_toArray, List.cons_append, List.nil_append]
        refine this.mono ?_
        rintro e W' ⟨rfl, b1, b2, hk⟩
        have el : ((pre ++ [out[pre.length]]).length : Int) = (pre.length : Int) + 1 := by simp
        by_cases hte : (pre.length : Int) + 1 = a2
        · refine .inr ⟨by rw [bne_eq_false_iff_eq.2 hte], ⟨⟨b1, by rw [el]; exact b2⟩, hj.1.2.trans hk.1⟩, by simp, by rw [el]; exact hte⟩
        · refine .inl ⟨by rw [bne_iff_ne.2 hte], ⟨⟨⟨b1, by rw [el]; exact b2⟩, hj.1.2.trans hk.1⟩, fun j h1 h2 => ?_⟩, hk⟩
          by_cases hjl : j ≤ pre.length
          · exact hj.2 j h1 hjl
          · have : (j : Int) = (pre.length : Int) + 1 := by omega
            rw [this]
            exact hte)
      HWA.out W7 hB67 hB67.size (by omega) hbs7.cell hbf7.cell ⟨⟨⟨hbn, hbi⟩, hB67⟩, fun j h1 h2 => by simp at h2; omega⟩
    rw [hs3] at key
    go_upto_region 10 with (first
      | (go_at_call 30; refine key.mono ?_; clear key; rintro e W8 ⟨⟨v8, rfl⟩, hh8⟩)
      | fail)
    have h8 : ∃ z : Int, ((Boxed W8 (W6.heap.size + 1) 4 (.bool true) ∧ Boxed W8 W6.heap.size 3 (.int .i64 z)) ∧ Below W6.heap.size W6 W8) ∧ z = if 0 < a2 ∧ a2 < (ws.length : Int) then a2 else (ws.length : Int) := by
      rcases hh8 with ⟨⟨h8, h8j⟩, _⟩ | ⟨q, hq, h8, hq1, hq2⟩
      · refine ⟨_, h8, ?_⟩
        rw [if_neg (fun ⟨h1, h2⟩ => h8j a2.toNat (by omega) (by omega) (by omega)), hlen]
      · refine ⟨_, h8, ?_⟩
        have := hq.length_le
        split <;> omega
    obtain ⟨z, ⟨⟨b8n, b8i⟩, hB8⟩, hz⟩ := h8
    clear hh8
    have hP8 : bindlelaw39_TreeWalks.P a2 w W8 := hP6.step hB8
    have b8w := bindlelaw39_TreeWalks.bkeep hB8 hbw6
    have q8n := b8n.cell
    have q8i := b8i.cell
    have q8w := b8w.cell
    have q8t := hP8.1.cell
    by_cases h1 : 0 < a2
    · have d1 : decide (0 < a2) = true := decide_eq_true h1
      by_cases h2 : a2 < (ws.length : Int)
      · have d2 : decide (a2 < (ws.length : Int)) = true := decide_eq_true h2
        rw [if_pos ⟨h1, h2⟩] at hz
        subst hz
        go_wp2_with (first | (go_at_call 7; refine (bindlelaw39_lives.calls k r _ (YtkccjohhakljnaaGreatDoorTab.tab_below HT.out hP8.2) HL.out).mono ?_; rintro e W9 ⟨rfl, hb9⟩) | fail)
        go_ret
        exact ⟨rfl, (hP8.step hb9).2⟩
      · have d2 : decide (a2 < (ws.length : Int)) = false := decide_eq_false h2
        rw [if_neg (fun h => h2 h.2)] at hz
        subst hz
        go_wp2_with (first | (go_at_call 7; refine (bindlelaw39_lives.calls k r _ (YtkccjohhakljnaaGreatDoorTab.tab_below HT.out hP8.2) HL.out).mono ?_; rintro e W9 ⟨rfl, hb9⟩) | fail)
        go_ret
        exact ⟨rfl, (hP8.step hb9).2⟩
    · have d1 : decide (0 < a2) = false := decide_eq_false h1
      rw [if_neg (fun h => h1 h.1)] at hz
      subst hz
      go_wp2_with (first | (go_at_call 7; refine (bindlelaw39_lives.calls k r _ (YtkccjohhakljnaaGreatDoorTab.tab_below HT.out hP8.2) HL.out).mono ?_; rintro e W9 ⟨rfl, hb9⟩) | fail)
      go_ret
      exact ⟨rfl, (hP8.step hb9).2⟩
/-- What is known of a value of this type that came in. -/
def good49 (x : S49) : Prop := (x.f0.size ≤ 140737488351232) ∧ (x.f1.length ≤ maxLen ∧ x.f1.length * 1 ≤ 140737488351232 ∧ ∀ e1 ∈ x.f1, (Lit.int .u8 e1).wf = true)

/-- THE ONE PURE STATEMENT of bindlelaw39_TreeWalks: ours to prove. -/
def bindlelaw39_TreeWalks.Pure : Prop := ∀ (x0 : List (S49)) (x1 : ByteArray) (x2 : Int), (x0.length ≤ maxLen ∧ x0.length * 40 ≤ 140737488351232 ∧ ∀ e2 ∈ x0, good49 e2) → x1.size ≤ 140737488351232 → (Lit.int .i64 x2).wf = true → ∃ k, bindlelaw39_TreeWalks.f k x0 x1 x2 = some true


end Go.Proofs.YtkccjohhakljnaaGreatDoor.PTreeWalks
