/- The machine side of a law: for each Go function that it uses a Lean function with the same answers, and the proof that the Go code comes to them; or the row of the law over these. Written by a program of this session. -/
import Derived.Test.YtkccjohhakljnaaGreatDoorPTreeSumsx0
import Derived.Test.YtkccjohhakljnaaGreatDoorPTreeSumsx2
import Derived.Test.YtkccjohhakljnaaGreatDoorPTreeSumsx3
import Derived.Test.YtkccjohhakljnaaGreatDoorPTreeSumsx4
namespace Go.Proofs.YtkccjohhakljnaaGreatDoor.PTreeSums
open Go.RowKit Go.Proofs.YtkccjohhakljnaaGreatDoorW.PrintWords Go.Proofs.YtkccjohhakljnaaGreatDoorW.PrintLast Go.Proofs.YtkccjohhakljnaaGreatDoorW.PrintMore
attribute [local go_sem] max2_int min2_int max_two min_two max_three min_three max_four min_four   -- for this text's walks alone
set_option linter.unusedVariables false
set_option linter.unusedSimpArgs false

/-! ### bindlelaw39_TreeSums: function 5 (told by hand) -/
def bindlelaw39_TreeSums.jF (k : Nat) (l0 : List S49) (p : ByteArray) : Int := (bindleref25_Find.f k l0 p).getD 0
/-- What the walk finds: a file, or a folder. -/
def bindlelaw39_TreeSums.good (k : Nat) (l0 : List S49) (x : YtkccjohhakljnaaGreatDoorTree.PN) : Bool := decide ((bindleref25_Find.f k l0 x.1).isSome = true ∧ (0 ≤ bindlelaw39_TreeSums.jF k l0 x.1 ∨ x.2.2.2.2 = true))
def bindlelaw39_TreeSums.cnt (k : Nat) (l0 : List S49) (l : List YtkccjohhakljnaaGreatDoorTree.PN) : Int := l.foldl (fun s x => if 0 ≤ bindlelaw39_TreeSums.jF k l0 x.1 then wrap64 (s + 1) else s) 0
theorem bindlelaw39_TreeSums.cnt_snoc (k : Nat) (l0 : List S49) (l : List YtkccjohhakljnaaGreatDoorTree.PN) (x : YtkccjohhakljnaaGreatDoorTree.PN) : bindlelaw39_TreeSums.cnt k l0 (l ++ [x]) = if 0 ≤ bindlelaw39_TreeSums.jF k l0 x.1 then wrap64 (bindlelaw39_TreeSums.cnt k l0 l + 1) else bindlelaw39_TreeSums.cnt k l0 l := by simp [bindlelaw39_TreeSums.cnt]
def bindlelaw39_TreeSums.subN (n : Int) (c : List S34) : Int := c.foldl (fun s x => wrap64 (s - x.f1)) n
def bindlelaw39_TreeSums.subB (n : Int) (c : List S34) : Int := c.foldl (fun s x => wrap64 (s - x.f2)) n
theorem bindlelaw39_TreeSums.subN_take (n : Int) (c : List S34) (i : Nat) (h : i < c.length) : bindlelaw39_TreeSums.subN n (c.take (i + 1)) = wrap64 (bindlelaw39_TreeSums.subN n (c.take i) - (rd_T34 c i).f1) := by
  have e : rd_T34 c (i : Int) = c[i] := by simp [rd_T34, h]
  unfold bindlelaw39_TreeSums.subN
  rw [List.take_succ_eq_append_getElem h, List.foldl_append, e]
  rfl
theorem bindlelaw39_TreeSums.subB_take (n : Int) (c : List S34) (i : Nat) (h : i < c.length) : bindlelaw39_TreeSums.subB n (c.take (i + 1)) = wrap64 (bindlelaw39_TreeSums.subB n (c.take i) - (rd_T34 c i).f2) := by
  have e : rd_T34 c (i : Int) = c[i] := by simp [rd_T34, h]
  unfold bindlelaw39_TreeSums.subB
  rw [List.take_succ_eq_append_getElem h, List.foldl_append, e]
  rfl
/-- The children have files, and rise by names. -/
def bindlelaw39_TreeSums.okC (c : List S34) : Prop := (∀ i : Nat, i < c.length → 1 ≤ (rd_T34 c i).f1) ∧ ∀ q : Nat, q < c.length → q + 1 < c.length → Op.bytesLess (rd_T34 c q).f0.toList (rd_T34 c ((q + 1 : Nat) : Int)).f0.toList = true
instance (c : List S34) : Decidable (bindlelaw39_TreeSums.okC c) := by unfold bindlelaw39_TreeSums.okC; exact inferInstance
def bindlelaw39_TreeSums.f (k : Nat) (l0 : List S49) (a1 : ByteArray) : Option Bool := (bindlelaw39_great.f k l0).bind fun t => if t = true ∨ 300 < a1.size then bindlelaw39_lives.f k else (tree_Total.f l0 a1).bind fun q => (tree_List.f k l0 a1).bind fun c => (YtkccjohhakljnaaGreatDoorTree.walkF (tree_Text.listF k l0) tree_Path.f k a1).bind fun out => if c.length ≤ 1000000 ∧ bindlelaw39_TreeSums.okC c ∧ bindlelaw39_TreeSums.subN q.1 c = 0 ∧ bindlelaw39_TreeSums.subB q.2 c = 0 ∧ out.all (bindlelaw39_TreeSums.good k l0) = true ∧ bindlelaw39_TreeSums.cnt k l0 out = q.1 then bindlelaw39_lives.f k else none
/-- What is kept while the law runs: the box of the files. -/
def bindlelaw39_TreeSums.P (A : Option Addr) (n c : Nat) (w W : World) : Prop := Boxed W w.heap.size 22 (.slice A n c) ∧ Below w.heap.size w W
theorem bindlelaw39_TreeSums.P.step {A : Option Addr} {n c : Nat} {w W W' : World} (h : bindlelaw39_TreeSums.P A n c w W) (hb : Below W.heap.size W W') : bindlelaw39_TreeSums.P A n c w W' :=
  ⟨h.1.kept (grown_of_below hb none) (by simp), h.2.trans (hb.mono h.2.size)⟩
theorem bindlelaw39_TreeSums.P.new (A : Option Addr) (n c : Nat) (w : World) : bindlelaw39_TreeSums.P A n c w (w.alloc (.cells #[.slice A n c] 22)) := ⟨Boxed.new w _ _, (Below.refl _ w).alloc (Nat.le_refl _) _⟩
set_option maxRecDepth 100000 in
set_option maxHeartbeats 4000000 in
theorem bindlelaw39_TreeSums.calls (k : Nat) (A0 : Option Addr) (c0 : Nat) (l0 : List S49) (a1 : ByteArray) (r : Bool) (w : World) (hr0 : Kd.C k49 w A0 l0.length l0) (hc0 : l0.length ≤ c0) (ht_ : YtkccjohhakljnaaGreatDoorTab.TabOK w) (h : bindlelaw39_TreeSums.f k l0 a1 = some r) :
    Calls Tryz.prog 5 #[.slice A0 l0.length c0, .string a1] w fun e w' => e = .returned (.bool r) ∧ Below w.heap.size w w' := by
  unfold bindlelaw39_TreeSums.f at h
  obtain ⟨t, hg, h⟩ := Option.bind_eq_some_iff.1 h
  have HG := Aside0.mk hg
  have HT := Aside0.mk ht_
  have HR0 := Aside0.mk hr0
  have HC0 := Aside0.mk hc0
  clear hg ht_ hr0 hc0
  have hP0 := bindlelaw39_TreeSums.P.new A0 l0.length c0 w
  have q0 := hP0.1.cell
  by_cases hc : t = true ∨ 300 < a1.size
  case pos =>
    rw [if_pos hc] at h
    have HL := Aside0.mk h
    clear h
    go_enter Tryz.func5, Tryz.ntmps5
    go_upto_region 1 with (fail)
    generalize w.alloc (.cells #[.slice A0 l0.length c0] 22) = W0 at hP0 q0 ⊢
    cases t with
    | true =>
      go_wp2_with (first | (go_at_call 6; refine (bindlelaw39_great.calls k _ _ l0 true _ (Kd.C_below HR0.out hP0.2) HC0.out HG.out).mono ?_; rintro e w1 ⟨rfl, hb1⟩; have hP1 := hP0.step hb1) | (go_at_call 7; refine (bindlelaw39_lives.calls k r _ (YtkccjohhakljnaaGreatDoorTab.tab_below HT.out hP1.2) HL.out).mono ?_; rintro e w2 ⟨rfl, hb2⟩; have hP2 := hP1.step hb2) | fail)
      go_ret
      exact ⟨rfl, hP2.2⟩
    | false =>
      have h3 : 300 < a1.size := hc.resolve_left (by decide)
      have h3d : decide (300 < (a1.size : Int)) = true := decide_eq_true (by omega)
      go_wp2_with (first | (go_at_call 6; refine (bindlelaw39_great.calls k _ _ l0 false _ (Kd.C_below HR0.out hP0.2) HC0.out HG.out).mono ?_; rintro e w1 ⟨rfl, hb1⟩; have hP1 := hP0.step hb1) | (go_at_call 7; refine (bindlelaw39_lives.calls k r _ (YtkccjohhakljnaaGreatDoorTab.tab_below HT.out hP1.2) HL.out).mono ?_; rintro e w2 ⟨rfl, hb2⟩; have hP2 := hP1.step hb2) | fail)
      go_ret
      exact ⟨rfl, hP2.2⟩
  case neg =>
    rw [if_neg hc] at h
    obtain ⟨⟨n, b⟩, hto, h⟩ := Option.bind_eq_some_iff.1 h
    obtain ⟨c, hli, h⟩ := Option.bind_eq_some_iff.1 h
    obtain ⟨out, hwa, h⟩ := Option.bind_eq_some_iff.1 h
    dsimp only at h
    by_cases hcc : c.length ≤ 1000000 ∧ bindlelaw39_TreeSums.okC c ∧ bindlelaw39_TreeSums.subN n c = 0 ∧ bindlelaw39_TreeSums.subB b c = 0 ∧ out.all (bindlelaw39_TreeSums.good k l0) = true ∧ bindlelaw39_TreeSums.cnt k l0 out = n
    case neg => rw [if_neg hcc] at h; cases h
    rw [if_pos hcc] at h
    obtain ⟨hcl, hok, hsn, hsb, hgo, hcn⟩ := hcc
    have HL := Aside0.mk h
    have HTO := Aside0.mk hto
    have HLI := Aside0.mk hli
    have HWA := Aside0.mk hwa
    have HGO := Aside0.mk hgo
    have HSN := Aside0.mk hsn
    have HSB := Aside0.mk hsb
    have HOK := Aside0.mk hok
    have HCN := Aside0.mk hcn
    clear h hto hli hwa hgo hsn hsb hok hcn
    obtain rfl : t = false := by
      cases t with
      | true => exact absurd (Or.inl rfl) hc
      | false => rfl
    have h3 : a1.size ≤ 300 := by
      rcases Nat.lt_or_ge 300 a1.size with h | h
      · exact absurd (Or.inr h) hc
      · exact h
    have h3d : decide (300 < (a1.size : Int)) = false := decide_eq_false (by omega)
    clear hc
    go_enter Tryz.func5, Tryz.ntmps5
    go_upto_region 1 with (fail)
    generalize w.alloc (.cells #[.slice A0 l0.length c0] 22) = W0 at hP0 q0 ⊢
    go_upto_region 5 with (first
      | (go_at_call 6; refine (bindlelaw39_great.calls k _ _ l0 false _ (Kd.C_below HR0.out hP0.2) HC0.out HG.out).mono ?_; rintro e W1 ⟨rfl, hb1⟩; have hP1 := hP0.step hb1; have q1 := hP1.1.cell; clear hb1 hP0 q0)
      | (go_at_call 8; refine (tree_Total.calls _ _ l0 a1 n b _ (Kd.C_below HR0.out hP1.2) HC0.out HTO.out).mono ?_; rintro e W2 ⟨rfl, hb2⟩; have hP2 := hP1.step hb2; have q2 := hP2.1.cell; clear hb2 hP1 q1)
      | (go_at_call 10; refine (tree_List.calls k _ _ l0 a1 c _ (Kd.C_below HR0.out hP2.2) HC0.out HLI.out).mono ?_; rintro e W3 ⟨v3, rfl, hR3, hb3⟩; have hP3 := hP2.step hb3; have q3 := hP3.1.cell; clear hb3 hP2 q2)
      | fail)
    -- the loop
    have hN3 := Kd.R_N hR3
    obtain ⟨Ac, cc, rfl⟩ := Kd.N_slice hN3
    have HCK := Aside0.mk (Kd.N_reads' hN3).2.2
    have HCC := Aside0.mk (Kd.N_reads' hN3).2.1
    clear hR3 hN3
    go_wp2_with fail
    go_loopw [5, 6, 8] (fun v5 v6 v8 wr => ∃ i : Nat, i ≤ c.length ∧ v5 = .int .i64 (bindlelaw39_TreeSums.subN n (c.take i)) ∧ v6 = .int .i64 (bindlelaw39_TreeSums.subB b (c.take i)) ∧ v8 = .int .i64 i ∧ Aside0 (Below W3.heap.size W3 wr)) (fun _ _ v8 _ => c.length - (intOf v8).toNat)
    case atStart => exact ⟨0, Nat.zero_le _, rfl, rfl, rfl, ⟨Below.refl _ _⟩⟩
    case round =>
      obtain ⟨i, hi, rfl, rfl, rfl, HB⟩ := hrel
      by_cases hlt : i < c.length
      · have hC := Kd.C_below HCK.out HB.out
        obtain ⟨ad, he, x0, x1, x2, x3⟩ := at_T34 hC (i : Int) (by omega) (by omega)
        cases he
        simp only [Int.toNat_natCast] at x0 x1 x2
        have hf1 := HOK.out.1 i hlt
        have hsN := bindlelaw39_TreeSums.subN_take n c i hlt
        have hsB := bindlelaw39_TreeSums.subB_take b c i hlt
        obtain ⟨X, hX⟩ : ∃ X, rd_T34 c (i : Int) = X := ⟨_, rfl⟩
        rw [hX] at x0 x1 x2 x3 hf1 hsN hsB
        clear x3
        have hfd : decide (X.f1 < 1) = false := decide_eq_false (by omega)
        go_upto_region 10 with (fail)
        by_cases hi0 : 0 < i
        · have hgd : decide (0 < (i : Int)) = true := decide_eq_true (by omega)
          obtain ⟨q, hq⟩ : ∃ q, q + 1 = i := ⟨i - 1, by omega⟩
          have hsub : wrap64 ((i : Int) - 1) = (q : Int) := by rw [show (i : Int) - 1 = (q : Int) by omega]; exact IntWalk.wrap64_in _ (by omega)
          obtain ⟨ad2, he, y0, _⟩ := at_T34 hC (q : Int) (by omega) (by omega)
          cases he
          simp only [Int.toNat_natCast] at y0
          have hql : q < c.length := by omega
          have hlt2 := HOK.out.2 q hql (by omega)
          rw [hq] at hlt2
          obtain ⟨Y, hY⟩ : ∃ Y, rd_T34 c (q : Int) = Y := ⟨_, rfl⟩
          rw [hY] at y0 hlt2
          rw [hX] at hlt2
          refine start_ (n := 24) (S := fun w' => w'.cell? (ad.add (i * 4)) = some (.string X.f0) ∧ w'.cell? ⟨(ad.add (i * 4)).block, (ad.add (i * 4)).off + 1, none⟩ = some (.int .i64 X.f1) ∧ w'.cell? (ad.add (q * 4)) = some (.string Y.f0)) (ds := []) #[false, false, false, false, false, false, false, false, false, false, false, false, false, false, false, false, false, false, false, false, false, false, false, false] (by kernel_rfl) rfl rfl ⟨x0, x1, y0⟩ (fun hHeld => ?_)
          refine pure_ (i := 0) (N := some 51) (v := ?_) (a' := ?_) #[true, false, false, false, false, false, false, false, false, false, false, false, false, false, false, false, false, false, false, false, false, false, false, false] rfl rfl (by kernel_rfl) (fun _ _ _ h => h) (Or.inl ⟨by rfl, ?_⟩) ?_ ?_
          rotate_left
          · intro w'
            go_simp
            with_reducible rfl
          rotate_left
          · simp only [Act.put, List.setIfInBounds_toArray, List.set_cons_zero, List.set_cons_succ, i64_w, i32_w]
            rfl
          refine pure_ (i := 1) (N := some 52) (v := ?_) (a' := ?_) #[true, true, false, false, false, false, false, false, false, false, false, false, false, false, false, false, false, false, false, false, false, false, false, false] rfl rfl (by kernel_rfl) (fun _ _ _ h => h) (Or.inl ⟨by rfl, ?_⟩) ?_ ?_
          rotate_left
          · intro w'
            go_simp
            with_reducible rfl
          rotate_left
          · simp only [Act.put, List.setIfInBounds_toArray, List.set_cons_zero, List.set_cons_succ, i64_w, i32_w]
            rfl
          refine pure_ (i := 2) (N := some 53) (v := ?_) (a' := ?_) #[true, true, true, false, false, false, false, false, false, false, false, false, false, false, false, false, false, false, false, false, false, false, false, false] rfl rfl (by kernel_rfl) (fun _ _ _ h => h) (Or.inl ⟨by rfl, ?_⟩) ?_ ?_
          rotate_left
          · intro w'
            go_simp
            with_reducible rfl
          rotate_left
          · simp only [Act.put, List.setIfInBounds_toArray, List.set_cons_zero, List.set_cons_succ, i64_w, i32_w]
            rfl
          refine pure_ (i := 3) (N := some 54) (v := ?_) (a' := ?_) #[true, true, true, true, false, false, false, false, false, false, false, false, false, false, false, false, false, false, false, false, false, false, false, false] rfl rfl (by kernel_rfl) (fun _ _ _ h => h) (Or.inl ⟨by rfl, ?_⟩) ?_ ?_
          rotate_left
          · intro w'
            go_simp
            with_reducible rfl
          rotate_left
          · simp only [Act.put, List.setIfInBounds_toArray, List.set_cons_zero, List.set_cons_succ, i64_w, i32_w]
            rfl
          refine take_ (i := 4) (N := some 55) (v := ?_) (a' := ?_) #[true, true, true, true, true, false, false, false, false, false, false, false, false, false, false, false, false, false, false, false, false, false, false, false] rfl rfl (by kernel_rfl) (fun _ _ _ h => h) (Or.inl ⟨by rfl, ?_⟩) hHeld ?_ ?_
          rotate_left
          · rintro w' ⟨s0, s1, s2⟩
            go_simp
            with_reducible rfl
          rotate_left
          · simp only [Act.put, List.setIfInBounds_toArray, List.set_cons_zero, List.set_cons_succ, i64_w, i32_w]
            rfl
          refine pure_ (i := 5) (N := some 56) (v := ?_) (a' := ?_) #[true, true, true, true, true, true, false, false, false, false, false, false, false, false, false, false, false, false, false, false, false, false, false, false] rfl rfl (by kernel_rfl) (fun _ _ _ h => h) (Or.inl ⟨by rfl, ?_⟩) ?_ ?_
          rotate_left
          · intro w'
            go_simp
            with_reducible rfl
          rotate_left
          · simp only [Act.put, List.setIfInBounds_toArray, List.set_cons_zero, List.set_cons_succ, i64_w, i32_w]
            rfl
          refine pure_ (i := 6) (N := some 57) (v := ?_) (a' := ?_) #[true, true, true, true, true, true, true, false, false, false, false, false, false, false, false, false, false, false, false, false, false, false, false, false] rfl rfl (by kernel_rfl) (fun _ _ _ h => h) (Or.inl ⟨by rfl, ?_⟩) ?_ ?_
          rotate_left
          · intro w'
            go_simp
            with_reducible rfl
          rotate_left
          · simp only [Act.put, List.setIfInBounds_toArray, List.set_cons_zero, List.set_cons_succ, i64_w, i32_w]
            rfl
          refine pure_ (i := 7) (N := some 58) (v := ?_) (a' := ?_) #[true, true, true, true, true, true, true, true, false, false, false, false, false, false, false, false, false, false, false, false, false, false, false, false] rfl rfl (by kernel_rfl) (fun _ _ _ h => h) (Or.inl ⟨by rfl, ?_⟩) ?_ ?_
          rotate_left
          · intro w'
            go_simp
            with_reducible rfl
          rotate_left
          · simp only [Act.put, List.setIfInBounds_toArray, List.set_cons_zero, List.set_cons_succ, i64_w, i32_w]
            rfl
          refine pure_ (i := 8) (N := some 59) (v := ?_) (a' := ?_) #[true, true, true, true, true, true, true, true, true, false, false, false, false, false, false, false, false, false, false, false, false, false, false, false] rfl rfl (by kernel_rfl) (fun _ _ _ h => h) (Or.inl ⟨by rfl, ?_⟩) ?_ ?_
          rotate_left
          · intro w'
            go_simp
            with_reducible rfl
          rotate_left
          · simp only [Act.put, List.setIfInBounds_toArray, List.set_cons_zero, List.set_cons_succ, i64_w, i32_w]
            rfl
          refine pure_ (i := 9) (N := some 60) (v := ?_) (a' := ?_) #[true, true, true, true, true, true, true, true, true, true, false, false, false, false, false, false, false, false, false, false, false, false, false, false] rfl rfl (by kernel_rfl) (fun _ _ _ h => h) (Or.inl ⟨by rfl, ?_⟩) ?_ ?_
          rotate_left
          · intro w'
            go_simp
            with_reducible rfl
          rotate_left
          · simp only [Act.put, List.setIfInBounds_toArray, List.set_cons_zero, List.set_cons_succ, i64_w, i32_w]
            rfl
          refine pure_ (i := 10) (N := some 61) (v := ?_) (a' := ?_) #[true, true, true, true, true, true, true, true, true, true, true, false, false, false, false, false, false, false, false, false, false, false, false, false] rfl rfl (by kernel_rfl) (fun _ _ _ h => h) (Or.inl ⟨by rfl, ?_⟩) ?_ ?_
          rotate_left
          · intro w'
            go_simp
            with_reducible rfl
          rotate_left
          · simp only [Act.put, List.setIfInBounds_toArray, List.set_cons_zero, List.set_cons_succ, i64_w, i32_w]
            rfl
          refine pure_ (i := 11) (N := some 62) (v := ?_) (a' := ?_) #[true, true, true, true, true, true, true, true, true, true, true, true, false, false, false, false, false, false, false, false, false, false, false, false] rfl rfl (by kernel_rfl) (fun _ _ _ h => h) (Or.inl ⟨by rfl, ?_⟩) ?_ ?_
          rotate_left
          · intro w'
            go_simp
            with_reducible rfl
          rotate_left
          · simp only [Act.put, List.setIfInBounds_toArray, List.set_cons_zero, List.set_cons_succ, i64_w, i32_w]
            rfl
          refine pure_ (i := 12) (N := some 63) (v := ?_) (a' := ?_) #[true, true, true, true, true, true, true, true, true, true, true, true, true, false, false, false, false, false, false, false, false, false, false, false] rfl rfl (by kernel_rfl) (fun _ _ _ h => h) (Or.inl ⟨by rfl, ?_⟩) ?_ ?_
          rotate_left
          · intro w'
            go_simp
            with_reducible rfl
          rotate_left
          · simp only [Act.put, List.setIfInBounds_toArray, List.set_cons_zero, List.set_cons_succ, i64_w, i32_w]
            rfl
          refine pure_ (i := 13) (N := some 64) (v := ?_) (a' := ?_) #[true, true, true, true, true, true, true, true, true, true, true, true, true, true, false, false, false, false, false, false, false, false, false, false] rfl rfl (by kernel_rfl) (fun _ _ _ h => h) (Or.inl ⟨by rfl, ?_⟩) ?_ ?_
          rotate_left
          · intro w'
            go_simp
            with_reducible rfl
          rotate_left
          · simp only [Act.put, List.setIfInBounds_toArray, List.set_cons_zero, List.set_cons_succ, i64_w, i32_w]
            rfl
          refine pure_ (i := 14) (N := some 65) (v := ?_) (a' := ?_) #[true, true, true, true, true, true, true, true, true, true, true, true, true, true, true, false, false, false, false, false, false, false, false, false] rfl rfl (by kernel_rfl) (fun _ _ _ h => h) (Or.inl ⟨by rfl, ?_⟩) ?_ ?_
          rotate_left
          · intro w'
            go_simp
            with_reducible rfl
          rotate_left
          · simp only [Act.put, List.setIfInBounds_toArray, List.set_cons_zero, List.set_cons_succ, i64_w, i32_w]
            rfl
          refine pure_ (i := 16) (N := some 67) (v := ?_) (a' := ?_) #[true, true, true, true, true, true, true, true, true, true, true, true, true, true, true, false, true, false, false, false, false, false, false, false] rfl rfl (by kernel_rfl) (fun _ _ _ h => h) (Or.inl ⟨by rfl, ?_⟩) ?_ ?_
          rotate_left
          · intro w'
            go_simp
            with_reducible rfl
          rotate_left
          · simp only [Act.put, List.setIfInBounds_toArray, List.set_cons_zero, List.set_cons_succ, i64_w, i32_w]
            rfl
          refine pure_ (i := 17) (N := some 68) (v := ?_) (a' := ?_) #[true, true, true, true, true, true, true, true, true, true, true, true, true, true, true, false, true, true, false, false, false, false, false, false] rfl rfl (by kernel_rfl) (fun _ _ _ h => h) (Or.inl ⟨by rfl, ?_⟩) ?_ ?_
          rotate_left
          · intro w'
            go_simp
            with_reducible rfl
          rotate_left
          · simp only [Act.put, List.setIfInBounds_toArray, List.set_cons_zero, List.set_cons_succ, i64_w, i32_w]
            rfl
          refine pure_ (i := 18) (N := some 69) (v := ?_) (a' := ?_) #[true, true, true, true, true, true, true, true, true, true, true, true, true, true, true, false, true, true, true, false, false, false, false, false] rfl rfl (by kernel_rfl) (fun _ _ _ h => h) (Or.inl ⟨by rfl, ?_⟩) ?_ ?_
          rotate_left
          · intro w'
            go_simp
            with_reducible rfl
          rotate_left
          · simp only [Act.put, List.setIfInBounds_toArray, List.set_cons_zero, List.set_cons_succ, i64_w, i32_w]
            rfl
          refine pure_ (i := 19) (N := some 70) (v := ?_) (a' := ?_) #[true, true, true, true, true, true, true, true, true, true, true, true, true, true, true, false, true, true, true, true, false, false, false, false] rfl rfl (by kernel_rfl) (fun _ _ _ h => h) (Or.inl ⟨by rfl, ?_⟩) ?_ ?_
          rotate_left
          · intro w'
            go_simp
            with_reducible rfl
          rotate_left
          · simp only [Act.put, List.setIfInBounds_toArray, List.set_cons_zero, List.set_cons_succ, i64_w, i32_w]
            rfl
          refine take_ (i := 15) (N := some 66) (v := ?_) (a' := ?_) #[true, true, true, true, true, true, true, true, true, true, true, true, true, true, true, true, true, true, true, true, false, false, false, false] rfl rfl (by kernel_rfl) (fun _ _ _ h => h) (Or.inl ⟨by rfl, ?_⟩) hHeld ?_ ?_
          rotate_left
          · rintro w' ⟨s0, s1, s2⟩
            go_simp
            with_reducible rfl
          rotate_left
          · simp only [Act.put, List.setIfInBounds_toArray, List.set_cons_zero, List.set_cons_succ, i64_w, i32_w]
            rfl
          refine take_ (i := 20) (N := some 71) (v := ?_) (a' := ?_) #[true, true, true, true, true, true, true, true, true, true, true, true, true, true, true, true, true, true, true, true, true, false, false, false] rfl rfl (by kernel_rfl) (fun _ _ _ h => h) (Or.inl ⟨by rfl, ?_⟩) hHeld ?_ ?_
          rotate_left
          · rintro w' ⟨s0, s1, s2⟩
            go_simp
            with_reducible rfl
          rotate_left
          · simp only [Act.put, List.setIfInBounds_toArray, List.set_cons_zero, List.set_cons_succ, i64_w, i32_w]
            rfl
          refine pure_ (i := 21) (N := some 72) (v := ?_) (a' := ?_) #[true, true, true, true, true, true, true, true, true, true, true, true, true, true, true, true, true, true, true, true, true, true, false, false] rfl rfl (by kernel_rfl) (fun _ _ _ h => h) (Or.inl ⟨by rfl, ?_⟩) ?_ ?_
          rotate_left
          · intro w'
            go_simp
            with_reducible rfl
          rotate_left
          · simp only [Act.put, List.setIfInBounds_toArray, List.set_cons_zero, List.set_cons_succ, i64_w, i32_w]
            rfl
          refine pure_ (i := 22) (N := some 73) (v := ?_) (a' := ?_) #[true, true, true, true, true, true, true, true, true, true, true, true, true, true, true, true, true, true, true, true, true, true, true, false] rfl rfl (by kernel_rfl) (fun _ _ _ h => h) (Or.inl ⟨by rfl, ?_⟩) ?_ ?_
          rotate_left
          · intro w'
            go_simp
            with_reducible rfl
          rotate_left
          · simp only [Act.put, List.setIfInBounds_toArray, List.set_cons_zero, List.set_cons_succ, i64_w, i32_w]
            rfl
          refine pure_ (i := 23) (N := some 74) (v := ?_) (a' := ?_) #[true, true, true, true, true, true, true, true, true, true, true, true, true, true, true, true, true, true, true, true, true, true, true, true] rfl rfl (by kernel_rfl) (fun _ _ _ h => h) (Or.inl ⟨by rfl, ?_⟩) ?_ ?_
          rotate_left
          · intro w'
            go_simp
            with_reducible rfl
          rotate_left
          · simp only [Act.put, List.setIfInBounds_toArray, List.set_cons_zero, List.set_cons_succ, i64_w, i32_w]
            rfl
          refine done_ (by kernel_rfl) ?_


          go_wp2_with fail
          go_roundw
          case rel => exact ⟨i + 1, by omega, by rw [hsN], by rw [hsB], by simp, ⟨below_drew1 HB.out⟩⟩
          case measure => simp [intOf]; omega
        · have hgd : decide (0 < (i : Int)) = false := decide_eq_false (by omega)
          refine start_ (n := 24) (S := fun w' => w'.cell? (ad.add (i * 4)) = some (.string X.f0) ∧ w'.cell? ⟨(ad.add (i * 4)).block, (ad.add (i * 4)).off + 1, none⟩ = some (.int .i64 X.f1)) (ds := []) #[false, false, false, false, false, false, false, false, false, false, false, false, false, false, false, false, false, false, false, false, false, false, false, false] (by kernel_rfl) rfl rfl ⟨x0, x1⟩ (fun hHeld => ?_)
          refine pure_ (i := 0) (N := some 51) (v := ?_) (a' := ?_) #[true, false, false, false, false, false, false, false, false, false, false, false, false, false, false, false, false, false, false, false, false, false, false, false] rfl rfl (by kernel_rfl) (fun _ _ _ h => h) (Or.inl ⟨by rfl, ?_⟩) ?_ ?_
          rotate_left
          · intro w'
            go_simp
            with_reducible rfl
          rotate_left
          · simp only [Act.put, List.setIfInBounds_toArray, List.set_cons_zero, List.set_cons_succ, i64_w, i32_w]
            rfl
          refine pure_ (i := 1) (N := some 52) (v := ?_) (a' := ?_) #[true, true, false, false, false, false, false, false, false, false, false, false, false, false, false, false, false, false, false, false, false, false, false, false] rfl rfl (by kernel_rfl) (fun _ _ _ h => h) (Or.inl ⟨by rfl, ?_⟩) ?_ ?_
          rotate_left
          · intro w'
            go_simp
            with_reducible rfl
          rotate_left
          · simp only [Act.put, List.setIfInBounds_toArray, List.set_cons_zero, List.set_cons_succ, i64_w, i32_w]
            rfl
          refine pure_ (i := 2) (N := some 53) (v := ?_) (a' := ?_) #[true, true, true, false, false, false, false, false, false, false, false, false, false, false, false, false, false, false, false, false, false, false, false, false] rfl rfl (by kernel_rfl) (fun _ _ _ h => h) (Or.inl ⟨by rfl, ?_⟩) ?_ ?_
          rotate_left
          · intro w'
            go_simp
            with_reducible rfl
          rotate_left
          · simp only [Act.put, List.setIfInBounds_toArray, List.set_cons_zero, List.set_cons_succ, i64_w, i32_w]
            rfl
          refine pure_ (i := 3) (N := some 54) (v := ?_) (a' := ?_) #[true, true, true, true, false, false, false, false, false, false, false, false, false, false, false, false, false, false, false, false, false, false, false, false] rfl rfl (by kernel_rfl) (fun _ _ _ h => h) (Or.inl ⟨by rfl, ?_⟩) ?_ ?_
          rotate_left
          · intro w'
            go_simp
            with_reducible rfl
          rotate_left
          · simp only [Act.put, List.setIfInBounds_toArray, List.set_cons_zero, List.set_cons_succ, i64_w, i32_w]
            rfl
          refine take_ (i := 4) (N := some 55) (v := ?_) (a' := ?_) #[true, true, true, true, true, false, false, false, false, false, false, false, false, false, false, false, false, false, false, false, false, false, false, false] rfl rfl (by kernel_rfl) (fun _ _ _ h => h) (Or.inl ⟨by rfl, ?_⟩) hHeld ?_ ?_
          rotate_left
          · rintro w' ⟨s0, s1⟩
            go_simp
            with_reducible rfl
          rotate_left
          · simp only [Act.put, List.setIfInBounds_toArray, List.set_cons_zero, List.set_cons_succ, i64_w, i32_w]
            rfl
          refine pure_ (i := 5) (N := some 56) (v := ?_) (a' := ?_) #[true, true, true, true, true, true, false, false, false, false, false, false, false, false, false, false, false, false, false, false, false, false, false, false] rfl rfl (by kernel_rfl) (fun _ _ _ h => h) (Or.inl ⟨by rfl, ?_⟩) ?_ ?_
          rotate_left
          · intro w'
            go_simp
            with_reducible rfl
          rotate_left
          · simp only [Act.put, List.setIfInBounds_toArray, List.set_cons_zero, List.set_cons_succ, i64_w, i32_w]
            rfl
          refine pure_ (i := 6) (N := some 57) (v := ?_) (a' := ?_) #[true, true, true, true, true, true, true, false, false, false, false, false, false, false, false, false, false, false, false, false, false, false, false, false] rfl rfl (by kernel_rfl) (fun _ _ _ h => h) (Or.inl ⟨by rfl, ?_⟩) ?_ ?_
          rotate_left
          · intro w'
            go_simp
            with_reducible rfl
          rotate_left
          · simp only [Act.put, List.setIfInBounds_toArray, List.set_cons_zero, List.set_cons_succ, i64_w, i32_w]
            rfl
          refine pure_ (i := 7) (N := some 58) (v := ?_) (a' := ?_) #[true, true, true, true, true, true, true, true, false, false, false, false, false, false, false, false, false, false, false, false, false, false, false, false] rfl rfl (by kernel_rfl) (fun _ _ _ h => h) (Or.inl ⟨by rfl, ?_⟩) ?_ ?_
          rotate_left
          · intro w'
            go_simp
            with_reducible rfl
          rotate_left
          · simp only [Act.put, List.setIfInBounds_toArray, List.set_cons_zero, List.set_cons_succ, i64_w, i32_w]
            rfl
          refine pure_ (i := 8) (N := some 59) (v := ?_) (a' := ?_) #[true, true, true, true, true, true, true, true, true, false, false, false, false, false, false, false, false, false, false, false, false, false, false, false] rfl rfl (by kernel_rfl) (fun _ _ _ h => h) (Or.inl ⟨by rfl, ?_⟩) ?_ ?_
          rotate_left
          · intro w'
            go_simp
            with_reducible rfl
          rotate_left
          · simp only [Act.put, List.setIfInBounds_toArray, List.set_cons_zero, List.set_cons_succ, i64_w, i32_w]
            rfl
          refine pure_ (i := 9) (N := some 60) (v := ?_) (a' := ?_) #[true, true, true, true, true, true, true, true, true, true, false, false, false, false, false, false, false, false, false, false, false, false, false, false] rfl rfl (by kernel_rfl) (fun _ _ _ h => h) (Or.inl ⟨by rfl, ?_⟩) ?_ ?_
          rotate_left
          · intro w'
            go_simp
            with_reducible rfl
          rotate_left
          · simp only [Act.put, List.setIfInBounds_toArray, List.set_cons_zero, List.set_cons_succ, i64_w, i32_w]
            rfl
          refine pure_ (i := 10) (N := some 61) (v := undef) (a' := ?_) #[true, true, true, true, true, true, true, true, true, true, true, false, false, false, false, false, false, false, false, false, false, false, false, false] rfl rfl (by kernel_rfl) (fun _ _ _ h => h) (Or.inr ⟨by rfl, rfl⟩) ?_ ?_
          rotate_left
          · simp only [Act.put, List.setIfInBounds_toArray, List.set_cons_zero, List.set_cons_succ, i64_w, i32_w]
            rfl
          refine pure_ (i := 11) (N := some 62) (v := undef) (a' := ?_) #[true, true, true, true, true, true, true, true, true, true, true, true, false, false, false, false, false, false, false, false, false, false, false, false] rfl rfl (by kernel_rfl) (fun _ _ _ h => h) (Or.inr ⟨by rfl, rfl⟩) ?_ ?_
          rotate_left
          · simp only [Act.put, List.setIfInBounds_toArray, List.set_cons_zero, List.set_cons_succ, i64_w, i32_w]
            rfl
          refine pure_ (i := 12) (N := some 63) (v := undef) (a' := ?_) #[true, true, true, true, true, true, true, true, true, true, true, true, true, false, false, false, false, false, false, false, false, false, false, false] rfl rfl (by kernel_rfl) (fun _ _ _ h => h) (Or.inr ⟨by rfl, rfl⟩) ?_ ?_
          rotate_left
          · simp only [Act.put, List.setIfInBounds_toArray, List.set_cons_zero, List.set_cons_succ, i64_w, i32_w]
            rfl
          refine pure_ (i := 13) (N := some 64) (v := undef) (a' := ?_) #[true, true, true, true, true, true, true, true, true, true, true, true, true, true, false, false, false, false, false, false, false, false, false, false] rfl rfl (by kernel_rfl) (fun _ _ _ h => h) (Or.inr ⟨by rfl, rfl⟩) ?_ ?_
          rotate_left
          · simp only [Act.put, List.setIfInBounds_toArray, List.set_cons_zero, List.set_cons_succ, i64_w, i32_w]
            rfl
          refine pure_ (i := 14) (N := some 65) (v := undef) (a' := ?_) #[true, true, true, true, true, true, true, true, true, true, true, true, true, true, true, false, false, false, false, false, false, false, false, false] rfl rfl (by kernel_rfl) (fun _ _ _ h => h) (Or.inr ⟨by rfl, rfl⟩) ?_ ?_
          rotate_left
          · simp only [Act.put, List.setIfInBounds_toArray, List.set_cons_zero, List.set_cons_succ, i64_w, i32_w]
            rfl
          refine pure_ (i := 15) (N := some 66) (v := undef) (a' := ?_) #[true, true, true, true, true, true, true, true, true, true, true, true, true, true, true, true, false, false, false, false, false, false, false, false] rfl rfl (by kernel_rfl) (fun _ _ _ h => h) (Or.inr ⟨by rfl, rfl⟩) ?_ ?_
          rotate_left
          · simp only [Act.put, List.setIfInBounds_toArray, List.set_cons_zero, List.set_cons_succ, i64_w, i32_w]
            rfl
          refine pure_ (i := 16) (N := some 67) (v := undef) (a' := ?_) #[true, true, true, true, true, true, true, true, true, true, true, true, true, true, true, true, true, false, false, false, false, false, false, false] rfl rfl (by kernel_rfl) (fun _ _ _ h => h) (Or.inr ⟨by rfl, rfl⟩) ?_ ?_
          rotate_left
          · simp only [Act.put, List.setIfInBounds_toArray, List.set_cons_zero, List.set_cons_succ, i64_w, i32_w]
            rfl
          refine pure_ (i := 17) (N := some 68) (v := undef) (a' := ?_) #[true, true, true, true, true, true, true, true, true, true, true, true, true, true, true, true, true, true, false, false, false, false, false, false] rfl rfl (by kernel_rfl) (fun _ _ _ h => h) (Or.inr ⟨by rfl, rfl⟩) ?_ ?_
          rotate_left
          · simp only [Act.put, List.setIfInBounds_toArray, List.set_cons_zero, List.set_cons_succ, i64_w, i32_w]
            rfl
          refine pure_ (i := 18) (N := some 69) (v := undef) (a' := ?_) #[true, true, true, true, true, true, true, true, true, true, true, true, true, true, true, true, true, true, true, false, false, false, false, false] rfl rfl (by kernel_rfl) (fun _ _ _ h => h) (Or.inr ⟨by rfl, rfl⟩) ?_ ?_
          rotate_left
          · simp only [Act.put, List.setIfInBounds_toArray, List.set_cons_zero, List.set_cons_succ, i64_w, i32_w]
            rfl
          refine pure_ (i := 19) (N := some 70) (v := undef) (a' := ?_) #[true, true, true, true, true, true, true, true, true, true, true, true, true, true, true, true, true, true, true, true, false, false, false, false] rfl rfl (by kernel_rfl) (fun _ _ _ h => h) (Or.inr ⟨by rfl, rfl⟩) ?_ ?_
          rotate_left
          · simp only [Act.put, List.setIfInBounds_toArray, List.set_cons_zero, List.set_cons_succ, i64_w, i32_w]
            rfl
          refine pure_ (i := 20) (N := some 71) (v := undef) (a' := ?_) #[true, true, true, true, true, true, true, true, true, true, true, true, true, true, true, true, true, true, true, true, true, false, false, false] rfl rfl (by kernel_rfl) (fun _ _ _ h => h) (Or.inr ⟨by rfl, rfl⟩) ?_ ?_
          rotate_left
          · simp only [Act.put, List.setIfInBounds_toArray, List.set_cons_zero, List.set_cons_succ, i64_w, i32_w]
            rfl
          refine pure_ (i := 21) (N := some 72) (v := undef) (a' := ?_) #[true, true, true, true, true, true, true, true, true, true, true, true, true, true, true, true, true, true, true, true, true, true, false, false] rfl rfl (by kernel_rfl) (fun _ _ _ h => h) (Or.inr ⟨by rfl, rfl⟩) ?_ ?_
          rotate_left
          · simp only [Act.put, List.setIfInBounds_toArray, List.set_cons_zero, List.set_cons_succ, i64_w, i32_w]
            rfl
          refine pure_ (i := 22) (N := some 73) (v := ?_) (a' := ?_) #[true, true, true, true, true, true, true, true, true, true, true, true, true, true, true, true, true, true, true, true, true, true, true, false] rfl rfl (by kernel_rfl) (fun _ _ _ h => h) (Or.inl ⟨by rfl, ?_⟩) ?_ ?_
          rotate_left
          · intro w'
            go_simp
            with_reducible rfl
          rotate_left
          · simp only [Act.put, List.setIfInBounds_toArray, List.set_cons_zero, List.set_cons_succ, i64_w, i32_w]
            rfl
          refine pure_ (i := 23) (N := some 74) (v := ?_) (a' := ?_) #[true, true, true, true, true, true, true, true, true, true, true, true, true, true, true, true, true, true, true, true, true, true, true, true] rfl rfl (by kernel_rfl) (fun _ _ _ h => h) (Or.inl ⟨by rfl, ?_⟩) ?_ ?_
          rotate_left
          · intro w'
            go_simp
            with_reducible rfl
          rotate_left
          · simp only [Act.put, List.setIfInBounds_toArray, List.set_cons_zero, List.set_cons_succ, i64_w, i32_w]
            rfl
          refine done_ (by kernel_rfl) ?_

          go_wp2_with fail
          go_roundw
          case rel => exact ⟨i + 1, by omega, by rw [hsN], by rw [hsB], by simp, ⟨below_drew1 HB.out⟩⟩
          case measure => simp [intOf]; omega
      · obtain rfl : i = c.length := by omega
        have hsn := HSN.out
        have hsb := HSB.out
        rw [List.take_length, hsn, hsb]
        have hP4 : bindlelaw39_TreeSums.P A0 l0.length c0 w wr := hP3.step HB.out
        have q4 := hP4.1.cell
        clear hP3 q3 HCK
        have hnil : ∀ (W : World) (f : Fn) (t b : Array Value), Sem.run Tryz.prog (binOp .eql 40 (.func f t b) .nilFunc) W = .ok (.bool false) W := fun _ _ _ _ => rfl
        go_upto_region 17 with (first
          | (go_at_call 15; refine ((callsIn_wide (n := 6)).1 (YtkccjohhakljnaaGreatDoorTree.Walk_in 6 A0 l0.length c0 a1 _)).mono ?_; rintro e W5 ⟨rfl, rfl⟩)
          | fail)
        have hP5 : bindlelaw39_TreeSums.P A0 l0.length c0 w ((wr.alloc (.cells #[.slice A0 l0.length c0] 22)).alloc (.cells #[.string a1] 9)) := (hP4.step ((Below.refl _ _).alloc (Nat.le_refl _) _)).step ((Below.refl _ _).alloc (Nat.le_refl _) _)
        have hbf := Boxed.new (wr.alloc (.cells #[.slice A0 l0.length c0] 22)) 9 (.string a1)
        have hbs := (Boxed.new wr 22 (.slice A0 l0.length c0)).alloc (.cells #[.string a1] 9)
        rw [World.size_alloc] at hbf
        have hs5 : ((wr.alloc (.cells #[.slice A0 l0.length c0] 22)).alloc (.cells #[.string a1] 9)).heap.size = wr.heap.size + 2 := by simp
        generalize ((wr.alloc (.cells #[.slice A0 l0.length c0] 22)).alloc (.cells #[.string a1] 9)) = W5 at hP5 hbf hbs hs5 ⊢
        have q5 := hP5.1.cell
        clear q4
        go_upto_region 19 with (fail)
        have hP6 : bindlelaw39_TreeSums.P A0 l0.length c0 w ((W5.alloc (.cells #[.int .i64 0] 3)).alloc (.cells #[.bool true] 4)) := (hP5.step ((Below.refl _ _).alloc (Nat.le_refl _) _)).step ((Below.refl _ _).alloc (Nat.le_refl _) _)
        have hbn := Boxed.new (W5.alloc (.cells #[.int .i64 0] 3)) 4 (.bool true)
        have hbd := (Boxed.new W5 3 (.int .i64 0)).alloc (.cells #[.bool true] 4)
        rw [World.size_alloc, hs5] at hbn
        rw [hs5] at hbd
        have hbf6 := (hbf.alloc (.cells #[.int .i64 0] 3)).alloc (.cells #[.bool true] 4)
        have hbs6 := (hbs.alloc (.cells #[.int .i64 0] 3)).alloc (.cells #[.bool true] 4)
        have hs6 : ((W5.alloc (.cells #[.int .i64 0] 3)).alloc (.cells #[.bool true] 4)).heap.size = wr.heap.size + 4 := by simp [hs5]
        generalize ((W5.alloc (.cells #[.int .i64 0] 3)).alloc (.cells #[.bool true] 4)) = W6 at hP6 hbn hbd hbf6 hbs6 hs6 ⊢
        clear hP5 q5 hbf hbs hs5
        have hwr := hP4.2.size
        have hall : ∀ x ∈ out, bindlelaw39_TreeSums.good k l0 x = true := List.all_eq_true.1 HGO.out
        have key := YtkccjohhakljnaaGreatDoorTree.walk1c 19 (fun _ _ => rfl) #[.pointer (some ⟨w.heap.size, 0, none⟩), .pointer (some ⟨wr.heap.size + 2 + 1, 0, none⟩), .pointer (some ⟨wr.heap.size + 2, 0, none⟩)] wr.heap.size (wr.heap.size + 1) w.heap.size (wr.heap.size + 4) l0.length c0 A0 w (tree_Text.listF k l0) tree_Path.f a1 k (fun x => bindlelaw39_TreeSums.good k l0 x = true) out
          (fun pre W => ((Boxed W w.heap.size 22 (.slice A0 l0.length c0) ∧ Boxed W (wr.heap.size + 2 + 1) 4 (.bool true)) ∧ Boxed W (wr.heap.size + 2) 3 (.int .i64 (bindlelaw39_TreeSums.cnt k l0 pre))) ∧ Below w.heap.size w W) (fun _ _ => False)
          (fun fd ns hns => by
            unfold tree_Text.listF at hns
            obtain ⟨q, hq, hns⟩ := Option.bind_eq_some_iff.1 hns
            by_cases hl : q.length ≤ 1000000
            case neg => rw [if_neg hl] at hns; cases hns
            rw [if_pos hl] at hns
            obtain rfl := Option.some.inj hns
            refine ⟨by rw [List.length_map]; exact hl, fun W hB => (tree_List.calls k A0 c0 l0 fd q W (Kd.C_below HR0.out hB) HC0.out hq).mono ?_⟩
            rintro e W' ⟨v, he, hR, hb⟩
            exact ⟨v, he, tree_Text.nodes hR, hb⟩)
          (fun fd nm p hp W => (tree_Path.calls fd nm p W hp).mono fun e W' h => ⟨h.1, h.2.below⟩)
          (fun pre W W' hj hg => ⟨⟨⟨hj.1.1.1.kept hg (by simp), hj.1.1.2.kept hg (by simp)⟩, hj.1.2.kept hg (by simp)⟩, hj.2.trans (YtkccjohhakljnaaGreatDoorTree.below_of_grown hg hj.2.size)⟩)
          (fun pre x W hx hj _ hnx => by
            obtain ⟨h1, h2⟩ := of_decide_eq_true (show decide _ = true from hx)
            obtain ⟨j, hfj⟩ := Option.isSome_iff_exists.1 h1
            have hjF : bindlelaw39_TreeSums.jF k l0 x.1 = j := by unfold bindlelaw39_TreeSums.jF; rw [hfj]; rfl
            rw [hjF] at h2
            have := YtkccjohhakljnaaGreatDoorTree.sums1 w.heap.size (wr.heap.size + 2 + 1) (wr.heap.size + 2) w.heap.size (wr.heap.size + 4) l0.length c0 A0 x.1 x.2 j (bindlelaw39_TreeSums.cnt k l0 pre) W (by omega) (by omega) (by omega) (by omega) (by omega) (by omega) (by omega) hnx
              (fun W' hg => (bindleref25_Find.calls k A0 c0 l0 x.1 j W' (Kd.C_below HR0.out (hj.2.trans (YtkccjohhakljnaaGreatDoorTree.below_of_grown hg hj.2.size))) HC0.out hfj).mono fun e W'' h => ⟨h.1, h.2.below⟩)
              h2 hj.1.1.1 hj.1.1.2 hj.1.2
            simp only [List.append_toArray, List.cons_append, List.nil_append]
            refine this.mono ?_
            rintro e W' ⟨rfl, b1, b2, b3, hk⟩
            refine .inl ⟨rfl, ⟨⟨⟨b1, b2⟩, ?_⟩, hj.2.trans hk.1⟩, hk⟩
            rw [bindlelaw39_TreeSums.cnt_snoc, hjF]
            exact b3)
          HWA.out hall W6 hP6.2 hP6.2.size (by omega) hbs6.cell hbf6.cell ⟨⟨⟨hP6.1, hbn⟩, hbd⟩, hP6.2⟩
        go_upto_region 20 with (first
          | (go_at_call 30; refine key.mono ?_; clear key; rintro e W7 ⟨⟨v7, rfl⟩, hh7⟩)
          | fail)
        obtain ⟨⟨⟨b7l, b7n⟩, b7d⟩, hB7⟩ := (hh7.resolve_right (fun ⟨_, _, hf⟩ => hf)).1
        rw [HCN.out] at b7d
        clear hh7
        have q7 := b7l.cell
        go_upto_region 21 with (first
          | (go_at_call 8; refine (tree_Total.calls _ _ l0 a1 n b _ (Kd.C_below HR0.out hB7) HC0.out HTO.out).mono ?_; rintro e W8 ⟨rfl, hb8⟩)
          | fail)
        have hg8 := grown_of_below hb8 none
        have q8n := (b7n.kept hg8 (by simp)).cell
        have q8d := (b7d.kept hg8 (by simp)).cell
        have hB8 : Below w.heap.size w W8 := hB7.trans (hb8.mono hB7.size)
        go_wp2_with (first
          | (go_at_call 7; refine (bindlelaw39_lives.calls k r _ (YtkccjohhakljnaaGreatDoorTab.tab_below HT.out hB8) HL.out).mono ?_; rintro e W9 ⟨rfl, hb9⟩)
          | fail)
        go_ret
        exact ⟨rfl, hB8.trans (hb9.mono hB8.size)⟩
/-- What is known of a value of this type that came in. -/
def good49 (x : S49) : Prop := (x.f0.size ≤ 140737488351232) ∧ (x.f1.length ≤ maxLen ∧ x.f1.length * 1 ≤ 140737488351232 ∧ ∀ e1 ∈ x.f1, (Lit.int .u8 e1).wf = true)

/-- THE ONE PURE STATEMENT of bindlelaw39_TreeSums: ours to prove. -/
def bindlelaw39_TreeSums.Pure : Prop := ∀ (x0 : List (S49)) (x1 : ByteArray), (x0.length ≤ maxLen ∧ x0.length * 40 ≤ 140737488351232 ∧ ∀ e2 ∈ x0, good49 e2) → x1.size ≤ 140737488351232 → ∃ k, bindlelaw39_TreeSums.f k x0 x1 = some true


end Go.Proofs.YtkccjohhakljnaaGreatDoor.PTreeSums
