/- The machine side of a law: for each Go function that it uses a Lean function with the same answers, and the proof that the Go code comes to them; or the row of the law over these. Written by a program of this session. -/
import Derived.Test.YtcfcbkcaondfcabDoorPReportWordsx0
namespace Go.Proofs.YtcfcbkcaondfcabDoor.PReportWords
open Go.RowKit Go.Proofs.YtcfcbkcaondfcabDoorW.PrintWords Go.Proofs.YtcfcbkcaondfcabDoorW.PrintLast Go.Proofs.YtcfcbkcaondfcabDoorW.PrintMore
attribute [local go_sem] max2_int min2_int max_two min_two max_three min_three max_four min_four   -- for this text's walks alone
set_option linter.unusedVariables false
set_option linter.unusedSimpArgs false

/-! ### report_kinds: function 21 (told by hand) -/
def report_kinds.words : List ByteArray := [(⟨#[110, 111, 110, 101]⟩ : ByteArray), (⟨#[99, 114, 101, 97, 116, 101]⟩ : ByteArray), (⟨#[111, 112, 101, 110]⟩ : ByteArray), (⟨#[112, 117, 116]⟩ : ByteArray), (⟨#[98, 101, 103, 105, 110]⟩ : ByteArray), (⟨#[119, 114, 105, 116, 101]⟩ : ByteArray), (⟨#[102, 105, 110, 105, 115, 104]⟩ : ByteArray), (⟨#[97, 98, 111, 114, 116]⟩ : ByteArray), (⟨#[103, 101, 116]⟩ : ByteArray), (⟨#[115, 116, 97, 116]⟩ : ByteArray), (⟨#[108, 105, 115, 116]⟩ : ByteArray), (⟨#[100, 101, 108, 101, 116, 101]⟩ : ByteArray), (⟨#[115, 121, 110, 99]⟩ : ByteArray), (⟨#[118, 97, 99, 117, 117, 109]⟩ : ByteArray), (⟨#[99, 108, 111, 115, 101]⟩ : ByteArray), (⟨#[118, 101, 114, 105, 102, 121]⟩ : ByteArray), (⟨#[114, 101, 102, 117, 115, 101]⟩ : ByteArray), (⟨#[99, 117, 116]⟩ : ByteArray), (⟨#[99, 114, 97, 115, 104]⟩ : ByteArray)]
def report_kinds.val : Array Value := #[.string (⟨#[110, 111, 110, 101]⟩ : ByteArray), .string (⟨#[99, 114, 101, 97, 116, 101]⟩ : ByteArray), .string (⟨#[111, 112, 101, 110]⟩ : ByteArray), .string (⟨#[112, 117, 116]⟩ : ByteArray), .string (⟨#[98, 101, 103, 105, 110]⟩ : ByteArray), .string (⟨#[119, 114, 105, 116, 101]⟩ : ByteArray), .string (⟨#[102, 105, 110, 105, 115, 104]⟩ : ByteArray), .string (⟨#[97, 98, 111, 114, 116]⟩ : ByteArray), .string (⟨#[103, 101, 116]⟩ : ByteArray), .string (⟨#[115, 116, 97, 116]⟩ : ByteArray), .string (⟨#[108, 105, 115, 116]⟩ : ByteArray), .string (⟨#[100, 101, 108, 101, 116, 101]⟩ : ByteArray), .string (⟨#[115, 121, 110, 99]⟩ : ByteArray), .string (⟨#[118, 97, 99, 117, 117, 109]⟩ : ByteArray), .string (⟨#[99, 108, 111, 115, 101]⟩ : ByteArray), .string (⟨#[118, 101, 114, 105, 102, 121]⟩ : ByteArray), .string (⟨#[114, 101, 102, 117, 115, 101]⟩ : ByteArray), .string (⟨#[99, 117, 116]⟩ : ByteArray), .string (⟨#[99, 114, 97, 115, 104]⟩ : ByteArray)]
theorem report_kinds.at_ (k : Nat) (h : k < 19) : report_kinds.val[k]? = some (.string (report_kinds.words.getD k ByteArray.empty)) := by
  have e : report_kinds.val = (report_kinds.words.map Value.string).toArray := rfl
  have hl : report_kinds.words.length = 19 := rfl
  rw [e, List.getElem?_toArray, List.getElem?_map, List.getElem?_eq_getElem (by omega), List.getD_eq_getElem?_getD, List.getElem?_eq_getElem (by omega)]
  rfl
set_option maxRecDepth 100000 in
theorem report_kinds.run (k : Nat) (h : k < 19) (w : World) : (Instr.index 61 (.agg report_kinds.val) (.int .i64 k)).run Tryd.prog w = .ok (.string (report_kinds.words.getD k ByteArray.empty)) w :=
  YtcfcbkcaondfcabDoorMpHelp.run_index_agg Tryd.underlying61 (fun w => Tryd.sizeOf9 w) (fun w => Tryd.isAgg9 w) (by omega) (by omega) (by rw [Int.toNat_natCast]; exact report_kinds.at_ k h)
theorem report_kinds.sz : (Tryd.prog.info? 61).map (·.size) = some report_kinds.val.size := by kernel_rfl
theorem report_kinds.bd (w : World) : (Instr.build 61 #[(0, .string (⟨#[110, 111, 110, 101]⟩ : ByteArray)), (1, .string (⟨#[99, 114, 101, 97, 116, 101]⟩ : ByteArray)), (2, .string (⟨#[111, 112, 101, 110]⟩ : ByteArray)), (3, .string (⟨#[112, 117, 116]⟩ : ByteArray)), (4, .string (⟨#[98, 101, 103, 105, 110]⟩ : ByteArray)), (5, .string (⟨#[119, 114, 105, 116, 101]⟩ : ByteArray)), (6, .string (⟨#[102, 105, 110, 105, 115, 104]⟩ : ByteArray)), (7, .string (⟨#[97, 98, 111, 114, 116]⟩ : ByteArray)), (8, .string (⟨#[103, 101, 116]⟩ : ByteArray)), (9, .string (⟨#[115, 116, 97, 116]⟩ : ByteArray)), (10, .string (⟨#[108, 105, 115, 116]⟩ : ByteArray)), (11, .string (⟨#[100, 101, 108, 101, 116, 101]⟩ : ByteArray)), (12, .string (⟨#[115, 121, 110, 99]⟩ : ByteArray)), (13, .string (⟨#[118, 97, 99, 117, 117, 109]⟩ : ByteArray)), (14, .string (⟨#[99, 108, 111, 115, 101]⟩ : ByteArray)), (15, .string (⟨#[118, 101, 114, 105, 102, 121]⟩ : ByteArray)), (16, .string (⟨#[114, 101, 102, 117, 115, 101]⟩ : ByteArray)), (17, .string (⟨#[99, 117, 116]⟩ : ByteArray)), (18, .string (⟨#[99, 114, 97, 115, 104]⟩ : ByteArray))]).run Tryd.prog w = .ok (.agg report_kinds.val) w := run_build w 61 _ _ (by kernel_rfl)
theorem report_kinds.one : report_kinds.val.all (·.oneCell') = true := by kernel_rfl
def report_kinds.zeros : Array Value := #[.string (⟨#[]⟩ : ByteArray), .string (⟨#[]⟩ : ByteArray), .string (⟨#[]⟩ : ByteArray), .string (⟨#[]⟩ : ByteArray), .string (⟨#[]⟩ : ByteArray), .string (⟨#[]⟩ : ByteArray), .string (⟨#[]⟩ : ByteArray), .string (⟨#[]⟩ : ByteArray), .string (⟨#[]⟩ : ByteArray), .string (⟨#[]⟩ : ByteArray), .string (⟨#[]⟩ : ByteArray), .string (⟨#[]⟩ : ByteArray), .string (⟨#[]⟩ : ByteArray), .string (⟨#[]⟩ : ByteArray), .string (⟨#[]⟩ : ByteArray), .string (⟨#[]⟩ : ByteArray), .string (⟨#[]⟩ : ByteArray), .string (⟨#[]⟩ : ByteArray), .string (⟨#[]⟩ : ByteArray)]
theorem report_kinds.zz (w : World) : (zeroValue 61).run Tryd.prog w = .ok (.agg report_kinds.zeros) w := (zero_of_info (v := .agg report_kinds.zeros) (n := 19) (by kernel_rfl)).1 w
set_option maxRecDepth 100000 in
set_option maxHeartbeats 4000000 in
theorem report_kinds.calls (w : World) : Calls Tryd.prog 21 #[] w fun e w' => e = .returned (.agg report_kinds.val) ∧ Below w.heap.size w w' := by
  go_enter Tryd.func21, Tryd.ntmps21
  go_upto_region 1 with (fail)
  refine wp_region_list ?_
  refine YtcfcbkcaondfcabDoorMpHelp.wpList_build_row rfl 61 _ rfl report_kinds.val (fun w1 => by simp only [List.map_toArray, List.map_cons, List.map_nil, Act.eval]; exact report_kinds.bd w1) ?_
  have hsz := report_kinds.sz
  have hone := report_kinds.one
  have hn : report_kinds.val.size = 19 := rfl
  generalize hV : report_kinds.val = V at hsz hone hn ⊢
  have HV := Aside0.mk hV
  clear hV
  refine YtcfcbkcaondfcabDoorMpHelp.wpList_store_last rfl 61 _ _ rfl w _ V rfl rfl rfl hsz hn.symm hone ?_
  refine wpList_nil ?_
  simp only [Act.put]
  clear hone
  have HS := Aside0.mk hsz
  clear hsz hn
  go_wp2
  refine bodyPost_ret (v := .agg V) ?_ rfl ⟨by rw [HV.out], below_alloc (Below.refl _ _) _⟩
  exact results_cell_row (p := 0) (ty := 61) rfl _ _ w.heap.size 61 V (0, 0) _ rfl (YtcfcbkcaondfcabDoorMpHelp.heap_new _ _) Tryd.underlying61 rfl HS.out


/-! ### report_Word: function 7 (told by hand) -/
def report_Word.f (a0 : Int) : Option ByteArray := some (if 1 ≤ a0 ∧ a0 ≤ 18 then report_kinds.words.getD a0.toNat ByteArray.empty else ⟨#[110, 111, 110, 101]⟩)
set_option maxRecDepth 100000 in
theorem report_Word.calls (a0 : Int) (r : ByteArray) (w : World) (h : report_Word.f a0 = some r) : Calls Tryd.prog 7 #[.int .i64 a0] w fun e w' => e = .returned (.string r) ∧ Below w.heap.size w w' := by
  have hr := Option.some.inj h
  clear h
  by_cases hk : 1 ≤ a0 ∧ a0 ≤ 18
  · rw [if_pos hk] at hr
    obtain ⟨k, rfl⟩ : ∃ k : Nat, a0 = k := ⟨a0.toNat, by omega⟩
    rw [Int.toNat_natCast] at hr
    have hix := report_kinds.run k (by omega)
    rw [hr] at hix
    have b1 : decide ((k : Int) < 1) = false := decide_eq_false (by omega)
    have b2 : decide (18 < (k : Int)) = false := decide_eq_false (by omega)
    clear hk hr
    go_enter Tryd.func7, Tryd.ntmps7
    go_wp2_with fail
    refine (report_kinds.calls _).mono ?_
    generalize report_kinds.val = V at hix ⊢
    rintro e w1 ⟨rfl, hb⟩
    have HB := Aside0.mk hb
    clear hb
    go_wp2
    go_ret
    exact ⟨rfl, HB.out⟩
  · rw [if_neg hk] at hr
    subst hr
    by_cases h1 : a0 < 1
    · have b1 : decide (a0 < 1) = true := decide_eq_true h1
      clear hk
      go_enter Tryd.func7, Tryd.ntmps7
      go_wp2
      go_ret
      exact ⟨rfl, Below.refl _ _⟩
    · have b1 : decide (a0 < 1) = false := decide_eq_false h1
      have b2 : decide (18 < a0) = true := decide_eq_true (by omega)
      clear hk
      go_enter Tryd.func7, Tryd.ntmps7
      go_wp2
      go_ret
      exact ⟨rfl, Below.refl _ _⟩


/-! ### bindleref33_Word: function 8 -/
def bindleref33_Word.f (a0 : Int) : Option (ByteArray) := if a0 = 1 then (some (⟨#[99, 114, 101, 97, 116, 101]⟩ : ByteArray)) else (if a0 = 2 then (some (⟨#[111, 112, 101, 110]⟩ : ByteArray)) else (if a0 = 3 then (some (⟨#[112, 117, 116]⟩ : ByteArray)) else (if a0 = 4 then (some (⟨#[98, 101, 103, 105, 110]⟩ : ByteArray)) else (if a0 = 5 then (some (⟨#[119, 114, 105, 116, 101]⟩ : ByteArray)) else (if a0 = 6 then (some (⟨#[102, 105, 110, 105, 115, 104]⟩ : ByteArray)) else (if a0 = 7 then (some (⟨#[97, 98, 111, 114, 116]⟩ : ByteArray)) else (if a0 = 8 then (some (⟨#[103, 101, 116]⟩ : ByteArray)) else (if a0 = 9 then (some (⟨#[115, 116, 97, 116]⟩ : ByteArray)) else (if a0 = 10 then (some (⟨#[108, 105, 115, 116]⟩ : ByteArray)) else (if a0 = 11 then (some (⟨#[100, 101, 108, 101, 116, 101]⟩ : ByteArray)) else (if a0 = 12 then (some (⟨#[115, 121, 110, 99]⟩ : ByteArray)) else (if a0 = 13 then (some (⟨#[118, 97, 99, 117, 117, 109]⟩ : ByteArray)) else (if a0 = 14 then (some (⟨#[99, 108, 111, 115, 101]⟩ : ByteArray)) else (if a0 = 15 then (some (⟨#[118, 101, 114, 105, 102, 121]⟩ : ByteArray)) else (if a0 = 16 then (some (⟨#[114, 101, 102, 117, 115, 101]⟩ : ByteArray)) else (if a0 = 17 then (some (⟨#[99, 117, 116]⟩ : ByteArray)) else (if a0 = 18 then (some (⟨#[99, 114, 97, 115, 104]⟩ : ByteArray)) else (some (⟨#[110, 111, 110, 101]⟩ : ByteArray)))))))))))))))))))
set_option maxHeartbeats 8000000 in
set_option maxRecDepth 100000 in
theorem bindleref33_Word.calls (a0 : Int) (r : ByteArray) (w : World) (h : bindleref33_Word.f a0 = some r) :
    Calls Tryd.prog 8 #[.int .i64 a0] w fun e w' => e = .returned (.string r) ∧ Drawn0 w w' := by
  have H : (if a0 = 1 then (some (⟨#[99, 114, 101, 97, 116, 101]⟩ : ByteArray)) else (if a0 = 2 then (some (⟨#[111, 112, 101, 110]⟩ : ByteArray)) else (if a0 = 3 then (some (⟨#[112, 117, 116]⟩ : ByteArray)) else (if a0 = 4 then (some (⟨#[98, 101, 103, 105, 110]⟩ : ByteArray)) else (if a0 = 5 then (some (⟨#[119, 114, 105, 116, 101]⟩ : ByteArray)) else (if a0 = 6 then (some (⟨#[102, 105, 110, 105, 115, 104]⟩ : ByteArray)) else (if a0 = 7 then (some (⟨#[97, 98, 111, 114, 116]⟩ : ByteArray)) else (if a0 = 8 then (some (⟨#[103, 101, 116]⟩ : ByteArray)) else (if a0 = 9 then (some (⟨#[115, 116, 97, 116]⟩ : ByteArray)) else (if a0 = 10 then (some (⟨#[108, 105, 115, 116]⟩ : ByteArray)) else (if a0 = 11 then (some (⟨#[100, 101, 108, 101, 116, 101]⟩ : ByteArray)) else (if a0 = 12 then (some (⟨#[115, 121, 110, 99]⟩ : ByteArray)) else (if a0 = 13 then (some (⟨#[118, 97, 99, 117, 117, 109]⟩ : ByteArray)) else (if a0 = 14 then (some (⟨#[99, 108, 111, 115, 101]⟩ : ByteArray)) else (if a0 = 15 then (some (⟨#[118, 101, 114, 105, 102, 121]⟩ : ByteArray)) else (if a0 = 16 then (some (⟨#[114, 101, 102, 117, 115, 101]⟩ : ByteArray)) else (if a0 = 17 then (some (⟨#[99, 117, 116]⟩ : ByteArray)) else (if a0 = 18 then (some (⟨#[99, 114, 97, 115, 104]⟩ : ByteArray)) else (some (⟨#[110, 111, 110, 101]⟩ : ByteArray)))))))))))))))))))) = some r := h
  clear h
  by_cases c2 : a0 = 1
  · rw [if_pos c2] at H
    have c2b0 : (a0 == 1) = true := beq_iff_eq.mpr c2
    have c2b1 : (a0 != 1) = false := bne_eq_false_iff_eq.mpr c2
    clear c2
    obtain rfl := Option.some.inj H
    go_enter Tryd.func8, Tryd.ntmps8
    go_wp2
    go_ret
    exact ⟨by first | rfl | (simp; done) | (simp [*]; done), by repeat (first | exact Drawn0.refl _ | apply Drawn0.step)⟩
  · rw [if_neg c2] at H
    have c2b0 : (a0 == 1) = false := beq_eq_false_iff_ne.mpr c2
    have c2b1 : (a0 != 1) = true := bne_iff_ne.mpr c2
    by_cases c3 : a0 = 2
    · rw [if_pos c3] at H
      have c3b0 : (a0 == 2) = true := beq_iff_eq.mpr c3
      have c3b1 : (a0 != 2) = false := bne_eq_false_iff_eq.mpr c3
      clear c3
      obtain rfl := Option.some.inj H
      go_enter Tryd.func8, Tryd.ntmps8
      go_wp2
      go_ret
      exact ⟨by first | rfl | (simp; done) | (simp [*]; done), by repeat (first | exact Drawn0.refl _ | apply Drawn0.step)⟩
    · rw [if_neg c3] at H
      have c3b0 : (a0 == 2) = false := beq_eq_false_iff_ne.mpr c3
      have c3b1 : (a0 != 2) = true := bne_iff_ne.mpr c3
      by_cases c4 : a0 = 3
      · rw [if_pos c4] at H
        have c4b0 : (a0 == 3) = true := beq_iff_eq.mpr c4
        have c4b1 : (a0 != 3) = false := bne_eq_false_iff_eq.mpr c4
        clear c4
        obtain rfl := Option.some.inj H
        go_enter Tryd.func8, Tryd.ntmps8
        go_wp2
        go_ret
        exact ⟨by first | rfl | (simp; done) | (simp [*]; done), by repeat (first | exact Drawn0.refl _ | apply Drawn0.step)⟩
      · rw [if_neg c4] at H
        have c4b0 : (a0 == 3) = false := beq_eq_false_iff_ne.mpr c4
        have c4b1 : (a0 != 3) = true := bne_iff_ne.mpr c4
        by_cases c5 : a0 = 4
        · rw [if_pos c5] at H
          have c5b0 : (a0 == 4) = true := beq_iff_eq.mpr c5
          have c5b1 : (a0 != 4) = false := bne_eq_false_iff_eq.mpr c5
          clear c5
          obtain rfl := Option.some.inj H
          go_enter Tryd.func8, Tryd.ntmps8
          go_wp2
          go_ret
          exact ⟨by first | rfl | (simp; done) | (simp [*]; done), by repeat (first | exact Drawn0.refl _ | apply Drawn0.step)⟩
        · rw [if_neg c5] at H
          have c5b0 : (a0 == 4) = false := beq_eq_false_iff_ne.mpr c5
          have c5b1 : (a0 != 4) = true := bne_iff_ne.mpr c5
          by_cases c6 : a0 = 5
          · rw [if_pos c6] at H
            have c6b0 : (a0 == 5) = true := beq_iff_eq.mpr c6
            have c6b1 : (a0 != 5) = false := bne_eq_false_iff_eq.mpr c6
            clear c6
            obtain rfl := Option.some.inj H
            go_enter Tryd.func8, Tryd.ntmps8
            go_wp2
            go_ret
            exact ⟨by first | rfl | (simp; done) | (simp [*]; done), by repeat (first | exact Drawn0.refl _ | apply Drawn0.step)⟩
          · rw [if_neg c6] at H
            have c6b0 : (a0 == 5) = false := beq_eq_false_iff_ne.mpr c6
            have c6b1 : (a0 != 5) = true := bne_iff_ne.mpr c6
            by_cases c7 : a0 = 6
            · rw [if_pos c7] at H
              have c7b0 : (a0 == 6) = true := beq_iff_eq.mpr c7
              have c7b1 : (a0 != 6) = false := bne_eq_false_iff_eq.mpr c7
              clear c7
              obtain rfl := Option.some.inj H
              go_enter Tryd.func8, Tryd.ntmps8
              go_wp2
              go_ret
              exact ⟨by first | rfl | (simp; done) | (simp [*]; done), by repeat (first | exact Drawn0.refl _ | apply Drawn0.step)⟩
            · rw [if_neg c7] at H
              have c7b0 : (a0 == 6) = false := beq_eq_false_iff_ne.mpr c7
              have c7b1 : (a0 != 6) = true := bne_iff_ne.mpr c7
              by_cases c8 : a0 = 7
              · rw [if_pos c8] at H
                have c8b0 : (a0 == 7) = true := beq_iff_eq.mpr c8
                have c8b1 : (a0 != 7) = false := bne_eq_false_iff_eq.mpr c8
                clear c8
                obtain rfl := Option.some.inj H
                go_enter Tryd.func8, Tryd.ntmps8
                go_wp2
                go_ret
                exact ⟨by first | rfl | (simp; done) | (simp [*]; done), by repeat (first | exact Drawn0.refl _ | apply Drawn0.step)⟩
              · rw [if_neg c8] at H
                have c8b0 : (a0 == 7) = false := beq_eq_false_iff_ne.mpr c8
                have c8b1 : (a0 != 7) = true := bne_iff_ne.mpr c8
                by_cases c9 : a0 = 8
                · rw [if_pos c9] at H
                  have c9b0 : (a0 == 8) = true := beq_iff_eq.mpr c9
                  have c9b1 : (a0 != 8) = false := bne_eq_false_iff_eq.mpr c9
                  clear c9
                  obtain rfl := Option.some.inj H
                  go_enter Tryd.func8, Tryd.ntmps8
                  go_wp2
                  go_ret
                  exact ⟨by first | rfl | (simp; done) | (simp [*]; done), by repeat (first | exact Drawn0.refl _ | apply Drawn0.step)⟩
                · rw [if_neg c9] at H
                  have c9b0 : (a0 == 8) = false := beq_eq_false_iff_ne.mpr c9
                  have c9b1 : (a0 != 8) = true := bne_iff_ne.mpr c9
                  by_cases c10 : a0 = 9
                  · rw [if_pos c10] at H
                    have c10b0 : (a0 == 9) = true := beq_iff_eq.mpr c10
                    have c10b1 : (a0 != 9) = false := bne_eq_false_iff_eq.mpr c10
                    clear c10
                    obtain rfl := Option.some.inj H
                    go_enter Tryd.func8, Tryd.ntmps8
                    go_wp2
                    go_ret
                    exact ⟨by first | rfl | (simp; done) | (simp [*]; done), by repeat (first | exact Drawn0.refl _ | apply Drawn0.step)⟩
                  · rw [if_neg c10] at H
                    have c10b0 : (a0 == 9) = false := beq_eq_false_iff_ne.mpr c10
                    have c10b1 : (a0 != 9) = true := bne_iff_ne.mpr c10
                    by_cases c11 : a0 = 10
                    · rw [if_pos c11] at H
                      have c11b0 : (a0 == 10) = true := beq_iff_eq.mpr c11
                      have c11b1 : (a0 != 10) = false := bne_eq_false_iff_eq.mpr c11
                      clear c11
                      obtain rfl := Option.some.inj H
                      go_enter Tryd.func8, Tryd.ntmps8
                      go_wp2
                      go_ret
                      exact ⟨by first | rfl | (simp; done) | (simp [*]; done), by repeat (first | exact Drawn0.refl _ | apply Drawn0.step)⟩
                    · rw [if_neg c11] at H
                      have c11b0 : (a0 == 10) = false := beq_eq_false_iff_ne.mpr c11
                      have c11b1 : (a0 != 10) = true := bne_iff_ne.mpr c11
                      by_cases c12 : a0 = 11
                      · rw [if_pos c12] at H
                        have c12b0 : (a0 == 11) = true := beq_iff_eq.mpr c12
                        have c12b1 : (a0 != 11) = false := bne_eq_false_iff_eq.mpr c12
                        clear c12
                        obtain rfl := Option.some.inj H
                        go_enter Tryd.func8, Tryd.ntmps8
                        go_wp2
                        go_ret
                        exact ⟨by first | rfl | (simp; done) | (simp [*]; done), by repeat (first | exact Drawn0.refl _ | apply Drawn0.step)⟩
                      · rw [if_neg c12] at H
                        have c12b0 : (a0 == 11) = false := beq_eq_false_iff_ne.mpr c12
                        have c12b1 : (a0 != 11) = true := bne_iff_ne.mpr c12
                        by_cases c13 : a0 = 12
                        · rw [if_pos c13] at H
                          have c13b0 : (a0 == 12) = true := beq_iff_eq.mpr c13
                          have c13b1 : (a0 != 12) = false := bne_eq_false_iff_eq.mpr c13
                          clear c13
                          obtain rfl := Option.some.inj H
                          go_enter Tryd.func8, Tryd.ntmps8
                          go_wp2
                          go_ret
                          exact ⟨by first | rfl | (simp; done) | (simp [*]; done), by repeat (first | exact Drawn0.refl _ | apply Drawn0.step)⟩
                        · rw [if_neg c13] at H
                          have c13b0 : (a0 == 12) = false := beq_eq_false_iff_ne.mpr c13
                          have c13b1 : (a0 != 12) = true := bne_iff_ne.mpr c13
                          by_cases c14 : a0 = 13
                          · rw [if_pos c14] at H
                            have c14b0 : (a0 == 13) = true := beq_iff_eq.mpr c14
                            have c14b1 : (a0 != 13) = false := bne_eq_false_iff_eq.mpr c14
                            clear c14
                            obtain rfl := Option.some.inj H
                            go_enter Tryd.func8, Tryd.ntmps8
                            go_wp2
                            go_ret
                            exact ⟨by first | rfl | (simp; done) | (simp [*]; done), by repeat (first | exact Drawn0.refl _ | apply Drawn0.step)⟩
                          · rw [if_neg c14] at H
                            have c14b0 : (a0 == 13) = false := beq_eq_false_iff_ne.mpr c14
                            have c14b1 : (a0 != 13) = true := bne_iff_ne.mpr c14
                            by_cases c15 : a0 = 14
                            · rw [if_pos c15] at H
                              have c15b0 : (a0 == 14) = true := beq_iff_eq.mpr c15
                              have c15b1 : (a0 != 14) = false := bne_eq_false_iff_eq.mpr c15
                              clear c15
                              obtain rfl := Option.some.inj H
                              go_enter Tryd.func8, Tryd.ntmps8
                              go_wp2
                              go_ret
                              exact ⟨by first | rfl | (simp; done) | (simp [*]; done), by repeat (first | exact Drawn0.refl _ | apply Drawn0.step)⟩
                            · rw [if_neg c15] at H
                              have c15b0 : (a0 == 14) = false := beq_eq_false_iff_ne.mpr c15
                              have c15b1 : (a0 != 14) = true := bne_iff_ne.mpr c15
                              by_cases c16 : a0 = 15
                              · rw [if_pos c16] at H
                                have c16b0 : (a0 == 15) = true := beq_iff_eq.mpr c16
                                have c16b1 : (a0 != 15) = false := bne_eq_false_iff_eq.mpr c16
                                clear c16
                                obtain rfl := Option.some.inj H
                                go_enter Tryd.func8, Tryd.ntmps8
                                go_wp2
                                go_ret
                                exact ⟨by first | rfl | (simp; done) | (simp [*]; done), by repeat (first | exact Drawn0.refl _ | apply Drawn0.step)⟩
                              · rw [if_neg c16] at H
                                have c16b0 : (a0 == 15) = false := beq_eq_false_iff_ne.mpr c16
                                have c16b1 : (a0 != 15) = true := bne_iff_ne.mpr c16
                                by_cases c17 : a0 = 16
                                · rw [if_pos c17] at H
                                  have c17b0 : (a0 == 16) = true := beq_iff_eq.mpr c17
                                  have c17b1 : (a0 != 16) = false := bne_eq_false_iff_eq.mpr c17
                                  clear c17
                                  obtain rfl := Option.some.inj H
                                  go_enter Tryd.func8, Tryd.ntmps8
                                  go_wp2
                                  go_ret
                                  exact ⟨by first | rfl | (simp; done) | (simp [*]; done), by repeat (first | exact Drawn0.refl _ | apply Drawn0.step)⟩
                                · rw [if_neg c17] at H
                                  have c17b0 : (a0 == 16) = false := beq_eq_false_iff_ne.mpr c17
                                  have c17b1 : (a0 != 16) = true := bne_iff_ne.mpr c17
                                  by_cases c18 : a0 = 17
                                  · rw [if_pos c18] at H
                                    have c18b0 : (a0 == 17) = true := beq_iff_eq.mpr c18
                                    have c18b1 : (a0 != 17) = false := bne_eq_false_iff_eq.mpr c18
                                    clear c18
                                    obtain rfl := Option.some.inj H
                                    go_enter Tryd.func8, Tryd.ntmps8
                                    go_wp2
                                    go_ret
                                    exact ⟨by first | rfl | (simp; done) | (simp [*]; done), by repeat (first | exact Drawn0.refl _ | apply Drawn0.step)⟩
                                  · rw [if_neg c18] at H
                                    have c18b0 : (a0 == 17) = false := beq_eq_false_iff_ne.mpr c18
                                    have c18b1 : (a0 != 17) = true := bne_iff_ne.mpr c18
                                    by_cases c19 : a0 = 18
                                    · rw [if_pos c19] at H
                                      have c19b0 : (a0 == 18) = true := beq_iff_eq.mpr c19
                                      have c19b1 : (a0 != 18) = false := bne_eq_false_iff_eq.mpr c19
                                      clear c19
                                      obtain rfl := Option.some.inj H
                                      go_enter Tryd.func8, Tryd.ntmps8
                                      go_wp2
                                      go_ret
                                      exact ⟨by first | rfl | (simp; done) | (simp [*]; done), by repeat (first | exact Drawn0.refl _ | apply Drawn0.step)⟩
                                    · rw [if_neg c19] at H
                                      have c19b0 : (a0 == 18) = false := beq_eq_false_iff_ne.mpr c19
                                      have c19b1 : (a0 != 18) = true := bne_iff_ne.mpr c19
                                      obtain rfl := Option.some.inj H
                                      go_enter Tryd.func8, Tryd.ntmps8
                                      go_wp2
                                      go_ret
                                      exact ⟨by first | rfl | (simp; done) | (simp [*]; done), by repeat (first | exact Drawn0.refl _ | apply Drawn0.step)⟩

/-! ### report_codes: function 22 (told by hand) -/
def report_codes.words : List ByteArray := [(⟨#[111, 107]⟩ : ByteArray), (⟨#[97, 114, 103]⟩ : ByteArray), (⟨#[101, 110, 100]⟩ : ByteArray), (⟨#[102, 111, 114, 109]⟩ : ByteArray), (⟨#[115, 117, 109]⟩ : ByteArray), (⟨#[115, 105, 122, 101]⟩ : ByteArray), (⟨#[110, 97, 109, 101]⟩ : ByteArray), (⟨#[110, 111, 116, 102, 111, 117, 110, 100]⟩ : ByteArray), (⟨#[98, 117, 115, 121]⟩ : ByteArray), (⟨#[110, 111, 115, 112, 97, 99, 101]⟩ : ByteArray), (⟨#[105, 111]⟩ : ByteArray), (⟨#[112, 111, 105, 115, 111, 110, 101, 100]⟩ : ByteArray), (⟨#[99, 108, 111, 115, 101, 100]⟩ : ByteArray), (⟨#[99, 111, 100, 101, 115]⟩ : ByteArray), (⟨#[108, 105, 109, 105, 116]⟩ : ByteArray), (⟨#[110, 111, 115, 116, 114, 101, 97, 109]⟩ : ByteArray), (⟨#[101, 120, 105, 115, 116, 115]⟩ : ByteArray)]
def report_codes.val : Array Value := #[.string (⟨#[111, 107]⟩ : ByteArray), .string (⟨#[97, 114, 103]⟩ : ByteArray), .string (⟨#[101, 110, 100]⟩ : ByteArray), .string (⟨#[102, 111, 114, 109]⟩ : ByteArray), .string (⟨#[115, 117, 109]⟩ : ByteArray), .string (⟨#[115, 105, 122, 101]⟩ : ByteArray), .string (⟨#[110, 97, 109, 101]⟩ : ByteArray), .string (⟨#[110, 111, 116, 102, 111, 117, 110, 100]⟩ : ByteArray), .string (⟨#[98, 117, 115, 121]⟩ : ByteArray), .string (⟨#[110, 111, 115, 112, 97, 99, 101]⟩ : ByteArray), .string (⟨#[105, 111]⟩ : ByteArray), .string (⟨#[112, 111, 105, 115, 111, 110, 101, 100]⟩ : ByteArray), .string (⟨#[99, 108, 111, 115, 101, 100]⟩ : ByteArray), .string (⟨#[99, 111, 100, 101, 115]⟩ : ByteArray), .string (⟨#[108, 105, 109, 105, 116]⟩ : ByteArray), .string (⟨#[110, 111, 115, 116, 114, 101, 97, 109]⟩ : ByteArray), .string (⟨#[101, 120, 105, 115, 116, 115]⟩ : ByteArray)]
theorem report_codes.at_ (k : Nat) (h : k < 17) : report_codes.val[k]? = some (.string (report_codes.words.getD k ByteArray.empty)) := by
  have e : report_codes.val = (report_codes.words.map Value.string).toArray := rfl
  have hl : report_codes.words.length = 17 := rfl
  rw [e, List.getElem?_toArray, List.getElem?_map, List.getElem?_eq_getElem (by omega), List.getD_eq_getElem?_getD, List.getElem?_eq_getElem (by omega)]
  rfl
set_option maxRecDepth 100000 in
theorem report_codes.run (k : Nat) (h : k < 17) (w : World) : (Instr.index 63 (.agg report_codes.val) (.int .i64 k)).run Tryd.prog w = .ok (.string (report_codes.words.getD k ByteArray.empty)) w :=
  YtcfcbkcaondfcabDoorMpHelp.run_index_agg Tryd.underlying63 (fun w => Tryd.sizeOf9 w) (fun w => Tryd.isAgg9 w) (by omega) (by omega) (by rw [Int.toNat_natCast]; exact report_codes.at_ k h)
theorem report_codes.sz : (Tryd.prog.info? 63).map (·.size) = some report_codes.val.size := by kernel_rfl
theorem report_codes.bd (w : World) : (Instr.build 63 #[(0, .string (⟨#[111, 107]⟩ : ByteArray)), (1, .string (⟨#[97, 114, 103]⟩ : ByteArray)), (2, .string (⟨#[101, 110, 100]⟩ : ByteArray)), (3, .string (⟨#[102, 111, 114, 109]⟩ : ByteArray)), (4, .string (⟨#[115, 117, 109]⟩ : ByteArray)), (5, .string (⟨#[115, 105, 122, 101]⟩ : ByteArray)), (6, .string (⟨#[110, 97, 109, 101]⟩ : ByteArray)), (7, .string (⟨#[110, 111, 116, 102, 111, 117, 110, 100]⟩ : ByteArray)), (8, .string (⟨#[98, 117, 115, 121]⟩ : ByteArray)), (9, .string (⟨#[110, 111, 115, 112, 97, 99, 101]⟩ : ByteArray)), (10, .string (⟨#[105, 111]⟩ : ByteArray)), (11, .string (⟨#[112, 111, 105, 115, 111, 110, 101, 100]⟩ : ByteArray)), (12, .string (⟨#[99, 108, 111, 115, 101, 100]⟩ : ByteArray)), (13, .string (⟨#[99, 111, 100, 101, 115]⟩ : ByteArray)), (14, .string (⟨#[108, 105, 109, 105, 116]⟩ : ByteArray)), (15, .string (⟨#[110, 111, 115, 116, 114, 101, 97, 109]⟩ : ByteArray)), (16, .string (⟨#[101, 120, 105, 115, 116, 115]⟩ : ByteArray))]).run Tryd.prog w = .ok (.agg report_codes.val) w := run_build w 63 _ _ (by kernel_rfl)
theorem report_codes.one : report_codes.val.all (·.oneCell') = true := by kernel_rfl
def report_codes.zeros : Array Value := #[.string (⟨#[]⟩ : ByteArray), .string (⟨#[]⟩ : ByteArray), .string (⟨#[]⟩ : ByteArray), .string (⟨#[]⟩ : ByteArray), .string (⟨#[]⟩ : ByteArray), .string (⟨#[]⟩ : ByteArray), .string (⟨#[]⟩ : ByteArray), .string (⟨#[]⟩ : ByteArray), .string (⟨#[]⟩ : ByteArray), .string (⟨#[]⟩ : ByteArray), .string (⟨#[]⟩ : ByteArray), .string (⟨#[]⟩ : ByteArray), .string (⟨#[]⟩ : ByteArray), .string (⟨#[]⟩ : ByteArray), .string (⟨#[]⟩ : ByteArray), .string (⟨#[]⟩ : ByteArray), .string (⟨#[]⟩ : ByteArray)]
theorem report_codes.zz (w : World) : (zeroValue 63).run Tryd.prog w = .ok (.agg report_codes.zeros) w := (zero_of_info (v := .agg report_codes.zeros) (n := 17) (by kernel_rfl)).1 w
set_option maxRecDepth 100000 in
set_option maxHeartbeats 4000000 in
theorem report_codes.calls (w : World) : Calls Tryd.prog 22 #[] w fun e w' => e = .returned (.agg report_codes.val) ∧ Below w.heap.size w w' := by
  go_enter Tryd.func22, Tryd.ntmps22
  go_upto_region 1 with (fail)
  refine wp_region_list ?_
  refine YtcfcbkcaondfcabDoorMpHelp.wpList_build_row rfl 63 _ rfl report_codes.val (fun w1 => by simp only [List.map_toArray, List.map_cons, List.map_nil, Act.eval]; exact report_codes.bd w1) ?_
  have hsz := report_codes.sz
  have hone := report_codes.one
  have hn : report_codes.val.size = 17 := rfl
  generalize hV : report_codes.val = V at hsz hone hn ⊢
  have HV := Aside0.mk hV
  clear hV
  refine YtcfcbkcaondfcabDoorMpHelp.wpList_store_last rfl 63 _ _ rfl w _ V rfl rfl rfl hsz hn.symm hone ?_
  refine wpList_nil ?_
  simp only [Act.put]
  clear hone
  have HS := Aside0.mk hsz
  clear hsz hn
  go_wp2
  refine bodyPost_ret (v := .agg V) ?_ rfl ⟨by rw [HV.out], below_alloc (Below.refl _ _) _⟩
  exact results_cell_row (p := 0) (ty := 63) rfl _ _ w.heap.size 63 V (0, 0) _ rfl (YtcfcbkcaondfcabDoorMpHelp.heap_new _ _) Tryd.underlying63 rfl HS.out


/-! ### report_Code: function 9 (told by hand) -/
def report_Code.f (a0 : Int) : Option ByteArray := some (if 0 ≤ a0 ∧ a0 ≤ 16 then report_codes.words.getD a0.toNat ByteArray.empty else ⟨#[111, 116, 104, 101, 114]⟩)
set_option maxRecDepth 100000 in
theorem report_Code.calls (a0 : Int) (r : ByteArray) (w : World) (h : report_Code.f a0 = some r) : Calls Tryd.prog 9 #[.int .i64 a0] w fun e w' => e = .returned (.string r) ∧ Below w.heap.size w w' := by
  have hr := Option.some.inj h
  clear h
  by_cases hk : 0 ≤ a0 ∧ a0 ≤ 16
  · rw [if_pos hk] at hr
    obtain ⟨k, rfl⟩ : ∃ k : Nat, a0 = k := ⟨a0.toNat, by omega⟩
    rw [Int.toNat_natCast] at hr
    have hix := report_codes.run k (by omega)
    rw [hr] at hix
    have b1 : decide ((k : Int) < 0) = false := decide_eq_false (by omega)
    have b2 : decide (16 < (k : Int)) = false := decide_eq_false (by omega)
    clear hk hr
    go_enter Tryd.func9, Tryd.ntmps9
    go_wp2_with fail
    refine (report_codes.calls _).mono ?_
    generalize report_codes.val = V at hix ⊢
    rintro e w1 ⟨rfl, hb⟩
    have HB := Aside0.mk hb
    clear hb
    go_wp2
    go_ret
    exact ⟨rfl, HB.out⟩
  · rw [if_neg hk] at hr
    subst hr
    by_cases h1 : a0 < 0
    · have b1 : decide (a0 < 0) = true := decide_eq_true h1
      clear hk
      go_enter Tryd.func9, Tryd.ntmps9
      go_wp2
      go_ret
      exact ⟨rfl, Below.refl _ _⟩
    · have b1 : decide (a0 < 0) = false := decide_eq_false h1
      have b2 : decide (16 < a0) = true := decide_eq_true (by omega)
      clear hk
      go_enter Tryd.func9, Tryd.ntmps9
      go_wp2
      go_ret
      exact ⟨rfl, Below.refl _ _⟩


/-! ### bindleref33_Code: function 10 -/
def bindleref33_Code.f (a0 : Int) : Option (ByteArray) := (some (([(⟨#[111, 107]⟩ : ByteArray), (⟨#[97, 114, 103]⟩ : ByteArray), (⟨#[101, 110, 100]⟩ : ByteArray), (⟨#[102, 111, 114, 109]⟩ : ByteArray), (⟨#[115, 117, 109]⟩ : ByteArray), (⟨#[115, 105, 122, 101]⟩ : ByteArray), (⟨#[110, 97, 109, 101]⟩ : ByteArray), (⟨#[110, 111, 116, 102, 111, 117, 110, 100]⟩ : ByteArray), (⟨#[98, 117, 115, 121]⟩ : ByteArray), (⟨#[110, 111, 115, 112, 97, 99, 101]⟩ : ByteArray), (⟨#[105, 111]⟩ : ByteArray), (⟨#[112, 111, 105, 115, 111, 110, 101, 100]⟩ : ByteArray), (⟨#[99, 108, 111, 115, 101, 100]⟩ : ByteArray), (⟨#[99, 111, 100, 101, 115]⟩ : ByteArray), (⟨#[108, 105, 109, 105, 116]⟩ : ByteArray), (⟨#[110, 111, 115, 116, 114, 101, 97, 109]⟩ : ByteArray), (⟨#[101, 120, 105, 115, 116, 115]⟩ : ByteArray)] : List ByteArray) : List ByteArray)).bind fun y101 => (if a0 < 0 then (some (⟨#[111, 116, 104, 101, 114]⟩ : ByteArray)) else (if a0 ≥ (y101.length : Int) then (some (⟨#[111, 116, 104, 101, 114]⟩ : ByteArray)) else (if 0 ≤ a0 then (if a0 < (y101.length : Int) then (some (rdOf ByteArray.empty y101 a0)) else (none)) else (none))))
set_option maxHeartbeats 8000000 in
set_option maxRecDepth 100000 in
theorem bindleref33_Code.calls (a0 : Int) (r : ByteArray) (w : World) (h : bindleref33_Code.f a0 = some r) :
    Calls Tryd.prog 10 #[.int .i64 a0] w fun e w' => e = .returned (.string r) ∧ Below w.heap.size w w' := by
  have HB := Aside0.mk (Below.refl w.heap.size w)
  have H : ((some (([(⟨#[111, 107]⟩ : ByteArray), (⟨#[97, 114, 103]⟩ : ByteArray), (⟨#[101, 110, 100]⟩ : ByteArray), (⟨#[102, 111, 114, 109]⟩ : ByteArray), (⟨#[115, 117, 109]⟩ : ByteArray), (⟨#[115, 105, 122, 101]⟩ : ByteArray), (⟨#[110, 97, 109, 101]⟩ : ByteArray), (⟨#[110, 111, 116, 102, 111, 117, 110, 100]⟩ : ByteArray), (⟨#[98, 117, 115, 121]⟩ : ByteArray), (⟨#[110, 111, 115, 112, 97, 99, 101]⟩ : ByteArray), (⟨#[105, 111]⟩ : ByteArray), (⟨#[112, 111, 105, 115, 111, 110, 101, 100]⟩ : ByteArray), (⟨#[99, 108, 111, 115, 101, 100]⟩ : ByteArray), (⟨#[99, 111, 100, 101, 115]⟩ : ByteArray), (⟨#[108, 105, 109, 105, 116]⟩ : ByteArray), (⟨#[110, 111, 115, 116, 114, 101, 97, 109]⟩ : ByteArray), (⟨#[101, 120, 105, 115, 116, 115]⟩ : ByteArray)] : List ByteArray) : List ByteArray)).bind fun y101 => (if a0 < 0 then (some (⟨#[111, 116, 104, 101, 114]⟩ : ByteArray)) else (if a0 ≥ (y101.length : Int) then (some (⟨#[111, 116, 104, 101, 114]⟩ : ByteArray)) else (if 0 ≤ a0 then (if a0 < (y101.length : Int) then (some (rdOf ByteArray.empty y101 a0)) else (none)) else (none))))) = some r := h
  clear h
  obtain ⟨y101, hy101⟩ : ∃ y_ : List ByteArray, y_ = (([(⟨#[111, 107]⟩ : ByteArray), (⟨#[97, 114, 103]⟩ : ByteArray), (⟨#[101, 110, 100]⟩ : ByteArray), (⟨#[102, 111, 114, 109]⟩ : ByteArray), (⟨#[115, 117, 109]⟩ : ByteArray), (⟨#[115, 105, 122, 101]⟩ : ByteArray), (⟨#[110, 97, 109, 101]⟩ : ByteArray), (⟨#[110, 111, 116, 102, 111, 117, 110, 100]⟩ : ByteArray), (⟨#[98, 117, 115, 121]⟩ : ByteArray), (⟨#[110, 111, 115, 112, 97, 99, 101]⟩ : ByteArray), (⟨#[105, 111]⟩ : ByteArray), (⟨#[112, 111, 105, 115, 111, 110, 101, 100]⟩ : ByteArray), (⟨#[99, 108, 111, 115, 101, 100]⟩ : ByteArray), (⟨#[99, 111, 100, 101, 115]⟩ : ByteArray), (⟨#[108, 105, 109, 105, 116]⟩ : ByteArray), (⟨#[110, 111, 115, 116, 114, 101, 97, 109]⟩ : ByteArray), (⟨#[101, 120, 105, 115, 116, 115]⟩ : ByteArray)] : List ByteArray)) := ⟨_, rfl⟩
  replace H : (if a0 < 0 then (some (⟨#[111, 116, 104, 101, 114]⟩ : ByteArray)) else (if a0 ≥ (y101.length : Int) then (some (⟨#[111, 116, 104, 101, 114]⟩ : ByteArray)) else (if 0 ≤ a0 then (if a0 < (y101.length : Int) then (some (rdOf ByteArray.empty y101 a0)) else (none)) else (none)))) = some r := by first | (rw [hy101]; with_reducible exact H) | (have H2_ := (Option.bind_some _ _).symm.trans H; rw [hy101]; with_reducible exact H2_) | (have H2_ := (Option.bind_some _ _).symm.trans H; with_reducible exact H2_) | with_reducible exact H | (rw [hy101]; exact H) | exact H
  have Ny101 := Aside0.mk hy101
  clear hy101
  by_cases c2 : a0 < 0
  · rw [if_pos c2] at H
    have c2b0 : decide (a0 < 0) = true := decide_eq_true c2
    clear c2
    obtain rfl := Option.some.inj H
    go_enter Tryd.func10, Tryd.ntmps10
    go_wp2_with (first | ((with_reducible refine gate_dst (N := 4) rfl ?_); (try (refine gate_guard (by rfl) ?_; dsimp only)); refine Kd.R_lit Kd.string _ 9 ?hg (N := 4) ?hd (xs := ([(⟨#[111, 107]⟩ : ByteArray), (⟨#[97, 114, 103]⟩ : ByteArray), (⟨#[101, 110, 100]⟩ : ByteArray), (⟨#[102, 111, 114, 109]⟩ : ByteArray), (⟨#[115, 117, 109]⟩ : ByteArray), (⟨#[115, 105, 122, 101]⟩ : ByteArray), (⟨#[110, 97, 109, 101]⟩ : ByteArray), (⟨#[110, 111, 116, 102, 111, 117, 110, 100]⟩ : ByteArray), (⟨#[98, 117, 115, 121]⟩ : ByteArray), (⟨#[110, 111, 115, 112, 97, 99, 101]⟩ : ByteArray), (⟨#[105, 111]⟩ : ByteArray), (⟨#[112, 111, 105, 115, 111, 110, 101, 100]⟩ : ByteArray), (⟨#[99, 108, 111, 115, 101, 100]⟩ : ByteArray), (⟨#[99, 111, 100, 101, 115]⟩ : ByteArray), (⟨#[108, 105, 109, 105, 116]⟩ : ByteArray), (⟨#[110, 111, 115, 116, 114, 101, 97, 109]⟩ : ByteArray), (⟨#[101, 120, 105, 115, 116, 115]⟩ : ByteArray)] : List ByteArray)) (inner := [.string (⟨#[111, 107]⟩ : ByteArray), .string (⟨#[97, 114, 103]⟩ : ByteArray), .string (⟨#[101, 110, 100]⟩ : ByteArray), .string (⟨#[102, 111, 114, 109]⟩ : ByteArray), .string (⟨#[115, 117, 109]⟩ : ByteArray), .string (⟨#[115, 105, 122, 101]⟩ : ByteArray), .string (⟨#[110, 97, 109, 101]⟩ : ByteArray), .string (⟨#[110, 111, 116, 102, 111, 117, 110, 100]⟩ : ByteArray), .string (⟨#[98, 117, 115, 121]⟩ : ByteArray), .string (⟨#[110, 111, 115, 112, 97, 99, 101]⟩ : ByteArray), .string (⟨#[105, 111]⟩ : ByteArray), .string (⟨#[112, 111, 105, 115, 111, 110, 101, 100]⟩ : ByteArray), .string (⟨#[99, 108, 111, 115, 101, 100]⟩ : ByteArray), .string (⟨#[99, 111, 100, 101, 115]⟩ : ByteArray), .string (⟨#[108, 105, 109, 105, 116]⟩ : ByteArray), .string (⟨#[110, 111, 115, 116, 114, 101, 97, 109]⟩ : ByteArray), .string (⟨#[101, 120, 105, 115, 116, 115]⟩ : ByteArray)]) (ok := fun _ => True) (okp := fun _ => True) ?hr ?hp (fun _ hk => hk) trivial (Below.refl _ _) (Nat.le_refl _) (by simp) ?_; (case hd => rfl); (case hg => rfl); (case hr => first | (go_simp; done) | (go_simp; rfl)); (case hp => exact (Reps.one (show Kd.M Kd.string _ _ _ (⟨#[111, 107]⟩ : ByteArray) [.string (⟨#[111, 107]⟩ : ByteArray)] from rfl) (Reps.one (show Kd.M Kd.string _ _ _ (⟨#[97, 114, 103]⟩ : ByteArray) [.string (⟨#[97, 114, 103]⟩ : ByteArray)] from rfl) (Reps.one (show Kd.M Kd.string _ _ _ (⟨#[101, 110, 100]⟩ : ByteArray) [.string (⟨#[101, 110, 100]⟩ : ByteArray)] from rfl) (Reps.one (show Kd.M Kd.string _ _ _ (⟨#[102, 111, 114, 109]⟩ : ByteArray) [.string (⟨#[102, 111, 114, 109]⟩ : ByteArray)] from rfl) (Reps.one (show Kd.M Kd.string _ _ _ (⟨#[115, 117, 109]⟩ : ByteArray) [.string (⟨#[115, 117, 109]⟩ : ByteArray)] from rfl) (Reps.one (show Kd.M Kd.string _ _ _ (⟨#[115, 105, 122, 101]⟩ : ByteArray) [.string (⟨#[115, 105, 122, 101]⟩ : ByteArray)] from rfl) (Reps.one (show Kd.M Kd.string _ _ _ (⟨#[110, 97, 109, 101]⟩ : ByteArray) [.string (⟨#[110, 97, 109, 101]⟩ : ByteArray)] from rfl) (Reps.one (show Kd.M Kd.string _ _ _ (⟨#[110, 111, 116, 102, 111, 117, 110, 100]⟩ : ByteArray) [.string (⟨#[110, 111, 116, 102, 111, 117, 110, 100]⟩ : ByteArray)] from rfl) (Reps.one (show Kd.M Kd.string _ _ _ (⟨#[98, 117, 115, 121]⟩ : ByteArray) [.string (⟨#[98, 117, 115, 121]⟩ : ByteArray)] from rfl) (Reps.one (show Kd.M Kd.string _ _ _ (⟨#[110, 111, 115, 112, 97, 99, 101]⟩ : ByteArray) [.string (⟨#[110, 111, 115, 112, 97, 99, 101]⟩ : ByteArray)] from rfl) (Reps.one (show Kd.M Kd.string _ _ _ (⟨#[105, 111]⟩ : ByteArray) [.string (⟨#[105, 111]⟩ : ByteArray)] from rfl) (Reps.one (show Kd.M Kd.string _ _ _ (⟨#[112, 111, 105, 115, 111, 110, 101, 100]⟩ : ByteArray) [.string (⟨#[112, 111, 105, 115, 111, 110, 101, 100]⟩ : ByteArray)] from rfl) (Reps.one (show Kd.M Kd.string _ _ _ (⟨#[99, 108, 111, 115, 101, 100]⟩ : ByteArray) [.string (⟨#[99, 108, 111, 115, 101, 100]⟩ : ByteArray)] from rfl) (Reps.one (show Kd.M Kd.string _ _ _ (⟨#[99, 111, 100, 101, 115]⟩ : ByteArray) [.string (⟨#[99, 111, 100, 101, 115]⟩ : ByteArray)] from rfl) (Reps.one (show Kd.M Kd.string _ _ _ (⟨#[108, 105, 109, 105, 116]⟩ : ByteArray) [.string (⟨#[108, 105, 109, 105, 116]⟩ : ByteArray)] from rfl) (Reps.one (show Kd.M Kd.string _ _ _ (⟨#[110, 111, 115, 116, 114, 101, 97, 109]⟩ : ByteArray) [.string (⟨#[110, 111, 115, 116, 114, 101, 97, 109]⟩ : ByteArray)] from rfl) (Reps.one (show Kd.M Kd.string _ _ _ (⟨#[101, 120, 105, 115, 116, 115]⟩ : ByteArray) [.string (⟨#[101, 120, 105, 115, 116, 115]⟩ : ByteArray)] from rfl) (Reps.none _ _))))))))))))))))))); intro v102 w3 ho4 hb hg_ hnew_; clear hg_ hnew_; (first | rw [← Ny101.out] at ho4 | (simp only [Int.reduceToNat] at ho4; rw [← Ny101.out] at ho4)); have n0_ := Aside0.mk (Kd.R_lower ho4 (below_size (by repeat (first | (with_reducible first | exact HB.out | apply below_alloc | apply pw_below_drewN | apply below_drew1) | exact HB.out)))); have n1_ := Aside0.mk (below_step (by repeat (first | (with_reducible first | exact HB.out | apply below_alloc | apply pw_below_drewN | apply below_drew1) | exact HB.out)) hb); clear HB; have HO103 := n0_; have HB := n1_; clear n0_ n1_; clear hb ho4))
    go_ret
    exact ⟨by first | rfl | (simp [errW_none, errW_some] <;> rfl) | (simp [*, errW_none, errW_some] <;> rfl), by repeat (first | (with_reducible first | exact HB.out | apply below_alloc | apply pw_below_drewN | apply below_drew1) | exact HB.out)⟩
  · rw [if_neg c2] at H
    have c2b0 : decide (a0 < 0) = false := decide_eq_false c2
    clear c2
    by_cases c5 : a0 ≥ (y101.length : Int)
    · rw [if_pos c5] at H
      have c5b0 : decide ((y101.length : Int) ≤ a0) = true := decide_eq_true c5
      clear c5
      obtain rfl := Option.some.inj H
      go_enter Tryd.func10, Tryd.ntmps10
      go_wp2_with (first | ((with_reducible refine gate_dst (N := 4) rfl ?_); (try (refine gate_guard (by rfl) ?_; dsimp only)); refine Kd.R_lit Kd.string _ 9 ?hg (N := 4) ?hd (xs := ([(⟨#[111, 107]⟩ : ByteArray), (⟨#[97, 114, 103]⟩ : ByteArray), (⟨#[101, 110, 100]⟩ : ByteArray), (⟨#[102, 111, 114, 109]⟩ : ByteArray), (⟨#[115, 117, 109]⟩ : ByteArray), (⟨#[115, 105, 122, 101]⟩ : ByteArray), (⟨#[110, 97, 109, 101]⟩ : ByteArray), (⟨#[110, 111, 116, 102, 111, 117, 110, 100]⟩ : ByteArray), (⟨#[98, 117, 115, 121]⟩ : ByteArray), (⟨#[110, 111, 115, 112, 97, 99, 101]⟩ : ByteArray), (⟨#[105, 111]⟩ : ByteArray), (⟨#[112, 111, 105, 115, 111, 110, 101, 100]⟩ : ByteArray), (⟨#[99, 108, 111, 115, 101, 100]⟩ : ByteArray), (⟨#[99, 111, 100, 101, 115]⟩ : ByteArray), (⟨#[108, 105, 109, 105, 116]⟩ : ByteArray), (⟨#[110, 111, 115, 116, 114, 101, 97, 109]⟩ : ByteArray), (⟨#[101, 120, 105, 115, 116, 115]⟩ : ByteArray)] : List ByteArray)) (inner := [.string (⟨#[111, 107]⟩ : ByteArray), .string (⟨#[97, 114, 103]⟩ : ByteArray), .string (⟨#[101, 110, 100]⟩ : ByteArray), .string (⟨#[102, 111, 114, 109]⟩ : ByteArray), .string (⟨#[115, 117, 109]⟩ : ByteArray), .string (⟨#[115, 105, 122, 101]⟩ : ByteArray), .string (⟨#[110, 97, 109, 101]⟩ : ByteArray), .string (⟨#[110, 111, 116, 102, 111, 117, 110, 100]⟩ : ByteArray), .string (⟨#[98, 117, 115, 121]⟩ : ByteArray), .string (⟨#[110, 111, 115, 112, 97, 99, 101]⟩ : ByteArray), .string (⟨#[105, 111]⟩ : ByteArray), .string (⟨#[112, 111, 105, 115, 111, 110, 101, 100]⟩ : ByteArray), .string (⟨#[99, 108, 111, 115, 101, 100]⟩ : ByteArray), .string (⟨#[99, 111, 100, 101, 115]⟩ : ByteArray), .string (⟨#[108, 105, 109, 105, 116]⟩ : ByteArray), .string (⟨#[110, 111, 115, 116, 114, 101, 97, 109]⟩ : ByteArray), .string (⟨#[101, 120, 105, 115, 116, 115]⟩ : ByteArray)]) (ok := fun _ => True) (okp := fun _ => True) ?hr ?hp (fun _ hk => hk) trivial (Below.refl _ _) (Nat.le_refl _) (by simp) ?_; (case hd => rfl); (case hg => rfl); (case hr => first | (go_simp; done) | (go_simp; rfl)); (case hp => exact (Reps.one (show Kd.M Kd.string _ _ _ (⟨#[111, 107]⟩ : ByteArray) [.string (⟨#[111, 107]⟩ : ByteArray)] from rfl) (Reps.one (show Kd.M Kd.string _ _ _ (⟨#[97, 114, 103]⟩ : ByteArray) [.string (⟨#[97, 114, 103]⟩ : ByteArray)] from rfl) (Reps.one (show Kd.M Kd.string _ _ _ (⟨#[101, 110, 100]⟩ : ByteArray) [.string (⟨#[101, 110, 100]⟩ : ByteArray)] from rfl) (Reps.one (show Kd.M Kd.string _ _ _ (⟨#[102, 111, 114, 109]⟩ : ByteArray) [.string (⟨#[102, 111, 114, 109]⟩ : ByteArray)] from rfl) (Reps.one (show Kd.M Kd.string _ _ _ (⟨#[115, 117, 109]⟩ : ByteArray) [.string (⟨#[115, 117, 109]⟩ : ByteArray)] from rfl) (Reps.one (show Kd.M Kd.string _ _ _ (⟨#[115, 105, 122, 101]⟩ : ByteArray) [.string (⟨#[115, 105, 122, 101]⟩ : ByteArray)] from rfl) (Reps.one (show Kd.M Kd.string _ _ _ (⟨#[110, 97, 109, 101]⟩ : ByteArray) [.string (⟨#[110, 97, 109, 101]⟩ : ByteArray)] from rfl) (Reps.one (show Kd.M Kd.string _ _ _ (⟨#[110, 111, 116, 102, 111, 117, 110, 100]⟩ : ByteArray) [.string (⟨#[110, 111, 116, 102, 111, 117, 110, 100]⟩ : ByteArray)] from rfl) (Reps.one (show Kd.M Kd.string _ _ _ (⟨#[98, 117, 115, 121]⟩ : ByteArray) [.string (⟨#[98, 117, 115, 121]⟩ : ByteArray)] from rfl) (Reps.one (show Kd.M Kd.string _ _ _ (⟨#[110, 111, 115, 112, 97, 99, 101]⟩ : ByteArray) [.string (⟨#[110, 111, 115, 112, 97, 99, 101]⟩ : ByteArray)] from rfl) (Reps.one (show Kd.M Kd.string _ _ _ (⟨#[105, 111]⟩ : ByteArray) [.string (⟨#[105, 111]⟩ : ByteArray)] from rfl) (Reps.one (show Kd.M Kd.string _ _ _ (⟨#[112, 111, 105, 115, 111, 110, 101, 100]⟩ : ByteArray) [.string (⟨#[112, 111, 105, 115, 111, 110, 101, 100]⟩ : ByteArray)] from rfl) (Reps.one (show Kd.M Kd.string _ _ _ (⟨#[99, 108, 111, 115, 101, 100]⟩ : ByteArray) [.string (⟨#[99, 108, 111, 115, 101, 100]⟩ : ByteArray)] from rfl) (Reps.one (show Kd.M Kd.string _ _ _ (⟨#[99, 111, 100, 101, 115]⟩ : ByteArray) [.string (⟨#[99, 111, 100, 101, 115]⟩ : ByteArray)] from rfl) (Reps.one (show Kd.M Kd.string _ _ _ (⟨#[108, 105, 109, 105, 116]⟩ : ByteArray) [.string (⟨#[108, 105, 109, 105, 116]⟩ : ByteArray)] from rfl) (Reps.one (show Kd.M Kd.string _ _ _ (⟨#[110, 111, 115, 116, 114, 101, 97, 109]⟩ : ByteArray) [.string (⟨#[110, 111, 115, 116, 114, 101, 97, 109]⟩ : ByteArray)] from rfl) (Reps.one (show Kd.M Kd.string _ _ _ (⟨#[101, 120, 105, 115, 116, 115]⟩ : ByteArray) [.string (⟨#[101, 120, 105, 115, 116, 115]⟩ : ByteArray)] from rfl) (Reps.none _ _))))))))))))))))))); intro v102 w6 ho7 hb hg_ hnew_; clear hg_ hnew_; (first | rw [← Ny101.out] at ho7 | (simp only [Int.reduceToNat] at ho7; rw [← Ny101.out] at ho7)); have n0_ := Aside0.mk (Kd.R_lower ho7 (below_size (by repeat (first | (with_reducible first | exact HB.out | apply below_alloc | apply pw_below_drewN | apply below_drew1) | exact HB.out)))); have n1_ := Aside0.mk (below_step (by repeat (first | (with_reducible first | exact HB.out | apply below_alloc | apply pw_below_drewN | apply below_drew1) | exact HB.out)) hb); clear HB; have HO103 := n0_; have HB := n1_; clear n0_ n1_; clear hb ho7; obtain ⟨Ao8, co8, eo8⟩ := Kd.R_slice HO103.out; subst eo8))
      go_ret
      exact ⟨by first | rfl | (simp [errW_none, errW_some] <;> rfl) | (simp [*, errW_none, errW_some] <;> rfl), by repeat (first | (with_reducible first | exact HB.out | apply below_alloc | apply pw_below_drewN | apply below_drew1) | exact HB.out)⟩
    · rw [if_neg c5] at H
      have c5b0 : decide ((y101.length : Int) ≤ a0) = false := decide_eq_false c5
      clear c5
      by_cases c9 : 0 ≤ a0
      · rw [if_pos c9] at H
        have c9b0 : decide (0 ≤ a0) = true := decide_eq_true c9
        clear c9
        by_cases c10 : a0 < (y101.length : Int)
        · rw [if_pos c10] at H
          have c10b0 : decide (a0 < (y101.length : Int)) = true := decide_eq_true c10
          clear c10
          obtain rfl := Option.some.inj H
          go_enter Tryd.func10, Tryd.ntmps10
          go_wp2_with (first | ((with_reducible refine gate_dst (N := 4) rfl ?_); (try (refine gate_guard (by rfl) ?_; dsimp only)); refine Kd.R_lit Kd.string _ 9 ?hg (N := 4) ?hd (xs := ([(⟨#[111, 107]⟩ : ByteArray), (⟨#[97, 114, 103]⟩ : ByteArray), (⟨#[101, 110, 100]⟩ : ByteArray), (⟨#[102, 111, 114, 109]⟩ : ByteArray), (⟨#[115, 117, 109]⟩ : ByteArray), (⟨#[115, 105, 122, 101]⟩ : ByteArray), (⟨#[110, 97, 109, 101]⟩ : ByteArray), (⟨#[110, 111, 116, 102, 111, 117, 110, 100]⟩ : ByteArray), (⟨#[98, 117, 115, 121]⟩ : ByteArray), (⟨#[110, 111, 115, 112, 97, 99, 101]⟩ : ByteArray), (⟨#[105, 111]⟩ : ByteArray), (⟨#[112, 111, 105, 115, 111, 110, 101, 100]⟩ : ByteArray), (⟨#[99, 108, 111, 115, 101, 100]⟩ : ByteArray), (⟨#[99, 111, 100, 101, 115]⟩ : ByteArray), (⟨#[108, 105, 109, 105, 116]⟩ : ByteArray), (⟨#[110, 111, 115, 116, 114, 101, 97, 109]⟩ : ByteArray), (⟨#[101, 120, 105, 115, 116, 115]⟩ : ByteArray)] : List ByteArray)) (inner := [.string (⟨#[111, 107]⟩ : ByteArray), .string (⟨#[97, 114, 103]⟩ : ByteArray), .string (⟨#[101, 110, 100]⟩ : ByteArray), .string (⟨#[102, 111, 114, 109]⟩ : ByteArray), .string (⟨#[115, 117, 109]⟩ : ByteArray), .string (⟨#[115, 105, 122, 101]⟩ : ByteArray), .string (⟨#[110, 97, 109, 101]⟩ : ByteArray), .string (⟨#[110, 111, 116, 102, 111, 117, 110, 100]⟩ : ByteArray), .string (⟨#[98, 117, 115, 121]⟩ : ByteArray), .string (⟨#[110, 111, 115, 112, 97, 99, 101]⟩ : ByteArray), .string (⟨#[105, 111]⟩ : ByteArray), .string (⟨#[112, 111, 105, 115, 111, 110, 101, 100]⟩ : ByteArray), .string (⟨#[99, 108, 111, 115, 101, 100]⟩ : ByteArray), .string (⟨#[99, 111, 100, 101, 115]⟩ : ByteArray), .string (⟨#[108, 105, 109, 105, 116]⟩ : ByteArray), .string (⟨#[110, 111, 115, 116, 114, 101, 97, 109]⟩ : ByteArray), .string (⟨#[101, 120, 105, 115, 116, 115]⟩ : ByteArray)]) (ok := fun _ => True) (okp := fun _ => True) ?hr ?hp (fun _ hk => hk) trivial (Below.refl _ _) (Nat.le_refl _) (by simp) ?_; (case hd => rfl); (case hg => rfl); (case hr => first | (go_simp; done) | (go_simp; rfl)); (case hp => exact (Reps.one (show Kd.M Kd.string _ _ _ (⟨#[111, 107]⟩ : ByteArray) [.string (⟨#[111, 107]⟩ : ByteArray)] from rfl) (Reps.one (show Kd.M Kd.string _ _ _ (⟨#[97, 114, 103]⟩ : ByteArray) [.string (⟨#[97, 114, 103]⟩ : ByteArray)] from rfl) (Reps.one (show Kd.M Kd.string _ _ _ (⟨#[101, 110, 100]⟩ : ByteArray) [.string (⟨#[101, 110, 100]⟩ : ByteArray)] from rfl) (Reps.one (show Kd.M Kd.string _ _ _ (⟨#[102, 111, 114, 109]⟩ : ByteArray) [.string (⟨#[102, 111, 114, 109]⟩ : ByteArray)] from rfl) (Reps.one (show Kd.M Kd.string _ _ _ (⟨#[115, 117, 109]⟩ : ByteArray) [.string (⟨#[115, 117, 109]⟩ : ByteArray)] from rfl) (Reps.one (show Kd.M Kd.string _ _ _ (⟨#[115, 105, 122, 101]⟩ : ByteArray) [.string (⟨#[115, 105, 122, 101]⟩ : ByteArray)] from rfl) (Reps.one (show Kd.M Kd.string _ _ _ (⟨#[110, 97, 109, 101]⟩ : ByteArray) [.string (⟨#[110, 97, 109, 101]⟩ : ByteArray)] from rfl) (Reps.one (show Kd.M Kd.string _ _ _ (⟨#[110, 111, 116, 102, 111, 117, 110, 100]⟩ : ByteArray) [.string (⟨#[110, 111, 116, 102, 111, 117, 110, 100]⟩ : ByteArray)] from rfl) (Reps.one (show Kd.M Kd.string _ _ _ (⟨#[98, 117, 115, 121]⟩ : ByteArray) [.string (⟨#[98, 117, 115, 121]⟩ : ByteArray)] from rfl) (Reps.one (show Kd.M Kd.string _ _ _ (⟨#[110, 111, 115, 112, 97, 99, 101]⟩ : ByteArray) [.string (⟨#[110, 111, 115, 112, 97, 99, 101]⟩ : ByteArray)] from rfl) (Reps.one (show Kd.M Kd.string _ _ _ (⟨#[105, 111]⟩ : ByteArray) [.string (⟨#[105, 111]⟩ : ByteArray)] from rfl) (Reps.one (show Kd.M Kd.string _ _ _ (⟨#[112, 111, 105, 115, 111, 110, 101, 100]⟩ : ByteArray) [.string (⟨#[112, 111, 105, 115, 111, 110, 101, 100]⟩ : ByteArray)] from rfl) (Reps.one (show Kd.M Kd.string _ _ _ (⟨#[99, 108, 111, 115, 101, 100]⟩ : ByteArray) [.string (⟨#[99, 108, 111, 115, 101, 100]⟩ : ByteArray)] from rfl) (Reps.one (show Kd.M Kd.string _ _ _ (⟨#[99, 111, 100, 101, 115]⟩ : ByteArray) [.string (⟨#[99, 111, 100, 101, 115]⟩ : ByteArray)] from rfl) (Reps.one (show Kd.M Kd.string _ _ _ (⟨#[108, 105, 109, 105, 116]⟩ : ByteArray) [.string (⟨#[108, 105, 109, 105, 116]⟩ : ByteArray)] from rfl) (Reps.one (show Kd.M Kd.string _ _ _ (⟨#[110, 111, 115, 116, 114, 101, 97, 109]⟩ : ByteArray) [.string (⟨#[110, 111, 115, 116, 114, 101, 97, 109]⟩ : ByteArray)] from rfl) (Reps.one (show Kd.M Kd.string _ _ _ (⟨#[101, 120, 105, 115, 116, 115]⟩ : ByteArray) [.string (⟨#[101, 120, 105, 115, 116, 115]⟩ : ByteArray)] from rfl) (Reps.none _ _))))))))))))))))))); intro v102 w11 ho12 hb hg_ hnew_; clear hg_ hnew_; (first | rw [← Ny101.out] at ho12 | (simp only [Int.reduceToNat] at ho12; rw [← Ny101.out] at ho12)); have n0_ := Aside0.mk (Kd.R_lower ho12 (below_size (by repeat (first | (with_reducible first | exact HB.out | apply below_alloc | apply pw_below_drewN | apply below_drew1) | exact HB.out)))); have n1_ := Aside0.mk (below_step (by repeat (first | (with_reducible first | exact HB.out | apply below_alloc | apply pw_below_drewN | apply below_drew1) | exact HB.out)) hb); clear HB; have HO103 := n0_; have HB := n1_; clear n0_ n1_; clear hb ho12; obtain ⟨Ao13, co13, eo13⟩ := Kd.R_slice HO103.out; subst eo13; have p104 : 0 ≤ (a0 : Int) := of_decide_eq_true (by first | (with_reducible assumption) | assumption); have q104 : a0 < (y101.length : Int) := of_decide_eq_true (by first | (with_reducible assumption) | assumption); obtain ⟨ad104, e104, hx104_0⟩ := Kd.at_string (Kd.R_reads' HO103.out).2.2 a0 p104 q104; cases e104; replace p104 := eq_true p104; replace q104 := eq_true q104))
          go_ret
          exact ⟨by first | rfl | (simp [errW_none, errW_some] <;> rfl) | (simp [*, errW_none, errW_some] <;> rfl), by repeat (first | (with_reducible first | exact HB.out | apply below_alloc | apply pw_below_drewN | apply below_drew1) | exact HB.out)⟩
        · rw [if_neg c10] at H
          exact absurd H (by simp)
      · rw [if_neg c9] at H
        exact absurd H (by simp)

/-! ### report_Error: function 11 (told by hand) -/
def report_Error.at_ : List ByteArray → Nat → List UInt8 → Int × Bool
  | [], _, _ => (0, false)
  | x :: r, k, s => if (x.toList == s) = true then ((k : Int), true) else report_Error.at_ r (k + 1) s
def report_Error.f (a0 : ByteArray) : Option (Int × Bool) := some (report_Error.at_ report_codes.words 0 a0.toList)
theorem report_Error.step (k : Nat) (hk : k < 17) (s : List UInt8) : report_Error.at_ (report_codes.words.drop k) k s = if ((report_codes.words.getD k ByteArray.empty).toList == s) = true then ((k : Int), true) else report_Error.at_ (report_codes.words.drop (k + 1)) (k + 1) s := by
  have hl : report_codes.words.length = 17 := rfl
  rw [List.drop_eq_getElem_cons (by omega), List.getD_eq_getElem?_getD, List.getElem?_eq_getElem (by omega)]
  rfl
set_option maxRecDepth 100000 in
set_option maxHeartbeats 4000000 in
theorem report_Error.calls (a0 : ByteArray) (r1 : Int) (r2 : Bool) (w : World) (h : report_Error.f a0 = some (r1, r2)) : Calls Tryd.prog 11 #[.string a0] w fun e w' => e = .returned (.tuple #[.int .i64 r1, .bool r2]) ∧ Below w.heap.size w w' := by
  have HR := Aside0.mk (Option.some.inj h)
  clear h
  go_enter Tryd.func11, Tryd.ntmps11
  go_wp2_with fail
  go_step3
  go_wp2_with fail
  go_step3
  go_wp2_with fail
  refine (report_codes.calls _).mono ?_
  have HIX := Aside0.mk report_codes.run
  generalize report_codes.val = V at HIX ⊢
  rintro e w1 ⟨rfl, hb⟩
  have HB := Aside0.mk hb
  clear hb
  go_wp2_with fail
  go_loopw [4, 5, 9] (fun out found i w' => ∃ k : Nat, k ≤ 17 ∧ out = .int .i64 0 ∧ found = .bool false ∧ i = .int .i64 k ∧ Aside0 (report_Error.at_ (report_codes.words.drop k) k a0.toList = (r1, r2)) ∧ w' = w1) (fun _ _ i _ => 17 - (intOf i).toNat)
  case atStart => exact ⟨0, by omega, rfl, rfl, rfl, ⟨by rw [List.drop_zero]; exact HR.out⟩, rfl⟩
  case round =>
    obtain ⟨k, hk, rfl, rfl, rfl, HA, rfl⟩ := hrel
    by_cases hlt : k < 17
    · have hix := HIX.out k hlt
      have hst := HA.out
      rw [report_Error.step k hlt] at hst
      generalize report_codes.words.getD k ByteArray.empty = x at hix hst
      have b0 : decide ((k : Int) < 17) = true := decide_eq_true (by omega)
      clear HA HR
      by_cases hx : x.toList = a0.toList
      · have b1 : (x.toList == a0.toList) = true := by simpa using hx
        rw [b1, if_pos rfl] at hst
        have HS := Aside0.mk hst
        clear hst hx hk
        go_wp2
        simp only [Exit.noGoto]
        go_ret2
        exact ⟨by have := HS.out; injection this with e1 e2; rw [← e1, ← e2]; rfl, HB.out⟩
      · have b1 : (x.toList == a0.toList) = false := by simpa using hx
        rw [b1, if_neg (by decide)] at hst
        have HS := Aside0.mk hst
        clear hst hx
        go_wp2
        go_roundw
        case rel => exact ⟨k + 1, by omega, rfl, rfl, by go_num, HS, trivial⟩
        case measure => simp [intOf]; omega
    · have hk17 : k = 17 := by omega
      subst hk17
      have HS : Aside0 (((0 : Int), false) = (r1, r2)) := ⟨HA.out⟩
      clear HA hk hlt
      go_wp2
      simp only [Exit.noGoto]
      go_ret2
      exact ⟨by have := HS.out; injection this with e1 e2; rw [← e1, ← e2]; rfl, HB.out⟩


/-! ### report_Kind: function 12 (told by hand) -/
def report_Kind.at_ : List ByteArray → Nat → List UInt8 → Int
  | [], _, _ => 0
  | x :: r, k, s => if (x.toList == s && decide (0 < k)) = true then (k : Int) else report_Kind.at_ r (k + 1) s
def report_Kind.f (a0 : ByteArray) : Option Int := some (report_Kind.at_ report_kinds.words 0 a0.toList)
theorem report_Kind.step (k : Nat) (hk : k < 19) (s : List UInt8) : report_Kind.at_ (report_kinds.words.drop k) k s = if ((report_kinds.words.getD k ByteArray.empty).toList == s && decide (0 < k)) = true then (k : Int) else report_Kind.at_ (report_kinds.words.drop (k + 1)) (k + 1) s := by
  have hl : report_kinds.words.length = 19 := rfl
  rw [List.drop_eq_getElem_cons (by omega), List.getD_eq_getElem?_getD, List.getElem?_eq_getElem (by omega)]
  rfl
set_option maxRecDepth 100000 in
set_option maxHeartbeats 4000000 in
theorem report_Kind.calls (a0 : ByteArray) (r : Int) (w : World) (h : report_Kind.f a0 = some r) : Calls Tryd.prog 12 #[.string a0] w fun e w' => e = .returned (.int .i64 r) ∧ Below w.heap.size w w' := by
  have HR := Aside0.mk (Option.some.inj h)
  clear h
  go_enter Tryd.func12, Tryd.ntmps12
  go_wp2_with fail
  go_step3
  go_wp2_with fail
  go_step3
  go_wp2_with fail
  refine (report_kinds.calls _).mono ?_
  have HIX := Aside0.mk report_kinds.run
  generalize report_kinds.val = V at HIX ⊢
  rintro e w1 ⟨rfl, hb⟩
  have HB := Aside0.mk hb
  clear hb
  go_wp2_with fail
  go_loopw [3, 7] (fun out i w' => ∃ k : Nat, k ≤ 19 ∧ out = .int .i64 0 ∧ i = .int .i64 k ∧ Aside0 (report_Kind.at_ (report_kinds.words.drop k) k a0.toList = r) ∧ w' = w1) (fun _ i _ => 19 - (intOf i).toNat)
  case atStart => exact ⟨0, by omega, rfl, rfl, ⟨by rw [List.drop_zero]; exact HR.out⟩, rfl⟩
  case round =>
    obtain ⟨k, hk, rfl, rfl, HA, rfl⟩ := hrel
    by_cases hlt : k < 19
    · have hix := HIX.out k hlt
      have hst := HA.out
      rw [report_Kind.step k hlt] at hst
      generalize report_kinds.words.getD k ByteArray.empty = x at hix hst
      have b0 : decide ((k : Int) < 19) = true := decide_eq_true (by omega)
      clear HA HR
      by_cases hx : x.toList = a0.toList
      · have b1 : (x.toList == a0.toList) = true := by simpa using hx
        by_cases h0 : 0 < k
        · have b2 : decide (0 < (k : Int)) = true := decide_eq_true (by omega)
          have b3 : decide (0 < k) = true := decide_eq_true h0
          rw [b1, b3, Bool.true_and, if_pos rfl] at hst
          have HS := Aside0.mk hst
          clear hst h0 hx hk
          go_wp2
          simp only [Exit.noGoto]
          go_ret
          exact ⟨by rw [← HS.out]; rfl, HB.out⟩
        · have b2 : decide (0 < (k : Int)) = false := decide_eq_false (by omega)
          have b3 : decide (0 < k) = false := decide_eq_false h0
          rw [b1, b3, Bool.and_false, if_neg (by decide)] at hst
          have HS := Aside0.mk hst
          clear hst h0 hx
          go_wp2
          go_roundw
          case rel => exact ⟨k + 1, by omega, rfl, by go_num, HS, trivial⟩
          case measure => simp [intOf]; omega
      · have b1 : (x.toList == a0.toList) = false := by simpa using hx
        rw [b1, Bool.false_and, if_neg (by decide)] at hst
        have HS := Aside0.mk hst
        clear hst hx
        go_wp2
        go_roundw
        case rel => exact ⟨k + 1, by omega, rfl, by go_num, HS, trivial⟩
        case measure => simp [intOf]; omega
    · have hk19 : k = 19 := by omega
      subst hk19
      have HS : Aside0 ((0 : Int) = r) := ⟨HA.out⟩
      clear HA hk hlt
      go_wp2
      simp only [Exit.noGoto]
      go_ret
      exact ⟨by rw [← HS.out]; rfl, HB.out⟩


/-! ### strings_Count: function 38 (told by hand) -/
def strings_Count.f (a0 a1 : ByteArray) : Option Int := match a1.data.toList with
  | [c] => some ((Lib.countByte a0.data.toList c : Nat) : Int)
  | _ => none
theorem strings_Count.calls (a0 a1 : ByteArray) (r : Int) (w : World) (h : strings_Count.f a0 a1 = some r) : Calls Tryd.prog 38 #[.string a0, .string a1] w fun e w' => e = .returned (.int .i64 r) ∧ Drawn0 w w' := by
  obtain ⟨⟨l⟩⟩ := a1
  match l, h with
  | [c], h =>
    obtain rfl := Option.some.inj h
    refine (Tryd.strings_Count_one a0 c w).mono ?_
    rintro e w' ⟨rfl, rfl⟩
    exact ⟨rfl, Drawn0.refl _⟩


/-! ### strings_Index: function 39 (told by hand) -/
def strings_Index.f (a0 a1 : ByteArray) : Option Int := match a1.data.toList with
  | [c] => some (Lib.indexByte a0.data.toList c)
  | _ => none
theorem strings_Index.calls (a0 a1 : ByteArray) (r : Int) (w : World) (h : strings_Index.f a0 a1 = some r) : Calls Tryd.prog 39 #[.string a0, .string a1] w fun e w' => e = .returned (.int .i64 r) ∧ Drawn0 w w' := by
  obtain ⟨⟨l⟩⟩ := a1
  match l, h with
  | [c], h =>
    obtain rfl := Option.some.inj h
    refine (Tryd.strings_Index_one a0 c w).mono ?_
    rintro e w' ⟨rfl, rfl⟩
    exact ⟨rfl, Drawn0.refl _⟩


/-! ### strings_Split: function 29 (told by hand) -/
def strings_Split.f (a0 a1 : ByteArray) : Option (List ByteArray) := match a1.data.toList with
  | [c] => if a0.size ≤ 1000000 then some ((YtcfcbkcaondfcabDoorMpHelp.splitL c a0.data.toList).map fun l => ⟨l.toArray⟩) else none
  | _ => none
theorem strings_Split.gen (a0 : ByteArray) (c : UInt8) (w : World) (hs : a0.size ≤ 1000000) : Calls Tryd.prog 35 #[.string a0, .string ⟨#[c]⟩, .int .i64 0, .int .i64 (-1)] w fun e w' =>
    e = .returned (.slice (some ⟨w.heap.size, 0, none⟩) (YtcfcbkcaondfcabDoorMpHelp.splitL c a0.data.toList).length (YtcfcbkcaondfcabDoorMpHelp.splitL c a0.data.toList).length) ∧ w' = w.alloc (.cells (((YtcfcbkcaondfcabDoorMpHelp.splitL c a0.data.toList).map fun l => Value.string ⟨l.toArray⟩)).toArray 9) := by
  have hcb : Lib.countB a0 ⟨#[c]⟩ = a0.data.toList.count c := by
    exact Lib.count_one c a0.data.toList
  have hle : a0.data.toList.count c ≤ a0.size := by
    have h1 := List.count_le_length (a := c) (l := a0.data.toList)
    rw [Array.length_toList] at h1
    exact h1
  have hlen := Lib.splitB_all ⟨#[c]⟩ (Nat.le_refl 1) 0 _ a0 rfl
  rw [hcb, YtcfcbkcaondfcabDoorMpHelp.splitB_one, List.length_map] at hlen
  refine (Any.strings_genSplit_core Tryd.lays221 (by kernel_rfl) a0 ⟨#[c]⟩ 0 (-1) (a0.data.toList.count c + 1) w (by omega) (Nat.le_refl 1) (Nat.zero_le _) (fun x cs _ => ?_) ?_ (by decide) (by decide) (by rw [hcb, if_pos (by decide), Int.min_eq_left (by omega)]; rfl)).mono ?_
  · refine (Tryd.strings_Index_one x c _).mono ?_
    rintro e w' ⟨rfl, rfl⟩
    exact ⟨by rw [show Lib.indexB x ⟨#[c]⟩ = Lib.index x.data.toList [c] from rfl, Lib.index_one], rfl⟩
  · refine (Tryd.strings_Count_one a0 c _).mono ?_
    rintro e w' ⟨rfl, rfl⟩
    exact ⟨by rw [hcb]; rfl, rfl⟩
  · rintro e w' ⟨rfl, rfl⟩
    rw [Nat.add_sub_cancel, YtcfcbkcaondfcabDoorMpHelp.splitB_one, List.length_map, ← hlen]
    refine ⟨rfl, ?_⟩
    have hcl : Lib.cellsOf ((YtcfcbkcaondfcabDoorMpHelp.splitL c a0.data.toList).map fun l => (⟨l.toArray⟩ : ByteArray)) (YtcfcbkcaondfcabDoorMpHelp.splitL c a0.data.toList).length = ((YtcfcbkcaondfcabDoorMpHelp.splitL c a0.data.toList).map fun l => Value.string ⟨l.toArray⟩).toArray := by
      have := Lib.cellsOf_full ((YtcfcbkcaondfcabDoorMpHelp.splitL c a0.data.toList).map fun l => (⟨l.toArray⟩ : ByteArray))
      rw [List.length_map] at this
      rw [this, List.map_map]
      rfl
    rw [hcl]
    rfl
theorem strings_Split.calls_at (a0 : ByteArray) (c : UInt8) (w : World) (hs : a0.size ≤ 1000000) : Calls Tryd.prog 29 #[.string a0, .string ⟨#[c]⟩] w fun e w' =>
    e = .returned (.slice (some ⟨w.heap.size, 0, none⟩) (YtcfcbkcaondfcabDoorMpHelp.splitL c a0.data.toList).length (YtcfcbkcaondfcabDoorMpHelp.splitL c a0.data.toList).length) ∧ w' = w.alloc (.cells (((YtcfcbkcaondfcabDoorMpHelp.splitL c a0.data.toList).map fun l => Value.string ⟨l.toArray⟩)).toArray 9) := by
  generalize hL : YtcfcbkcaondfcabDoorMpHelp.splitL c a0.data.toList = L
  have HL := Aside0.mk hL
  clear hL
  go_enter Tryd.func29, Tryd.ntmps29
  go_wp2_with fail
  refine (strings_Split.gen a0 c w hs).mono ?_
  rw [HL.out]
  rintro e w' ⟨rfl, rfl⟩
  go_wp2
  go_ret
  exact ⟨rfl, rfl⟩
theorem strings_Split.calls (a0 a1 : ByteArray) (r : List ByteArray) (w : World) (h : strings_Split.f a0 a1 = some r) : Calls Tryd.prog 29 #[.string a0, .string a1] w fun e w' => ∃ v0_ : Value, e = .returned (v0_) ∧ Kd.R Kd.string 9 w' w.heap.size (fun _ => True) v0_ r ∧ Below w.heap.size w w' := by
  obtain ⟨⟨l⟩⟩ := a1
  match l, h with
  | [c], h =>
    simp only [strings_Split.f] at h
    by_cases hs : a0.size ≤ 1000000
    · rw [if_pos hs] at h
      obtain rfl := Option.some.inj h
      refine (strings_Split.calls_at a0 c w hs).mono ?_
      rintro e w' ⟨rfl, rfl⟩
      refine ⟨_, rfl, ⟨fun _ _ => trivial, (YtcfcbkcaondfcabDoorMpHelp.splitL c a0.data.toList).map fun l => Value.string ⟨l.toArray⟩, ⟨by simp [Kd.string, Kd.scalar], .inr ⟨w.heap.size, (YtcfcbkcaondfcabDoorMpHelp.splitL c a0.data.toList).length, _, by simp, Nat.le_refl _, YtcfcbkcaondfcabDoorMpHelp.heap_new _ _, by simp, ?_, by simp [Kd.string, Kd.scalar], by simp [Kd.string, Kd.scalar, List.take_of_length_le]⟩⟩, ?_⟩, below_alloc (Below.refl _ _) _⟩
      · have h1 : (YtcfcbkcaondfcabDoorMpHelp.splitL c a0.data.toList).length ≤ a0.size + 1 := by
          have hlen := Lib.splitB_all ⟨#[c]⟩ (Nat.le_refl 1) 0 _ a0 rfl
          have hcb : Lib.countB a0 ⟨#[c]⟩ = a0.data.toList.count c := by
            exact Lib.count_one c a0.data.toList
          rw [hcb, YtcfcbkcaondfcabDoorMpHelp.splitB_one, List.length_map] at hlen
          have h1 := List.count_le_length (a := c) (l := a0.data.toList)
          rw [Array.length_toList] at h1
          have : a0.data.size = a0.size := rfl
          omega
        refine Nat.le_trans h1 (Nat.le_trans (Nat.succ_le_succ hs) (by decide))
      · refine ⟨by simp [Kd.string, Kd.scalar], fun j p hj => ?_⟩
        rw [List.getElem?_map] at hj
        obtain ⟨q, hq, rfl⟩ := Option.map_eq_some_iff.1 hj
        show List.take 1 (List.drop (j * 1) ((YtcfcbkcaondfcabDoorMpHelp.splitL c a0.data.toList).map fun l => Value.string ⟨l.toArray⟩)) = [Value.string ⟨q.toArray⟩]
        obtain ⟨hlt, hget⟩ := List.getElem?_eq_some_iff.1 hq
        rw [Nat.mul_one, List.drop_eq_getElem_cons (by rw [List.length_map]; exact hlt), List.getElem_map, hget]
        rfl
    · rw [if_neg hs] at h
      cases h


/-! ### member_part: function 31 (told by hand) -/
def member_part.f (a0 : ByteArray) : Option Bool := some (YtcfcbkcaondfcabDoorMpHelp.partB a0.data.toList)
def member_part.fine (c : Nat) : Bool := decide (33 ≤ c) && decide (c ≤ 126)
theorem member_part.all_of (s : ByteArray) (h : ∀ j (hj : j < s.size), member_part.fine (s[j]'hj).toNat = true) : s.data.toList.all (fun c => decide (33 ≤ c.toNat) && decide (c.toNat ≤ 126)) = true := by
  rw [List.all_eq_true]
  intro c hc
  obtain ⟨j, hj, rfl⟩ := List.getElem_of_mem hc
  have hj' : j < s.size := by
    rw [Array.length_toList] at hj
    exact hj
  exact h j hj'
theorem member_part.not_all (s : ByteArray) (j : Nat) (hj : j < s.size) (h : member_part.fine (s[j]'hj).toNat = false) : YtcfcbkcaondfcabDoorMpHelp.partB s.data.toList = false := by
  unfold YtcfcbkcaondfcabDoorMpHelp.partB
  have hm : s[j]'hj ∈ s.data.toList := by
    have : s[j]'hj = s.data.toList[j]'(by rw [Array.length_toList]; exact hj) := rfl
    rw [this]
    exact List.getElem_mem _
  have : s.data.toList.all (fun c => decide (33 ≤ c.toNat) && decide (c.toNat ≤ 126)) = false := by
    rw [List.all_eq_false]
    refine ⟨_, hm, ?_⟩
    show ¬ (member_part.fine (s[j]'hj).toNat = true)
    rw [h]
    decide
  rw [this]
  rfl
set_option maxRecDepth 1000000 in
set_option maxHeartbeats 4000000 in
theorem member_part.calls (a0 : ByteArray) (r : Bool) (w : World) (h : member_part.f a0 = some r) : Calls Tryd.prog 31 #[.string a0] w fun e w' => e = .returned (.bool r) ∧ Below w.heap.size w w' := by
  have HR := Aside0.mk (Option.some.inj h)
  clear h
  go_enter Tryd.func31, Tryd.ntmps31
  go_wp2
  go_loopw [] (fun w' => ∃ (pos : Nat), w' = w.iter a0 pos ∧ Aside0 (∀ j (hj : j < a0.size), j < pos → member_part.fine (a0[j]'hj).toNat = true)) (fun w' => a0.size - w'.iterPos w.heap.size)
  case atStart => exact ⟨0, rfl, ⟨fun j _ hj => absurd hj (Nat.not_lt_zero _)⟩⟩
  case round =>
    obtain ⟨pos, rfl, HA⟩ := hrel
    by_cases hp : pos < a0.size
    · have hnx : ∀ ty, (Instr.next (.pointer (some ⟨w.heap.size, 0, none⟩)) true ty).run Tryd.prog (w.iter a0 pos) = _ := fun ty => run_next_any w a0 pos ty hp
      obtain ⟨rn, hrn⟩ : ∃ rn, rn = (Utf8.decode a0 pos).1 := ⟨_, rfl⟩
      obtain ⟨wd, hwd⟩ : ∃ wd, wd = (Utf8.decode a0 pos).2 := ⟨_, rfl⟩
      rw [← hrn, ← hwd] at hnx
      by_cases hf : member_part.fine (a0[pos]'hp).toNat = true
      · have ha : (a0[pos]'hp).toNat < 128 := by
          simp [member_part.fine] at hf
          omega
        have hd := decode_ascii a0 pos hp ha
        rw [hd] at hrn hwd
        dsimp only at hrn hwd
        subst hwd
        have h33 : 33 ≤ rn := by
          simp [member_part.fine] at hf
          omega
        have h126 : rn ≤ 126 := by
          simp [member_part.fine] at hf
          omega
        have HA2 : Aside0 (∀ j (hj : j < a0.size), j < pos + 1 → member_part.fine (a0[j]'hj).toNat = true) := ⟨fun j hj hlt => by
          by_cases e : j = pos
          · subst e
            exact hf
          · exact HA.out j hj (by omega)⟩
        clear hf HA hrn ha hd HR
        have b1 : decide ((rn : Int) < 33) = false := decide_eq_false (by omega)
        have b2 : decide (126 < (rn : Int)) = false := decide_eq_false (by omega)
        clear h33 h126
        go_wp2
        go_roundw
        case rel => exact ⟨pos + 1, rfl, HA2⟩
        case measure =>
          simp
          omega
      · have hf' : member_part.fine (a0[pos]'hp).toNat = false := by simpa using hf
        have hr := member_part.not_all a0 pos hp hf'
        have HF := Aside0.mk (HR.out.symm.trans hr)
        have hlo : rn < 33 ∨ 126 < rn := by
          by_cases ha : (a0[pos]'hp).toNat < 128
          · have hd := decode_ascii a0 pos hp ha
            rw [hd] at hrn
            dsimp only at hrn
            simp [member_part.fine] at hf'
            omega
          · have hh := decode_high a0 pos hp (by omega)
            omega
        clear hr hf hf' HA HR hrn hwd
        rcases hlo with hlo | hlo
        · have b1 : decide ((rn : Int) < 33) = true := decide_eq_true (by omega)
          clear hlo
          go_wp2
          go_ret
          exact ⟨by rw [HF.out]; rfl, below_alloc (Below.refl _ _) _⟩
        · have b1 : decide ((rn : Int) < 33) = false := decide_eq_false (by omega)
          have b2 : decide (126 < (rn : Int)) = true := decide_eq_true (by omega)
          clear hlo
          go_wp2
          go_ret
          exact ⟨by rw [HF.out]; rfl, below_alloc (Below.refl _ _) _⟩
    · have hnx : ∀ ty, (Instr.next (.pointer (some ⟨w.heap.size, 0, none⟩)) true ty).run Tryd.prog (w.iter a0 pos) = _ := fun ty => run_next_end w a0 pos ty hp
      have hall := member_part.all_of a0 (fun j hj => HA.out j hj (by omega))
      have hr := HR.out
      unfold YtcfcbkcaondfcabDoorMpHelp.partB at hr
      rw [hall] at hr
      rw [← Lib.toList_data] at hr
      have HF := Aside0.mk hr
      clear hr hall HR HA
      go_wp2
      all_goals
        go_ret
        refine ⟨?_, below_alloc (Below.refl _ _) _⟩
        rw [← HF.out]
        first
        | rfl
        | (simp only [*]; rfl)
        | (simp [*]; done)


end Go.Proofs.YtcfcbkcaondfcabDoor.PReportWords
