/- The machine side of a law: for each Go function that it uses a Lean function with the same answers, and the proof that the Go code comes to them; or the row of the law over these. Written by a program of this session. -/
import Derived.Test.YtodifojhegbjaaaDoorPReportCountsx0
namespace Go.Proofs.YtodifojhegbjaaaDoor.PReportCounts
open Go.RowKit Go.Proofs.YtodifojhegbjaaaDoorW.PrintWords Go.Proofs.YtodifojhegbjaaaDoorW.PrintLast Go.Proofs.YtodifojhegbjaaaDoorW.PrintMore
attribute [local go_sem] max2_int min2_int max_two min_two max_three min_three max_four min_four   -- for this text's walks alone
set_option linter.unusedVariables false
set_option linter.unusedSimpArgs false

/-! ### report_kinds: function 21 (told by hand) -/
def report_kinds.words : List ByteArray := [(⟨#[110, 111, 110, 101]⟩ : ByteArray), (⟨#[99, 114, 101, 97, 116, 101]⟩ : ByteArray), (⟨#[111, 112, 101, 110]⟩ : ByteArray), (⟨#[112, 117, 116]⟩ : ByteArray), (⟨#[98, 101, 103, 105, 110]⟩ : ByteArray), (⟨#[119, 114, 105, 116, 101]⟩ : ByteArray), (⟨#[102, 105, 110, 105, 115, 104]⟩ : ByteArray), (⟨#[97, 98, 111, 114, 116]⟩ : ByteArray), (⟨#[103, 101, 116]⟩ : ByteArray), (⟨#[115, 116, 97, 116]⟩ : ByteArray), (⟨#[108, 105, 115, 116]⟩ : ByteArray), (⟨#[100, 101, 108, 101, 116, 101]⟩ : ByteArray), (⟨#[115, 121, 110, 99]⟩ : ByteArray), (⟨#[118, 97, 99, 117, 117, 109]⟩ : ByteArray), (⟨#[99, 108, 111, 115, 101]⟩ : ByteArray), (⟨#[118, 101, 114, 105, 102, 121]⟩ : ByteArray), (⟨#[114, 101, 102, 117, 115, 101]⟩ : ByteArray), (⟨#[99, 117, 116]⟩ : ByteArray), (⟨#[99, 114, 97, 115, 104]⟩ : ByteArray)]
def report_kinds.val : Array Value := #[.string (⟨#[110, 111, 110, 101]⟩ : ByteArray), .string (⟨#[99, 114, 101, 97, 116, 101]⟩ : ByteArray), .string (⟨#[111, 112, 101, 110]⟩ : ByteArray), .string (⟨#[112, 117, 116]⟩ : ByteArray), .string (⟨#[98, 101, 103, 105, 110]⟩ : ByteArray), .string (⟨#[119, 114, 105, 116, 101]⟩ : ByteArray), .string (⟨#[102, 105, 110, 105, 115, 104]⟩ : ByteArray), .string (⟨#[97, 98, 111, 114, 116]⟩ : ByteArray), .string (⟨#[103, 101, 116]⟩ : ByteArray), .string (⟨#[115, 116, 97, 116]⟩ : ByteArray), .string (⟨#[108, 105, 115, 116]⟩ : ByteArray), .string (⟨#[100, 101, 108, 101, 116, 101]⟩ : ByteArray), .string (⟨#[115, 121, 110, 99]⟩ : ByteArray), .string (⟨#[118, 97, 99, 117, 117, 109]⟩ : ByteArray), .string (⟨#[99, 108, 111, 115, 101]⟩ : ByteArray), .string (⟨#[118, 101, 114, 105, 102, 121]⟩ : ByteArray), .string (⟨#[114, 101, 102, 117, 115, 101]⟩ : ByteArray), .string (⟨#[99, 117, 116]⟩ : ByteArray), .string (⟨#[99, 114, 97, 115, 104]⟩ : ByteArray)]
theorem report_kinds.at_ (k : Nat) (h : k < 19) : report_kinds.val[k]? = some (.string (report_kinds.words.getD k ByteArray.empty)) := by
  have e : report_kinds.val = (report_kinds.words.map Value.string).toArray := rfl
  have hl : report_kinds.words.length = 19 := rfl
  rw [e, List.getElem?_toArray, List.getElem?_map, List.getElem?_eq_getElem (by omega), List.getD_eq_getElem?_getD, List.getElem?_eq_getElem (by omega)]
  rfl
set_option maxRecDepth 100000 in
theorem report_kinds.run (k : Nat) (h : k < 19) (w : World) : (Instr.index 61 (.agg report_kinds.val) (.int .i64 k)).run Tryd.prog w = .ok (.string (report_kinds.words.getD k ByteArray.empty)) w :=
  YtodifojhegbjaaaDoorMpHelp.run_index_agg Tryd.underlying61 (fun w => Tryd.sizeOf9 w) (fun w => Tryd.isAgg9 w) (by omega) (by omega) (by rw [Int.toNat_natCast]; exact report_kinds.at_ k h)
theorem report_kinds.sz : (Tryd.prog.info? 61).map (·.size) = some report_kinds.val.size := by kernel_rfl
theorem report_kinds.bd (w : World) : (Instr.build 61 #[(0, .string (⟨#[110, 111, 110, 101]⟩ : ByteArray)), (1, .string (⟨#[99, 114, 101, 97, 116, 101]⟩ : ByteArray)), (2, .string (⟨#[111, 112, 101, 110]⟩ : ByteArray)), (3, .string (⟨#[112, 117, 116]⟩ : ByteArray)), (4, .string (⟨#[98, 101, 103, 105, 110]⟩ : ByteArray)), (5, .string (⟨#[119, 114, 105, 116, 101]⟩ : ByteArray)), (6, .string (⟨#[102, 105, 110, 105, 115, 104]⟩ : ByteArray)), (7, .string (⟨#[97, 98, 111, 114, 116]⟩ : ByteArray)), (8, .string (⟨#[103, 101, 116]⟩ : ByteArray)), (9, .string (⟨#[115, 116, 97, 116]⟩ : ByteArray)), (10, .string (⟨#[108, 105, 115, 116]⟩ : ByteArray)), (11, .string (⟨#[100, 101, 108, 101, 116, 101]⟩ : ByteArray)), (12, .string (⟨#[115, 121, 110, 99]⟩ : ByteArray)), (13, .string (⟨#[118, 97, 99, 117, 117, 109]⟩ : ByteArray)), (14, .string (⟨#[99, 108, 111, 115, 101]⟩ : ByteArray)), (15, .string (⟨#[118, 101, 114, 105, 102, 121]⟩ : ByteArray)), (16, .string (⟨#[114, 101, 102, 117, 115, 101]⟩ : ByteArray)), (17, .string (⟨#[99, 117, 116]⟩ : ByteArray)), (18, .string (⟨#[99, 114, 97, 115, 104]⟩ : ByteArray))]).run Tryd.prog w = .ok (.agg report_kinds.val) w := run_build w 61 _ _ (by kernel_rfl)
theorem report_kinds.one : report_kinds.val.all (·.oneCell') = true := by kernel_rfl
def report_kinds.zeros : Array Value := #[.string (⟨#[]⟩ : ByteArray), .string (⟨#[]⟩ : ByteArray), .string (⟨#[]⟩ : ByteArray), .string (⟨#[]⟩ : ByteArray), .string (⟨#[]⟩ : ByteArray), .string (⟨#[]⟩ : ByteArray), .string (⟨#[]⟩ : ByteArray), .string (⟨#[]⟩ : ByteArray), .string (⟨#[]⟩ : ByteArray), .string (⟨#[]⟩ : ByteArray), .string (⟨#[]⟩ : ByteArray), .string (⟨#[]⟩ : ByteArray), .string (⟨#[]⟩ : ByteArray), .string (⟨#[]⟩ : ByteArray), .string (⟨#[]⟩ : ByteArray), .string (⟨#[]⟩ : ByteArray), .string (⟨#[]⟩ : ByteArray), .string (⟨#[]⟩ : ByteArray), .string (⟨#[]⟩ : ByteArray)]
theorem report_kinds.zz (w : World) : (zeroValue 61).run Tryd.prog w = .ok (.agg report_kinds.zeros) w := (zero_of_info (v := .agg report_kinds.zeros) (n := 19) (by kernel_rfl)).1 w
set_option maxRecDepth 100000 in
set_option maxHeartbeats 4000000 in
theorem report_kinds.calls (w : World) : Calls Tryd.prog 21 #[] w fun e w' => e = .returned (.agg report_kinds.val) ∧ Below w.heap.size w w' := by
  go_enter Tryd.func21, Tryd.ntmps21
  go_upto_region 1 with (fail)
  refine wp_region_list ?_
  refine YtodifojhegbjaaaDoorMpHelp.wpList_build_row rfl 61 _ rfl report_kinds.val (fun w1 => by simp only [List.map_toArray, List.map_cons, List.map_nil, Act.eval]; exact report_kinds.bd w1) ?_
  have hsz := report_kinds.sz
  have hone := report_kinds.one
  have hn : report_kinds.val.size = 19 := rfl
  generalize hV : report_kinds.val = V at hsz hone hn ⊢
  have HV := Aside0.mk hV
  clear hV
  refine YtodifojhegbjaaaDoorMpHelp.wpList_store_last rfl 61 _ _ rfl w _ V rfl rfl rfl hsz hn.symm hone ?_
  refine wpList_nil ?_
  simp only [Act.put]
  clear hone
  have HS := Aside0.mk hsz
  clear hsz hn
  go_wp2
  refine bodyPost_ret (v := .agg V) ?_ rfl ⟨by rw [HV.out], below_alloc (Below.refl _ _) _⟩
  exact results_cell_row (p := 0) (ty := 61) rfl _ _ w.heap.size 61 V (0, 0) _ rfl (YtodifojhegbjaaaDoorMpHelp.heap_new _ _) Tryd.underlying61 rfl HS.out


/-! ### report_Word: function 7 (told by hand) -/
def report_Word.f (a0 : Int) : Option ByteArray := some (if 1 ≤ a0 ∧ a0 ≤ 18 then report_kinds.words.getD a0.toNat ByteArray.empty else ⟨#[110, 111, 110, 101]⟩)
set_option maxRecDepth 100000 in
theorem report_Word.calls (a0 : Int) (r : ByteArray) (w : World) (h : report_Word.f a0 = some r) : Calls Tryd.prog 7 #[.int .i64 a0] w fun e w' => e = .returned (.string r) ∧ Below w.heap.size w w' := by
  have hr := Option.some.inj h
  clear h
  by_cases hk : 1 ≤ a0 ∧ a0 ≤ 18
  · rw [if_pos hk] at hr
    obtain ⟨k, rfl⟩ : ∃ k : Nat, a0 = k := ⟨a0.toNat, by omega⟩
    rw [Int.toNat_natCast] at hr
    have hix := report_kinds.run k (by omega)
    rw [hr] at hix
    have b1 : decide ((k : Int) < 1) = false := decide_eq_false (by omega)
    have b2 : decide (18 < (k : Int)) = false := decide_eq_false (by omega)
    clear hk hr
    go_enter Tryd.func7, Tryd.ntmps7
    go_wp2_with fail
    refine (report_kinds.calls _).mono ?_
    generalize report_kinds.val = V at hix ⊢
    rintro e w1 ⟨rfl, hb⟩
    have HB := Aside0.mk hb
    clear hb
    go_wp2
    go_ret
    exact ⟨rfl, HB.out⟩
  · rw [if_neg hk] at hr
    subst hr
    by_cases h1 : a0 < 1
    · have b1 : decide (a0 < 1) = true := decide_eq_true h1
      clear hk
      go_enter Tryd.func7, Tryd.ntmps7
      go_wp2
      go_ret
      exact ⟨rfl, Below.refl _ _⟩
    · have b1 : decide (a0 < 1) = false := decide_eq_false h1
      have b2 : decide (18 < a0) = true := decide_eq_true (by omega)
      clear hk
      go_enter Tryd.func7, Tryd.ntmps7
      go_wp2
      go_ret
      exact ⟨rfl, Below.refl _ _⟩


/-! ### report_codes: function 22 (told by hand) -/
def report_codes.words : List ByteArray := [(⟨#[111, 107]⟩ : ByteArray), (⟨#[97, 114, 103]⟩ : ByteArray), (⟨#[101, 110, 100]⟩ : ByteArray), (⟨#[102, 111, 114, 109]⟩ : ByteArray), (⟨#[115, 117, 109]⟩ : ByteArray), (⟨#[115, 105, 122, 101]⟩ : ByteArray), (⟨#[110, 97, 109, 101]⟩ : ByteArray), (⟨#[110, 111, 116, 102, 111, 117, 110, 100]⟩ : ByteArray), (⟨#[98, 117, 115, 121]⟩ : ByteArray), (⟨#[110, 111, 115, 112, 97, 99, 101]⟩ : ByteArray), (⟨#[105, 111]⟩ : ByteArray), (⟨#[112, 111, 105, 115, 111, 110, 101, 100]⟩ : ByteArray), (⟨#[99, 108, 111, 115, 101, 100]⟩ : ByteArray), (⟨#[99, 111, 100, 101, 115]⟩ : ByteArray), (⟨#[108, 105, 109, 105, 116]⟩ : ByteArray), (⟨#[110, 111, 115, 116, 114, 101, 97, 109]⟩ : ByteArray), (⟨#[101, 120, 105, 115, 116, 115]⟩ : ByteArray)]
def report_codes.val : Array Value := #[.string (⟨#[111, 107]⟩ : ByteArray), .string (⟨#[97, 114, 103]⟩ : ByteArray), .string (⟨#[101, 110, 100]⟩ : ByteArray), .string (⟨#[102, 111, 114, 109]⟩ : ByteArray), .string (⟨#[115, 117, 109]⟩ : ByteArray), .string (⟨#[115, 105, 122, 101]⟩ : ByteArray), .string (⟨#[110, 97, 109, 101]⟩ : ByteArray), .string (⟨#[110, 111, 116, 102, 111, 117, 110, 100]⟩ : ByteArray), .string (⟨#[98, 117, 115, 121]⟩ : ByteArray), .string (⟨#[110, 111, 115, 112, 97, 99, 101]⟩ : ByteArray), .string (⟨#[105, 111]⟩ : ByteArray), .string (⟨#[112, 111, 105, 115, 111, 110, 101, 100]⟩ : ByteArray), .string (⟨#[99, 108, 111, 115, 101, 100]⟩ : ByteArray), .string (⟨#[99, 111, 100, 101, 115]⟩ : ByteArray), .string (⟨#[108, 105, 109, 105, 116]⟩ : ByteArray), .string (⟨#[110, 111, 115, 116, 114, 101, 97, 109]⟩ : ByteArray), .string (⟨#[101, 120, 105, 115, 116, 115]⟩ : ByteArray)]
theorem report_codes.at_ (k : Nat) (h : k < 17) : report_codes.val[k]? = some (.string (report_codes.words.getD k ByteArray.empty)) := by
  have e : report_codes.val = (report_codes.words.map Value.string).toArray := rfl
  have hl : report_codes.words.length = 17 := rfl
  rw [e, List.getElem?_toArray, List.getElem?_map, List.getElem?_eq_getElem (by omega), List.getD_eq_getElem?_getD, List.getElem?_eq_getElem (by omega)]
  rfl
set_option maxRecDepth 100000 in
theorem report_codes.run (k : Nat) (h : k < 17) (w : World) : (Instr.index 63 (.agg report_codes.val) (.int .i64 k)).run Tryd.prog w = .ok (.string (report_codes.words.getD k ByteArray.empty)) w :=
  YtodifojhegbjaaaDoorMpHelp.run_index_agg Tryd.underlying63 (fun w => Tryd.sizeOf9 w) (fun w => Tryd.isAgg9 w) (by omega) (by omega) (by rw [Int.toNat_natCast]; exact report_codes.at_ k h)
theorem report_codes.sz : (Tryd.prog.info? 63).map (·.size) = some report_codes.val.size := by kernel_rfl
theorem report_codes.bd (w : World) : (Instr.build 63 #[(0, .string (⟨#[111, 107]⟩ : ByteArray)), (1, .string (⟨#[97, 114, 103]⟩ : ByteArray)), (2, .string (⟨#[101, 110, 100]⟩ : ByteArray)), (3, .string (⟨#[102, 111, 114, 109]⟩ : ByteArray)), (4, .string (⟨#[115, 117, 109]⟩ : ByteArray)), (5, .string (⟨#[115, 105, 122, 101]⟩ : ByteArray)), (6, .string (⟨#[110, 97, 109, 101]⟩ : ByteArray)), (7, .string (⟨#[110, 111, 116, 102, 111, 117, 110, 100]⟩ : ByteArray)), (8, .string (⟨#[98, 117, 115, 121]⟩ : ByteArray)), (9, .string (⟨#[110, 111, 115, 112, 97, 99, 101]⟩ : ByteArray)), (10, .string (⟨#[105, 111]⟩ : ByteArray)), (11, .string (⟨#[112, 111, 105, 115, 111, 110, 101, 100]⟩ : ByteArray)), (12, .string (⟨#[99, 108, 111, 115, 101, 100]⟩ : ByteArray)), (13, .string (⟨#[99, 111, 100, 101, 115]⟩ : ByteArray)), (14, .string (⟨#[108, 105, 109, 105, 116]⟩ : ByteArray)), (15, .string (⟨#[110, 111, 115, 116, 114, 101, 97, 109]⟩ : ByteArray)), (16, .string (⟨#[101, 120, 105, 115, 116, 115]⟩ : ByteArray))]).run Tryd.prog w = .ok (.agg report_codes.val) w := run_build w 63 _ _ (by kernel_rfl)
theorem report_codes.one : report_codes.val.all (·.oneCell') = true := by kernel_rfl
def report_codes.zeros : Array Value := #[.string (⟨#[]⟩ : ByteArray), .string (⟨#[]⟩ : ByteArray), .string (⟨#[]⟩ : ByteArray), .string (⟨#[]⟩ : ByteArray), .string (⟨#[]⟩ : ByteArray), .string (⟨#[]⟩ : ByteArray), .string (⟨#[]⟩ : ByteArray), .string (⟨#[]⟩ : ByteArray), .string (⟨#[]⟩ : ByteArray), .string (⟨#[]⟩ : ByteArray), .string (⟨#[]⟩ : ByteArray), .string (⟨#[]⟩ : ByteArray), .string (⟨#[]⟩ : ByteArray), .string (⟨#[]⟩ : ByteArray), .string (⟨#[]⟩ : ByteArray), .string (⟨#[]⟩ : ByteArray), .string (⟨#[]⟩ : ByteArray)]
theorem report_codes.zz (w : World) : (zeroValue 63).run Tryd.prog w = .ok (.agg report_codes.zeros) w := (zero_of_info (v := .agg report_codes.zeros) (n := 17) (by kernel_rfl)).1 w
set_option maxRecDepth 100000 in
set_option maxHeartbeats 4000000 in
theorem report_codes.calls (w : World) : Calls Tryd.prog 22 #[] w fun e w' => e = .returned (.agg report_codes.val) ∧ Below w.heap.size w w' := by
  go_enter Tryd.func22, Tryd.ntmps22
  go_upto_region 1 with (fail)
  refine wp_region_list ?_
  refine YtodifojhegbjaaaDoorMpHelp.wpList_build_row rfl 63 _ rfl report_codes.val (fun w1 => by simp only [List.map_toArray, List.map_cons, List.map_nil, Act.eval]; exact report_codes.bd w1) ?_
  have hsz := report_codes.sz
  have hone := report_codes.one
  have hn : report_codes.val.size = 17 := rfl
  generalize hV : report_codes.val = V at hsz hone hn ⊢
  have HV := Aside0.mk hV
  clear hV
  refine YtodifojhegbjaaaDoorMpHelp.wpList_store_last rfl 63 _ _ rfl w _ V rfl rfl rfl hsz hn.symm hone ?_
  refine wpList_nil ?_
  simp only [Act.put]
  clear hone
  have HS := Aside0.mk hsz
  clear hsz hn
  go_wp2
  refine bodyPost_ret (v := .agg V) ?_ rfl ⟨by rw [HV.out], below_alloc (Below.refl _ _) _⟩
  exact results_cell_row (p := 0) (ty := 63) rfl _ _ w.heap.size 63 V (0, 0) _ rfl (YtodifojhegbjaaaDoorMpHelp.heap_new _ _) Tryd.underlying63 rfl HS.out


/-! ### report_Code: function 9 (told by hand) -/
def report_Code.f (a0 : Int) : Option ByteArray := some (if 0 ≤ a0 ∧ a0 ≤ 16 then report_codes.words.getD a0.toNat ByteArray.empty else ⟨#[111, 116, 104, 101, 114]⟩)
set_option maxRecDepth 100000 in
theorem report_Code.calls (a0 : Int) (r : ByteArray) (w : World) (h : report_Code.f a0 = some r) : Calls Tryd.prog 9 #[.int .i64 a0] w fun e w' => e = .returned (.string r) ∧ Below w.heap.size w w' := by
  have hr := Option.some.inj h
  clear h
  by_cases hk : 0 ≤ a0 ∧ a0 ≤ 16
  · rw [if_pos hk] at hr
    obtain ⟨k, rfl⟩ : ∃ k : Nat, a0 = k := ⟨a0.toNat, by omega⟩
    rw [Int.toNat_natCast] at hr
    have hix := report_codes.run k (by omega)
    rw [hr] at hix
    have b1 : decide ((k : Int) < 0) = false := decide_eq_false (by omega)
    have b2 : decide (16 < (k : Int)) = false := decide_eq_false (by omega)
    clear hk hr
    go_enter Tryd.func9, Tryd.ntmps9
    go_wp2_with fail
    refine (report_codes.calls _).mono ?_
    generalize report_codes.val = V at hix ⊢
    rintro e w1 ⟨rfl, hb⟩
    have HB := Aside0.mk hb
    clear hb
    go_wp2
    go_ret
    exact ⟨rfl, HB.out⟩
  · rw [if_neg hk] at hr
    subst hr
    by_cases h1 : a0 < 0
    · have b1 : decide (a0 < 0) = true := decide_eq_true h1
      clear hk
      go_enter Tryd.func9, Tryd.ntmps9
      go_wp2
      go_ret
      exact ⟨rfl, Below.refl _ _⟩
    · have b1 : decide (a0 < 0) = false := decide_eq_false h1
      have b2 : decide (16 < a0) = true := decide_eq_true (by omega)
      clear hk
      go_enter Tryd.func9, Tryd.ntmps9
      go_wp2
      go_ret
      exact ⟨rfl, Below.refl _ _⟩


/-! ### report_Error: function 11 (told by hand) -/
def report_Error.at_ : List ByteArray → Nat → List UInt8 → Int × Bool
  | [], _, _ => (0, false)
  | x :: r, k, s => if (x.toList == s) = true then ((k : Int), true) else report_Error.at_ r (k + 1) s
def report_Error.f (a0 : ByteArray) : Option (Int × Bool) := some (report_Error.at_ report_codes.words 0 a0.toList)
theorem report_Error.step (k : Nat) (hk : k < 17) (s : List UInt8) : report_Error.at_ (report_codes.words.drop k) k s = if ((report_codes.words.getD k ByteArray.empty).toList == s) = true then ((k : Int), true) else report_Error.at_ (report_codes.words.drop (k + 1)) (k + 1) s := by
  have hl : report_codes.words.length = 17 := rfl
  rw [List.drop_eq_getElem_cons (by omega), List.getD_eq_getElem?_getD, List.getElem?_eq_getElem (by omega)]
  rfl
set_option maxRecDepth 100000 in
set_option maxHeartbeats 4000000 in
theorem report_Error.calls (a0 : ByteArray) (r1 : Int) (r2 : Bool) (w : World) (h : report_Error.f a0 = some (r1, r2)) : Calls Tryd.prog 11 #[.string a0] w fun e w' => e = .returned (.tuple #[.int .i64 r1, .bool r2]) ∧ Below w.heap.size w w' := by
  have HR := Aside0.mk (Option.some.inj h)
  clear h
  go_enter Tryd.func11, Tryd.ntmps11
  go_wp2_with fail
  go_step3
  go_wp2_with fail
  go_step3
  go_wp2_with fail
  refine (report_codes.calls _).mono ?_
  have HIX := Aside0.mk report_codes.run
  generalize report_codes.val = V at HIX ⊢
  rintro e w1 ⟨rfl, hb⟩
  have HB := Aside0.mk hb
  clear hb
  go_wp2_with fail
  go_loopw [4, 5, 9] (fun out found i w' => ∃ k : Nat, k ≤ 17 ∧ out = .int .i64 0 ∧ found = .bool false ∧ i = .int .i64 k ∧ Aside0 (report_Error.at_ (report_codes.words.drop k) k a0.toList = (r1, r2)) ∧ w' = w1) (fun _ _ i _ => 17 - (intOf i).toNat)
  case atStart => exact ⟨0, by omega, rfl, rfl, rfl, ⟨by rw [List.drop_zero]; exact HR.out⟩, rfl⟩
  case round =>
    obtain ⟨k, hk, rfl, rfl, rfl, HA, rfl⟩ := hrel
    by_cases hlt : k < 17
    · have hix := HIX.out k hlt
      have hst := HA.out
      rw [report_Error.step k hlt] at hst
      generalize report_codes.words.getD k ByteArray.empty = x at hix hst
      have b0 : decide ((k : Int) < 17) = true := decide_eq_true (by omega)
      clear HA HR
      by_cases hx : x.toList = a0.toList
      · have b1 : (x.toList == a0.toList) = true := by simpa using hx
        rw [b1, if_pos rfl] at hst
        have HS := Aside0.mk hst
        clear hst hx hk
        go_wp2
        simp only [Exit.noGoto]
        go_ret2
        exact ⟨by have := HS.out; injection this with e1 e2; rw [← e1, ← e2]; rfl, HB.out⟩
      · have b1 : (x.toList == a0.toList) = false := by simpa using hx
        rw [b1, if_neg (by decide)] at hst
        have HS := Aside0.mk hst
        clear hst hx
        go_wp2
        go_roundw
        case rel => exact ⟨k + 1, by omega, rfl, rfl, by go_num, HS, trivial⟩
        case measure => simp [intOf]; omega
    · have hk17 : k = 17 := by omega
      subst hk17
      have HS : Aside0 (((0 : Int), false) = (r1, r2)) := ⟨HA.out⟩
      clear HA hk hlt
      go_wp2
      simp only [Exit.noGoto]
      go_ret2
      exact ⟨by have := HS.out; injection this with e1 e2; rw [← e1, ← e2]; rfl, HB.out⟩


/-! ### report_Kind: function 12 (told by hand) -/
def report_Kind.at_ : List ByteArray → Nat → List UInt8 → Int
  | [], _, _ => 0
  | x :: r, k, s => if (x.toList == s && decide (0 < k)) = true then (k : Int) else report_Kind.at_ r (k + 1) s
def report_Kind.f (a0 : ByteArray) : Option Int := some (report_Kind.at_ report_kinds.words 0 a0.toList)
theorem report_Kind.step (k : Nat) (hk : k < 19) (s : List UInt8) : report_Kind.at_ (report_kinds.words.drop k) k s = if ((report_kinds.words.getD k ByteArray.empty).toList == s && decide (0 < k)) = true then (k : Int) else report_Kind.at_ (report_kinds.words.drop (k + 1)) (k + 1) s := by
  have hl : report_kinds.words.length = 19 := rfl
  rw [List.drop_eq_getElem_cons (by omega), List.getD_eq_getElem?_getD, List.getElem?_eq_getElem (by omega)]
  rfl
set_option maxRecDepth 100000 in
set_option maxHeartbeats 4000000 in
theorem report_Kind.calls (a0 : ByteArray) (r : Int) (w : World) (h : report_Kind.f a0 = some r) : Calls Tryd.prog 12 #[.string a0] w fun e w' => e = .returned (.int .i64 r) ∧ Below w.heap.size w w' := by
  have HR := Aside0.mk (Option.some.inj h)
  clear h
  go_enter Tryd.func12, Tryd.ntmps12
  go_wp2_with fail
  go_step3
  go_wp2_with fail
  go_step3
  go_wp2_with fail
  refine (report_kinds.calls _).mono ?_
  have HIX := Aside0.mk report_kinds.run
  generalize report_kinds.val = V at HIX ⊢
  rintro e w1 ⟨rfl, hb⟩
  have HB := Aside0.mk hb
  clear hb
  go_wp2_with fail
  go_loopw [3, 7] (fun out i w' => ∃ k : Nat, k ≤ 19 ∧ out = .int .i64 0 ∧ i = .int .i64 k ∧ Aside0 (report_Kind.at_ (report_kinds.words.drop k) k a0.toList = r) ∧ w' = w1) (fun _ i _ => 19 - (intOf i).toNat)
  case atStart => exact ⟨0, by omega, rfl, rfl, ⟨by rw [List.drop_zero]; exact HR.out⟩, rfl⟩
  case round =>
    obtain ⟨k, hk, rfl, rfl, HA, rfl⟩ := hrel
    by_cases hlt : k < 19
    · have hix := HIX.out k hlt
      have hst := HA.out
      rw [report_Kind.step k hlt] at hst
      generalize report_kinds.words.getD k ByteArray.empty = x at hix hst
      have b0 : decide ((k : Int) < 19) = true := decide_eq_true (by omega)
      clear HA HR
      by_cases hx : x.toList = a0.toList
      · have b1 : (x.toList == a0.toList) = true := by simpa using hx
        by_cases h0 : 0 < k
        · have b2 : decide (0 < (k : Int)) = true := decide_eq_true (by omega)
          have b3 : decide (0 < k) = true := decide_eq_true h0
          rw [b1, b3, Bool.true_and, if_pos rfl] at hst
          have HS := Aside0.mk hst
          clear hst h0 hx hk
          go_wp2
          simp only [Exit.noGoto]
          go_ret
          exact ⟨by rw [← HS.out]; rfl, HB.out⟩
        · have b2 : decide (0 < (k : Int)) = false := decide_eq_false (by omega)
          have b3 : decide (0 < k) = false := decide_eq_false h0
          rw [b1, b3, Bool.and_false, if_neg (by decide)] at hst
          have HS := Aside0.mk hst
          clear hst h0 hx
          go_wp2
          go_roundw
          case rel => exact ⟨k + 1, by omega, rfl, by go_num, HS, trivial⟩
          case measure => simp [intOf]; omega
      · have b1 : (x.toList == a0.toList) = false := by simpa using hx
        rw [b1, Bool.false_and, if_neg (by decide)] at hst
        have HS := Aside0.mk hst
        clear hst hx
        go_wp2
        go_roundw
        case rel => exact ⟨k + 1, by omega, rfl, by go_num, HS, trivial⟩
        case measure => simp [intOf]; omega
    · have hk19 : k = 19 := by omega
      subst hk19
      have HS : Aside0 ((0 : Int) = r) := ⟨HA.out⟩
      clear HA hk hlt
      go_wp2
      simp only [Exit.noGoto]
      go_ret
      exact ⟨by rw [← HS.out]; rfl, HB.out⟩


/-! ### strings_Count: function 38 (told by hand) -/
def strings_Count.f (a0 a1 : ByteArray) : Option Int := match a1.data.toList with
  | [c] => some ((Lib.countByte a0.data.toList c : Nat) : Int)
  | _ => none
theorem strings_Count.calls (a0 a1 : ByteArray) (r : Int) (w : World) (h : strings_Count.f a0 a1 = some r) : Calls Tryd.prog 38 #[.string a0, .string a1] w fun e w' => e = .returned (.int .i64 r) ∧ Drawn0 w w' := by
  obtain ⟨⟨l⟩⟩ := a1
  match l, h with
  | [c], h =>
    obtain rfl := Option.some.inj h
    refine (Tryd.strings_Count_one a0 c w).mono ?_
    rintro e w' ⟨rfl, rfl⟩
    exact ⟨rfl, Drawn0.refl _⟩


/-! ### strings_Index: function 39 (told by hand) -/
def strings_Index.f (a0 a1 : ByteArray) : Option Int := match a1.data.toList with
  | [c] => some (Lib.indexByte a0.data.toList c)
  | _ => none
theorem strings_Index.calls (a0 a1 : ByteArray) (r : Int) (w : World) (h : strings_Index.f a0 a1 = some r) : Calls Tryd.prog 39 #[.string a0, .string a1] w fun e w' => e = .returned (.int .i64 r) ∧ Drawn0 w w' := by
  obtain ⟨⟨l⟩⟩ := a1
  match l, h with
  | [c], h =>
    obtain rfl := Option.some.inj h
    refine (Tryd.strings_Index_one a0 c w).mono ?_
    rintro e w' ⟨rfl, rfl⟩
    exact ⟨rfl, Drawn0.refl _⟩


/-! ### strings_Split: function 29 (told by hand) -/
def strings_Split.f (a0 a1 : ByteArray) : Option (List ByteArray) := match a1.data.toList with
  | [c] => if a0.size ≤ 1000000 then some ((YtodifojhegbjaaaDoorMpHelp.splitL c a0.data.toList).map fun l => ⟨l.toArray⟩) else none
  | _ => none
theorem strings_Split.gen (a0 : ByteArray) (c : UInt8) (w : World) (hs : a0.size ≤ 1000000) : Calls Tryd.prog 35 #[.string a0, .string ⟨#[c]⟩, .int .i64 0, .int .i64 (-1)] w fun e w' =>
    e = .returned (.slice (some ⟨w.heap.size, 0, none⟩) (YtodifojhegbjaaaDoorMpHelp.splitL c a0.data.toList).length (YtodifojhegbjaaaDoorMpHelp.splitL c a0.data.toList).length) ∧ w' = w.alloc (.cells (((YtodifojhegbjaaaDoorMpHelp.splitL c a0.data.toList).map fun l => Value.string ⟨l.toArray⟩)).toArray 9) := by
  have hcb : Lib.countB a0 ⟨#[c]⟩ = a0.data.toList.count c := by
    exact Lib.count_one c a0.data.toList
  have hle : a0.data.toList.count c ≤ a0.size := by
    have h1 := List.count_le_length (a := c) (l := a0.data.toList)
    rw [Array.length_toList] at h1
    exact h1
  have hlen := Lib.splitB_all ⟨#[c]⟩ (Nat.le_refl 1) 0 _ a0 rfl
  rw [hcb, YtodifojhegbjaaaDoorMpHelp.splitB_one, List.length_map] at hlen
  refine (Any.strings_genSplit_core Tryd.lays221 (by kernel_rfl) a0 ⟨#[c]⟩ 0 (-1) (a0.data.toList.count c + 1) w (by omega) (Nat.le_refl 1) (Nat.zero_le _) (fun x cs _ => ?_) ?_ (by decide) (by decide) (by rw [hcb, if_pos (by decide), Int.min_eq_left (by omega)]; rfl)).mono ?_
  · refine (Tryd.strings_Index_one x c _).mono ?_
    rintro e w' ⟨rfl, rfl⟩
    exact ⟨by rw [show Lib.indexB x ⟨#[c]⟩ = Lib.index x.data.toList [c] from rfl, Lib.index_one], rfl⟩
  · refine (Tryd.strings_Count_one a0 c _).mono ?_
    rintro e w' ⟨rfl, rfl⟩
    exact ⟨by rw [hcb]; rfl, rfl⟩
  · rintro e w' ⟨rfl, rfl⟩
    rw [Nat.add_sub_cancel, YtodifojhegbjaaaDoorMpHelp.splitB_one, List.length_map, ← hlen]
    refine ⟨rfl, ?_⟩
    have hcl : Lib.cellsOf ((YtodifojhegbjaaaDoorMpHelp.splitL c a0.data.toList).map fun l => (⟨l.toArray⟩ : ByteArray)) (YtodifojhegbjaaaDoorMpHelp.splitL c a0.data.toList).length = ((YtodifojhegbjaaaDoorMpHelp.splitL c a0.data.toList).map fun l => Value.string ⟨l.toArray⟩).toArray := by
      have := Lib.cellsOf_full ((YtodifojhegbjaaaDoorMpHelp.splitL c a0.data.toList).map fun l => (⟨l.toArray⟩ : ByteArray))
      rw [List.length_map] at this
      rw [this, List.map_map]
      rfl
    rw [hcl]
    rfl
theorem strings_Split.calls_at (a0 : ByteArray) (c : UInt8) (w : World) (hs : a0.size ≤ 1000000) : Calls Tryd.prog 29 #[.string a0, .string ⟨#[c]⟩] w fun e w' =>
    e = .returned (.slice (some ⟨w.heap.size, 0, none⟩) (YtodifojhegbjaaaDoorMpHelp.splitL c a0.data.toList).length (YtodifojhegbjaaaDoorMpHelp.splitL c a0.data.toList).length) ∧ w' = w.alloc (.cells (((YtodifojhegbjaaaDoorMpHelp.splitL c a0.data.toList).map fun l => Value.string ⟨l.toArray⟩)).toArray 9) := by
  generalize hL : YtodifojhegbjaaaDoorMpHelp.splitL c a0.data.toList = L
  have HL := Aside0.mk hL
  clear hL
  go_enter Tryd.func29, Tryd.ntmps29
  go_wp2_with fail
  refine (strings_Split.gen a0 c w hs).mono ?_
  rw [HL.out]
  rintro e w' ⟨rfl, rfl⟩
  go_wp2
  go_ret
  exact ⟨rfl, rfl⟩
theorem strings_Split.calls (a0 a1 : ByteArray) (r : List ByteArray) (w : World) (h : strings_Split.f a0 a1 = some r) : Calls Tryd.prog 29 #[.string a0, .string a1] w fun e w' => ∃ v0_ : Value, e = .returned (v0_) ∧ Kd.R Kd.string 9 w' w.heap.size (fun _ => True) v0_ r ∧ Below w.heap.size w w' := by
  obtain ⟨⟨l⟩⟩ := a1
  match l, h with
  | [c], h =>
    simp only [strings_Split.f] at h
    by_cases hs : a0.size ≤ 1000000
    · rw [if_pos hs] at h
      obtain rfl := Option.some.inj h
      refine (strings_Split.calls_at a0 c w hs).mono ?_
      rintro e w' ⟨rfl, rfl⟩
      refine ⟨_, rfl, ⟨fun _ _ => trivial, (YtodifojhegbjaaaDoorMpHelp.splitL c a0.data.toList).map fun l => Value.string ⟨l.toArray⟩, ⟨by simp [Kd.string, Kd.scalar], .inr ⟨w.heap.size, (YtodifojhegbjaaaDoorMpHelp.splitL c a0.data.toList).length, _, by simp, Nat.le_refl _, YtodifojhegbjaaaDoorMpHelp.heap_new _ _, by simp, ?_, by simp [Kd.string, Kd.scalar], by simp [Kd.string, Kd.scalar, List.take_of_length_le]⟩⟩, ?_⟩, below_alloc (Below.refl _ _) _⟩
      · have h1 : (YtodifojhegbjaaaDoorMpHelp.splitL c a0.data.toList).length ≤ a0.size + 1 := by
          have hlen := Lib.splitB_all ⟨#[c]⟩ (Nat.le_refl 1) 0 _ a0 rfl
          have hcb : Lib.countB a0 ⟨#[c]⟩ = a0.data.toList.count c := by
            exact Lib.count_one c a0.data.toList
          rw [hcb, YtodifojhegbjaaaDoorMpHelp.splitB_one, List.length_map] at hlen
          have h1 := List.count_le_length (a := c) (l := a0.data.toList)
          rw [Array.length_toList] at h1
          have : a0.data.size = a0.size := rfl
          omega
        refine Nat.le_trans h1 (Nat.le_trans (Nat.succ_le_succ hs) (by decide))
      · refine ⟨by simp [Kd.string, Kd.scalar], fun j p hj => ?_⟩
        rw [List.getElem?_map] at hj
        obtain ⟨q, hq, rfl⟩ := Option.map_eq_some_iff.1 hj
        show List.take 1 (List.drop (j * 1) ((YtodifojhegbjaaaDoorMpHelp.splitL c a0.data.toList).map fun l => Value.string ⟨l.toArray⟩)) = [Value.string ⟨q.toArray⟩]
        obtain ⟨hlt, hget⟩ := List.getElem?_eq_some_iff.1 hq
        rw [Nat.mul_one, List.drop_eq_getElem_cons (by rw [List.length_map]; exact hlt), List.getElem_map, hget]
        rfl
    · rw [if_neg hs] at h
      cases h


/-! ### member_part: function 31 (told by hand) -/
def member_part.f (a0 : ByteArray) : Option Bool := some (YtodifojhegbjaaaDoorMpHelp.partB a0.data.toList)
def member_part.fine (c : Nat) : Bool := decide (33 ≤ c) && decide (c ≤ 126)
theorem member_part.all_of (s : ByteArray) (h : ∀ j (hj : j < s.size), member_part.fine (s[j]'hj).toNat = true) : s.data.toList.all (fun c => decide (33 ≤ c.toNat) && decide (c.toNat ≤ 126)) = true := by
  rw [List.all_eq_true]
  intro c hc
  obtain ⟨j, hj, rfl⟩ := List.getElem_of_mem hc
  have hj' : j < s.size := by
    rw [Array.length_toList] at hj
    exact hj
  exact h j hj'
theorem member_part.not_all (s : ByteArray) (j : Nat) (hj : j < s.size) (h : member_part.fine (s[j]'hj).toNat = false) : YtodifojhegbjaaaDoorMpHelp.partB s.data.toList = false := by
  unfold YtodifojhegbjaaaDoorMpHelp.partB
  have hm : s[j]'hj ∈ s.data.toList := by
    have : s[j]'hj = s.data.toList[j]'(by rw [Array.length_toList]; exact hj) := rfl
    rw [this]
    exact List.getElem_mem _
  have : s.data.toList.all (fun c => decide (33 ≤ c.toNat) && decide (c.toNat ≤ 126)) = false := by
    rw [List.all_eq_false]
    refine ⟨_, hm, ?_⟩
    show ¬ (member_part.fine (s[j]'hj).toNat = true)
    rw [h]
    decide
  rw [this]
  rfl
set_option maxRecDepth 1000000 in
set_option maxHeartbeats 4000000 in
theorem member_part.calls (a0 : ByteArray) (r : Bool) (w : World) (h : member_part.f a0 = some r) : Calls Tryd.prog 31 #[.string a0] w fun e w' => e = .returned (.bool r) ∧ Below w.heap.size w w' := by
  have HR := Aside0.mk (Option.some.inj h)
  clear h
  go_enter Tryd.func31, Tryd.ntmps31
  go_wp2
  go_loopw [] (fun w' => ∃ (pos : Nat), w' = w.iter a0 pos ∧ Aside0 (∀ j (hj : j < a0.size), j < pos → member_part.fine (a0[j]'hj).toNat = true)) (fun w' => a0.size - w'.iterPos w.heap.size)
  case atStart => exact ⟨0, rfl, ⟨fun j _ hj => absurd hj (Nat.not_lt_zero _)⟩⟩
  case round =>
    obtain ⟨pos, rfl, HA⟩ := hrel
    by_cases hp : pos < a0.size
    · have hnx : ∀ ty, (Instr.next (.pointer (some ⟨w.heap.size, 0, none⟩)) true ty).run Tryd.prog (w.iter a0 pos) = _ := fun ty => run_next_any w a0 pos ty hp
      obtain ⟨rn, hrn⟩ : ∃ rn, rn = (Utf8.decode a0 pos).1 := ⟨_, rfl⟩
      obtain ⟨wd, hwd⟩ : ∃ wd, wd = (Utf8.decode a0 pos).2 := ⟨_, rfl⟩
      rw [← hrn, ← hwd] at hnx
      by_cases hf : member_part.fine (a0[pos]'hp).toNat = true
      · have ha : (a0[pos]'hp).toNat < 128 := by
          simp [member_part.fine] at hf
          omega
        have hd := decode_ascii a0 pos hp ha
        rw [hd] at hrn hwd
        dsimp only at hrn hwd
        subst hwd
        have h33 : 33 ≤ rn := by
          simp [member_part.fine] at hf
          omega
        have h126 : rn ≤ 126 := by
          simp [member_part.fine] at hf
          omega
        have HA2 : Aside0 (∀ j (hj : j < a0.size), j < pos + 1 → member_part.fine (a0[j]'hj).toNat = true) := ⟨fun j hj hlt => by
          by_cases e : j = pos
          · subst e
            exact hf
          · exact HA.out j hj (by omega)⟩
        clear hf HA hrn ha hd HR
        have b1 : decide ((rn : Int) < 33) = false := decide_eq_false (by omega)
        have b2 : decide (126 < (rn : Int)) = false := decide_eq_false (by omega)
        clear h33 h126
        go_wp2
        go_roundw
        case rel => exact ⟨pos + 1, rfl, HA2⟩
        case measure =>
          simp
          omega
      · have hf' : member_part.fine (a0[pos]'hp).toNat = false := by simpa using hf
        have hr := member_part.not_all a0 pos hp hf'
        have HF := Aside0.mk (HR.out.symm.trans hr)
        have hlo : rn < 33 ∨ 126 < rn := by
          by_cases ha : (a0[pos]'hp).toNat < 128
          · have hd := decode_ascii a0 pos hp ha
            rw [hd] at hrn
            dsimp only at hrn
            simp [member_part.fine] at hf'
            omega
          · have hh := decode_high a0 pos hp (by omega)
            omega
        clear hr hf hf' HA HR hrn hwd
        rcases hlo with hlo | hlo
        · have b1 : decide ((rn : Int) < 33) = true := decide_eq_true (by omega)
          clear hlo
          go_wp2
          go_ret
          exact ⟨by rw [HF.out]; rfl, below_alloc (Below.refl _ _) _⟩
        · have b1 : decide ((rn : Int) < 33) = false := decide_eq_false (by omega)
          have b2 : decide (126 < (rn : Int)) = true := decide_eq_true (by omega)
          clear hlo
          go_wp2
          go_ret
          exact ⟨by rw [HF.out]; rfl, below_alloc (Below.refl _ _) _⟩
    · have hnx : ∀ ty, (Instr.next (.pointer (some ⟨w.heap.size, 0, none⟩)) true ty).run Tryd.prog (w.iter a0 pos) = _ := fun ty => run_next_end w a0 pos ty hp
      have hall := member_part.all_of a0 (fun j hj => HA.out j hj (by omega))
      have hr := HR.out
      unfold YtodifojhegbjaaaDoorMpHelp.partB at hr
      rw [hall] at hr
      rw [← Lib.toList_data] at hr
      have HF := Aside0.mk hr
      clear hr hall HR HA
      go_wp2
      all_goals
        go_ret
        refine ⟨?_, below_alloc (Below.refl _ _) _⟩
        rw [← HF.out]
        first
        | rfl
        | (simp only [*]; rfl)
        | (simp [*]; done)


/-! ### member_Right: function 24 (told by hand) -/
def member_Right.f (a0 : ByteArray) : Option Bool := some (YtodifojhegbjaaaDoorMpHelp.rightB a0.data.toList)
theorem member_Right.clo (s : ByteArray) (w : World) : Calls Tryd.prog 30 #[.string s] w fun e w' => e = .returned (.bool (!YtodifojhegbjaaaDoorMpHelp.partB s.data.toList)) ∧ Below w.heap.size w w' := by
  generalize hb : YtodifojhegbjaaaDoorMpHelp.partB s.data.toList = b
  have HB := Aside0.mk hb
  clear hb
  go_enter Tryd.func30, Tryd.ntmps30
  go_wp2_with fail
  refine (member_part.calls s b _ (by unfold member_part.f; rw [HB.out])).mono ?_
  rintro e w1 ⟨rfl, hb⟩
  have HW := Aside0.mk hb
  clear hb HB
  go_wp2
  go_ret
  exact ⟨rfl, HW.out⟩
/-- Where the first part stands that may not be. -/
def member_Right.bad (L : List (List UInt8)) : Int := if L.all YtodifojhegbjaaaDoorMpHelp.partB = true then -1 else 0
set_option maxRecDepth 100000 in
set_option maxHeartbeats 4000000 in
theorem member_Right.idx (b : Nat) (L : List (List UInt8)) (n : Nat) (w : World) (hL : L.length ≤ 1000000) (hb : w.heap[b]? = some (.cells (L.map fun l => Value.string ⟨l.toArray⟩).toArray 9 (0, 0))) :
    Calls Tryd.prog 34 #[.slice (some ⟨b, 0, none⟩) L.length n, .func (.func 30) #[] #[]] w fun e w' => (∃ r : Int, e = .returned (.int .i64 r) ∧ decide (r ≥ 0) = !(L.all YtodifojhegbjaaaDoorMpHelp.partB)) ∧ Below w.heap.size w w' := by
  have HBL := Aside0.mk hb
  clear hb
  go_enter Tryd.func34, Tryd.ntmps34
  go_wp2_with fail
  go_loopw [8] (fun i w' => ∃ k : Nat, k ≤ L.length ∧ i = .int .i64 k ∧ Aside0 ((L.take k).all YtodifojhegbjaaaDoorMpHelp.partB = true) ∧ Aside0 (Below w.heap.size w w')) (fun i _ => L.length - (intOf i).toNat)
  case atStart => exact ⟨0, Nat.zero_le _, rfl, ⟨by simp⟩, ⟨Below.refl _ _⟩⟩
  case round =>
    obtain ⟨k, hk, rfl, HA, HB⟩ := hrel
    by_cases hlt : k < L.length
    · have hcell := cell_of_row _ b k _ _ _ (blk_below HBL.out HB.out)
      rw [List.getElem?_toArray, List.getElem?_map, List.getElem?_eq_getElem hlt, Option.map_some] at hcell
      generalize hq : L[k]'hlt = q at hcell
      have hfr := blk_frozen (blk_below HBL.out HB.out) k
      cases hp : YtodifojhegbjaaaDoorMpHelp.partB q with
      | true =>
        have HA2 : Aside0 ((L.take (k + 1)).all YtodifojhegbjaaaDoorMpHelp.partB = true) := ⟨by
          rw [List.take_succ_eq_append_getElem hlt, List.all_append, HA.out, hq]
          simp [hp]⟩
        have HP := Aside0.mk hp
        have HW0 := Aside0.mk HB.out.size
        clear hp HA hq
        go_wp2_with fail
        refine (member_Right.clo ⟨q.toArray⟩ _).mono ?_
        rw [show (⟨q.toArray⟩ : ByteArray).data.toList = q from rfl, HP.out]
        rintro e w1 ⟨rfl, hb⟩
        have HB2 := Aside0.mk (below_step HB.out hb)
        clear hb HB HP hcell
        go_wp2
        go_roundw
        case rel => exact ⟨k + 1, by omega, by go_num, HA2, HB2⟩
        case measure => simp [intOf]; omega
      | false =>
        have HR : Aside0 (L.all YtodifojhegbjaaaDoorMpHelp.partB = false) := ⟨by
          rw [List.all_eq_false]
          exact ⟨q, hq ▸ List.getElem_mem hlt, by rw [hp]; decide⟩⟩
        have HP := Aside0.mk hp
        clear hp HA hq
        go_wp2_with fail
        refine (member_Right.clo ⟨q.toArray⟩ _).mono ?_
        rw [show (⟨q.toArray⟩ : ByteArray).data.toList = q from rfl, HP.out]
        rintro e w1 ⟨rfl, hb⟩
        have HB2 := Aside0.mk (below_step HB.out hb)
        clear hb HB HP hcell
        go_wp2
        go_ret
        exact ⟨⟨_, rfl, by rw [HR.out]; simp⟩, HB2.out⟩
    · have hk' : k = L.length := by omega
      subst hk'
      have HR : Aside0 (L.all YtodifojhegbjaaaDoorMpHelp.partB = true) := ⟨by
        have := HA.out
        rwa [List.take_length] at this⟩
      clear HA
      go_wp2
      go_ret
      exact ⟨⟨_, rfl, by rw [HR.out]; simp⟩, HB.out⟩
set_option maxRecDepth 100000 in
theorem member_Right.con (b : Nat) (L : List (List UInt8)) (n : Nat) (w : World) (hL : L.length ≤ 1000000) (hb : w.heap[b]? = some (.cells (L.map fun l => Value.string ⟨l.toArray⟩).toArray 9 (0, 0))) :
    Calls Tryd.prog 28 #[.slice (some ⟨b, 0, none⟩) L.length n, .func (.func 30) #[] #[]] w fun e w' => e = .returned (.bool (!(L.all YtodifojhegbjaaaDoorMpHelp.partB))) ∧ Below w.heap.size w w' := by
  generalize hx : (!(L.all YtodifojhegbjaaaDoorMpHelp.partB)) = x
  have HX := Aside0.mk hx
  clear hx
  have HBL := Aside0.mk hb
  clear hb
  go_enter Tryd.func28, Tryd.ntmps28
  go_wp2_with fail
  refine (member_Right.idx b L n _ hL HBL.out).mono ?_
  rintro e w1 ⟨⟨r, rfl, hr⟩, hb⟩
  rw [HX.out] at hr
  have HW := Aside0.mk hb
  have HR := Aside0.mk hr
  clear hb HX HBL hr
  go_wp2
  go_ret
  exact ⟨by rw [← HR.out]; rfl, HW.out⟩
set_option maxRecDepth 100000 in
theorem member_Right.calls (a0 : ByteArray) (r : Bool) (w : World) (h : member_Right.f a0 = some r) : Calls Tryd.prog 24 #[.string a0] w fun e w' => e = .returned (.bool r) ∧ Below w.heap.size w w' := by
  have hr := Option.some.inj h
  unfold YtodifojhegbjaaaDoorMpHelp.rightB at hr
  rw [show a0.data.toList.length = a0.size from by rw [Array.length_toList]; rfl] at hr
  clear h
  by_cases hs : a0.size ≤ 64
  · rw [decide_eq_true hs, Bool.true_and] at hr
    have HR := Aside0.mk hr
    clear hr
    have hlen : (YtodifojhegbjaaaDoorMpHelp.splitL 47 a0.data.toList).length ≤ 1000000 := by
      have hlen := Lib.splitB_all ⟨#[47]⟩ (Nat.le_refl 1) 0 _ a0 rfl
      have hcb : Lib.countB a0 ⟨#[47]⟩ = a0.data.toList.count 47 := Lib.count_one 47 a0.data.toList
      rw [hcb, YtodifojhegbjaaaDoorMpHelp.splitB_one, List.length_map] at hlen
      have h1 := List.count_le_length (a := (47 : UInt8)) (l := a0.data.toList)
      rw [Array.length_toList] at h1
      have : a0.data.size = a0.size := rfl
      omega
    have h64 : decide ((a0.size : Int) ≤ 64) = true := decide_eq_true (by omega)
    have HS := Aside0.mk hs
    have HL := Aside0.mk hlen
    clear hs hlen
    go_enter Tryd.func24, Tryd.ntmps24
    go_wp2_with fail
    have hs := HS.out
    refine (strings_Split.calls_at a0 47 w (by omega)).mono ?_
    clear hs
    generalize YtodifojhegbjaaaDoorMpHelp.splitL 47 a0.data.toList = L at HR HL ⊢
    rintro e w1 ⟨rfl, rfl⟩
    go_wp2_with fail
    refine (member_Right.con w.heap.size L _ _ HL.out (YtodifojhegbjaaaDoorMpHelp.heap_new _ _)).mono ?_
    rw [HR.out]
    rintro e w2 ⟨rfl, hb⟩
    have HW := Aside0.mk (below_step (below_alloc (Below.refl w.heap.size w) _) hb)
    clear hb HR HL
    go_wp2
    go_ret
    exact ⟨by simp, HW.out⟩
  · rw [decide_eq_false hs, Bool.false_and] at hr
    subst hr
    have h64 : decide ((a0.size : Int) ≤ 64) = false := decide_eq_false (by omega)
    clear hs
    go_enter Tryd.func24, Tryd.ntmps24
    go_wp2
    go_ret
    exact ⟨rfl, Below.refl _ _⟩


/-! ### strconv_Itoa: function 36 (told by hand) -/
def strconv_Itoa.f (a0 : Int) : Option ByteArray := if -9223372036854775808 ≤ a0 ∧ a0 ≤ 9223372036854775807 then some ⟨(Lib.itoa a0).toArray⟩ else none
theorem strconv_Itoa.calls (a0 : Int) (r : ByteArray) (w : World) (ht_ : YtodifojhegbjaaaDoorTab.TabOK w) (h : strconv_Itoa.f a0 = some r) : Calls Tryd.prog 36 #[.int .i64 a0] w fun e w' => e = .returned (.string r) ∧ Below w.heap.size w w' := by
  unfold strconv_Itoa.f at h
  by_cases hb : -9223372036854775808 ≤ a0 ∧ a0 ≤ 9223372036854775807
  · rw [if_pos hb] at h
    obtain rfl := Option.some.inj h
    refine (Tryd.strconv_Itoa a0 hb.1 hb.2 w ht_).mono ?_
    rintro e w' ⟨rfl, q, os, rfl⟩
    exact ⟨rfl, YtodifojhegbjaaaDoorTab.grow_below w q os⟩
  · rw [if_neg hb] at h
    cases h


/-! ### report_size: function 32 -/
def report_size.f (a0 : Int) (a1 : ByteArray) : Option (ByteArray) := (strconv_Itoa.f a0).bind fun t101 => (if 1 + t101.size ≤ 9223372036854775807 then (if ((⟨#[32]⟩ : ByteArray) ++ t101).size + a1.size ≤ 9223372036854775807 then (some (((⟨#[32]⟩ : ByteArray) ++ t101) ++ a1)) else (none)) else (none))
set_option maxHeartbeats 8000000 in
set_option maxRecDepth 100000 in
theorem report_size.calls (a0 : Int) (a1 : ByteArray) (r : ByteArray) (w : World) (ht_ : YtodifojhegbjaaaDoorTab.TabOK w) (h : report_size.f a0 a1 = some r) :
  Calls Tryd.prog 32 #[.int .i64 a0, .string a1] w fun e w' => e = .returned (.string r) ∧ Below w.heap.size w w' := by
 have HT := Aside0.mk ht_
 clear ht_
 have HB := Aside0.mk (Below.refl w.heap.size w)
 have H : ((strconv_Itoa.f a0).bind fun t101 => (if 1 + t101.size ≤ 9223372036854775807 then (if ((⟨#[32]⟩ : ByteArray) ++ t101).size + a1.size ≤ 9223372036854775807 then (some (((⟨#[32]⟩ : ByteArray) ++ t101) ++ a1)) else (none)) else (none))) = some r := h
 clear h
 replace H := Option.bind_eq_some_iff.mp H
 obtain ⟨t101, A30, H⟩ := H
 replace H : (if 1 + t101.size ≤ 9223372036854775807 then (if ((⟨#[32]⟩ : ByteArray) ++ t101).size + a1.size ≤ 9223372036854775807 then (some (((⟨#[32]⟩ : ByteArray) ++ t101) ++ a1)) else (none)) else (none)) = some r := H
 have A3 := Aside0.mk A30
 clear A30
 by_cases c4 : 1 + t101.size ≤ 9223372036854775807
 ·rw [if_pos c4] at H
  have c4b0 := eq_true c4
  have c4b1 : decide (1 + t101.size ≤ 9223372036854775807) = true := decide_eq_true c4
  try have c4b2 : (9223372036854775807 < 1 + t101.size) = False := eq_false (Nat.not_lt.2 c4)
  by_cases c5 : ((⟨#[32]⟩ : ByteArray) ++ t101).size + a1.size ≤ 9223372036854775807
  ·rw [if_pos c5] at H
   have c5b0 := eq_true c5
   have c5b1 : decide (((⟨#[32]⟩ : ByteArray) ++ t101).size + a1.size ≤ 9223372036854775807) = true := decide_eq_true c5
   try have c5b2 : (9223372036854775807 < ((⟨#[32]⟩ : ByteArray) ++ t101).size + a1.size) = False := eq_false (Nat.not_lt.2 c5)
   try (have c5b3 := c5; simp only [ByteArray.size_append, show ((⟨#[32]⟩ : ByteArray)).size = 1 from rfl] at c5b3; have c5b4 := eq_false (Nat.not_lt.2 c5b3))
   obtain rfl := Option.some.inj H
   go_enter Tryd.func32, Tryd.ntmps32
   go_wp2_with (first | ((with_reducible refine gate_callee (f := 36) rfl ?_); refine goesL_ (some 6) rfl rfl Tryd.func36 (by kernel_rfl) rfl #[.int .i64 a0] rfl (by (try simp only [List.map_toArray, List.map_cons, List.map_nil]); first | done | rfl | (simp only [List.length_drop, List.length_take]; rfl)) ?_; (with_reducible refine (strconv_Itoa.calls a0 t101 _ ?side1 A3.out).mono ?_); (case side1 => exact YtodifojhegbjaaaDoorTab.tab_below HT.out (by repeat (first | (with_reducible first | exact HB.out | apply below_alloc | apply pw_below_drewN | apply below_drew1) | exact HB.out))); rintro e w6 ⟨rfl, hb⟩; refine ⟨_, rfl, ?_⟩; have n0_ := Aside0.mk (below_step (by repeat (first | (with_reducible first | exact HB.out | apply below_alloc | apply pw_below_drewN | apply below_drew1) | exact HB.out)) hb); clear HB; have HB := n0_; clear n0_; (try clear hb); (try clear hb2); (try clear hk); (try clear hi)))
   go_ret
   exact ⟨by first | rfl | (simp [errW_none, errW_some] <;> rfl) | (simp [*, errW_none, errW_some] <;> rfl), by repeat (first | (with_reducible first | exact HB.out | apply below_alloc | apply pw_below_drewN | apply below_drew1) | exact HB.out)⟩
  ·rw [if_neg c5] at H
   exact absurd H (by simp)
 ·rw [if_neg c4] at H
  exact absurd H (by simp)

/-! ### report_beside: function 25 -/
def report_beside.f (a0 : Int) (a1_0 : Int) (l1_1 : List Int) (a1_2 : Int) (l1_3 : List ByteArray) (l1_4 : List (S122)) (a1_5 : Bool) (a1_6 : Bool) : Option (ByteArray) := if a0 = 8 then ((report_size.f (l1_1.length : Int) (⟨#[98]⟩ : ByteArray)).bind fun t103 => (some t103)) else (if a0 = 9 then ((report_size.f a1_2 (⟨#[98]⟩ : ByteArray)).bind fun t104 => (some t104)) else (if a0 = 10 then ((report_size.f (l1_3.length : Int) (⟨#[120]⟩ : ByteArray)).bind fun t105 => (some t105)) else (if a0 = 2 then ((report_size.f (l1_4.length : Int) (⟨#[120]⟩ : ByteArray)).bind fun t106 => (some t106)) else (if a0 = 15 then ((report_size.f (l1_4.length : Int) (⟨#[120]⟩ : ByteArray)).bind fun t107 => (some t107)) else (some (⟨#[]⟩ : ByteArray))))))
set_option maxHeartbeats 8000000 in
set_option maxRecDepth 100000 in
theorem report_beside.calls (a0 : Int) (a1_0 : Int) (A1_1 : Option Addr) (c1_1 : Nat) (l1_1 : List Int) (a1_2 : Int) (A1_3 : Option Addr) (c1_3 : Nat) (l1_3 : List ByteArray) (A1_4 : Option Addr) (c1_4 : Nat) (l1_4 : List (S122)) (a1_5 : Bool) (a1_6 : Bool) (r : ByteArray) (w : World) (hr1_1 : Kd.C (Kd.int .u8) w A1_1 l1_1.length l1_1) (hc1_1 : l1_1.length ≤ c1_1) (hr1_3 : Kd.C Kd.string w A1_3 l1_3.length l1_3) (hc1_3 : l1_3.length ≤ c1_3) (hr1_4 : Kd.C k122 w A1_4 l1_4.length l1_4) (hc1_4 : l1_4.length ≤ c1_4) (ht_ : YtodifojhegbjaaaDoorTab.TabOK w) (h : report_beside.f a0 a1_0 l1_1 a1_2 l1_3 l1_4 a1_5 a1_6 = some r) :
  Calls Tryd.prog 25 #[.int .i64 a0, .agg #[.int .i64 a1_0, .slice A1_1 l1_1.length c1_1, .int .i64 a1_2, .slice A1_3 l1_3.length c1_3, .slice A1_4 l1_4.length c1_4, .bool a1_5, .bool a1_6]] w fun e w' => e = .returned (.string r) ∧ Below w.heap.size w w' := by
 have HT := Aside0.mk ht_
 clear ht_
 have hu51 := Tryd.underlying51
 have HR1_1 := Aside0.mk hr1_1
 have HC1_1 := Aside0.mk hc1_1
 clear hr1_1 hc1_1
 have HR1_3 := Aside0.mk hr1_3
 have HC1_3 := Aside0.mk hc1_3
 clear hr1_3 hc1_3
 have HR1_4 := Aside0.mk hr1_4
 have HC1_4 := Aside0.mk hc1_4
 clear hr1_4 hc1_4
 have HB := Aside0.mk (Below.refl w.heap.size w)
 have H : (if a0 = 8 then ((report_size.f (l1_1.length : Int) (⟨#[98]⟩ : ByteArray)).bind fun t103 => (some t103)) else (if a0 = 9 then ((report_size.f a1_2 (⟨#[98]⟩ : ByteArray)).bind fun t104 => (some t104)) else (if a0 = 10 then ((report_size.f (l1_3.length : Int) (⟨#[120]⟩ : ByteArray)).bind fun t105 => (some t105)) else (if a0 = 2 then ((report_size.f (l1_4.length : Int) (⟨#[120]⟩ : ByteArray)).bind fun t106 => (some t106)) else (if a0 = 15 then ((report_size.f (l1_4.length : Int) (⟨#[120]⟩ : ByteArray)).bind fun t107 => (some t107)) else (some (⟨#[]⟩ : ByteArray))))))) = some r := h
 clear h
 by_cases c3 : a0 = 8
 ·rw [if_pos c3] at H
  have c3b0 : (a0 == 8) = true := beq_iff_eq.mpr c3
  have c3b1 : (a0 != 8) = false := bne_eq_false_iff_eq.mpr c3
  clear c3
  replace H := Option.bind_eq_some_iff.mp H
  obtain ⟨t103, A40, H⟩ := H
  replace H : (some t103) = some r := H
  have A4 := Aside0.mk A40
  clear A40
  obtain rfl := Option.some.inj H
  go_enter Tryd.func25, Tryd.ntmps25
  go_wp2_with (first | ((with_reducible refine gate_dst (N := 3) rfl ?_); refine box_event ?hg (N := 3) ?hd (cs := #[.int .i64 a1_0, .slice A1_1 l1_1.length c1_1, .int .i64 a1_2, .slice A1_3 l1_3.length c1_3, .slice A1_4 l1_4.length c1_4, .bool a1_5, .bool a1_6]) (t := 51) ?hr ?_; (case hd => rfl); (case hg => rfl); (case hr => first | (go_simp; done) | (go_simp; rfl)); intro gb102 hg w5 hbox hb; have n0_ := Aside0.mk (below_step (by repeat (first | (with_reducible first | exact HB.out | apply below_alloc | apply pw_below_drewN | apply below_drew1) | exact HB.out)) hb); have n1_ := Aside0.mk (hbox); have n2_ := Aside0.mk ((by rw [hg]; exact (below_size (by repeat (first | (with_reducible first | exact HB.out | apply below_alloc | apply pw_below_drewN | apply below_drew1) | exact HB.out))) : w.heap.size ≤ gb102)); have n3_ := Aside0.mk ((by rw [hg]; exact (below_size (by repeat (first | (with_reducible first | exact HB.out | apply below_alloc | apply pw_below_drewN | apply below_drew1) | exact HB.out))) : w.heap.size ≤ gb102)); clear HB; have HB := n0_; have BK102 := n1_; have GW102 := n2_; have GE102 := n3_; clear n0_ n1_ n2_ n3_; clear hb hbox hg; have hcz6_0 : w5.cell? ⟨gb102, 0, none⟩ = some (.int .i64 a1_0) := (blk_cell BK102.out 0).trans rfl; have hcz6_1 : w5.cell? ⟨gb102, 1, none⟩ = some (.slice A1_1 l1_1.length c1_1) := (blk_cell BK102.out 1).trans rfl; have hcz6_2 : w5.cell? ⟨gb102, 2, none⟩ = some (.int .i64 a1_2) := (blk_cell BK102.out 2).trans rfl; have hcz6_3 : w5.cell? ⟨gb102, 3, none⟩ = some (.slice A1_3 l1_3.length c1_3) := (blk_cell BK102.out 3).trans rfl; have hcz6_4 : w5.cell? ⟨gb102, 4, none⟩ = some (.slice A1_4 l1_4.length c1_4) := (blk_cell BK102.out 4).trans rfl; have hcz6_5 : w5.cell? ⟨gb102, 5, none⟩ = some (.bool a1_5) := (blk_cell BK102.out 5).trans rfl; have hcz6_6 : w5.cell? ⟨gb102, 6, none⟩ = some (.bool a1_6) := (blk_cell BK102.out 6).trans rfl; have hfz6_0 := blk_frozen BK102.out 0; have hfz6_1 := blk_frozen BK102.out 1; have hfz6_2 := blk_frozen BK102.out 2; have hfz6_3 := blk_frozen BK102.out 3; have hfz6_4 := blk_frozen BK102.out 4; have hfz6_5 := blk_frozen BK102.out 5; have hfz6_6 := blk_frozen BK102.out 6) | ((with_reducible refine gate_callee (f := 32) rfl ?_); refine goesL_ (some 11) rfl rfl Tryd.func32 (by kernel_rfl) rfl #[.int .i64 (l1_1.length : Int), .string (⟨#[98]⟩ : ByteArray)] rfl (by (try simp only [List.map_toArray, List.map_cons, List.map_nil]); first | done | rfl | (simp only [List.length_drop, List.length_take]; rfl)) ?_; (with_reducible refine (report_size.calls (l1_1.length : Int) (⟨#[98]⟩ : ByteArray) t103 _ ?side1 A4.out).mono ?_); (case side1 => exact YtodifojhegbjaaaDoorTab.tab_below HT.out (by repeat (first | (with_reducible first | exact HB.out | apply below_alloc | apply pw_below_drewN | apply below_drew1 | refine below_set ?_ GE102.out) | exact HB.out))); rintro e w7 ⟨rfl, hb⟩; refine ⟨_, rfl, ?_⟩; have n0_ := Aside0.mk (blk_below (g := gb102) (o := .cells #[.int .i64 a1_0, .slice A1_1 l1_1.length c1_1, .int .i64 a1_2, .slice A1_3 l1_3.length c1_3, .slice A1_4 l1_4.length c1_4, .bool a1_5, .bool a1_6] 51 (0, 0)) (by (with_reducible repeat (first | refine blk_drewN ?_ _ | refine blk_drew ?_ | refine blk_alloc ?_ _)); exact BK102.out) hb); have n1_ := Aside0.mk (below_step (by repeat (first | (with_reducible first | exact HB.out | apply below_alloc | apply pw_below_drewN | apply below_drew1 | refine below_set ?_ GE102.out) | exact HB.out)) hb); clear BK102; clear HB; have BK102 := n0_; have HB := n1_; clear n0_ n1_; (try clear hb); (try clear hb2); (try clear hk); (try clear hi)))
  go_ret
  exact ⟨by first | rfl | (simp [errW_none, errW_some] <;> rfl) | (simp [*, errW_none, errW_some] <;> rfl), by repeat (first | (with_reducible first | exact HB.out | apply below_alloc | apply pw_below_drewN | apply below_drew1 | refine below_set ?_ GE102.out) | exact HB.out)⟩
 ·rw [if_neg c3] at H
  have c3b0 : (a0 == 8) = false := beq_eq_false_iff_ne.mpr c3
  have c3b1 : (a0 != 8) = true := bne_iff_ne.mpr c3
  by_cases c8 : a0 = 9
  ·rw [if_pos c8] at H
   have c8b0 : (a0 == 9) = true := beq_iff_eq.mpr c8
   have c8b1 : (a0 != 9) = false := bne_eq_false_iff_eq.mpr c8
   clear c8
   replace H := Option.bind_eq_some_iff.mp H
   obtain ⟨t104, A90, H⟩ := H
   replace H : (some t104) = some r := H
   have A9 := Aside0.mk A90
   clear A90
   obtain rfl := Option.some.inj H
   go_enter Tryd.func25, Tryd.ntmps25
   go_wp2_with (first | ((with_reducible refine gate_dst (N := 3) rfl ?_); refine box_event ?hg (N := 3) ?hd (cs := #[.int .i64 a1_0, .slice A1_1 l1_1.length c1_1, .int .i64 a1_2, .slice A1_3 l1_3.length c1_3, .slice A1_4 l1_4.length c1_4, .bool a1_5, .bool a1_6]) (t := 51) ?hr ?_; (case hd => rfl); (case hg => rfl); (case hr => first | (go_simp; done) | (go_simp; rfl)); intro gb102 hg w10 hbox hb; have n0_ := Aside0.mk (below_step (by repeat (first | (with_reducible first | exact HB.out | apply below_alloc | apply pw_below_drewN | apply below_drew1) | exact HB.out)) hb); have n1_ := Aside0.mk (hbox); have n2_ := Aside0.mk ((by rw [hg]; exact (below_size (by repeat (first | (with_reducible first | exact HB.out | apply below_alloc | apply pw_below_drewN | apply below_drew1) | exact HB.out))) : w.heap.size ≤ gb102)); have n3_ := Aside0.mk ((by rw [hg]; exact (below_size (by repeat (first | (with_reducible first | exact HB.out | apply below_alloc | apply pw_below_drewN | apply below_drew1) | exact HB.out))) : w.heap.size ≤ gb102)); clear HB; have HB := n0_; have BK102 := n1_; have GW102 := n2_; have GE102 := n3_; clear n0_ n1_ n2_ n3_; clear hb hbox hg; have hcz11_0 : w10.cell? ⟨gb102, 0, none⟩ = some (.int .i64 a1_0) := (blk_cell BK102.out 0).trans rfl; have hcz11_1 : w10.cell? ⟨gb102, 1, none⟩ = some (.slice A1_1 l1_1.length c1_1) := (blk_cell BK102.out 1).trans rfl; have hcz11_2 : w10.cell? ⟨gb102, 2, none⟩ = some (.int .i64 a1_2) := (blk_cell BK102.out 2).trans rfl; have hcz11_3 : w10.cell? ⟨gb102, 3, none⟩ = some (.slice A1_3 l1_3.length c1_3) := (blk_cell BK102.out 3).trans rfl; have hcz11_4 : w10.cell? ⟨gb102, 4, none⟩ = some (.slice A1_4 l1_4.length c1_4) := (blk_cell BK102.out 4).trans rfl; have hcz11_5 : w10.cell? ⟨gb102, 5, none⟩ = some (.bool a1_5) := (blk_cell BK102.out 5).trans rfl; have hcz11_6 : w10.cell? ⟨gb102, 6, none⟩ = some (.bool a1_6) := (blk_cell BK102.out 6).trans rfl; have hfz11_0 := blk_frozen BK102.out 0; have hfz11_1 := blk_frozen BK102.out 1; have hfz11_2 := blk_frozen BK102.out 2; have hfz11_3 := blk_frozen BK102.out 3; have hfz11_4 := blk_frozen BK102.out 4; have hfz11_5 := blk_frozen BK102.out 5; have hfz11_6 := blk_frozen BK102.out 6) | ((with_reducible refine gate_callee (f := 32) rfl ?_); refine goesL_ (some 16) rfl rfl Tryd.func32 (by kernel_rfl) rfl #[.int .i64 a1_2, .string (⟨#[98]⟩ : ByteArray)] rfl (by (try simp only [List.map_toArray, List.map_cons, List.map_nil]); first | done | rfl | (simp only [List.length_drop, List.length_take]; rfl)) ?_; (with_reducible refine (report_size.calls a1_2 (⟨#[98]⟩ : ByteArray) t104 _ ?side1 A9.out).mono ?_); (case side1 => exact YtodifojhegbjaaaDoorTab.tab_below HT.out (by repeat (first | (with_reducible first | exact HB.out | apply below_alloc | apply pw_below_drewN | apply below_drew1 | refine below_set ?_ GE102.out) | exact HB.out))); rintro e w12 ⟨rfl, hb⟩; refine ⟨_, rfl, ?_⟩; have n0_ := Aside0.mk (blk_below (g := gb102) (o := .cells #[.int .i64 a1_0, .slice A1_1 l1_1.length c1_1, .int .i64 a1_2, .slice A1_3 l1_3.length c1_3, .slice A1_4 l1_4.length c1_4, .bool a1_5, .bool a1_6] 51 (0, 0)) (by (with_reducible repeat (first | refine blk_drewN ?_ _ | refine blk_drew ?_ | refine blk_alloc ?_ _)); exact BK102.out) hb); have n1_ := Aside0.mk (below_step (by repeat (first | (with_reducible first | exact HB.out | apply below_alloc | apply pw_below_drewN | apply below_drew1 | refine below_set ?_ GE102.out) | exact HB.out)) hb); clear BK102; clear HB; have BK102 := n0_; have HB := n1_; clear n0_ n1_; (try clear hb); (try clear hb2); (try clear hk); (try clear hi)))
   go_ret
   exact ⟨by first | rfl | (simp [errW_none, errW_some] <;> rfl) | (simp [*, errW_none, errW_some] <;> rfl), by repeat (first | (with_reducible first | exact HB.out | apply below_alloc | apply pw_below_drewN | apply below_drew1 | refine below_set ?_ GE102.out) | exact HB.out)⟩
  ·rw [if_neg c8] at H
   have c8b0 : (a0 == 9) = false := beq_eq_false_iff_ne.mpr c8
   have c8b1 : (a0 != 9) = true := bne_iff_ne.mpr c8
   by_cases c13 : a0 = 10
   ·rw [if_pos c13] at H
    have c13b0 : (a0 == 10) = true := beq_iff_eq.mpr c13
    have c13b1 : (a0 != 10) = false := bne_eq_false_iff_eq.mpr c13
    clear c13
    replace H := Option.bind_eq_some_iff.mp H
    obtain ⟨t105, A140, H⟩ := H
    replace H : (some t105) = some r := H
    have A14 := Aside0.mk A140
    clear A140
    obtain rfl := Option.some.inj H
    go_enter Tryd.func25, Tryd.ntmps25
    go_wp2_with (first | ((with_reducible refine gate_dst (N := 3) rfl ?_); refine box_event ?hg (N := 3) ?hd (cs := #[.int .i64 a1_0, .slice A1_1 l1_1.length c1_1, .int .i64 a1_2, .slice A1_3 l1_3.length c1_3, .slice A1_4 l1_4.length c1_4, .bool a1_5, .bool a1_6]) (t := 51) ?hr ?_; (case hd => rfl); (case hg => rfl); (case hr => first | (go_simp; done) | (go_simp; rfl)); intro gb102 hg w15 hbox hb; have n0_ := Aside0.mk (below_step (by repeat (first | (with_reducible first | exact HB.out | apply below_alloc | apply pw_below_drewN | apply below_drew1) | exact HB.out)) hb); have n1_ := Aside0.mk (hbox); have n2_ := Aside0.mk ((by rw [hg]; exact (below_size (by repeat (first | (with_reducible first | exact HB.out | apply below_alloc | apply pw_below_drewN | apply below_drew1) | exact HB.out))) : w.heap.size ≤ gb102)); have n3_ := Aside0.mk ((by rw [hg]; exact (below_size (by repeat (first | (with_reducible first | exact HB.out | apply below_alloc | apply pw_below_drewN | apply below_drew1) | exact HB.out))) : w.heap.size ≤ gb102)); clear HB; have HB := n0_; have BK102 := n1_; have GW102 := n2_; have GE102 := n3_; clear n0_ n1_ n2_ n3_; clear hb hbox hg; have hcz16_0 : w15.cell? ⟨gb102, 0, none⟩ = some (.int .i64 a1_0) := (blk_cell BK102.out 0).trans rfl; have hcz16_1 : w15.cell? ⟨gb102, 1, none⟩ = some (.slice A1_1 l1_1.length c1_1) := (blk_cell BK102.out 1).trans rfl; have hcz16_2 : w15.cell? ⟨gb102, 2, none⟩ = some (.int .i64 a1_2) := (blk_cell BK102.out 2).trans rfl; have hcz16_3 : w15.cell? ⟨gb102, 3, none⟩ = some (.slice A1_3 l1_3.length c1_3) := (blk_cell BK102.out 3).trans rfl; have hcz16_4 : w15.cell? ⟨gb102, 4, none⟩ = some (.slice A1_4 l1_4.length c1_4) := (blk_cell BK102.out 4).trans rfl; have hcz16_5 : w15.cell? ⟨gb102, 5, none⟩ = some (.bool a1_5) := (blk_cell BK102.out 5).trans rfl; have hcz16_6 : w15.cell? ⟨gb102, 6, none⟩ = some (.bool a1_6) := (blk_cell BK102.out 6).trans rfl; have hfz16_0 := blk_frozen BK102.out 0; have hfz16_1 := blk_frozen BK102.out 1; have hfz16_2 := blk_frozen BK102.out 2; have hfz16_3 := blk_frozen BK102.out 3; have hfz16_4 := blk_frozen BK102.out 4; have hfz16_5 := blk_frozen BK102.out 5; have hfz16_6 := blk_frozen BK102.out 6) | ((with_reducible refine gate_callee (f := 32) rfl ?_); refine goesL_ (some 22) rfl rfl Tryd.func32 (by kernel_rfl) rfl #[.int .i64 (l1_3.length : Int), .string (⟨#[120]⟩ : ByteArray)] rfl (by (try simp only [List.map_toArray, List.map_cons, List.map_nil]); first | done | rfl | (simp only [List.length_drop, List.length_take]; rfl)) ?_; (with_reducible refine (report_size.calls (l1_3.length : Int) (⟨#[120]⟩ : ByteArray) t105 _ ?side1 A14.out).mono ?_); (case side1 => exact YtodifojhegbjaaaDoorTab.tab_below HT.out (by repeat (first | (with_reducible first | exact HB.out | apply below_alloc | apply pw_below_drewN | apply below_drew1 | refine below_set ?_ GE102.out) | exact HB.out))); rintro e w17 ⟨rfl, hb⟩; refine ⟨_, rfl, ?_⟩; have n0_ := Aside0.mk (blk_below (g := gb102) (o := .cells #[.int .i64 a1_0, .slice A1_1 l1_1.length c1_1, .int .i64 a1_2, .slice A1_3 l1_3.length c1_3, .slice A1_4 l1_4.length c1_4, .bool a1_5, .bool a1_6] 51 (0, 0)) (by (with_reducible repeat (first | refine blk_drewN ?_ _ | refine blk_drew ?_ | refine blk_alloc ?_ _)); exact BK102.out) hb); have n1_ := Aside0.mk (below_step (by repeat (first | (with_reducible first | exact HB.out | apply below_alloc | apply pw_below_drewN | apply below_drew1 | refine below_set ?_ GE102.out) | exact HB.out)) hb); clear BK102; clear HB; have BK102 := n0_; have HB := n1_; clear n0_ n1_; (try clear hb); (try clear hb2); (try clear hk); (try clear hi)))
    go_ret
    exact ⟨by first | rfl | (simp [errW_none, errW_some] <;> rfl) | (simp [*, errW_none, errW_some] <;> rfl), by repeat (first | (with_reducible first | exact HB.out | apply below_alloc | apply pw_below_drewN | apply below_drew1 | refine below_set ?_ GE102.out) | exact HB.out)⟩
   ·rw [if_neg c13] at H
    have c13b0 : (a0 == 10) = false := beq_eq_false_iff_ne.mpr c13
    have c13b1 : (a0 != 10) = true := bne_iff_ne.mpr c13
    by_cases c18 : a0 = 2
    ·rw [if_pos c18] at H
     have c18b0 : (a0 == 2) = true := beq_iff_eq.mpr c18
     have c18b1 : (a0 != 2) = false := bne_eq_false_iff_eq.mpr c18
     clear c18
     replace H := Option.bind_eq_some_iff.mp H
     obtain ⟨t106, A190, H⟩ := H
     replace H : (some t106) = some r := H
     have A19 := Aside0.mk A190
     clear A190
     obtain rfl := Option.some.inj H
     go_enter Tryd.func25, Tryd.ntmps25
     go_wp2_with (first | ((with_reducible refine gate_dst (N := 3) rfl ?_); refine box_event ?hg (N := 3) ?hd (cs := #[.int .i64 a1_0, .slice A1_1 l1_1.length c1_1, .int .i64 a1_2, .slice A1_3 l1_3.length c1_3, .slice A1_4 l1_4.length c1_4, .bool a1_5, .bool a1_6]) (t := 51) ?hr ?_; (case hd => rfl); (case hg => rfl); (case hr => first | (go_simp; done) | (go_simp; rfl)); intro gb102 hg w20 hbox hb; have n0_ := Aside0.mk (below_step (by repeat (first | (with_reducible first | exact HB.out | apply below_alloc | apply pw_below_drewN | apply below_drew1) | exact HB.out)) hb); have n1_ := Aside0.mk (hbox); have n2_ := Aside0.mk ((by rw [hg]; exact (below_size (by repeat (first | (with_reducible first | exact HB.out | apply below_alloc | apply pw_below_drewN | apply below_drew1) | exact HB.out))) : w.heap.size ≤ gb102)); have n3_ := Aside0.mk ((by rw [hg]; exact (below_size (by repeat (first | (with_reducible first | exact HB.out | apply below_alloc | apply pw_below_drewN | apply below_drew1) | exact HB.out))) : w.heap.size ≤ gb102)); clear HB; have HB := n0_; have BK102 := n1_; have GW102 := n2_; have GE102 := n3_; clear n0_ n1_ n2_ n3_; clear hb hbox hg; have hcz21_0 : w20.cell? ⟨gb102, 0, none⟩ = some (.int .i64 a1_0) := (blk_cell BK102.out 0).trans rfl; have hcz21_1 : w20.cell? ⟨gb102, 1, none⟩ = some (.slice A1_1 l1_1.length c1_1) := (blk_cell BK102.out 1).trans rfl; have hcz21_2 : w20.cell? ⟨gb102, 2, none⟩ = some (.int .i64 a1_2) := (blk_cell BK102.out 2).trans rfl; have hcz21_3 : w20.cell? ⟨gb102, 3, none⟩ = some (.slice A1_3 l1_3.length c1_3) := (blk_cell BK102.out 3).trans rfl; have hcz21_4 : w20.cell? ⟨gb102, 4, none⟩ = some (.slice A1_4 l1_4.length c1_4) := (blk_cell BK102.out 4).trans rfl; have hcz21_5 : w20.cell? ⟨gb102, 5, none⟩ = some (.bool a1_5) := (blk_cell BK102.out 5).trans rfl; have hcz21_6 : w20.cell? ⟨gb102, 6, none⟩ = some (.bool a1_6) := (blk_cell BK102.out 6).trans rfl; have hfz21_0 := blk_frozen BK102.out 0; have hfz21_1 := blk_frozen BK102.out 1; have hfz21_2 := blk_frozen BK102.out 2; have hfz21_3 := blk_frozen BK102.out 3; have hfz21_4 := blk_frozen BK102.out 4; have hfz21_5 := blk_frozen BK102.out 5; have hfz21_6 := blk_frozen BK102.out 6) | ((with_reducible refine gate_callee (f := 32) rfl ?_); refine goesL_ (some 29) rfl rfl Tryd.func32 (by kernel_rfl) rfl #[.int .i64 (l1_4.length : Int), .string (⟨#[120]⟩ : ByteArray)] rfl (by (try simp only [List.map_toArray, List.map_cons, List.map_nil]); first | done | rfl | (simp only [List.length_drop, List.length_take]; rfl)) ?_; (with_reducible refine (report_size.calls (l1_4.length : Int) (⟨#[120]⟩ : ByteArray) t106 _ ?side1 A19.out).mono ?_); (case side1 => exact YtodifojhegbjaaaDoorTab.tab_below HT.out (by repeat (first | (with_reducible first | exact HB.out | apply below_alloc | apply pw_below_drewN | apply below_drew1 | refine below_set ?_ GE102.out) | exact HB.out))); rintro e w22 ⟨rfl, hb⟩; refine ⟨_, rfl, ?_⟩; have n0_ := Aside0.mk (blk_below (g := gb102) (o := .cells #[.int .i64 a1_0, .slice A1_1 l1_1.length c1_1, .int .i64 a1_2, .slice A1_3 l1_3.length c1_3, .slice A1_4 l1_4.length c1_4, .bool a1_5, .bool a1_6] 51 (0, 0)) (by (with_reducible repeat (first | refine blk_drewN ?_ _ | refine blk_drew ?_ | refine blk_alloc ?_ _)); exact BK102.out) hb); have n1_ := Aside0.mk (below_step (by repeat (first | (with_reducible first | exact HB.out | apply below_alloc | apply pw_below_drewN | apply below_drew1 | refine below_set ?_ GE102.out) | exact HB.out)) hb); clear BK102; clear HB; have BK102 := n0_; have HB := n1_; clear n0_ n1_; (try clear hb); (try clear hb2); (try clear hk); (try clear hi)))
     go_ret
     exact ⟨by first | rfl | (simp [errW_none, errW_some] <;> rfl) | (simp [*, errW_none, errW_some] <;> rfl), by repeat (first | (with_reducible first | exact HB.out | apply below_alloc | apply pw_below_drewN | apply below_drew1 | refine below_set ?_ GE102.out) | exact HB.out)⟩
    ·rw [if_neg c18] at H
     have c18b0 : (a0 == 2) = false := beq_eq_false_iff_ne.mpr c18
     have c18b1 : (a0 != 2) = true := bne_iff_ne.mpr c18
     by_cases c23 : a0 = 15
     ·rw [if_pos c23] at H
      have c23b0 : (a0 == 15) = true := beq_iff_eq.mpr c23
      have c23b1 : (a0 != 15) = false := bne_eq_false_iff_eq.mpr c23
      clear c23
      replace H := Option.bind_eq_some_iff.mp H
      obtain ⟨t107, A240, H⟩ := H
      replace H : (some t107) = some r := H
      have A24 := Aside0.mk A240
      clear A240
      obtain rfl := Option.some.inj H
      go_enter Tryd.func25, Tryd.ntmps25
      go_wp2_with (first | ((with_reducible refine gate_dst (N := 3) rfl ?_); refine box_event ?hg (N := 3) ?hd (cs := #[.int .i64 a1_0, .slice A1_1 l1_1.length c1_1, .int .i64 a1_2, .slice A1_3 l1_3.length c1_3, .slice A1_4 l1_4.length c1_4, .bool a1_5, .bool a1_6]) (t := 51) ?hr ?_; (case hd => rfl); (case hg => rfl); (case hr => first | (go_simp; done) | (go_simp; rfl)); intro gb102 hg w25 hbox hb; have n0_ := Aside0.mk (below_step (by repeat (first | (with_reducible first | exact HB.out | apply below_alloc | apply pw_below_drewN | apply below_drew1) | exact HB.out)) hb); have n1_ := Aside0.mk (hbox); have n2_ := Aside0.mk ((by rw [hg]; exact (below_size (by repeat (first | (with_reducible first | exact HB.out | apply below_alloc | apply pw_below_drewN | apply below_drew1) | exact HB.out))) : w.heap.size ≤ gb102)); have n3_ := Aside0.mk ((by rw [hg]; exact (below_size (by repeat (first | (with_reducible first | exact HB.out | apply below_alloc | apply pw_below_drewN | apply below_drew1) | exact HB.out))) : w.heap.size ≤ gb102)); clear HB; have HB := n0_; have BK102 := n1_; have GW102 := n2_; have GE102 := n3_; clear n0_ n1_ n2_ n3_; clear hb hbox hg; have hcz26_0 : w25.cell? ⟨gb102, 0, none⟩ = some (.int .i64 a1_0) := (blk_cell BK102.out 0).trans rfl; have hcz26_1 : w25.cell? ⟨gb102, 1, none⟩ = some (.slice A1_1 l1_1.length c1_1) := (blk_cell BK102.out 1).trans rfl; have hcz26_2 : w25.cell? ⟨gb102, 2, none⟩ = some (.int .i64 a1_2) := (blk_cell BK102.out 2).trans rfl; have hcz26_3 : w25.cell? ⟨gb102, 3, none⟩ = some (.slice A1_3 l1_3.length c1_3) := (blk_cell BK102.out 3).trans rfl; have hcz26_4 : w25.cell? ⟨gb102, 4, none⟩ = some (.slice A1_4 l1_4.length c1_4) := (blk_cell BK102.out 4).trans rfl; have hcz26_5 : w25.cell? ⟨gb102, 5, none⟩ = some (.bool a1_5) := (blk_cell BK102.out 5).trans rfl; have hcz26_6 : w25.cell? ⟨gb102, 6, none⟩ = some (.bool a1_6) := (blk_cell BK102.out 6).trans rfl; have hfz26_0 := blk_frozen BK102.out 0; have hfz26_1 := blk_frozen BK102.out 1; have hfz26_2 := blk_frozen BK102.out 2; have hfz26_3 := blk_frozen BK102.out 3; have hfz26_4 := blk_frozen BK102.out 4; have hfz26_5 := blk_frozen BK102.out 5; have hfz26_6 := blk_frozen BK102.out 6) | ((with_reducible refine gate_callee (f := 32) rfl ?_); refine goesL_ (some 29) rfl rfl Tryd.func32 (by kernel_rfl) rfl #[.int .i64 (l1_4.length : Int), .string (⟨#[120]⟩ : ByteArray)] rfl (by (try simp only [List.map_toArray, List.map_cons, List.map_nil]); first | done | rfl | (simp only [List.length_drop, List.length_take]; rfl)) ?_; (with_reducible refine (report_size.calls (l1_4.length : Int) (⟨#[120]⟩ : ByteArray) t107 _ ?side1 A24.out).mono ?_); (case side1 => exact YtodifojhegbjaaaDoorTab.tab_below HT.out (by repeat (first | (with_reducible first | exact HB.out | apply below_alloc | apply pw_below_drewN | apply below_drew1 | refine below_set ?_ GE102.out) | exact HB.out))); rintro e w27 ⟨rfl, hb⟩; refine ⟨_, rfl, ?_⟩; have n0_ := Aside0.mk (blk_below (g := gb102) (o := .cells #[.int .i64 a1_0, .slice A1_1 l1_1.length c1_1, .int .i64 a1_2, .slice A1_3 l1_3.length c1_3, .slice A1_4 l1_4.length c1_4, .bool a1_5, .bool a1_6] 51 (0, 0)) (by (with_reducible repeat (first | refine blk_drewN ?_ _ | refine blk_drew ?_ | refine blk_alloc ?_ _)); exact BK102.out) hb); have n1_ := Aside0.mk (below_step (by repeat (first | (with_reducible first | exact HB.out | apply below_alloc | apply pw_below_drewN | apply below_drew1 | refine below_set ?_ GE102.out) | exact HB.out)) hb); clear BK102; clear HB; have BK102 := n0_; have HB := n1_; clear n0_ n1_; (try clear hb); (try clear hb2); (try clear hk); (try clear hi)))
      go_ret
      exact ⟨by first | rfl | (simp [errW_none, errW_some] <;> rfl) | (simp [*, errW_none, errW_some] <;> rfl), by repeat (first | (with_reducible first | exact HB.out | apply below_alloc | apply pw_below_drewN | apply below_drew1 | refine below_set ?_ GE102.out) | exact HB.out)⟩
     ·rw [if_neg c23] at H
      have c23b0 : (a0 == 15) = false := beq_eq_false_iff_ne.mpr c23
      have c23b1 : (a0 != 15) = true := bne_iff_ne.mpr c23
      obtain rfl := Option.some.inj H
      go_enter Tryd.func25, Tryd.ntmps25
      go_wp2_with (first | ((with_reducible refine gate_dst (N := 3) rfl ?_); refine box_event ?hg (N := 3) ?hd (cs := #[.int .i64 a1_0, .slice A1_1 l1_1.length c1_1, .int .i64 a1_2, .slice A1_3 l1_3.length c1_3, .slice A1_4 l1_4.length c1_4, .bool a1_5, .bool a1_6]) (t := 51) ?hr ?_; (case hd => rfl); (case hg => rfl); (case hr => first | (go_simp; done) | (go_simp; rfl)); intro gb102 hg w28 hbox hb; have n0_ := Aside0.mk (below_step (by repeat (first | (with_reducible first | exact HB.out | apply below_alloc | apply pw_below_drewN | apply below_drew1) | exact HB.out)) hb); have n1_ := Aside0.mk (hbox); have n2_ := Aside0.mk ((by rw [hg]; exact (below_size (by repeat (first | (with_reducible first | exact HB.out | apply below_alloc | apply pw_below_drewN | apply below_drew1) | exact HB.out))) : w.heap.size ≤ gb102)); have n3_ := Aside0.mk ((by rw [hg]; exact (below_size (by repeat (first | (with_reducible first | exact HB.out | apply below_alloc | apply pw_below_drewN | apply below_drew1) | exact HB.out))) : w.heap.size ≤ gb102)); clear HB; have HB := n0_; have BK102 := n1_; have GW102 := n2_; have GE102 := n3_; clear n0_ n1_ n2_ n3_; clear hb hbox hg))
      go_ret
      exact ⟨by first | rfl | (simp [errW_none, errW_some] <;> rfl) | (simp [*, errW_none, errW_some] <;> rfl), by repeat (first | (with_reducible first | exact HB.out | apply below_alloc | apply pw_below_drewN | apply below_drew1 | refine below_set ?_ GE102.out) | exact HB.out)⟩

end Go.Proofs.YtodifojhegbjaaaDoor.PReportCounts
