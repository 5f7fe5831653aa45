/- slices.Values, AppendSeq, Collect, Sorted at texts; member.Sort over them: this session's own text (the rounds' form after the worked Ggi text). -/
import Derived.RangeFuncBox
import Derived.RangeFuncLeaves
import Derived.RangeFuncFrom
import Derived.RangeFuncNested
import Derived.RangeFuncBound
import Derived.RangeFuncCalls
import Derived.Shelf.Abstract
import Derived.Shelf.RegionOpen
import Derived.WalkKit
import Derived.OwnWalkIn
import Derived.TacticsInMore
import Derived.LoopNIn
import Derived.LoopIn
import Derived.Maps.AppendAt
import Derived.Sort.OwnSorted
import Derived.Lib.RowBridge
import Derived.Test.YtkccjohhakljnaaGreatDoorWWords
import Derived.Test.YtkccjohhakljnaaGreatDoorShelf
import Derived.Test.YtkccjohhakljnaaGreatDoorProg
namespace Go.Proofs.YtkccjohhakljnaaGreatDoorMSort
open Go.RowKit Go.Shelf Go.Sort Go.Proofs
attribute [local go_sem] Oper.semAt_some
def upto {α : Type} (f : Nat → α) (k : Nat) : List α := (List.range k).map f
theorem upto_succ {α : Type} (f : Nat → α) (k : Nat) : upto f (k + 1) = upto f k ++ [f k] := by simp [upto, List.range_succ]
theorem upto_length {α : Type} (f : Nat → α) (k : Nat) : (upto f k).length = k := by simp [upto]
theorem upto_all (zs : List ByteArray) : upto (fun j => zs[j]?.getD ByteArray.empty) zs.length = zs := by
  apply List.ext_getElem
  · simp [upto]
  · intro i h1 h2
    simp [upto, h2]
theorem upto_take (zs : List ByteArray) {k : Nat} (hk : k ≤ zs.length) : upto (fun j => zs[j]?.getD ByteArray.empty) k = zs.take k := by
  apply List.ext_getElem
  · simp [upto, hk]
  · intro i h1 h2
    have : i < zs.length := by simp [upto] at h1; omega
    simp [upto, this]
set_option maxRecDepth 100000 in
set_option maxHeartbeats 2000000 in
theorem values1_in (F : Fence) (n : Nat) (h7 : F.fn 71) (hro : F.round = none) (hn : 1 ≤ n) (l Bs n₀ b off len cap : Nat) (zs : List ByteArray) (hreach : len * 16 ≤ 140737488351232) (hb : b < n₀) (J Jx : List ByteArray → World → Prop)
    (hY : ∀ pre x W, J pre W → pre.length < len → YieldAt F (n - 1) Tryz.prog l #[.string x] W fun e W' =>
      (e = .returned (.bool true) ∧ J (pre ++ [x]) W' ∧ Below n₀ W W') ∨ (e = .returned (.bool false) ∧ Jx (pre ++ [x]) W'))
    (W : World) (hBs : W.cell? ⟨Bs, 0, none⟩ = some (.slice (some ⟨b, off, none⟩) len cap)) (hc : ∀ j, j < len → W.cell? ⟨b, off + j, none⟩ = some (.string (zs[j]?.getD ByteArray.empty))) (h0 : J [] W) :
    CallsIn F n Tryz.prog 71 #[.func (.yield l) #[] #[], .pointer (some ⟨Bs, 0, none⟩)] W fun e W' => (∃ v, e = .returned v) ∧
      ((∃ ys, ys = upto (fun j => zs[j]?.getD ByteArray.empty) len ∧ J ys W') ∨ (∃ pre, (∃ k, k ≤ len ∧ pre = upto (fun j => zs[j]?.getD ByteArray.empty) k) ∧ Jx pre W')) := by
  refine callsIn_of_wp Tryz.func71 rfl h7 ?_ hro
  simp only [Tryz.ntmps71, List.size_toArray, List.length_cons, List.length_nil, Nat.reduceAdd, Nat.reduceSub, Array.replicate_succ, Array.replicate_zero, List.push_toArray, List.append_toArray, List.nil_append, List.cons_append]
  gi_wp2
  gi_loopw [7] (fun i wr => ∃ k : Nat, k ≤ len ∧ i = .int .i64 k ∧ J (upto (fun j => zs[j]?.getD ByteArray.empty) k) wr ∧ Below n₀ W wr)
    (fun i _ => len - (intOf i).toNat)
  case atStart => exact ⟨0, Nat.zero_le _, rfl, h0, Below.refl _ _⟩
  case round =>
    obtain ⟨k, hk, rfl, hJs, hnx⟩ := hrel
    have hcx : k < len → wr.cell? ⟨b, off + k, none⟩ = some (.string (zs[k]?.getD ByteArray.empty)) := fun h => (hnx.cell (p := ⟨b, off + k, none⟩) hb).trans (hc k h)
    by_cases hlt : k < len
    · obtain ⟨fn, tmps, assign, body, hy, hR⟩ := hY _ (zs[k]?.getD ByteArray.empty) wr hJs (by rw [upto_length]; exact hlt)
      have hcx' := hcx hlt
      gi_wp2
      refine hR.mono ?_
      rintro e W3 (⟨rfl, hJ3, hk3⟩ | ⟨rfl, hJx3⟩)
      · gi_wp2
        go_roundw
        case rel => exact ⟨k + 1, by omega, by simp, by rw [upto_succ]; exact hJ3, hnx.trans hk3⟩
        case measure => simp [intOf]; omega
      · gi_wp2
        refine bodyPost_ret (results_none rfl _ _ _) rfl ?_
        exact ⟨⟨_, rfl⟩, .inr ⟨_, ⟨k + 1, by omega, (upto_succ _ _).symm⟩, hJx3⟩⟩
    · obtain rfl : k = len := by omega
      gi_wp2
      go_end0
      exact ⟨⟨_, rfl⟩, .inl ⟨_, rfl, hJs⟩⟩
/-- The slice sv holds the texts zs, in a block below n₀; or there are none. -/
def Strs (n₀ : Nat) (W : World) (sv : Value) (zs : List ByteArray) : Prop :=
  (zs = [] ∧ ∃ a cap, sv = .slice a 0 cap) ∨ ∃ b off cap, sv = .slice (some ⟨b, off, none⟩) zs.length cap ∧ b < n₀ ∧ ∀ j, j < zs.length → W.cell? ⟨b, off + j, none⟩ = some (.string (zs[j]?.getD ByteArray.empty))
theorem Strs.below {n₀ : Nat} {A B : World} (h : Below n₀ A B) {sv : Value} {zs : List ByteArray} : Strs n₀ A sv zs → Strs n₀ B sv zs
  | .inl e => .inl e
  | .inr ⟨b, off, cap, e, hb, hc⟩ => .inr ⟨b, off, cap, e, hb, fun j hj => (h.cell (p := ⟨b, off + j, none⟩) hb).trans (hc j hj)⟩
set_option maxRecDepth 100000 in
set_option maxHeartbeats 1000000 in
theorem values1_nil_in (F : Fence) (n : Nat) (h7 : F.fn 71) (hro : F.round = none) (l Bs cap : Nat) (a : Option Addr) (J : List ByteArray → World → Prop) (W : World) (hBs : W.cell? ⟨Bs, 0, none⟩ = some (.slice a 0 cap)) (h0 : J [] W) :
    CallsIn F n Tryz.prog 71 #[.func (.yield l) #[] #[], .pointer (some ⟨Bs, 0, none⟩)] W fun e W' => (∃ v, e = .returned v) ∧ J [] W' := by
  refine callsIn_of_wp Tryz.func71 rfl h7 ?_ hro
  simp only [Tryz.ntmps71, List.size_toArray, List.length_cons, List.length_nil, Nat.reduceAdd, Nat.reduceSub, Array.replicate_succ, Array.replicate_zero, List.push_toArray, List.append_toArray, List.nil_append, List.cons_append]
  gi_wp2
  gi_loopw [7] (fun i wr => i = .int .i64 0 ∧ J [] wr) (fun _ _ => 0)
  case atStart => exact ⟨rfl, h0⟩
  case round =>
    obtain ⟨rfl, hJs⟩ := hrel
    gi_wp2
    go_end0
    exact ⟨⟨_, rfl⟩, hJs⟩
set_option maxHeartbeats 1000000 in
theorem values_in (F : Fence) (n : Nat) (h5 : F.fn 54) (hro : F.round = none) (a : Option Addr) (len cap : Nat) (w : World) :
    CallsIn F n Tryz.prog 54 #[.slice a len cap] w fun e w' => e = .returned (.func (.func 71) #[] #[.pointer (some ⟨w.heap.size, 0, none⟩)]) ∧ w' = w.alloc (.cells #[.slice a len cap] 55) := by
  refine callsIn_of_wp Tryz.func54 rfl h5 ?_ hro
  simp only [Tryz.ntmps54, List.size_toArray, List.length_cons, List.length_nil, Nat.reduceAdd, Nat.reduceSub, Array.replicate_succ, Array.replicate_zero, List.push_toArray, List.append_toArray, List.nil_append, List.cons_append]
  gi_wp2
  go_ret
  exact ⟨rfl, rfl⟩
theorem values_stops (F : Fence) (n : Nat) (h7 : F.fn 71) (hro : F.round = none) (hn : 1 ≤ n) (Bs n₀ : Nat) (sv : Value) (zs : List ByteArray) (hreach : zs.length * 16 ≤ 140737488351232) (w : World) (hBs : Bs < w.heap.size) (hn₀ : n₀ ≤ w.heap.size)
    (hc : w.cell? ⟨Bs, 0, none⟩ = some sv) (hI : Strs n₀ w sv zs) :
    SeqStopsK F n Tryz.prog 71 #[.pointer (some ⟨Bs, 0, none⟩)] (fun x : ByteArray => #[Value.string x]) (Below n₀) (fun ys => ys = zs) (fun pre => pre <+: zs) zs.length w := fun l J Jx W hW _ _ hY h0 => by
  have hc' := (hW.cell (p := ⟨Bs, 0, none⟩) hBs).trans hc
  rcases hI.below (hW.mono hn₀) with ⟨rfl, a, cap, rfl⟩ | ⟨b, off, cap, rfl, hb, hcs⟩
  · exact (values1_nil_in F n h7 hro l Bs cap a J W hc' h0).mono fun e W' ⟨he, hj⟩ => ⟨he, .inl ⟨_, rfl, hj⟩⟩
  · refine (values1_in F n h7 hro hn l Bs n₀ b off zs.length cap zs hreach hb J Jx hY W hc' hcs h0).mono ?_
    rintro e W' ⟨he, ⟨ys, rfl, hj⟩ | ⟨pre, ⟨k, hk, rfl⟩, hj⟩⟩
    · exact ⟨he, .inl ⟨_, upto_all zs, hj⟩⟩
    · exact ⟨he, .inr ⟨_, by rw [upto_take zs hk]; exact List.take_prefix _ _, hj⟩⟩
theorem infoS : (Tryz.prog.info? 9).map (fun i => (i.zero, i.size, i.bytes)) = some (some (.string ByteArray.empty), 1, 16) := by kernel_rfl
set_option maxRecDepth 100000 in
set_option maxHeartbeats 2000000 in
theorem appendSeq_in (F : Fence) (n : Nat) (h86 : F.fn 86) (h71 : F.fn 71) (hro : F.round = none) (hn : 3 ≤ n) (Bs : Nat) (sv : Value) (zs : List ByteArray) (hmax : zs.length ≤ 1000000) (w : World) (hBs : Bs < w.heap.size)
    (hc : w.cell? ⟨Bs, 0, none⟩ = some sv) (hI : Strs w.heap.size w sv zs) :
    CallsIn F n Tryz.prog 86 #[.slice none 0 0, .func (.func 71) #[] #[.pointer (some ⟨Bs, 0, none⟩)]] w fun e W' => ∃ v, e = .returned v ∧
      W'.ownsRow w.heap.size 9 1 v zs.length (zs.map Value.string) ∧ (v = .slice none 0 0 ↔ zs = []) ∧ Below w.heap.size w W' := by
  have h1 : 1 ≤ n := by omega
  have hM : maxLen = 9223372036854775807 := rfl
  obtain ⟨i0, hi, hz0, hz1, hz2⟩ := info_parts infoS
  refine callsIn_of_wp_marks Tryz.func86 rfl h86 ?_ hro
  simp only [Tryz.ntmps86, List.size_toArray, List.length_cons, List.length_nil, Nat.reduceAdd, Nat.reduceSub, Array.replicate_succ, Array.replicate_zero, List.push_toArray, List.append_toArray, List.nil_append, List.cons_append]
  gi_wp2
  have bS := Boxed.new w 55 (.slice none 0 0)
  have hB0 : Below w.heap.size w (w.alloc (.cells #[.slice none 0 0] 55)) := (Below.refl _ w).alloc (Nat.le_refl _) _
  refine wpIn_rangeFunc_ownF hro h1 (gf := 71) (lb := #[.pointer (some ⟨Bs, 0, none⟩)]) rfl h71 (enters_of Tryz.func71 (by kernel_rfl) rfl)
    (values_stops F (n - 1) h71 hro (by omega) Bs w.heap.size sv zs (by omega) (w.alloc (.cells #[.slice none 0 0] 55)) (by simp; omega) (by simp) ((hB0.cell (p := ⟨Bs, 0, none⟩) hBs).trans hc) (hI.below hB0)) belowK_t (belowK_b (by simp)) (Below.refl _ _) (fun _ => rfl)
    (fun pre W => (∃ v, Boxed W w.heap.size 55 v ∧ W.ownsRow w.heap.size 9 1 v pre.length (pre.map Value.string) ∧ (v = .slice none 0 0 ↔ pre = [])) ∧ Below w.heap.size w W)
    (fun _ _ _ => False)
    (OwnFrom.and (Own.from (holdsRow_own w.heap.size w.heap.size 55 9 1 (fun pre : List ByteArray => pre.length) (fun pre => pre.map Value.string) (fun pre v => (v = .slice none 0 0 ↔ pre = []))) _) (ownFrom_below (Nat.le_refl _) (by simp)))
    (fun _ _ _ _ _ hs _ _ => hs)
    ⟨⟨_, bS, World.ownsRow_nil _ _ _ _, by simp⟩, hB0⟩
    (fun x => { tmps := #[.slice none 0 0, .func (.func 71) #[] #[.pointer (some ⟨Bs, 0, none⟩)], .pointer (some ⟨w.heap.size, 0, none⟩), undef, .slice none 0 0, .string x, .func (.func 71) #[] #[.pointer (some ⟨Bs, 0, none⟩)], .string x, undef, undef, undef, undef, undef], defers := [] }) ?assign ?body ?done ?stop
  case assign =>
    intro l x W K hK
    gi_wp2
    exact hK
  case body =>
    rintro l pre x W ⟨⟨v, hv, hrow, hnil⟩, hB⟩ hlt
    have hvc := hv.cell
    gi_wp2_with (gi_at_builtin; refine wpListIn_append_own _ rfl _ _ 55 rfl w.heap.size 9 i0 _ 1 16 Tryz.underlying55 hi hz0 hz1 hz2 rfl (by decide) _ _ _ rfl (hrow.alloc _) ⟨W.heap.size, 0, none⟩ 1 1 [.string x] rfl rfl (cell_one_new _ _ _) (by simp [Value.oneCell']) (by omega) (by omega) (by have := hB.size; simp; omega) ?_; intro v' w1 hown' hgrow _; obtain ⟨g', cap', rfl⟩ := ownsRow_succ hown'; obtain ⟨hv1, hv2, hr2, hk2, hb2⟩ := hv.appended (by decide) hrow hB.size (Nat.le_refl _) hown' hgrow; have hc1 := hv1.cell; have hf1 := hv1.frozen)
    exact ⟨hk2, hb2, ⟨_, hv2, by simpa using hr2, by simp⟩, hB.trans hb2⟩
  case done =>
    rintro D ys W hD rfl ⟨⟨v, hv, hrow, hnil⟩, hB⟩ hK
    have hvc := hv.cell
    gi_wp2
    refine ⟨by simp, .inl ⟨_, _, rfl, run_takeDeferred hK, ?_⟩⟩
    exact ⟨_, results_tmp rfl _ _ _, v, rfl, ownsRow_putObj hrow _ hK rfl, hnil, hB.trans (belowK_b (w := w) (Nat.le_refl _) W D _ _ (by simp at hD; omega) hK rfl rfl)⟩
  case stop =>
    rintro D c pre W _ _ h _
    exact h.elim
set_option maxHeartbeats 1000000 in
theorem collect_in (F : Fence) (n : Nat) (h69 : F.fn 69) (h86 : F.fn 86) (h71 : F.fn 71) (hro : F.round = none) (hn : 4 ≤ n) (Bs : Nat) (sv : Value) (zs : List ByteArray) (hmax : zs.length ≤ 1000000) (w : World) (hBs : Bs < w.heap.size)
    (hc : w.cell? ⟨Bs, 0, none⟩ = some sv) (hI : Strs w.heap.size w sv zs) :
    CallsIn F n Tryz.prog 69 #[.func (.func 71) #[] #[.pointer (some ⟨Bs, 0, none⟩)]] w fun e W' => ∃ v, e = .returned v ∧
      W'.ownsRow w.heap.size 9 1 v zs.length (zs.map Value.string) ∧ (v = .slice none 0 0 ↔ zs = []) ∧ Below w.heap.size w W' := by
  have h1 : 1 ≤ n := by omega
  refine callsIn_of_wp Tryz.func69 rfl h69 ?_ hro
  simp only [Tryz.ntmps69, List.size_toArray, List.length_cons, List.length_nil, Nat.reduceAdd, Nat.reduceSub, Array.replicate_succ, Array.replicate_zero, List.push_toArray, List.append_toArray, List.nil_append, List.cons_append]
  gi_wp2_with (gi_at_call 86; refine (appendSeq_in F (n - 1) h86 h71 hro (by omega) Bs sv zs hmax _ hBs hc hI).mono ?_; rintro e w' ⟨v, rfl, hrow, hnil, hb⟩)
  go_ret
  exact ⟨v, rfl, hrow, hnil, hb⟩
def texts (zs : List ByteArray) : List (List UInt8) := zs.map (·.data.toList)
theorem texts_enc (zs : List ByteArray) : (texts zs).map encStr = zs.map Value.string := by
  rw [texts, List.map_map]
  refine List.map_congr_left fun b _ => ?_
  rfl
theorem texts_len (zs : List ByteArray) : (texts zs).length = zs.length := by simp [texts]
def sorted (zs : List ByteArray) : List (List UInt8) := (texts zs).mergeSort fun x y => decide (x ≤ y)
theorem sorted_len (zs : List ByteArray) : (sorted zs).length = zs.length := by simp [sorted, texts]
set_option maxHeartbeats 1000000 in
theorem sorted_in (n : Nat) (hn : 5 ≤ n) (Bs : Nat) (sv : Value) (zs : List ByteArray) (hmax : zs.length ≤ 1000000) (w : World) (hBs : Bs < w.heap.size)
    (hc : w.cell? ⟨Bs, 0, none⟩ = some sv) (hI : Strs w.heap.size w sv zs) :
    CallsIn Fence.wide n Tryz.prog 53 #[.func (.func 71) #[] #[.pointer (some ⟨Bs, 0, none⟩)]] w fun e W' =>
      ∃ v, e = .returned v ∧ ((zs = [] ∧ v = .slice none 0 0) ∨ (∃ g cap cur, w.heap.size ≤ g ∧ v = .slice (some ⟨g, 0, none⟩) zs.length cap ∧ W'.heap[g]? = some (.cells cur 9 (0, 0)) ∧ zs.length ≤ cap ∧ cap ≤ maxLen ∧ cur.size = cap ∧ cur.toList.take zs.length = (sorted zs).map encStr)) ∧ Below w.heap.size w W' := by
  have h1 : 1 ≤ n := by omega
  have hfC : Fence.wide.fn 69 := trivial
  have hfS : Fence.wide.fn 70 := trivial
  refine callsIn_of_wp Tryz.func53 rfl trivial ?_ rfl
  simp only [Tryz.ntmps53, List.size_toArray, List.length_cons, List.length_nil, Nat.reduceAdd, Nat.reduceSub, Array.replicate_succ, Array.replicate_zero, List.push_toArray, List.append_toArray, List.nil_append, List.cons_append]
  gi_wp2_with (gi_at_call 69; refine (collect_in Fence.wide (n - 1) trivial trivial trivial rfl (by omega) Bs sv zs hmax _ hBs hc hI).mono ?_; rintro e W ⟨v, rfl, hrow, hnil, hb⟩)
  rcases hrow.2 with ⟨rfl, hz⟩ | ⟨g, cap, cur, rfl, hbase, hgb, r1, r2, r3, r4⟩
  · have hzs : zs = [] := List.eq_nil_of_length_eq_zero hz
    have cS : CallsIn Fence.wide (n - 1) Tryz.prog 70 #[.slice none 0 0] W fun e w' => e = .returned (.tuple #[]) ∧ w' = W := callsIn_wide.2 (Tryz.slices_Sort_string_none none 0 W)
    gi_wp2_with (gi_at_call 70; refine cS.mono ?_; rintro e w' ⟨rfl, rfl⟩)
    go_ret
    exact ⟨_, rfl, .inl ⟨hzs, rfl⟩, hb⟩
  · have hH : Holds encStr W g 0 (texts zs).toArray := holds_of_block hgb (by rw [texts_len, texts_enc]; simpa using r4)
    have hgl : g < W.heap.size := (Array.getElem?_eq_some_iff.1 hgb).1
    have cS0 := Tryz.slices_Sort_string g 0 cap (texts zs) W hH hgl (by rw [texts_len]; omega)
    rw [texts_len] at cS0
    have cS := callsIn_wide (n := n - 1).2 cS0
    gi_wp2_with (gi_at_call 70; refine cS.mono ?_; rintro e w' ⟨rfl, nn, os, rfl⟩)
    go_ret
    refine ⟨_, rfl, .inr ⟨g, cap, _, hbase, rfl, heap_sorted _ hgb, r1, r2, by simp [putCells]; omega, ?_⟩, hb.grown (grownBy_sorted _) hb.size (fun j hj => by cases hj; exact hbase)⟩
    have hT := take_putCells cur (sorted zs) (by rw [sorted_len]; omega)
    rw [sorted_len] at hT
    exact hT
/-- Texts sorted by bytes, each once. -/
def outs (zs : List ByteArray) : List (List UInt8) := Lib.compact (sorted zs)
theorem outs_len (zs : List ByteArray) : (outs zs).length ≤ zs.length := by
  have := Lib.compact_length_le (sorted zs)
  rwa [sorted_len] at this
set_option maxHeartbeats 1000000 in
theorem sort_calls (sv : Value) (a : Option Addr) (len cap : Nat) (hsv : sv = .slice a len cap) (zs : List ByteArray) (hmax : zs.length ≤ 1000000) (w : World) (hI : Strs w.heap.size w sv zs) :
    Calls Tryz.prog 43 #[.slice a len cap] w fun e W' => ∃ v, e = .returned v ∧
      (∃ cur, (v = .slice none 0 0 ∧ zs = []) ∨ (∃ g cap, v = .slice (some ⟨g, 0, none⟩) (outs zs).length cap ∧ w.heap.size ≤ g ∧ W'.heap[g]? = some (.cells cur 9 (0, 0)) ∧ (outs zs).length ≤ cap ∧ cap ≤ maxLen ∧ cur.size = cap ∧ cur.toList.take (outs zs).length = (outs zs).map encStr)) ∧ Below w.heap.size w W' := by
  refine (callsIn_wide (n := 7)).1 ?_
  subst hsv
  have hBa : Below w.heap.size w (w.alloc (.cells #[.slice a len cap] 55)) := (Below.refl _ w).alloc (Nat.le_refl _) _
  have cV : CallsIn Fence.wide 6 Tryz.prog 54 #[.slice a len cap] w _ := values_in Fence.wide 6 trivial rfl a len cap w
  have hI' : Strs (w.alloc (.cells #[.slice a len cap] 55)).heap.size (w.alloc (.cells #[.slice a len cap] 55)) (.slice a len cap) zs := by
    rcases hI.below hBa with h | ⟨b, off, c, e, hb, hcs⟩
    · exact .inl h
    · exact .inr ⟨b, off, c, e, Nat.lt_of_lt_of_le hb (by simp), hcs⟩
  have cS := sorted_in 6 (by omega) w.heap.size (.slice a len cap) zs hmax (w.alloc (.cells #[.slice a len cap] 55)) (by simp) (Boxed.new w _ _).cell hI'
  have h1 : 1 ≤ 7 := by omega
  have hfV : Fence.wide.fn 54 := trivial
  have hfC : Fence.wide.fn 52 := trivial
  have hfS : Fence.wide.fn 53 := trivial
  refine callsIn_of_wp Tryz.func43 rfl trivial ?_ rfl
  simp only [Tryz.ntmps43, List.size_toArray, List.length_cons, List.length_nil, Nat.reduceAdd, Nat.reduceSub, Array.replicate_succ, Array.replicate_zero, List.push_toArray, List.append_toArray, List.nil_append, List.cons_append]
  gi_wp2_with (gi_at_call 54; refine cV.mono ?_; rintro e w' ⟨rfl, rfl⟩)
  gi_wp2_with (gi_at_call 53; refine cS.mono ?_; rintro e W ⟨v, rfl, hd, hb⟩)
  have hB1 : Below w.heap.size w W := hBa.trans (hb.mono (by simp))
  rcases hd with ⟨hz, rfl⟩ | ⟨g, cp, cur, hbase, rfl, hgb, r1, r2, r3, r4⟩
  · have cC : CallsIn Fence.wide 6 Tryz.prog 52 #[.slice none 0 0] W _ := callsIn_wide.2 (Tryz.slices_Compact_string_empty none 0 W)
    gi_wp2_with (gi_at_call 52; refine cC.mono ?_; rintro e w' ⟨rfl, rfl⟩)
    go_ret
    exact ⟨_, rfl, ⟨#[], .inl ⟨rfl, hz⟩⟩, hB1⟩
  · have hbase' : w.heap.size ≤ g := Nat.le_trans (by simp) hbase
    have hH : Holds encStr W g 0 (sorted zs).toArray := holds_of_block hgb (by rw [sorted_len]; exact r4)
    have cC0 := Tryz.slices_Compact_string g 0 cp (sorted zs) W hH (by rw [sorted_len]; omega) (by rw [sorted_len]; exact r1)
    rw [sorted_len] at cC0
    have cC := callsIn_wide (n := 6).2 cC0
    gi_wp2_with (gi_at_call 52; refine cC.mono ?_; rintro e w' ⟨rfl, q, rfl⟩)
    go_ret
    have hgr : W.grownBy (putRow encStr (Sort.ahead W q) g 0 (Lib.compact (sorted zs) ++ List.replicate (zs.length - (Lib.compact (sorted zs)).length) []).toArray) (some g) := by
      have := grownBy_sorted (w := W) (g := g) (n := q) (os := #[]) (Lib.compact (sorted zs) ++ List.replicate (zs.length - (Lib.compact (sorted zs)).length) []).toArray
      rwa [grow_empty] at this
    have hhp : (putRow encStr (Sort.ahead W q) g 0 (Lib.compact (sorted zs) ++ List.replicate (zs.length - (Lib.compact (sorted zs)).length) []).toArray).heap[g]? = some (.cells (putCells encStr 0 (Lib.compact (sorted zs) ++ List.replicate (zs.length - (Lib.compact (sorted zs)).length) []).toArray cur) 9 (0, 0)) := by
      have := heap_sorted (w := W) (g := g) (n := q) (os := #[]) (Lib.compact (sorted zs) ++ List.replicate (zs.length - (Lib.compact (sorted zs)).length) []).toArray hgb
      rwa [grow_empty] at this
    have hol := outs_len zs
    refine ⟨_, rfl, ⟨_, .inr ⟨g, cp, rfl, hbase', hhp, by omega, r2, by simp [putCells, r3], ?_⟩⟩, hB1.grown hgr hB1.size (fun j hj => by cases hj; exact hbase')⟩
    have hlen : (Lib.compact (sorted zs) ++ List.replicate (zs.length - (Lib.compact (sorted zs)).length) ([] : List UInt8)).length = zs.length := by
      rw [List.length_append, List.length_replicate]
      have : (Lib.compact (sorted zs)).length ≤ zs.length := hol
      omega
    have hT := take_putCells cur (Lib.compact (sorted zs) ++ List.replicate (zs.length - (Lib.compact (sorted zs)).length) []) (by rw [hlen]; omega)
    rw [hlen] at hT
    have hT2 := congrArg (List.take (outs zs).length) hT
    rw [List.take_take, Nat.min_eq_left hol] at hT2
    refine hT2.trans ?_
    rw [List.map_append]
    exact List.take_left' (by rw [List.length_map]; rfl)
end Go.Proofs.YtkccjohhakljnaaGreatDoorMSort
