/- The machine side of a law: for each Go function that it uses a Lean function with the same answers, and the proof that the Go code comes to them; or the row of the law over these. Written by a program of this session. -/
import Derived.Test.YtcfcbkcaondfcaaRows
import Derived.Test.YtcfcbkcaondfcaaPPlanMergesx7
import Derived.Test.YtcfcbkcaondfcaaPurePlanMerges
import Derived.Test.YtcfcbkcaondfcaaRowOpen
import Derived.WalkKit
import Derived.ProofKit
import Derived.OpenShut
import Derived.ShutString
import Derived.ChangeOld
import Derived.Below
import Derived.SizedLaws
namespace Go.Proofs.Ytcfcbkcaondfcaa.planMerges
open Go.ChangeShapes Go.WideShapes Go.ChangeAt Go.RowKit Go.Proofs.YtcfcbkcaondfcaaW.PrintWords Go.Proofs.YtcfcbkcaondfcaaRowOpen Go.Proofs.Ytcfcbkcaondfcaa.PPlanMerges
open Go.ChangeMaps (open_string shut_string)
set_option linter.unusedVariables false
theorem own : ownKnob Try.prog.godebug = none := by kernel_rfl
theorem laidOut : laidOutB Try.prog = true := by kernel_rfl
theorem opens33 : Opens Try.prog 33 k33 good33 :=
  opens_struct Try.underlying33 (by kernel_rfl) (opensF_cons _ rfl rfl (opens_string Try.underlying9 (by kernel_rfl)) (opensF_one _ rfl (opens_slice 5 Try.underlying31 (by kernel_rfl) (B := 1) (by kernel_rfl) (opens_int Try.underlying5 (by kernel_rfl))))) _ (fun y => ⟨y.1, y.2⟩) (fun _ => rfl)
set_option maxRecDepth 100000 in
set_option maxHeartbeats 1000000 in
theorem lifted (os : Os) (started : os.Started) (H : Type) (enc : TypeId × Value → H) :
    ReturnsInHanded {} Try.checked os 3 .any (Rows.planMergesSpec.pre6 enc Try.prog Try.f3 Rows.planMergesRow.domain false) (Rows.planMergesSpec.post enc Try.prog Try.f3 false true false false) := by
  refine returnsInHanded_of_change_sized (C := Try.checked) own started (by kernel_rfl) Try.func3
    (ChangeSpec.witness6 (enc := enc) (C := Try.checked) false ⟨#[], #[.slice none 0 0, .slice none 0 0, .slice none 0 0], []⟩ 16 (by kernel_rfl) (by kernel_rfl) (by kernel_rfl) (by kernel_rfl)) ?_
  intro W base args ds gs before hval0 hW hcnd hsz0 _
  have hsz : (DataW.weightsEach Try.prog (Try.f3.params.toList ++ Rows.planMergesSpec.plain.varTypes Try.prog) (ds ++ gs)).all (· ≤ reachBytes) = true := hsz0
  have hval : ∀ (j : Nat) t v, Try.f3.params[j]? = some t → args[j]? = some v → Value.okWide Try.prog W .any base t v := hval0
  have hW' := hW
  obtain ⟨p, q, hA0, hV, rfl, hfz, hnd⟩ := hW
  have hA : DataW.TrodAll enc Try.prog W 0 (fun _ => true) true Try.f3.params.toList args.toList ds p := hA0
  rw [Try.params3] at hA hval hsz
  obtain ⟨v0, vs0, d0, ds0, p0, q0, hargs, rfl, rfl, h0, r0⟩ := trodAll_cons hA
  obtain ⟨v1, vs1, d1, ds1, p1, q1, rfl, rfl, rfl, h1, r1⟩ := trodAll_cons r0
  obtain ⟨v2, vs2, d2, ds2, p2, q2, rfl, rfl, rfl, h2, r2⟩ := trodAll_cons r1
  obtain ⟨rfl, rfl, rfl⟩ := trodAll_nil r2
  obtain rfl : args = #[v0, v1, v2] := by cases args; simp_all
  obtain ⟨rfl, rfl⟩ := trodVars_none hV
  have lt0 := places_lt h0
  obtain ⟨x0, hk0, hg0⟩ := Opens.arg (opens_slice 33 Try.underlying22 (by kernel_rfl) (B := 40) (by kernel_rfl) opens33) h0 hsz (j := 0) rfl rfl
  obtain ⟨a0, len0, cap0, rfl⟩ := okWide_slice Try.underlying22 (hval 0 22 v0 rfl rfl)
  obtain ⟨A0, c0, hcs0, hl0, hC0⟩ := hk0
  have e0 : Value.slice a0 len0 cap0 = .slice A0 x0.length c0 := by simpa [Value.cells] using hcs0
  injection e0 with ea0 eb0 ec0
  subst ea0; subst eb0; subst ec0
  have lt1 := places_lt h1
  obtain ⟨x1, hk1, hg1⟩ := Opens.arg (opens_slice 33 Try.underlying22 (by kernel_rfl) (B := 40) (by kernel_rfl) opens33) h1 hsz (j := 1) rfl rfl
  obtain ⟨a1, len1, cap1, rfl⟩ := okWide_slice Try.underlying22 (hval 1 22 v1 rfl rfl)
  obtain ⟨A1, c1, hcs1, hl1, hC1⟩ := hk1
  have e1 : Value.slice a1 len1 cap1 = .slice A1 x1.length c1 := by simpa [Value.cells] using hcs1
  injection e1 with ea1 eb1 ec1
  subst ea1; subst eb1; subst ec1
  have lt2 := places_lt h2
  obtain ⟨x2, hk2, hg2⟩ := Opens.arg (opens_slice 33 Try.underlying22 (by kernel_rfl) (B := 40) (by kernel_rfl) opens33) h2 hsz (j := 2) rfl rfl
  obtain ⟨a2, len2, cap2, rfl⟩ := okWide_slice Try.underlying22 (hval 2 22 v2 rfl rfl)
  obtain ⟨A2, c2, hcs2, hl2, hC2⟩ := hk2
  have e2 : Value.slice a2 len2 cap2 = .slice A2 x2.length c2 := by simpa [Value.cells] using hcs2
  injection e2 with ea2 eb2 ec2
  subst ea2; subst eb2; subst ec2
  clear hA0 hval0 hsz0 hsz
  obtain ⟨k, hp⟩ := Pure.PlanMerges x0 x1 x2 hg0 hg1 hg2
  refine (bindlelaw38_PlanMerges.calls (k := k) (A0 := _) (c0 := _) (l0 := x0) (A1 := _) (c1 := _) (l1 := x1) (A2 := _) (c2 := _) (l2 := x2) (r := true) (w := W) (hr0 := hC0) (hc0 := hl0) (hr1 := hC1) (hc1 := hl1) (hr2 := hC2) (hc2 := hl2) (h := hp)).mono ?_
  rintro e W' ⟨rfl, bel0⟩
  have bel : Below W.heap.size W W' := bel0
  exact ⟨_, rfl, _, _, _, [], _, [], hW', trodAll_mk1 (shut_bool Try.underlying4 _), (trodAll_cons_mk (Below.trod laidOut (by kernel_rfl) (of_decide_eq_true (by kernel_rfl)) h0 bel lt0) (trodAll_cons_mk (Below.trod laidOut (by kernel_rfl) (of_decide_eq_true (by kernel_rfl)) h1 bel lt1) (trodAll_cons_mk (Below.trod laidOut (by kernel_rfl) (of_decide_eq_true (by kernel_rfl)) h2 bel lt2) trodAll_mk0))), rfl, bel.frame _, fun h => by cases h⟩
theorem over : Rows.planMergesRow.holds Try.pinned (OpenSpec.ofChange Rows.planMergesSpec) :=
  OpenClaim.holds_of_wide 3 Try.f3 rfl rfl rfl rfl rfl rfl rfl ⟨rfl, rfl, rfl, rfl, rfl⟩ rfl rfl rfl rfl rfl (by kernel_rfl) Try.func3 (by kernel_rfl)
    (of_decide_eq_true (by kernel_rfl)) (by unfold Func.isWrapper; first | (rw [if_pos (by decide +kernel)]; kernel_rfl) | (rw [if_neg (by decide +kernel)]; exact ⟨rfl, rfl⟩))
    (fun os started H enc _ => lifted os started H enc)
theorem proved : Rows.PlanMergesSaid := over
#print axioms proved
end Go.Proofs.Ytcfcbkcaondfcaa.planMerges
namespace Go.Proofs.Ytcfcbkcaondfcaa
/-- The row, under a short name, for the claim. -/
theorem planMerges_holds : Rows.PlanMergesSaid := planMerges.proved
end Go.Proofs.Ytcfcbkcaondfcaa
