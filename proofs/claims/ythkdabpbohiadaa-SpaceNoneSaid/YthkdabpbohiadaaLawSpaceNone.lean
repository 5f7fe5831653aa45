/- The machine side of a law: for each Go function that it uses a Lean function with the same answers, and the proof that the Go code comes to them; or the row of the law over these. Written by a program of this session. -/
import Derived.Test.YthkdabpbohiadaaRows
import Derived.Test.YthkdabpbohiadaaPSpaceNonex1
import Derived.Test.YthkdabpbohiadaaPureSpaceNone
import Derived.Test.YthkdabpbohiadaaRowOpen
import Derived.WalkKit
import Derived.ProofKit
import Derived.OpenShut
import Derived.ShutString
import Derived.ChangeOld
import Derived.Below
import Derived.SizedLaws
namespace Go.Proofs.Ythkdabpbohiadaa.spaceNone
open Go.ChangeShapes Go.WideShapes Go.ChangeAt Go.RowKit Go.Proofs.YthkdabpbohiadaaW.PrintWords Go.Proofs.YthkdabpbohiadaaRowOpen Go.Proofs.Ythkdabpbohiadaa.PSpaceNone
open Go.ChangeMaps (open_string shut_string)
set_option linter.unusedVariables false
theorem own : ownKnob Try.prog.godebug = none := by kernel_rfl
theorem laidOut : laidOutB Try.prog = true := by kernel_rfl
theorem opens44 : Opens Try.prog 44 k44 good44 :=
  opens_struct Try.underlying44 (by kernel_rfl) (opensF_cons _ rfl rfl (opens_string Try.underlying9 (by kernel_rfl)) (opensF_one _ rfl (opens_slice 5 Try.underlying42 (by kernel_rfl) (B := 1) (by kernel_rfl) (opens_int Try.underlying5 (by kernel_rfl))))) _ (fun y => ⟨y.1, y.2⟩) (fun _ => rfl)
theorem opens32 : Opens Try.prog 32 k32 good32 :=
  opens_struct Try.underlying32 (by kernel_rfl) (opensF_cons _ rfl rfl (opens_int Try.underlying3 (by kernel_rfl)) (opensF_cons _ rfl rfl (opens_string Try.underlying9 (by kernel_rfl)) (opensF_cons _ rfl rfl (opens_int Try.underlying3 (by kernel_rfl)) (opensF_one _ rfl (opens_slice 44 Try.underlying23 (by kernel_rfl) (B := 40) (by kernel_rfl) opens44))))) _ (fun y => ⟨y.1, y.2.1, y.2.2.1, y.2.2.2⟩) (fun _ => rfl)
set_option maxRecDepth 100000 in
set_option maxHeartbeats 1000000 in
theorem lifted (os : Os) (started : os.Started) (H : Type) (enc : TypeId × Value → H) :
    ReturnsInHanded {} Try.checked os 4 .any (Rows.spaceNoneSpec.pre6 enc Try.prog Try.f4 Rows.spaceNoneRow.domain false) (Rows.spaceNoneSpec.post enc Try.prog Try.f4 false true false false) := by
  refine returnsInHanded_of_change_sized (C := Try.checked) own started (by kernel_rfl) Try.func4
    (ChangeSpec.witness6 (enc := enc) (C := Try.checked) false ⟨#[], #[(.agg #[(.int .i64 0), (.string ⟨#[]⟩), (.int .i64 0), (.slice none 0 0)])], []⟩ 16 (by kernel_rfl) (by kernel_rfl) (by kernel_rfl) (by kernel_rfl)) ?_
  intro W base args ds gs before hval0 hW hcnd hsz0 _
  have hsz : (DataW.weightsEach Try.prog (Try.f4.params.toList ++ Rows.spaceNoneSpec.plain.varTypes Try.prog) (ds ++ gs)).all (· ≤ reachBytes) = true := hsz0
  have hval : ∀ (j : Nat) t v, Try.f4.params[j]? = some t → args[j]? = some v → Value.okWide Try.prog W .any base t v := hval0
  have hW' := hW
  obtain ⟨p, q, hA0, hV, rfl, hfz, hnd⟩ := hW
  have hA : DataW.TrodAll enc Try.prog W 0 (fun _ => true) true Try.f4.params.toList args.toList ds p := hA0
  rw [Try.params4] at hA hval hsz
  obtain ⟨v0, vs0, d0, ds0, p0, q0, hargs, rfl, rfl, h0, r0⟩ := trodAll_cons hA
  obtain ⟨rfl, rfl, rfl⟩ := trodAll_nil r0
  obtain rfl : args = #[v0] := by cases args; simp_all
  obtain ⟨rfl, rfl⟩ := trodVars_none hV
  have lt0 := places_lt h0
  obtain ⟨x0, hk0, hg0⟩ := Opens.arg opens32 h0 hsz (j := 0) rfl rfl
  obtain ⟨cs0, rfl, hz0⟩ := okWide_struct Try.underlying32 (hval 0 32 v0 rfl rfl)
  have hk0' : k32.K W x0 cs0.toList := hk0
  obtain ⟨A0_3, c0_3, hcs0, hl0_3, hC0_3⟩ := k32_open hk0'
  have e0 := congrArg List.toArray hcs0
  rw [Array.toArray_toList] at e0
  subst e0
  clear hA0 hval0 hsz0 hsz
  have hp := Pure.SpaceNone x0 hg0
  refine (bindlelaw26_SpaceNone.calls (a0_0 := x0.f0) (a0_1 := x0.f1) (a0_2 := x0.f2) (A0_3 := _) (c0_3 := _) (l0_3 := x0.f3) (r := true) (w := W) (hr0_3 := hC0_3) (hc0_3 := hl0_3) (h := hp)).mono ?_
  rintro e W' ⟨rfl, bel0⟩
  have bel : Below W.heap.size W W' := bel0
  exact ⟨_, rfl, _, _, _, [], _, [], hW', trodAll_mk1 (shut_bool Try.underlying4 _), (trodAll_cons_mk (Below.trod laidOut (by kernel_rfl) (of_decide_eq_true (by kernel_rfl)) h0 bel lt0) trodAll_mk0), rfl, bel.frame _, fun h => by cases h⟩
theorem over : Rows.spaceNoneRow.holds Try.pinned (OpenSpec.ofChange Rows.spaceNoneSpec) :=
  OpenClaim.holds_of_wide 4 Try.f4 rfl rfl rfl rfl rfl rfl rfl ⟨rfl, rfl, rfl, rfl, rfl⟩ rfl rfl rfl rfl rfl (by kernel_rfl) Try.func4 (by kernel_rfl)
    (of_decide_eq_true (by kernel_rfl)) (by unfold Func.isWrapper; first | (rw [if_pos (by decide +kernel)]; kernel_rfl) | (rw [if_neg (by decide +kernel)]; exact ⟨rfl, rfl⟩))
    (fun os started H enc _ => lifted os started H enc)
theorem proved : Rows.SpaceNoneSaid := over
#print axioms proved
end Go.Proofs.Ythkdabpbohiadaa.spaceNone
namespace Go.Proofs.Ythkdabpbohiadaa
/-- The row, under a short name, for the claim. -/
theorem spaceNone_holds : Rows.SpaceNoneSaid := spaceNone.proved
end Go.Proofs.Ythkdabpbohiadaa
