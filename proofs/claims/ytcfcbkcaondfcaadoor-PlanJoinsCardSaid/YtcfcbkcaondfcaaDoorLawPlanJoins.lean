/- The machine side of a law: for each Go function that it uses a Lean function with the same answers, and the proof that the Go code comes to them; or the row of the law over these. Written by a program of this session. -/
import Derived.Test.YtcfcbkcaondfcaaDoorRows
import Derived.Test.YtcfcbkcaondfcaaDoorPPlanJoinsx7
import Derived.Test.YtcfcbkcaondfcaaDoorPurePlanJoins
import Derived.Test.YtcfcbkcaondfcaaDoorRowOpen
import Derived.Test.YtcfcbkcaondfcaaDoorTie
import Derived.Test.YtcfcbkcaondfcaaDoorCards
import Derived.Lay
import Derived.LaidMore
import Derived.SevenTiedAt
import Derived.Stop.Joined
import Derived.WalkKit
import Derived.ProofKit
import Derived.OpenShut
import Derived.ShutString
import Derived.ChangeOld
import Derived.Below
import Derived.SizedLaws
namespace Go.Proofs.YtcfcbkcaondfcaaDoor.planJoins
open Go.ChangeShapes Go.WideShapes Go.ChangeAt Go.RowKit Go.Proofs.YtcfcbkcaondfcaaDoorW.PrintWords Go.Proofs.YtcfcbkcaondfcaaDoorRowOpen Go.Proofs.YtcfcbkcaondfcaaDoor.PPlanJoins
open Go.ChangeMaps (open_string shut_string)
set_option linter.unusedVariables false
theorem own : ownKnob Tryd.prog.godebug = none := by kernel_rfl
theorem laidOut : laidOutB Tryd.prog = true := by kernel_rfl
theorem opens45 : Opens Tryd.prog 45 k45 good45 :=
  opens_struct Tryd.underlying45 (by kernel_rfl) (opensF_cons _ rfl rfl (opens_string Tryd.underlying9 (by kernel_rfl)) (opensF_one _ rfl (opens_slice 5 Tryd.underlying43 (by kernel_rfl) (B := 1) (by kernel_rfl) (opens_int Tryd.underlying5 (by kernel_rfl))))) _ (fun y => ⟨y.1, y.2⟩) (fun _ => rfl)
set_option maxRecDepth 100000 in
set_option maxHeartbeats 1000000 in
theorem lifted (os : Os) (started : os.Started) (H : Type) (enc : TypeId × Value → H) :
    ReturnsInHanded {} Tryd.checked os 10 .any (fun w args => (Rows.planJoinsSpec.pre enc Tryd.prog Tryd.f10 Rows.planJoinsRow.domain false w args ∧ laidMetH Tryd.prog Rows.planJoinsRow.laid w) ∧ sizedMet enc Tryd.prog Tryd.f10 (OpenSpec.ofChange Rows.planJoinsSpec) false w args) (Rows.planJoinsSpec.post enc Tryd.prog Tryd.f10 false true false false) := by
  refine returnsInHanded_of_change_and (C := Tryd.checked) (X := fun w _ => laidMetH Tryd.prog Rows.planJoinsRow.laid w) (fun _ _ _ hh h => h.of_heap hh) own started (by kernel_rfl) Tryd.func10
    (ChangeSpec.witness_shaped (enc := enc) (C := Tryd.checked) (os := os) (X := fun w _ => laidMetH Tryd.prog Rows.planJoinsRow.laid w) false (World.laidAll Tryd.prog os Rows.planJoinsRow.laid) #[.slice none 0 0, .slice none 0 0, .slice none 0 0] 16 (World.laidAll_os _ _ _)
      (World.shaped_of_ZipB (by kernel_rfl) (by kernel_rfl)) (by kernel_rfl) (by kernel_rfl) (by kernel_rfl)
      (by rw [MakeChecks.laidMetH_plain _ _ _ (by kernel_rfl)]; exact laidMet_laidAll _ (by kernel_rfl) (by kernel_rfl))) ?_
  intro W base args ds gs before hval0 hW hcnd hsz0 hL _
  have hsz : (DataW.weightsEach Tryd.prog (Tryd.f10.params.toList ++ Rows.planJoinsSpec.plain.varTypes Tryd.prog) (ds ++ gs)).all (· ≤ reachBytes) = true := hsz0
  have hval : ∀ (j : Nat) t v, Tryd.f10.params[j]? = some t → args[j]? = some v → Value.okWide Tryd.prog W .any base t v := hval0
  have hW' := hW
  obtain ⟨p, q, hA0, hV, rfl, hfz, hnd⟩ := hW
  have hA : DataW.TrodAll enc Tryd.prog W 0 (fun _ => true) true Tryd.f10.params.toList args.toList ds p := hA0
  rw [Tryd.params10] at hA hval hsz
  obtain ⟨v0, vs0, d0, ds0, p0, q0, hargs, rfl, rfl, h0, r0⟩ := trodAll_cons hA
  obtain ⟨v1, vs1, d1, ds1, p1, q1, rfl, rfl, rfl, h1, r1⟩ := trodAll_cons r0
  obtain ⟨v2, vs2, d2, ds2, p2, q2, rfl, rfl, rfl, h2, r2⟩ := trodAll_cons r1
  obtain ⟨rfl, rfl, rfl⟩ := trodAll_nil r2
  obtain rfl : args = #[v0, v1, v2] := by cases args; simp_all
  obtain ⟨rfl, rfl⟩ := trodVars_none hV
  have lt0 := places_lt h0
  obtain ⟨x0, hk0, hg0⟩ := Opens.arg (opens_slice 45 Tryd.underlying36 (by kernel_rfl) (B := 40) (by kernel_rfl) opens45) h0 hsz (j := 0) rfl rfl
  obtain ⟨a0, len0, cap0, rfl⟩ := okWide_slice Tryd.underlying36 (hval 0 36 v0 rfl rfl)
  obtain ⟨A0, c0, hcs0, hl0, hC0⟩ := hk0
  have e0 : Value.slice a0 len0 cap0 = .slice A0 x0.length c0 := by simpa [Value.cells] using hcs0
  injection e0 with ea0 eb0 ec0
  subst ea0; subst eb0; subst ec0
  have lt1 := places_lt h1
  obtain ⟨x1, hk1, hg1⟩ := Opens.arg (opens_slice 45 Tryd.underlying36 (by kernel_rfl) (B := 40) (by kernel_rfl) opens45) h1 hsz (j := 1) rfl rfl
  obtain ⟨a1, len1, cap1, rfl⟩ := okWide_slice Tryd.underlying36 (hval 1 36 v1 rfl rfl)
  obtain ⟨A1, c1, hcs1, hl1, hC1⟩ := hk1
  have e1 : Value.slice a1 len1 cap1 = .slice A1 x1.length c1 := by simpa [Value.cells] using hcs1
  injection e1 with ea1 eb1 ec1
  subst ea1; subst eb1; subst ec1
  have lt2 := places_lt h2
  obtain ⟨x2, hk2, hg2⟩ := Opens.arg (opens_slice 45 Tryd.underlying36 (by kernel_rfl) (B := 40) (by kernel_rfl) opens45) h2 hsz (j := 2) rfl rfl
  obtain ⟨a2, len2, cap2, rfl⟩ := okWide_slice Tryd.underlying36 (hval 2 36 v2 rfl rfl)
  obtain ⟨A2, c2, hcs2, hl2, hC2⟩ := hk2
  have e2 : Value.slice a2 len2 cap2 = .slice A2 x2.length c2 := by simpa [Value.cells] using hcs2
  injection e2 with ea2 eb2 ec2
  subst ea2; subst eb2; subst ec2
  clear hA0 hval0 hsz0 hsz
  obtain ⟨k, hp⟩ := Pure.PlanJoins x0 x1 x2 hg0 hg1 hg2
  refine (bindlelaw38_PlanJoins.calls (k := k) (A0 := _) (c0 := _) (l0 := x0) (A1 := _) (c1 := _) (l1 := x1) (A2 := _) (c2 := _) (l2 := x2) (r := true) (w := W) (hr0 := hC0) (hc0 := hl0) (hr1 := hC1) (hc1 := hl1) (hr2 := hC2) (hc2 := hl2) (h := hp)).mono ?_
  rintro e W' ⟨rfl, bel0⟩
  have bel : Below W.heap.size W W' := bel0
  exact ⟨_, rfl, _, _, _, [], _, [], hW', trodAll_mk1 (shut_bool Tryd.underlying4 _), (trodAll_cons_mk (Below.trod laidOut (by kernel_rfl) (of_decide_eq_true (by kernel_rfl)) h0 bel lt0) (trodAll_cons_mk (Below.trod laidOut (by kernel_rfl) (of_decide_eq_true (by kernel_rfl)) h1 bel lt1) (trodAll_cons_mk (Below.trod laidOut (by kernel_rfl) (of_decide_eq_true (by kernel_rfl)) h2 bel lt2) trodAll_mk0))), rfl, bel.frame _, fun h => by cases h⟩
theorem over : Rows.planJoinsRow.holds Tryd.pinned (OpenSpec.ofChange Rows.planJoinsSpec) :=
  OpenClaim.holds_of_wide 10 Tryd.f10 rfl rfl rfl rfl rfl rfl rfl ⟨rfl, rfl, rfl, rfl, rfl⟩ rfl rfl rfl rfl rfl (by kernel_rfl) Tryd.func10 (by kernel_rfl)
    (of_decide_eq_true (by kernel_rfl)) (by unfold Func.isWrapper; first | (rw [if_pos (by decide +kernel)]; kernel_rfl) | (rw [if_neg (by decide +kernel)]; exact ⟨rfl, rfl⟩))
    (fun os started H enc _ => lifted os started H enc)
theorem proved : Rows.PlanJoinsSaid := over
theorem card : Rows.PlanJoinsCardSaid :=
  Claim7.holds_tied_plain_at .later [] [.data, .pinned] true (true, "63feb3fad628602b7224f75521d08251b86668aa23ea3959bdb07ebe87cbe8b5") false over (fun _ h => by cases h) (by kernel_rfl) (fun _ h => by cases h) planJoins_row_tie rfl ⟨rfl, rfl⟩ (by kernel_rfl) rfl
    (fun f fn hf hfn => by
      obtain rfl : f = 10 := Option.some.inj ((show Tryd.prog.funcNamed "bindle/bindlelaw38.PlanJoins" = some 10 by kernel_rfl).symm.trans hf) |>.symm
      obtain rfl : fn = Tryd.f10 := (Option.some.inj (Tryd.func10.symm.trans hfn)).symm
      exact ⟨by kernel_rfl, fun j t ht => by
        have hm : t ∈ Tryd.f10.params.toList := Array.mem_toList_iff.2 (Array.mem_of_getElem? ht)
        have hall : (Tryd.f10.params.toList.all fun u => !Tryd.prog.wantsStandIn u) = true := by kernel_rfl
        exact (show Tryd.prog.wantsStandIn t = false by simpa using List.all_eq_true.1 hall t hm)⟩)
    (by kernel_rfl)
#print axioms card
#print axioms proved
end Go.Proofs.YtcfcbkcaondfcaaDoor.planJoins
namespace Go.Proofs.YtcfcbkcaondfcaaDoor
/-- The tied card, under a short name, for the claim. -/
theorem planJoins_holds : Rows.PlanJoinsCardSaid := planJoins.card
end Go.Proofs.YtcfcbkcaondfcaaDoor
