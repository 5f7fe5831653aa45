/- The machine side of a law: for each Go function that it uses a Lean function with the same answers, and the proof that the Go code comes to them; or the row of the law over these. Written by a program of this session. -/
import Derived.Test.YtodifojhegbjaaaDoorRows
import Derived.Test.YtodifojhegbjaaaDoorPReportCountsx4
import Derived.Test.YtodifojhegbjaaaDoorPureReportCounts
import Derived.Test.YtodifojhegbjaaaDoorRowOpen
import Derived.Test.YtodifojhegbjaaaDoorTie
import Derived.Test.YtodifojhegbjaaaDoorCards
import Derived.Lay
import Derived.LaidMore
import Derived.SevenTiedAt
import Derived.Stop.Joined
import Derived.WalkKit
import Derived.ProofKit
import Derived.OpenShut
import Derived.ShutString
import Derived.ChangeOld
import Derived.Below
import Derived.SizedLaws
namespace Go.Proofs.YtodifojhegbjaaaDoor.reportCounts
open Go.ChangeShapes Go.WideShapes Go.ChangeAt Go.RowKit Go.Proofs.YtodifojhegbjaaaDoorW.PrintWords Go.Proofs.YtodifojhegbjaaaDoorRowOpen Go.Proofs.YtodifojhegbjaaaDoor.PReportCounts
open Go.ChangeMaps (open_string shut_string)
set_option linter.unusedVariables false
theorem own : ownKnob Tryd.prog.godebug = none := by kernel_rfl
theorem laidOut : laidOutB Tryd.prog = true := by kernel_rfl
theorem opens45 : Opens Tryd.prog 45 k45 good45 :=
  opens_struct Tryd.underlying45 (by kernel_rfl) (opensF_cons _ rfl rfl (opens_slice 4 Tryd.underlying43 (by kernel_rfl) (B := 1) (by kernel_rfl) (opens_bool Tryd.underlying4 (by kernel_rfl))) (opensF_cons _ rfl rfl (opens_int Tryd.underlying3 (by kernel_rfl)) (opensF_one _ rfl (opens_int Tryd.underlying5 (by kernel_rfl))))) _ (fun y => ⟨y.1, y.2.1, y.2.2⟩) (fun _ => rfl)
theorem opens47 : Opens Tryd.prog 47 k47 good47 :=
  opens_struct Tryd.underlying47 (by kernel_rfl) (opensF_cons _ rfl rfl (opens_int Tryd.underlying3 (by kernel_rfl)) (opensF_cons _ rfl rfl (opens_string Tryd.underlying9 (by kernel_rfl)) (opensF_cons _ rfl rfl (opens_slice 5 Tryd.underlying42 (by kernel_rfl) (B := 1) (by kernel_rfl) (opens_int Tryd.underlying5 (by kernel_rfl))) (opensF_cons _ rfl rfl (opens_int Tryd.underlying3 (by kernel_rfl)) (opensF_one _ rfl opens45))))) _ (fun y => ⟨y.1, y.2.1, y.2.2.1, y.2.2.2.1, y.2.2.2.2⟩) (fun _ => rfl)
theorem opens122 : Opens Tryd.prog 122 k122 good122 :=
  opens_struct Tryd.underlying122 (by kernel_rfl) (opensF_cons _ rfl rfl (opens_string Tryd.underlying9 (by kernel_rfl)) (opensF_one _ rfl (opens_slice 5 Tryd.underlying42 (by kernel_rfl) (B := 1) (by kernel_rfl) (opens_int Tryd.underlying5 (by kernel_rfl))))) _ (fun y => ⟨y.1, y.2⟩) (fun _ => rfl)
theorem opens51 : Opens Tryd.prog 51 k51 good51 :=
  opens_struct Tryd.underlying51 (by kernel_rfl) (opensF_cons _ rfl rfl (opens_int Tryd.underlying22 (by kernel_rfl)) (opensF_cons _ rfl rfl (opens_slice 5 Tryd.underlying42 (by kernel_rfl) (B := 1) (by kernel_rfl) (opens_int Tryd.underlying5 (by kernel_rfl))) (opensF_cons _ rfl rfl (opens_int Tryd.underlying3 (by kernel_rfl)) (opensF_cons _ rfl rfl (opens_slice 9 Tryd.underlying48 (by kernel_rfl) (B := 16) (by kernel_rfl) (opens_string Tryd.underlying9 (by kernel_rfl))) (opensF_cons _ rfl rfl (opens_slice 122 Tryd.underlying49 (by kernel_rfl) (B := 40) (by kernel_rfl) opens122) (opensF_cons _ rfl rfl (opens_bool Tryd.underlying4 (by kernel_rfl)) (opensF_one _ rfl (opens_bool Tryd.underlying4 (by kernel_rfl))))))))) _ (fun y => ⟨y.1, y.2.1, y.2.2.1, y.2.2.2.1, y.2.2.2.2.1, y.2.2.2.2.2.1, y.2.2.2.2.2.2⟩) (fun _ => rfl)
theorem opens66 : Opens Tryd.prog 66 k66 good66 :=
  opens_struct Tryd.underlying66 (by kernel_rfl) (opensF_cons _ rfl rfl opens47 (opensF_one _ rfl opens51)) _ (fun y => ⟨y.1, y.2⟩) (fun _ => rfl)
set_option maxRecDepth 100000 in
set_option maxHeartbeats 1000000 in
theorem lifted (os : Os) (started : os.Started) (H : Type) (enc : TypeId × Value → H) :
    ReturnsInHanded {} Tryd.checked os 6 .any (fun w args => (Rows.reportCountsSpec.pre enc Tryd.prog Tryd.f6 Rows.reportCountsRow.domain false w args ∧ laidMetH Tryd.prog Rows.reportCountsRow.laid w) ∧ sizedMet enc Tryd.prog Tryd.f6 (OpenSpec.ofChange Rows.reportCountsSpec) false w args) (Rows.reportCountsSpec.post enc Tryd.prog Tryd.f6 false true false false) := by
  refine returnsInHanded_of_change_and (C := Tryd.checked) (X := fun w _ => laidMetH Tryd.prog Rows.reportCountsRow.laid w) (fun _ _ _ hh h => h.of_heap hh) own started (by kernel_rfl) Tryd.func6
    (ChangeSpec.witness_shaped (enc := enc) (C := Tryd.checked) (os := os) (X := fun w _ => laidMetH Tryd.prog Rows.reportCountsRow.laid w) false (World.laidAll Tryd.prog os Rows.reportCountsRow.laid) #[.slice none 0 0, .int .i64 0, .int .i64 0] 16 (World.laidAll_os _ _ _)
      (World.shaped_of_ZipB (by kernel_rfl) (by kernel_rfl)) (by kernel_rfl) (by kernel_rfl) (by kernel_rfl)
      (by rw [MakeChecks.laidMetH_plain _ _ _ (by kernel_rfl)]; exact laidMet_laidAll _ (by kernel_rfl) (by kernel_rfl))) ?_
  intro W base args ds gs before hval0 hW hcnd hsz0 hL _
  have hsz : (DataW.weightsEach Tryd.prog (Tryd.f6.params.toList ++ Rows.reportCountsSpec.plain.varTypes Tryd.prog) (ds ++ gs)).all (· ≤ reachBytes) = true := hsz0
  have hval : ∀ (j : Nat) t v, Tryd.f6.params[j]? = some t → args[j]? = some v → Value.okWide Tryd.prog W .any base t v := hval0
  have hW' := hW
  obtain ⟨p, q, hA0, hV, rfl, hfz, hnd⟩ := hW
  have hA : DataW.TrodAll enc Tryd.prog W 0 (fun _ => true) true Tryd.f6.params.toList args.toList ds p := hA0
  rw [Tryd.params6] at hA hval hsz
  obtain ⟨v0, vs0, d0, ds0, p0, q0, hargs, rfl, rfl, h0, r0⟩ := trodAll_cons hA
  obtain ⟨v1, vs1, d1, ds1, p1, q1, rfl, rfl, rfl, h1, r1⟩ := trodAll_cons r0
  obtain ⟨v2, vs2, d2, ds2, p2, q2, rfl, rfl, rfl, h2, r2⟩ := trodAll_cons r1
  obtain ⟨rfl, rfl, rfl⟩ := trodAll_nil r2
  obtain rfl : args = #[v0, v1, v2] := by cases args; simp_all
  obtain ⟨rfl, rfl⟩ := trodVars_none hV
  have lt0 := places_lt h0
  obtain ⟨x0, hk0, hg0⟩ := Opens.arg (opens_slice 66 Tryd.underlying30 (by kernel_rfl) (B := 192) (by kernel_rfl) opens66) h0 hsz (j := 0) rfl rfl
  obtain ⟨a0, len0, cap0, rfl⟩ := okWide_slice Tryd.underlying30 (hval 0 30 v0 rfl rfl)
  obtain ⟨A0, c0, hcs0, hl0, hC0⟩ := hk0
  have e0 : Value.slice a0 len0 cap0 = .slice A0 x0.length c0 := by simpa [Value.cells] using hcs0
  injection e0 with ea0 eb0 ec0
  subst ea0; subst eb0; subst ec0
  obtain ⟨x1, rfl, rfl, rfl, hg1⟩ := open_int Tryd.underlying3 (hval 1 3 v1 rfl rfl) h1
  obtain ⟨x2, rfl, rfl, rfl, hg2⟩ := open_int Tryd.underlying3 (hval 2 3 v2 rfl rfl) h2
  clear hA0 hval0 hsz0 hsz
  obtain ⟨k, hp⟩ := Pure.ReportCounts x0 x1 x2 hg0 hg1 hg2
  have htab := YtodifojhegbjaaaDoorTab.tab_of_laid hL (by kernel_rfl)
  refine (bindlelaw33_ReportCounts.calls (k := k) (A0 := _) (c0 := _) (l0 := x0) (a1 := x1) (a2 := x2) (r := true) (w := W) (hr0 := hC0) (hc0 := hl0) (ht_ := htab) (h := hp)).mono ?_
  rintro e W' ⟨rfl, bel0⟩
  have bel : Below W.heap.size W W' := bel0
  exact ⟨_, rfl, _, _, _, [], _, [], hW', trodAll_mk1 (shut_bool Tryd.underlying4 _), (trodAll_cons_mk (Below.trod laidOut (by kernel_rfl) (of_decide_eq_true (by kernel_rfl)) h0 bel lt0) (trodAll_cons_mk (shut_int Tryd.underlying3 hg1) (trodAll_cons_mk (shut_int Tryd.underlying3 hg2) trodAll_mk0))), rfl, bel.frame _, fun h => by cases h⟩
theorem over : Rows.reportCountsRow.holds Tryd.pinned (OpenSpec.ofChange Rows.reportCountsSpec) :=
  OpenClaim.holds_of_wide 6 Tryd.f6 rfl rfl rfl rfl rfl rfl rfl ⟨rfl, rfl, rfl, rfl, rfl⟩ rfl rfl rfl rfl rfl (by kernel_rfl) Tryd.func6 (by kernel_rfl)
    (of_decide_eq_true (by kernel_rfl)) (by unfold Func.isWrapper; first | (rw [if_pos (by decide +kernel)]; kernel_rfl) | (rw [if_neg (by decide +kernel)]; exact ⟨rfl, rfl⟩))
    (fun os started H enc _ => lifted os started H enc)
theorem proved : Rows.ReportCountsSaid := over
theorem card : Rows.ReportCountsCardSaid :=
  Claim7.holds_tied_plain_at .later [] [.data, .data, .data, .data, .pinned] true (true, "6bc60d69ebf891b313bb96feb789ec770e0616e6434f4fd37968d59070892d98") false over (fun _ h => by cases h) (by kernel_rfl) (fun _ h => by cases h) reportCounts_row_tie rfl ⟨rfl, rfl⟩ (by kernel_rfl) rfl
    (fun f fn hf hfn => by
      obtain rfl : f = 6 := Option.some.inj ((show Tryd.prog.funcNamed "bindle/bindlelaw33.ReportCounts" = some 6 by kernel_rfl).symm.trans hf) |>.symm
      obtain rfl : fn = Tryd.f6 := (Option.some.inj (Tryd.func6.symm.trans hfn)).symm
      exact ⟨by kernel_rfl, fun j t ht => by
        have hm : t ∈ Tryd.f6.params.toList := Array.mem_toList_iff.2 (Array.mem_of_getElem? ht)
        have hall : (Tryd.f6.params.toList.all fun u => !Tryd.prog.wantsStandIn u) = true := by kernel_rfl
        exact (show Tryd.prog.wantsStandIn t = false by simpa using List.all_eq_true.1 hall t hm)⟩)
    (by kernel_rfl)
#print axioms card
#print axioms proved
end Go.Proofs.YtodifojhegbjaaaDoor.reportCounts
namespace Go.Proofs.YtodifojhegbjaaaDoor
/-- The tied card, under a short name, for the claim. -/
theorem reportCounts_holds : Rows.ReportCountsCardSaid := reportCounts.card
end Go.Proofs.YtodifojhegbjaaaDoor
