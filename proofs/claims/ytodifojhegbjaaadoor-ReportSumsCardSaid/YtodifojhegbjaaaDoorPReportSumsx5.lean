/- The machine side of a law: for each Go function that it uses a Lean function with the same answers, and the proof that the Go code comes to them; or the row of the law over these. Written by a program of this session. -/
import Derived.Test.YtodifojhegbjaaaDoorPReportSumsx0
import Derived.Test.YtodifojhegbjaaaDoorPReportSumsx2
import Derived.Test.YtodifojhegbjaaaDoorPReportSumsx3
import Derived.Test.YtodifojhegbjaaaDoorPReportSumsx4
namespace Go.Proofs.YtodifojhegbjaaaDoor.PReportSums
open Go.RowKit Go.Proofs.YtodifojhegbjaaaDoorW.PrintWords Go.Proofs.YtodifojhegbjaaaDoorW.PrintLast Go.Proofs.YtodifojhegbjaaaDoorW.PrintMore
attribute [local go_sem] max2_int min2_int max_two min_two max_three min_three max_four min_four   -- for this text's walks alone
set_option linter.unusedVariables false
set_option linter.unusedSimpArgs false

/-! ### bindlelaw33_ReportSums: function 4 (told by hand) -/
def bindlelaw33_ReportSums.wstepF (xs : List Int) (kd e : Int) (rf po : Bool) (m : Nat) : List Int :=
  let x2 := report_Sum.inc xs (4 + report_Sum.kN kd)
  let x3 := if report_Sum.eB e = true then report_Sum.inc x2 (23 + report_Sum.eN e) else x2
  let x4 := if rf = true then report_Sum.inc x3 1 else x3
  let x5 := if po = true then report_Sum.inc x4 2 else x4
  if report_Sum.at_ x5 3 < (m : Int) then x5.set 3 (m : Int) else x5
def bindlelaw33_ReportSums.wstep (xs : List Int) (o : S47) (a : S51) : List Int := bindlelaw33_ReportSums.wstepF xs o.f0 a.f0 a.f5 a.f6 a.f1.length
def bindlelaw33_ReportSums.wantTo (N : Nat) (o : List S47) (a : List S51) : Nat → List Int
  | 0 => report_Sum.zero.set 0 (N : Int)
  | k + 1 => bindlelaw33_ReportSums.wstep (bindlelaw33_ReportSums.wantTo N o a k) (rd_T47 o (k : Int)) (rd_T51 a (k : Int))
def bindlelaw33_ReportSums.f (k : Nat) (l0 : List S66) : Option Bool := (bindlelaw33_great.f k l0).bind fun t => if t = true then bindlelaw33_lives.f k else (bindlelaw33_parts.f k l0).bind fun p => if p.1.length = l0.length ∧ p.2.length = l0.length ∧ l0.length ≤ 1000000 ∧ bindlelaw33_ReportSums.wantTo l0.length p.1 p.2 l0.length = report_Sum.sumTo p.1 p.2 p.1.length ∧ (report_Sum.sumTo p.1 p.2 p.1.length).length = 40 ∧ (∀ x ∈ report_Sum.sumTo p.1 p.2 p.1.length, (Lit.int .i64 x).wf = true) then bindlelaw33_lives.f k else none
/-- What holds in the loop. -/
def bindlelaw33_ReportSums.Hx (gs gw : Nat) (V : Array Value) (w3 : World) (xs : List Int) (W : World) : Prop := report_Sum.St gw xs W ∧ W.heap[gs]? = some (.cells V 39 (0, 0)) ∧ Below w3.heap.size w3 W
section
variable {gs gw : Nat} {V : Array Value} {w3 : World} {xs : List Int} {W : World}
theorem bindlelaw33_ReportSums.Hx.set (h : bindlelaw33_ReportSums.Hx gs gw V w3 xs W) (hg : w3.heap.size ≤ gw) (hne : gs ≠ gw) (j : Nat) (v : Int) : bindlelaw33_ReportSums.Hx gs gw V w3 (xs.set j v) (W.setCell ⟨gw, j, none⟩ (.int .i64 v)) :=
  ⟨h.1.set j v, (Below.heap_setCell W _ _ gs hne).trans h.2.1, h.2.2.setCell hg _⟩
theorem bindlelaw33_ReportSums.Hx.at_ (h : bindlelaw33_ReportSums.Hx gs gw V w3 xs W) {p : Addr} {v : Value} (hc : w3.cell? p = some v) : W.cell? p = some v := (h.2.2.cell (World.block_lt_of_cell? w3 _ hc)).trans hc
theorem bindlelaw33_ReportSums.Hx.drewN (h : bindlelaw33_ReportSums.Hx gs gw V w3 xs W) (n : Nat) : bindlelaw33_ReportSums.Hx gs gw V w3 xs (W.drewN n) := ⟨⟨h.1.1, h.1.2⟩, h.2.1, pw_below_drewN h.2.2 n⟩
theorem bindlelaw33_ReportSums.Hx.drew (h : bindlelaw33_ReportSums.Hx gs gw V w3 xs W) : bindlelaw33_ReportSums.Hx gs gw V w3 xs W.drew := ⟨⟨h.1.1, h.1.2⟩, h.2.1, below_drew h.2.2⟩
end
theorem bindlelaw33_ReportSums.bd (n : Int) (w : World) : (Instr.build 39 #[(0, .int .i64 n)]).run Tryd.prog w = .ok (.agg (report_Sum.cs (report_Sum.zero.set 0 n))) w := by kernel_rfl
theorem bindlelaw33_ReportSums.mapM_some {α β : Type} (f : α → Option β) : ∀ l : List α, (∀ x ∈ l, (f x).isSome = true) → (l.mapM f).isSome = true
  | [], _ => rfl
  | x :: r, h => by
    obtain ⟨y, hy⟩ := Option.isSome_iff_exists.1 (h x List.mem_cons_self)
    obtain ⟨ys, hys⟩ := Option.isSome_iff_exists.1 (bindlelaw33_ReportSums.mapM_some f r fun z hz => h z (List.mem_cons_of_mem _ hz))
    rw [List.mapM_cons, hy, hys]
    rfl
theorem bindlelaw33_ReportSums.part1 (xs : List Int) (j : Nat) (hj : j < xs.length) : ((xs.map (Value.int .i64)).drop j).take 1 = [.int .i64 xs[j]] := by
  rw [List.drop_eq_getElem_cons (by simpa using hj), List.getElem_map]
  rfl
theorem bindlelaw33_ReportSums.keyInt (d : Nat) (xs : List Int) (hwf : ∀ x ∈ xs, (Lit.int .i64 x).wf = true) (j : Nat) (hj : j < xs.length) : (Tryd.prog.keyLits (d + 1) 3 (((xs.map (Value.int .i64)).drop j).take 1)).isSome = true := by
  rw [bindlelaw33_ReportSums.part1 xs j hj]
  have hu : Tryd.prog.underlying 3 = some (.int .i64) := Tryd.underlying3
  unfold Program.keyLits
  rw [hu]
  simp [hwf _ (List.getElem_mem hj)]
theorem bindlelaw33_ReportSums.cells3 : Tryd.prog.cellsOf 3 = 1 := by kernel_rfl
theorem bindlelaw33_ReportSums.keyArr (t n : Nat) (d : Nat) (hu : Tryd.prog.underlying t = some (.array n 3)) (hc : Tryd.prog.cellsOf t = n) (xs : List Int) (hwf : ∀ x ∈ xs, (Lit.int .i64 x).wf = true) (hn : xs.length = n) : (Tryd.prog.keyLits (d + 1 + 1) t (xs.map (Value.int .i64))).isSome = true := by
  have h := bindlelaw33_ReportSums.mapM_some (fun i => Tryd.prog.keyLits (d + 1) 3 (((xs.map (Value.int .i64)).drop (i * Tryd.prog.cellsOf 3)).take (Tryd.prog.cellsOf 3))) (List.range n) fun i hi => by
    rw [bindlelaw33_ReportSums.cells3, Nat.mul_one]
    exact bindlelaw33_ReportSums.keyInt d xs hwf i (by rw [hn]; exact List.mem_range.1 hi)
  unfold Program.keyLits
  rw [hu]
  dsimp only
  rw [if_pos (by rw [hc, List.length_map, hn]), Option.isSome_map]
  exact h
theorem bindlelaw33_ReportSums.key39 (xs : List Int) (hn : xs.length = 40) (hwf : ∀ x ∈ xs, (Lit.int .i64 x).wf = true) : (keyOf Tryd.prog 39 (.agg (xs.map (Value.int .i64)).toArray)).isSome = true := by
  have hu := Tryd.underlying39
  have hk : Tryd.prog.keyType 39 = true := by kernel_rfl
  have hc : Tryd.prog.cellsOf 39 = 40 := by kernel_rfl
  have h36 : Tryd.prog.cellsOf 36 = 19 := by kernel_rfl
  have h37 : Tryd.prog.cellsOf 37 = 17 := by kernel_rfl
  obtain ⟨d, hd⟩ : ∃ d, Tryd.prog.types.size + 1 = d + 1 + 1 + 1 := ⟨Tryd.prog.types.size - 2, by have : 3 ≤ Tryd.prog.types.size := of_decide_eq_true (by kernel_rfl); omega⟩
  unfold keyOf
  rw [hu]
  dsimp only
  rw [if_pos (by rw [hk]; unfold Value.formed; rw [hu]; dsimp only; rw [hc]; simp [hn]), Option.isSome_map, hd]
  have hcl : (Value.agg (xs.map (Value.int .i64)).toArray).cells.toList = xs.map (Value.int .i64) := rfl
  rw [hcl]
  unfold Program.keyLits
  rw [hu]
  dsimp only
  rw [if_pos ⟨by rw [hc, List.length_map, hn], by kernel_rfl⟩, Option.isSome_map]
  have part : ∀ o n, ((xs.map (Value.int .i64)).drop o).take n = ((xs.drop o).take n).map (Value.int .i64) := fun o n => by rw [List.map_take, List.map_drop]
  have hw2 : ∀ o n, ∀ x ∈ (xs.drop o).take n, (Lit.int .i64 x).wf = true := fun o n x hx => hwf x (List.mem_of_mem_drop (List.mem_of_mem_take hx))
  refine bindlelaw33_ReportSums.mapM_some _ _ fun f hf => ?_
  simp only [List.mem_cons, List.not_mem_nil, or_false] at hf
  rcases hf with rfl | rfl | rfl | rfl | rfl | rfl
  · dsimp only; rw [bindlelaw33_ReportSums.cells3]; exact bindlelaw33_ReportSums.keyInt _ xs hwf 0 (by omega)
  · dsimp only; rw [bindlelaw33_ReportSums.cells3]; exact bindlelaw33_ReportSums.keyInt _ xs hwf 1 (by omega)
  · dsimp only; rw [bindlelaw33_ReportSums.cells3]; exact bindlelaw33_ReportSums.keyInt _ xs hwf 2 (by omega)
  · dsimp only; rw [bindlelaw33_ReportSums.cells3]; exact bindlelaw33_ReportSums.keyInt _ xs hwf 3 (by omega)
  · dsimp only; rw [h36, part]; exact bindlelaw33_ReportSums.keyArr 36 19 _ Tryd.underlying36 h36 _ (hw2 4 19) (by rw [List.length_take, List.length_drop]; omega)
  · dsimp only; rw [h37, part]; exact bindlelaw33_ReportSums.keyArr 37 17 _ Tryd.underlying37 h37 _ (hw2 23 17) (by rw [List.length_take, List.length_drop]; omega)
theorem bindlelaw33_ReportSums.eqS (V : Array Value) (h : (keyOf Tryd.prog 39 (.agg V)).isSome = true) (w : World) : (binOp .eql 39 (.agg V) (.agg V)).run Tryd.prog w = .ok (.bool true) w := by
  obtain ⟨l, hl⟩ := Option.isSome_iff_exists.1 h
  obtain ⟨r, h1, h2⟩ := run_equal_deep w (m := 5) (by decide) (by kernel_rfl) (by kernel_rfl) hl hl
  have hr : r = true := h2.2 rfl
  subst hr
  unfold binOp
  simp [h1]
set_option maxRecDepth 100000 in
set_option maxHeartbeats 4000000 in
theorem bindlelaw33_ReportSums.calls (k : Nat) (A0 : Option Addr) (c0 : Nat) (l0 : List S66) (r : Bool) (w : World) (hr0 : Kd.C k66 w A0 l0.length l0) (hc0 : l0.length ≤ c0) (ht_ : YtodifojhegbjaaaDoorTab.TabOK w) (h : bindlelaw33_ReportSums.f k l0 = some r) :
    Calls Tryd.prog 4 #[.slice A0 l0.length c0] w fun e w' => e = .returned (.bool r) ∧ Below w.heap.size w w' := by
  unfold bindlelaw33_ReportSums.f at h
  cases hg : bindlelaw33_great.f k l0 with
  | none => rw [hg] at h; cases h
  | some t =>
    rw [hg, Option.bind_some] at h
    have HG := Aside0.mk hg
    have HT := Aside0.mk ht_
    have HR0 := Aside0.mk hr0
    have HC0 := Aside0.mk hc0
    clear hg ht_ hr0 hc0
    cases t with
    | true =>
      rw [if_pos rfl] at h
      have HL := Aside0.mk h
      clear h
      go_enter Tryd.func4, Tryd.ntmps4
      go_wp2_with (first | (go_at_call 14; refine (bindlelaw33_great.calls k _ _ l0 true _ HR0.out HC0.out HG.out).mono ?_; rintro e w1 ⟨rfl, hd1⟩; have HB1 := Aside0.mk hd1.below; clear hd1) | (go_at_call 13; refine (bindlelaw33_lives.calls k r _ (YtodifojhegbjaaaDoorTab.tab_below HT.out HB1.out) HL.out).mono ?_; rintro e w2 ⟨rfl, hb2⟩))
      go_ret
      exact ⟨rfl, HB1.out.trans (hb2.mono HB1.out.size)⟩
    | false =>
      rw [if_neg (by decide)] at h
      cases hp : bindlelaw33_parts.f k l0 with
      | none => rw [hp] at h; cases h
      | some p =>
        obtain ⟨o, a⟩ := p
        rw [hp, Option.bind_some] at h
        dsimp only at h
        by_cases hc : o.length = l0.length ∧ a.length = l0.length ∧ l0.length ≤ 1000000 ∧ bindlelaw33_ReportSums.wantTo l0.length o a l0.length = report_Sum.sumTo o a o.length ∧ (report_Sum.sumTo o a o.length).length = 40 ∧ (∀ x ∈ report_Sum.sumTo o a o.length, (Lit.int .i64 x).wf = true)
        case neg => rw [if_neg hc] at h; cases h
        rw [if_pos hc] at h
        have HL := Aside0.mk h
        have HP := Aside0.mk hp
        obtain ⟨ho, ha, hm, hw, hl40, hwf⟩ := hc
        have HSUM := Aside0.mk (show report_Sum.f o a = some (.agg (report_Sum.cs (report_Sum.sumTo o a o.length)), 0) by unfold report_Sum.f; rw [if_pos (by omega), if_pos (by omega)])
        have HO := Aside0.mk ho
        have HA := Aside0.mk ha
        have HM := Aside0.mk hm
        have HW := Aside0.mk hw
        have hzz := report_Sum.zz
        have hV : (report_Sum.cs (report_Sum.sumTo o a o.length)).size = 40 := by unfold report_Sum.cs; simp [hl40]
        have HKEY := Aside0.mk (show (keyOf Tryd.prog 39 (.agg (report_Sum.cs (report_Sum.sumTo o a o.length)))).isSome = true from bindlelaw33_ReportSums.key39 _ hl40 hwf)
        have hsi : (Tryd.prog.info? 39).map (·.size) = some 40 := by kernel_rfl
        have hone : ∀ xs : List Int, ∀ q ∈ (report_Sum.cs xs).toList, q.oneCell' = true := fun xs q hq => by
          unfold report_Sum.cs at hq
          simp only [List.mem_map] at hq
          obtain ⟨x, _, rfl⟩ := hq
          rfl
        have HSI := Aside0.mk hsi
        have HONE := Aside0.mk hone
        have HV := Aside0.mk hV
        clear h hp ho ha hm hw hV hsi hone hl40 hwf
        have hZs : (report_Sum.cs report_Sum.zero).size = 40 := rfl
        generalize report_Sum.cs report_Sum.zero = Z at hzz hZs
        have HZS := Aside0.mk hZs
        clear hZs
        go_enter Tryd.func4, Tryd.ntmps4
        go_upto_region 4 with (first | (go_at_call 14; refine (bindlelaw33_great.calls k _ _ l0 false _ HR0.out HC0.out HG.out).mono ?_; rintro e w1 ⟨rfl, hd1⟩; have HB1 := Aside0.mk hd1.below; clear hd1) | (go_at_call 15; refine (bindlelaw33_parts.calls k (fun k_ => k_ < w1.heap.size) _ _ l0 o a w1 (Kd.V_mk HC0.out (Kd.C_F k66_heap (Kd.C_below HR0.out HB1.out))) HP.out).mono ?_; rintro e w2 ⟨v0, v1, rfl, hN0, hN1, hb2⟩; obtain ⟨Ao, co, rfl⟩ := Kd.N_slice hN0; obtain ⟨Aa, ca, rfl⟩ := Kd.N_slice hN1; have HRO := Aside0.mk (Kd.N_reads' hN0); have HRA := Aside0.mk (Kd.N_reads' hN1); have HB2 := Aside0.mk (HB1.out.trans (hb2.mono HB1.out.size)); clear hN0 hN1 hb2))
        go_upto_region 6 with (first
          | (go_at_call 16; refine (report_Sum.calls _ _ o _ _ a _ 0 w2 HRO.out.2.2 (by have := HRO.out.1; have := HRO.out.2.1; omega) HRA.out.2.2 (by have := HRA.out.1; have := HRA.out.2.1; omega) HSUM.out).mono ?_; rintro e w3 ⟨rfl, hb3⟩; have HB3 := Aside0.mk hb3; clear hb3)
          | ((with_reducible refine gate_dst (N := 5) rfl ?_); refine box_event ?hg (N := 5) ?hd (cs := Z) (t := 39) ?hr ?_; (case hd => rfl); (case hg => rfl); (case hr => first | (go_simp; done) | (go_simp; rfl)); intro gs hgs w4 hbox4 hb4; have HBX4 := Aside0.mk hbox4; have HB4 := Aside0.mk hb4; have HGS := Aside0.mk hgs; clear hbox4 hb4 hgs)
          | ((with_reducible refine gate_dst (N := 7) rfl ?_); refine box_event ?hg (N := 7) ?hd (cs := Z) (t := 39) ?hr ?_; (case hd => rfl); (case hg => rfl); (case hr => first | (go_simp; done) | (go_simp; rfl)); intro gw hgw w6 hbox6 hb6; have HBX6 := Aside0.mk hbox6; have HB6 := Aside0.mk hb6; have HGW := Aside0.mk hgw; clear hbox6 hb6 hgw)
          | (refine YtodifojhegbjaaaDoorMpHelp.wpList_build_row rfl 39 _ rfl (report_Sum.cs (report_Sum.zero.set 0 (l0.length : Int))) (fun w => by simp only [List.map_toArray, List.map_cons, List.map_nil, Act.eval]; exact bindlelaw33_ReportSums.bd _ w) ?_)
          | (refine YtodifojhegbjaaaDoorMpHelp.wpList_store_blk (base := w3.heap.size) (w0 := w3) rfl rfl 39 (.tmp 5) (.tmp 22) rfl 39 gs _ (report_Sum.cs (report_Sum.sumTo o a o.length)) HBX4.out rfl rfl (by rw [HV.out]; exact HSI.out) (by rw [HV.out, HZS.out]) (HONE.out _) HB4.out (Nat.le_of_eq HGS.out.symm) ?_; intro w5 hbox5 hB5 hoth5; have HBX5 := Aside0.mk hbox5; have HB5 := Aside0.mk hB5; clear hbox5 hB5 hoth5)
          | (refine YtodifojhegbjaaaDoorMpHelp.wpList_store_blk (base := w3.heap.size) (w0 := w3) rfl rfl 39 (.tmp 7) (.tmp 26) rfl 39 gw _ (report_Sum.cs (report_Sum.zero.set 0 (l0.length : Int))) HBX6.out rfl rfl HSI.out HZS.out (HONE.out _) (HB5.out.trans (HB6.out.mono HB5.out.size)) (by rw [HGW.out]; exact HB5.out.size) ?_; intro w7 hbox7 hB7 hoth7; have HX := Aside0.mk (show bindlelaw33_ReportSums.Hx gs gw (report_Sum.cs (report_Sum.sumTo o a o.length)) w3 (bindlelaw33_ReportSums.wantTo l0.length o a 0) w7 from ⟨⟨rfl, hbox7⟩, (hoth7 gs (by have := blk_lt HBX5.out; rw [HGW.out]; omega)).trans (blk_below HBX5.out HB6.out), hB7⟩); clear hbox7 hB7 hoth7)
          | fail)
        have HGW2 := Aside0.mk (show w3.heap.size ≤ gw by rw [HGW.out]; exact HB5.out.size)
        have HNE := Aside0.mk (show gs ≠ gw by have := blk_lt HBX5.out; rw [HGW.out]; omega)
        clear HBX4 HB4 HBX5 HB5 HBX6 HB6 HGW
        generalize hVV : report_Sum.cs (report_Sum.sumTo o a o.length) = V at HX
        have HVV := Aside0.mk hVV
        clear hVV hzz
        go_wp2_with fail
        go_loopw [8] (fun v8 wr => ∃ i : Nat, i ≤ l0.length ∧ v8 = .int .i64 i ∧ Aside0 (bindlelaw33_ReportSums.Hx gs gw V w3 (bindlelaw33_ReportSums.wantTo l0.length o a i) wr)) (fun v8 _ => l0.length - (intOf v8).toNat)
        case atStart => exact ⟨0, Nat.zero_le _, rfl, HX⟩
        case round =>
          clear HX
          obtain ⟨i, hi, rfl, HX⟩ := hrel
          by_cases hlt : i < l0.length
          · have hk1 : (0 : Int) ≤ (i : Int) := Int.natCast_nonneg _
            have hk0 : (i : Int) < (l0.length : Int) := by omega
            have HKM := Aside0.mk (show (i : Int) < 1000000 by have := HM.out; omega)
            have hk2 : (i : Int) < (o.length : Int) := by have := HO.out; omega
            have hk3 : (i : Int) < (a.length : Int) := by have := HA.out; omega
            have HZR := Aside0.mk (show bindlelaw33_ReportSums.wantTo l0.length o a (i + 1) = bindlelaw33_ReportSums.wstep (bindlelaw33_ReportSums.wantTo l0.length o a i) (rd_T47 o (i : Int)) (rd_T51 a (i : Int)) from rfl)
            obtain ⟨ad0, A2, c2, A4, c4, e0, hx0, _⟩ := at_T47 (Kd.C_below HRO.out.2.2 HB3.out) (i : Int) hk1 hk2
            obtain ⟨ad1, B1, d1, B3, d3, B4, d4, e1, hy0, hy1, hy2, hy3, hy4, hy5, hy6, _⟩ := at_T51 (Kd.C_below HRA.out.2.2 HB3.out) (i : Int) hk1 hk3
            cases e0
            cases e1
            simp only [Int.toNat_natCast] at hx0 hy0 hy1 hy2 hy3 hy4 hy5 hy6
            unfold bindlelaw33_ReportSums.wstep bindlelaw33_ReportSums.wstepF at HZR
            dsimp only at HZR
            generalize (rd_T47 o (i : Int)).f0 = kd at hx0 HZR
            generalize (rd_T51 a (i : Int)).f0 = e at hy0 HZR
            generalize (rd_T51 a (i : Int)).f1 = dat at hy1 HZR
            generalize (rd_T51 a (i : Int)).f5 = rf at hy5 HZR
            generalize (rd_T51 a (i : Int)).f6 = po at hy6 HZR
            clear hy2 hy3 hy4
            obtain ⟨xs0, hxs0⟩ : ∃ x, x = bindlelaw33_ReportSums.wantTo l0.length o a i := ⟨_, rfl⟩
            rw [← hxs0] at HX HZR
            clear hxs0
            have HX0 := Aside0.mk hx0
            have HY0 := Aside0.mk hy0
            have HY1 := Aside0.mk hy1
            have HY5 := Aside0.mk hy5
            have HY6 := Aside0.mk hy6
            clear hx0 hy0 hy1 hy5 hy6
            have hx0 := HX.out.at_ HX0.out
            go_upto_region 10 with (fail)
            go_cut [43] (fun v43 wc => v43 = .bool (!decide (1 ≤ kd ∧ kd ≤ 18)) ∧ Aside0 (bindlelaw33_ReportSums.Hx gs gw V w3 xs0 wc))
            case first =>
              by_cases h1 : kd < 1
              · have d1 : decide (kd < 1) = true := decide_eq_true h1
                go_wp2_with fail
                go_meet
                case rel => exact ⟨by rw [decide_eq_false (by omega)]; rfl, HX⟩
              · have d1 : decide (kd < 1) = false := decide_eq_false h1
                by_cases h2 : 18 < kd
                · have d2 : decide (18 < kd) = true := decide_eq_true h2
                  go_wp2_with fail
                  go_meet
                  case rel => exact ⟨by rw [decide_eq_false (by omega)]; rfl, HX⟩
                · have d2 : decide (18 < kd) = false := decide_eq_false h2
                  go_wp2_with fail
                  go_meet
                  case rel => exact ⟨by rw [decide_eq_true (by omega)]; rfl, HX⟩
            case rest =>
              clear HX hx0
              obtain ⟨rfl, HX⟩ := hcut
              go_upto_if 43 with (fail)
              go_cut [9] (fun v9 wc => v9 = .int .i64 (report_Sum.kN kd) ∧ Aside0 (bindlelaw33_ReportSums.Hx gs gw V w3 xs0 wc))
              case first =>
                by_cases h : 1 ≤ kd ∧ kd ≤ 18
                · rw [decide_eq_true h]
                  go_wp2_with fail
                  go_meet
                  case rel => exact ⟨by unfold report_Sum.kN; rw [if_pos h]; congr 1; omega, HX⟩
                · rw [decide_eq_false h]
                  go_wp2_with fail
                  go_meet
                  case rel => exact ⟨by unfold report_Sum.kN; rw [if_neg h]; rfl, HX⟩
              case rest =>
                clear HX
                obtain ⟨rfl, HX⟩ := hcut
                have hkn0 : (0 : Int) ≤ (report_Sum.kN kd : Int) := Int.natCast_nonneg _
                have hkn1 : (report_Sum.kN kd : Int) < 19 := by unfold report_Sum.kN; split <;> omega
                have HKN := Aside0.mk hkn1
                generalize report_Sum.kN kd = kn at HZR hkn0 hkn1 HKN
                have hc4 := HX.out.1.cell (4 + kn) (by have := HKN.out; omega)
                have hf4 := HX.out.1.frozen (4 + kn)
                go_upto_region 13 with (fail)
                have HX8 := Aside0.mk (show bindlelaw33_ReportSums.Hx gs gw V w3 (report_Sum.inc xs0 (4 + kn)) _ from HX.out.set HGW2.out HNE.out (4 + kn) (wrap64 (report_Sum.at_ xs0 (4 + kn) + 1)))
                generalize wc.setCell ⟨gw, 4 + kn, none⟩ (.int .i64 (wrap64 (report_Sum.at_ xs0 (4 + kn) + 1))) = w8 at HX8 ⊢
                clear HX hc4 hf4 hkn0 hkn1
                have HX := HX8
                clear HX8
                obtain ⟨x2, hx2⟩ : ∃ x, x = report_Sum.inc xs0 (4 + kn) := ⟨_, rfl⟩
                rw [← hx2] at HX HZR
                clear hx2
                have hy0 := HX.out.at_ HY0.out
                go_cut [64] (fun v64 wc => v64 = .bool (decide (0 ≤ e ∧ e ≤ 16)) ∧ Aside0 (bindlelaw33_ReportSums.Hx gs gw V w3 x2 wc))
                case first =>
                  by_cases h1 : 0 ≤ e
                  · have d1 : decide (0 ≤ e) = true := decide_eq_true h1
                    by_cases h2 : e < 17
                    · have d2 : decide (e < 17) = true := decide_eq_true h2
                      go_wp2_with fail
                      go_meet
                      case rel => exact ⟨by rw [decide_eq_true (by omega)], HX⟩
                    · have d2 : decide (e < 17) = false := decide_eq_false h2
                      go_wp2_with fail
                      go_meet
                      case rel => exact ⟨by rw [decide_eq_false (by omega)], HX⟩
                  · have d1 : decide (0 ≤ e) = false := decide_eq_false h1
                    go_wp2_with fail
                    go_meet
                    case rel => exact ⟨by rw [decide_eq_false (by omega)], HX⟩
                case rest =>
                  clear HX hy0
                  obtain ⟨rfl, HX⟩ := hcut
                  go_upto_if 64 with (fail)
                  obtain ⟨x3, hx3⟩ : ∃ x, x = (if report_Sum.eB e = true then report_Sum.inc x2 (23 + report_Sum.eN e) else x2) := ⟨_, rfl⟩
                  rw [← hx3] at HZR
                  have HX3 := Aside0.mk hx3
                  clear hx3
                  go_cut [65] (fun v65 wc => Aside0 (bindlelaw33_ReportSums.Hx gs gw V w3 x3 wc))
                  case first =>
                    by_cases h : 0 ≤ e ∧ e ≤ 16
                    · rw [decide_eq_true h]
                      obtain ⟨n, rfl⟩ := Int.eq_ofNat_of_zero_le h.1
                      have hn0 : (0 : Int) ≤ (n : Int) := Int.natCast_nonneg _
                      have hn1 : (n : Int) < 17 := by omega
                      have hy0 := HX.out.at_ HY0.out
                      have hc5 := HX.out.1.cell (23 + n) (by omega)
                      have hf5 := HX.out.1.frozen (23 + n)
                      have hxe : x3 = report_Sum.inc x2 (23 + n) := by
                        rw [HX3.out, if_pos (show report_Sum.eB (n : Int) = true from decide_eq_true h)]
                        unfold report_Sum.eN
                        rw [if_pos h]
                        rfl
                      have HXE := Aside0.mk hxe
                      clear hxe h
                      go_wp2_with fail
                      go_meet
                      case rel => exact ⟨by rw [HXE.out]; exact HX.out.set HGW2.out HNE.out (23 + n) _⟩
                    · rw [decide_eq_false h]
                      go_wp2_with fail
                      go_meet
                      case rel => exact ⟨by rw [HX3.out, if_neg (show ¬ report_Sum.eB e = true from fun hb => h (of_decide_eq_true hb))]; exact HX.out⟩
                  case rest =>
                    clear HX
                    have HX := hcut
                    clear hcut
                    have hy5 := HX.out.at_ HY5.out
                    have hc1 := HX.out.1.cell 1 (by omega)
                    have hf1 := HX.out.1.frozen 1
                    go_upto_if 80 with (fail)
                    obtain ⟨x4, hx4⟩ : ∃ x, x = (if rf = true then report_Sum.inc x3 1 else x3) := ⟨_, rfl⟩
                    rw [← hx4] at HZR
                    have HX4 := Aside0.mk hx4
                    clear hx4
                    go_cut [81] (fun v81 wc => Aside0 (bindlelaw33_ReportSums.Hx gs gw V w3 x4 wc))
                    case first =>
                      cases rf with
                      | true =>
                        go_wp2_with fail
                        go_meet
                        case rel => exact ⟨by rw [HX4.out]; (first | rw [if_pos rfl] | rw [if_pos trivial]); exact HX.out.set HGW2.out HNE.out 1 _⟩
                      | false =>
                        go_wp2_with fail
                        go_meet
                        case rel => exact ⟨by rw [HX4.out, if_neg (by decide)]; exact HX.out⟩
                    case rest =>
                      clear HX hy5 hc1 hf1
                      have HX := hcut
                      clear hcut
                      have hy6 := HX.out.at_ HY6.out
                      have hc2 := HX.out.1.cell 2 (by omega)
                      have hf2 := HX.out.1.frozen 2
                      go_upto_if 89 with (fail)
                      obtain ⟨x5, hx5⟩ : ∃ x, x = (if po = true then report_Sum.inc x4 2 else x4) := ⟨_, rfl⟩
                      rw [← hx5] at HZR
                      have HX5 := Aside0.mk hx5
                      clear hx5
                      go_cut [90] (fun v90 wc => Aside0 (bindlelaw33_ReportSums.Hx gs gw V w3 x5 wc))
                      case first =>
                        cases po with
                        | true =>
                          go_wp2_with fail
                          go_meet
                          case rel => exact ⟨by rw [HX5.out]; (first | rw [if_pos rfl] | rw [if_pos trivial]); exact HX.out.set HGW2.out HNE.out 2 _⟩
                        | false =>
                          go_wp2_with fail
                          go_meet
                          case rel => exact ⟨by rw [HX5.out, if_neg (by decide)]; exact HX.out⟩
                      case rest =>
                        clear HX hy6 hc2 hf2
                        have HX := hcut
                        clear hcut
                        have hy1 := HX.out.at_ HY1.out
                        have hc3 := HX.out.1.cell 3 (by omega)
                        have hf3 := HX.out.1.frozen 3
                        go_upto_region 19 with (fail)
                        go_cut [102] (fun v102 wc => v102 = .bool (decide (report_Sum.at_ x5 3 < (dat.length : Int))) ∧ Aside0 (bindlelaw33_ReportSums.Hx gs gw V w3 x5 wc))
                        case first =>
                          go_quiet (fail)
                          go_wp2_with fail
                          go_meet
                          case rel => exact ⟨rfl, ⟨HX.out.drewN _⟩⟩
                        case rest =>
                          clear HX hy1 hc3 hf3
                          obtain ⟨rfl, HX⟩ := hcut
                          go_upto_if 102 with (fail)
                          by_cases h : report_Sum.at_ x5 3 < (dat.length : Int)
                          · rw [decide_eq_true h]
                            rw [if_pos h] at HZR
                            have hy1 := HX.out.at_ HY1.out
                            have hf3 := HX.out.1.frozen 3
                            have hc3 := HX.out.1.cell 3 (by omega)
                            clear h
                            have hkM := HKM.out
                            go_wp2_with fail
                            go_roundw
                            case rel => exact ⟨i + 1, by omega, by go_num, ⟨by rw [HZR.out]; exact HX.out.set HGW2.out HNE.out 3 _⟩⟩
                            case measure => simp [intOf]; omega
                          · rw [decide_eq_false h]
                            rw [if_neg h] at HZR
                            clear h
                            have hkM := HKM.out
                            go_wp2_with fail
                            go_roundw
                            case rel => exact ⟨i + 1, by omega, by go_num, ⟨by rw [HZR.out]; exact HX.out⟩⟩
                            case measure => simp [intOf]; omega
          · have hk3 : i = l0.length := by omega
            subst hk3
            have hVs := HV.out
            rw [HVV.out] at hVs
            have hsi := HSI.out
            have hW2 : report_Sum.cs (bindlelaw33_ReportSums.wantTo l0.length o a l0.length) = V := by rw [HW.out]; exact HVV.out
            have HS7 := Aside0.mk (show wr.heap[gw]? = some (.cells V 39 (0, 0)) by rw [← hW2]; exact HX.out.1.2)
            have HS5 := Aside0.mk HX.out.2.1
            have HB7 := Aside0.mk HX.out.2.2
            rw [← hVs] at hsi
            have HSI2 := Aside0.mk hsi
            clear HX hsi hVs hW2
            have hkey := HKEY.out
            rw [HVV.out] at hkey
            have heq := bindlelaw33_ReportSums.eqS V hkey
            clear hkey
            go_wp2_with (first
              | ((try (refine gate_guard (by rfl) ?_; dsimp only)); refine wpList_load_row rfl 39 (.tmp 5) rfl gs rfl 39 V (0, 0) _ HS5.out Tryd.underlying39 rfl HSI2.out ?_)
              | ((try (refine gate_guard (by rfl) ?_; dsimp only)); refine wpList_load_row rfl 39 (.tmp 7) rfl gw rfl 39 V (0, 0) _ HS7.out Tryd.underlying39 rfl HSI2.out ?_)
              | (go_at_call 13; refine (bindlelaw33_lives.calls k r _ (YtodifojhegbjaaaDoorTab.tab_below HT.out (HB2.out.trans ((HB3.out.mono HB2.out.size).trans (HB7.out.mono (Nat.le_trans HB2.out.size HB3.out.size))))) HL.out).mono ?_; rintro e w9 ⟨rfl, hb9⟩; have HB9 := Aside0.mk hb9; clear hb9)
              | fail)
            go_ret
            exact ⟨rfl, HB2.out.trans ((HB3.out.mono HB2.out.size).trans ((HB7.out.mono (Nat.le_trans HB2.out.size HB3.out.size)).trans (HB9.out.mono (Nat.le_trans HB2.out.size (Nat.le_trans HB3.out.size HB7.out.size)))))⟩
/-- What is known of a value of this type that came in. -/
def good45 (x : S45) : Prop := ((x.f0.length ≤ maxLen ∧ x.f0.length * 1 ≤ 140737488351232 ∧ ∀ e1 ∈ x.f0, True)) ∧ ((Lit.int .i64 x.f1).wf = true) ∧ (Lit.int .u8 x.f2).wf = true
/-- What is known of a value of this type that came in. -/
def good47 (x : S47) : Prop := ((Lit.int .i64 x.f0).wf = true) ∧ (x.f1.size ≤ 140737488351232) ∧ ((x.f2.length ≤ maxLen ∧ x.f2.length * 1 ≤ 140737488351232 ∧ ∀ e2 ∈ x.f2, (Lit.int .u8 e2).wf = true)) ∧ ((Lit.int .i64 x.f3).wf = true) ∧ good45 x.f4
/-- What is known of a value of this type that came in. -/
def good122 (x : S122) : Prop := (x.f0.size ≤ 140737488351232) ∧ (x.f1.length ≤ maxLen ∧ x.f1.length * 1 ≤ 140737488351232 ∧ ∀ e3 ∈ x.f1, (Lit.int .u8 e3).wf = true)
/-- What is known of a value of this type that came in. -/
def good51 (x : S51) : Prop := ((Lit.int .i64 x.f0).wf = true) ∧ ((x.f1.length ≤ maxLen ∧ x.f1.length * 1 ≤ 140737488351232 ∧ ∀ e4 ∈ x.f1, (Lit.int .u8 e4).wf = true)) ∧ ((Lit.int .i64 x.f2).wf = true) ∧ ((x.f3.length ≤ maxLen ∧ x.f3.length * 16 ≤ 140737488351232 ∧ ∀ e5 ∈ x.f3, e5.size ≤ 140737488351232)) ∧ ((x.f4.length ≤ maxLen ∧ x.f4.length * 40 ≤ 140737488351232 ∧ ∀ e6 ∈ x.f4, good122 e6)) ∧ (True) ∧ True
/-- What is known of a value of this type that came in. -/
def good66 (x : S66) : Prop := (good47 x.f0) ∧ good51 x.f1

/-- THE ONE PURE STATEMENT of bindlelaw33_ReportSums: ours to prove. -/
def bindlelaw33_ReportSums.Pure : Prop := ∀ (x0 : List (S66)), (x0.length ≤ maxLen ∧ x0.length * 192 ≤ 140737488351232 ∧ ∀ e7 ∈ x0, good66 e7) → ∃ k, bindlelaw33_ReportSums.f k x0 = some true


end Go.Proofs.YtodifojhegbjaaaDoor.PReportSums
