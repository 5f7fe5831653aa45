/- Words of a claim's machine side, laid by the kit's print and taken here as far as this claim names them; or this session's own. -/
/- Rows of structs that are put together in place: small lemmas for functions that are told by hand. -/
import Derived.Test.YtcfcbkcaondfcaaDoorMpHelp
import Derived.Test.YtcfcbkcaondfcaaDoorWNEv
import Derived.Test.YtcfcbkcaondfcaaDoorWZeros
import Derived.Deep.DeepAppendRoom
import Derived.Laws.CopyRow
import Derived.Laws.CopyOwn
namespace Go.Proofs.YtcfcbkcaondfcaaDoorMpRows
open Go.RowKit Go.Proofs.YtcfcbkcaondfcaaDoorW.PrintWords
set_option linter.unusedVariables false
section
variable {P : Program}
theorem run_copy_cells (w : World) (dT sT ty elem : TypeId) (g o dLen dCap : Nat) (a : Addr) (sLen sCap : Nat) (cur : Array Value) (t : TypeId) (cs : List Value) (k : Nat)
    (hu : P.underlying dT = some (.slice elem)) (hs : (P.info? elem).map (·.size) = some k)
    (hg : w.heap[g]? = some (.cells cur t (0, 0))) (hn : cs.length = Nat.min sLen dLen * k)
    (hsrc : ∀ j v, cs[j]? = some v → w.cell? (a.add j) = some v) (hfit : o + cs.length ≤ cur.size) (h1 : ∀ v ∈ cs, v.oneCell' = true) :
    (Builtin.copy_ #[dT, sT] ty #[.slice (some ⟨g, o, none⟩) dLen dCap, .slice (some a) sLen sCap]).run P w =
      .ok (goInt (Nat.min sLen dLen)) (w.setRow g (cur.toList.take o ++ cs ++ cur.toList.drop (o + cs.length)).toArray) := by
  have hl := run_loadCells_list (P := P) w a cs hsrc
  have hst := run_storeCells_at P g o t cs 0 cur w hg (by simpa using hfit) h1
  cases hq : P.info? elem with
  | none => simp [hq] at hs
  | some i =>
    have hi : i.size = k := by simpa [hq] using hs
    simp [Builtin.copy_, run_underlying hu, Builtin.lenOf, Builtin.firstCells, sizeOf, typeInfo, hq, hi, ← hn, hl, hst]
theorem zeroCells_one (z : Value) (size : Nat) (hsz : z.cells.size = size) (h0 : 0 < size) (hz : ∀ u ∈ z.cells.toList, u.oneCell' = true) (m : Nat) : ∀ u ∈ (Builtin.zeroCells z.cells m).toList, u.oneCell' = true :=
  Kd.reps_one (Kd.reps_zeros (R := fun (_ : Unit) cs => ∀ u ∈ cs, u.oneCell' = true) (z0 := ()) hsz h0 hz m) h0 (fun _ _ hp => hp)
theorem run_append_zeros_grow (w : World) (t ti ty e : TypeId) (i : TypeInfo) (z : Value) (size bytes : Nat) (ht : P.underlying t = some (.slice e)) {k : IntKind} (hti : P.underlying ti = some (.int k)) (hi : P.info? e = some i) (hz : i.zero = some z)
    (hsize : i.size = size) (hby : i.bytes = bytes) (hzs : z.cells.size = size) (hsz : 0 < size) (hb0 : 0 < bytes)
    (A : Option Addr) (n cap : Nat) (xs : List Value) (hxl : xs.length = n * size) (hcell : ∀ (ad : Addr), A = some ad → ∀ j u, xs[j]? = some u → w.cell? (ad.add j) = some u) (hA : A = none → xs = []) (kx : IntKind) (m : Nat)
    (hm : 0 < m) (hcap : cap < n + m) (hbytes : (n + m) * bytes ≤ 140737488355328) :
    (Builtin.append_ #[t, ti] ty #[.slice A n cap, .int kx m]).run P w =
      .ok (.slice (some ⟨w.heap.size, 0, none⟩) (n + m) (grownCap w (n + m) cap e)) (w.drew.alloc (.cells (xs.toArray ++ Builtin.zeroCells z.cells m ++ Builtin.zeroCells z.cells (grownCap w (n + m) cap e - (n + m))) e)) := by
  subst hsize
  subst hby
  have hle : n + m ≤ 140737488355328 := Nat.le_trans (Nat.le_mul_of_pos_right _ hb0) hbytes
  have h63 : n + m ≤ maxLen := by simp only [maxLen]; omega
  have hw : IntKind.i64.wrap (m : Int) = m := by rw [IntKind.wrap_i64]; omega
  have hneg : ¬ ((m : Int) < 0) := by omega
  have hmb : m * i.bytes ≤ 140737488355328 := Nat.le_trans (Nat.mul_le_mul_right _ (Nat.le_add_left m n)) hbytes
  have hbig : ¬ (281474976710656 < (m : Int) * (i.bytes : Int)) := by
    rw [← Int.natCast_mul]
    omega
  have hsn : i.size ≠ 0 := by omega
  have hn : ¬ (n + m ≤ cap) := by omega
  have h63' : ¬ (9223372036854775807 < ((n : Int) + (m : Int))) := by omega
  have hfit := growslice_fits hcap hbytes
  have h48' : ¬ (281474976710656 < Builtin.nextslicecap (n + m) cap * i.bytes) := by omega
  have hfo : (Builtin.firstCells i.size n (.slice A n cap)).run P w.drew = .ok xs.toArray w.drew := by
    cases A with
    | none =>
      rw [hA rfl] at hxl ⊢
      have : n = 0 := by
        rcases Nat.eq_zero_or_pos n with h | h
        · exact h
        · have := Nat.mul_pos h hsz
          simp at hxl
          omega
      subst this
      simp [Builtin.firstCells]
    | some ad => exact run_firstCells_some (P := P) w.drew i.size n _ n cap xs hxl (by simpa using hcell ad rfl)
  have hmz : ¬ (m * i.size = 0) := Nat.mul_ne_zero (by omega) hsn
  simp [Builtin.append_, run_underlying ht, run_underlying hti, sizeOf, typeInfo, zeroValue, hi, hz, asInt, asIntOf, hw, hneg, hbig, hn, h63', h48', Question.forced, hfo, newRow, grownCap, hmz]
end
section
variable {P : Program} {ops : Array Oper} {rest : List Oper} {o : Oper} {a : Act} {Q : Exit → Act → World → Prop} {α : Type}
theorem wpList_append_run {w : World} (hgd : o.guard = none) (s x : Operand) (t t' : TypeId) (ho : o.op = .call { callee := .builtin .append, args := #[s, x], argTypes := #[t, t'] }) (v u : Value) (hs : a.eval s = v) (hx : a.eval x = u) {v' : Value} {w' : World}
    (hr : (Builtin.append_ #[t, t'] o.type #[v, u]).run P w = .ok v' w') (h : wpList P ops Q rest (a.put o.dst v') w') : wpList P ops Q (o :: rest) a w :=
  wpList_plain hgd fun K hK => by
    unfold Oper.wp execOp
    simp only [ho, resolve, invoke, builtin, Sem.run_bind, Sem.run_pure, Result.andThen_ok, List.map_toArray, List.map_cons, List.map_nil, hs, hx, hr]
    exact hK _ _ h
theorem wpList_copy_run {w : World} (hgd : o.guard = none) (s x : Operand) (t t' : TypeId) (ho : o.op = .call { callee := .builtin .copy, args := #[s, x], argTypes := #[t, t'] }) (v u : Value) (hs : a.eval s = v) (hx : a.eval x = u) {v' : Value} {w' : World}
    (hr : (Builtin.copy_ #[t, t'] o.type #[v, u]).run P w = .ok v' w') (h : wpList P ops Q rest (a.put o.dst v') w') : wpList P ops Q (o :: rest) a w :=
  wpList_plain hgd fun K hK => by
    unfold Oper.wp execOp
    simp only [ho, resolve, invoke, builtin, Sem.run_bind, Sem.run_pure, Result.andThen_ok, List.map_toArray, List.map_cons, List.map_nil, hs, hx, hr]
    exact hK _ _ h
theorem wp_copy_run {Kc : Act → World → Prop} {w : World} (s x : Operand) (t t' : TypeId) (ho : o.op = .call { callee := .builtin .copy, args := #[s, x], argTypes := #[t, t'] }) (v u : Value) (hs : a.eval s = v) (hx : a.eval x = u) {v' : Value} {w' : World}
    (hr : (Builtin.copy_ #[t, t'] o.type #[v, u]).run P w = .ok v' w') (h : Kc (a.put o.dst v') w') : Oper.wp P o a w Kc Q := by
  unfold Oper.wp execOp
  simp only [ho, resolve, invoke, builtin, Sem.run_bind, Sem.run_pure, Result.andThen_ok, List.map_toArray, List.map_cons, List.map_nil, hs, hx, hr]
  exact h
theorem N_append_spare_step {Kc : Act → World → Prop} (d : Kd α) {w0 W : World} (base : Nat) (hw : Region.wanted o (yielded ops a.tmps) = true) (s x : Operand) (t e : TypeId) (i0 : TypeInfo)
    (ho : o.op = .call { callee := .builtin .append, args := #[s, x], argTypes := #[t, t] })
    (ht : P.underlying t = some (.slice e)) (hi : P.info? e = some i0) (hsz : i0.size = d.sz) (hs0 : 0 < d.sz)
    (g n cap : Nat) (xs : List α) (p : α) (cs : List Value) (ok okp : Nat → Prop) (hs : a.eval s = .slice (some ⟨g, 0, none⟩) n cap) (hx : a.eval x = .slice (some ⟨W.heap.size, 0, none⟩) 1 1) (hp : Kd.FK d W okp p cs) (hokp : ∀ k, okp k → ok k ∧ k ≠ g)
    (HO : Kd.N d e W base ok (.slice (some ⟨g, 0, none⟩) n cap) xs) (HB : Below base w0 W) (hbase : base ≤ g) (hfr : ∀ k, W.heap.size ≤ k → ok k) (hroom : n + 1 ≤ cap)
    (h : ∀ w1, Kd.N d e w1 base ok (.slice (some ⟨g, 0, none⟩) (n + 1) cap) (xs ++ [p]) → Below base w0 w1 → W.grownBy w1 (some g) → Kc (a.put o.dst (.slice (some ⟨g, 0, none⟩) (n + 1) cap)) w1) :
    if Region.wanted o (yielded ops a.tmps) = true then Oper.wp P o a (W.alloc (.cells cs.toArray e)) Kc Q else Kc (a.put o.dst undef) (W.alloc (.cells cs.toArray e)) := by
  obtain ⟨h0, rows, hlr, hR, hf⟩ := HO
  obtain ⟨_, inner, hown, hr⟩ := hR
  have hn : n = rows.length := by
    rcases hown.2 with ⟨hv, _⟩ | ⟨g', cap', cur, hv, _⟩
    · cases hv
    · injection hv
  have hlen : cs.length = d.sz := d.K_len (Kd.FK_now hp)
  have h1 : ∀ u ∈ cs, u.oneCell' = true := d.K_one (Kd.FK_now hp)
  have hg0 : ∀ k, (Value.slice (some ⟨g, 0, none⟩) n cap).ownBlock = some k → g = k := fun k hk => by simpa [Value.ownBlock] using hk
  subst hn
  rw [if_pos hw]
  refine Go.wp_append_own_spare (W.alloc (.cells cs.toArray e)) s x t ho base e i0 d.sz ht hi hsz g rows.length cap inner hs (hown.alloc _) ⟨W.heap.size, 0, none⟩ 1 1 cs hx (by rw [hlen]; simp)
    (by simpa using World.news_of_block (cs := cs.toArray) (t := e) (fr := (0, 0)) (heap_alloc_new W (.cells cs.toArray e))) h1 hroom ?_
  intro w1 hown1 hg1
  have hg2 : W.grownBy w1 (some g) := World.grownBy.trans (World.grownBy_alloc W _ _) hg1
  have hrow : (Kd.raw d.sz).R e w1 base (fun _ => True) (.slice (some ⟨g, 0, none⟩) (rows.length + 1) cap) (rows ++ [cs]) :=
    Kd.R_appended (W := W) (v := .slice (some ⟨g, 0, none⟩) rows.length cap) (p := cs) (okp := fun _ => False) (fun _ _ => trivial) (hr.imp_ (fun _ _ hp => hp)) ⟨rfl, hlen, h1⟩ (fun _ hk => hk.elim) (fun _ _ => trivial) hown1 hg2 (.inl rfl)
  refine h w1 ?_ ((HB.alloc (Nat.le_trans hbase (Nat.le_of_lt (Kd.N_lt ⟨h0, rows, hlr, ⟨fun k hk => hk.symm, inner, hown, hr⟩, hf⟩ g rfl))) _).grown hg1 (by have := Kd.N_lt ⟨h0, rows, hlr, ⟨fun k hk => hk.symm, inner, hown, hr⟩, hf⟩ g rfl; simp; omega) (fun k hk => by injection hk with hk; omega)) hg2
  exact Kd.N_appended (W := W) (v := .slice (some ⟨g, 0, none⟩) rows.length cap) (ys := [p]) (news := [cs]) (okp := okp) h0 hlr hf rfl (fun j y c hy hc => by
    rcases j with _ | j
    · simp only [List.getElem?_cons_zero, Option.some.injEq] at hy hc
      rw [← hy, ← hc]; exact hp
    · simp at hy) (fun k hk => ⟨(hokp k hk).1, fun he => (hokp k hk).2 (by injection he)⟩) hfr hrow hg2 (.inl rfl)
end
section
variable {α : Type}
theorem N_cells (d : Kd α) {W : World} {e base g n : Nat} {ok : Nat → Prop} {xs : List α} (HO : Kd.N d e W base ok (.slice (some ⟨g, 0, none⟩) n n) xs) (hs0 : 0 < d.sz) :
    ∃ cur : Array Value, W.heap[g]? = some (.cells cur e (0, 0)) ∧ cur.size = n * d.sz ∧ xs.length = n ∧ (∀ u ∈ cur.toList, u.oneCell' = true) ∧ base ≤ g := by
  obtain ⟨h0, rows, hl, ⟨_, inner, hown, hr⟩, hfk⟩ := HO
  have hlen := hown.1
  rcases hown.2 with ⟨hv, _⟩ | ⟨g', cap', cur', hv, hbg, hg', hnc, hcm, hsz, htk⟩
  · cases hv
  injection hv with h1 h2 h3
  injection h1 with h1
  injection h1 with h1
  subst h1 h3
  have hsz' : cur'.size = n * d.sz := hsz
  have hti : cur'.toList.take (rows.length * d.sz) = inner := htk
  rw [List.take_of_length_le (by rw [Array.length_toList, hsz', ← h2]; exact Nat.le_refl _)] at hti
  refine ⟨cur', hg', hsz', by rw [← hl]; exact h2.symm, ?_, hbg⟩
  rw [hti]
  exact Kd.reps_one hr hs0 (fun p c hp u hu => hp.2.2 u hu)
theorem N_inserted (d : Kd α) {W W1 : World} {e base g n i cap2 : Nat} {ok okp : Nat → Prop} {xs : List α} {p : α} {cs : List Value} {cur cur2 : Array Value}
    (HO : Kd.N d e W base ok (.slice (some ⟨g, 0, none⟩) n n) xs) (hg : W.heap[g]? = some (.cells cur e (0, 0))) (hcs : cur.size = n * d.sz) (hi : i ≤ n) (hp : Kd.FK d W okp p cs) (hokp : ∀ k, okp k → ok k)
    (hW : Below W.heap.size W W1) (h2 : W1.heap[W.heap.size]? = some (.cells cur2 e (0, 0))) (hn2 : n + 1 ≤ cap2) (hm : cap2 ≤ maxLen) (hs : cur2.size = cap2 * d.sz)
    (ht : cur2.toList.take ((n + 1) * d.sz) = cur.toList.take (i * d.sz) ++ cs ++ cur.toList.drop (i * d.sz)) (hf : ok W.heap.size) (hb : base ≤ W.heap.size) :
    Kd.N d e W1 base ok (.slice (some ⟨W.heap.size, 0, none⟩) (n + 1) cap2) (xs.take i ++ p :: xs.drop i) := by
  obtain ⟨h0, rows, hl, ⟨_, inner, hown, hr⟩, hfk⟩ := HO
  rcases hown.2 with ⟨hv, _⟩ | ⟨g', cap', cur', hv, hbg, hg', hnc, hcm, hsz, htk⟩
  · cases hv
  injection hv with h1 hrn h3
  injection h1 with h1
  injection h1 with h1
  subst h1 h3
  rw [hg] at hg'
  injection hg' with hg'
  injection hg' with hg'
  subst hg'
  have hti : cur.toList.take (rows.length * d.sz) = inner := htk
  rw [List.take_of_length_le (by rw [Array.length_toList, hcs, ← hrn]; exact Nat.le_refl _)] at hti
  subst hti
  have hlen : cs.length = d.sz := d.K_len (Kd.FK_now hp)
  have h1c : ∀ u ∈ cs, u.oneCell' = true := d.K_one (Kd.FK_now hp)
  have hnl : (rows.take i ++ cs :: rows.drop i).length = n + 1 := by
    simp only [List.length_append, List.length_take, List.length_cons, List.length_drop]
    omega
  have hob : ∀ k, (Value.slice (some ⟨W.heap.size, 0, none⟩) (n + 1) cap2).ownBlock = some k → k = W.heap.size := fun k hk => by
    have : W.heap.size = k := by simpa [Value.ownBlock] using hk
    exact this.symm
  refine ⟨fun k hk => by rw [hob k hk]; exact hf, rows.take i ++ cs :: rows.drop i, by rw [hnl]; simp only [List.length_append, List.length_take, List.length_cons, List.length_drop]; omega, ⟨fun k hk => hk.symm, cur.toList.take (i * d.sz) ++ cs ++ cur.toList.drop (i * d.sz), ⟨?_, .inr ⟨W.heap.size, cap2, cur2, by rw [hnl], hb, h2, by rw [hnl]; exact hn2, hm, hs, by rw [hnl]; exact ht⟩⟩, ?_⟩, ?_⟩
  · rw [hnl, ← ht, List.length_take, Array.length_toList, hs]
    exact Nat.min_eq_left (Nat.mul_le_mul_right _ hn2)
  · rw [show rows.take i ++ cs :: rows.drop i = (rows.take i ++ [cs]) ++ rows.drop i from by simp]
    exact Kd.reps_append (Reps.snoc (Kd.reps_take hr (by omega)) ⟨rfl, hlen, h1c⟩ hlen) (Kd.reps_drop hr)
  · have old : ∀ (j : Nat) (x : α) (c : List Value), xs[j]? = some x → rows[j]? = some c → Kd.FK d W1 (fun k => ok k ∧ some k ≠ (Value.slice (some ⟨W.heap.size, 0, none⟩) (n + 1) cap2).ownBlock) x c := fun j x c hx hc =>
      Kd.FK_mono (Kd.FK_below (Kd.FK_bound (hfk j x c hx hc)) hW) (fun k hk => ⟨hk.1.1, fun he => by have := hob k he.symm; have := hk.2; omega⟩)
    intro j x c hx hc
    rcases Nat.lt_trichotomy j i with hj | hj | hj
    · rw [List.getElem?_append_left (by rw [List.length_take]; omega), List.getElem?_take_of_lt hj] at hx
      rw [List.getElem?_append_left (by rw [List.length_take]; omega), List.getElem?_take_of_lt hj] at hc
      exact old j x c hx hc
    · rw [List.getElem?_append_right (by rw [List.length_take]; omega), List.length_take, show j - min i xs.length = 0 from by omega, List.getElem?_cons_zero] at hx
      rw [List.getElem?_append_right (by rw [List.length_take]; omega), List.length_take, show j - min i rows.length = 0 from by omega, List.getElem?_cons_zero] at hc
      injection hx with hx
      injection hc with hc
      subst hx hc
      exact Kd.FK_mono (Kd.FK_below (Kd.FK_bound hp) hW) (fun k hk => ⟨hokp k hk.1, fun he => by have := hob k he.symm; have := hk.2; omega⟩)
    · rw [List.getElem?_append_right (by rw [List.length_take]; omega), List.length_take, show j - min i xs.length = (j - i - 1) + 1 from by omega, List.getElem?_cons_succ, List.getElem?_drop] at hx
      rw [List.getElem?_append_right (by rw [List.length_take]; omega), List.length_take, show j - min i rows.length = (j - i - 1) + 1 from by omega, List.getElem?_cons_succ, List.getElem?_drop] at hc
      exact old _ x c hx hc
end
section
variable {P : Program}
theorem run_clear_cells (w : World) (t ty e : TypeId) (i : TypeInfo) (z : Value) (ht : P.underlying t = some (.slice e)) (hi : P.info? e = some i) (hz : i.zero = some z) (g o n c : Nat) (hn : 0 < n) (cur : Array Value) (te : TypeId) (hg : w.heap[g]? = some (.cells cur te (0, 0)))
    (hfit : o + (Builtin.zeroCells z.cells n).toList.length ≤ cur.size) (h1 : ∀ u ∈ (Builtin.zeroCells z.cells n).toList, u.oneCell' = true) :
    (Builtin.clear_ #[t] ty #[.slice (some ⟨g, o, none⟩) n c]).run P w = .ok (.tuple #[]) (w.setRow g (cur.toList.take o ++ (Builtin.zeroCells z.cells n).toList ++ cur.toList.drop (o + (Builtin.zeroCells z.cells n).toList.length)).toArray) := by
  have hst := run_storeCells_at P g o te (Builtin.zeroCells z.cells n).toList 0 cur w hg (by simpa using hfit) h1
  simp only [Nat.add_zero] at hst
  obtain ⟨m, rfl⟩ : ∃ m, n = m + 1 := ⟨n - 1, by omega⟩
  simp [Builtin.clear_, run_underlying ht, zeroValue, typeInfo, hi, hz, hst]
end
section
variable {P : Program} {ops : Array Oper} {rest : List Oper} {o : Oper} {a : Act} {Q : Exit → Act → World → Prop}
theorem wpList_clear_run {w : World} (hgd : o.guard = none) (s : Operand) (t : TypeId) (ho : o.op = .call { callee := .builtin .clear, args := #[s], argTypes := #[t] }) (v : Value) (hs : a.eval s = v) {v' : Value} {w' : World}
    (hr : (Builtin.clear_ #[t] o.type #[v]).run P w = .ok v' w') (h : wpList P ops Q rest (a.put o.dst v') w') : wpList P ops Q (o :: rest) a w :=
  wpList_plain hgd fun K hK => by
    unfold Oper.wp execOp
    simp only [ho, resolve, invoke, builtin, Sem.run_bind, Sem.run_pure, Result.andThen_ok, List.map_toArray, List.map_cons, List.map_nil, hs, hr]
    exact hK _ _ h
end
section
variable {α : Type}
theorem N_behind (d : Kd α) {W W1 : World} {e base g n cap : Nat} {ok : Nat → Prop} {xs : List α} {cur cur2 : Array Value} (HO : Kd.N d e W base ok (.slice (some ⟨g, 0, none⟩) n cap) xs) (hg : W.heap[g]? = some (.cells cur e (0, 0)))
    (hk : ∀ k, k ≠ g → W1.heap[k]? = W.heap[k]?) (h2 : W1.heap[g]? = some (.cells cur2 e (0, 0))) (hs : cur2.size = cur.size) (ht : cur2.toList.take (n * d.sz) = cur.toList.take (n * d.sz)) : Kd.N d e W1 base ok (.slice (some ⟨g, 0, none⟩) n cap) xs := by
  obtain ⟨h0, rows, hl, ⟨_, inner, hown, hr⟩, hfk⟩ := HO
  have hlen := hown.1
  rcases hown.2 with ⟨hv, _⟩ | ⟨g', cap', cur', hv, hbg, hg', hnc, hcm, hsz, htk⟩
  · cases hv
  injection hv with h1 hrn h3
  injection h1 with h1
  injection h1 with h1
  subst h1 h3
  rw [hg] at hg'
  injection hg' with hg'
  injection hg' with hg'
  subst hg'
  have hti : cur.toList.take (rows.length * d.sz) = inner := htk
  refine ⟨h0, rows, hl, ⟨fun k hk => hk.symm, inner, ⟨hlen, .inr ⟨g, cap, cur2, by rw [← hrn], hbg, h2, hnc, hcm, by rw [hs]; exact hsz, ?_⟩⟩, hr⟩, fun j x c hx hc => Kd.FK_step (hfk j x c hx hc) (fun k hk' _ => hk k (fun he => hk'.2 (by rw [he]; rfl)))⟩
  show cur2.toList.take (rows.length * d.sz) = inner
  rw [← hrn, ht, hrn]
  exact hti
end
end Go.Proofs.YtcfcbkcaondfcaaDoorMpRows
