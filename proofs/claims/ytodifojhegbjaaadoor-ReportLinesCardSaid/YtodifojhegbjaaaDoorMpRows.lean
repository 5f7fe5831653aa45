/- Words of a claim's machine side, laid by the kit's print and taken here as far as this claim names them; or this session's own. -/
/- Rows of structs that are put together in place: small lemmas for functions that are told by hand. -/
import Derived.Test.YtodifojhegbjaaaDoorMpHelp
import Derived.Test.YtodifojhegbjaaaDoorWNEv
import Derived.Test.YtodifojhegbjaaaDoorWZeros
import Derived.Deep.DeepAppendRoom
import Derived.Laws.CopyRow
import Derived.Laws.CopyOwn
namespace Go.Proofs.YtodifojhegbjaaaDoorMpRows
open Go.RowKit Go.Proofs.YtodifojhegbjaaaDoorW.PrintWords
set_option linter.unusedVariables false
section
variable {P : Program}
end
section
variable {P : Program} {ops : Array Oper} {rest : List Oper} {o : Oper} {a : Act} {Q : Exit → Act → World → Prop} {α : Type}
theorem wpList_append_run {w : World} (hgd : o.guard = none) (s x : Operand) (t t' : TypeId) (ho : o.op = .call { callee := .builtin .append, args := #[s, x], argTypes := #[t, t'] }) (v u : Value) (hs : a.eval s = v) (hx : a.eval x = u) {v' : Value} {w' : World}
    (hr : (Builtin.append_ #[t, t'] o.type #[v, u]).run P w = .ok v' w') (h : wpList P ops Q rest (a.put o.dst v') w') : wpList P ops Q (o :: rest) a w :=
  wpList_plain hgd fun K hK => by
    unfold Oper.wp execOp
    simp only [ho, resolve, invoke, builtin, Sem.run_bind, Sem.run_pure, Result.andThen_ok, List.map_toArray, List.map_cons, List.map_nil, hs, hx, hr]
    exact hK _ _ h
theorem N_append_spare (d : Kd α) {w0 W : World} (base : Nat) (hgd : o.guard = none) (s x : Operand) (t e : TypeId) (i0 : TypeInfo)
    (ho : o.op = .call { callee := .builtin .append, args := #[s, x], argTypes := #[t, t] })
    (ht : P.underlying t = some (.slice e)) (hi : P.info? e = some i0) (hsz : i0.size = d.sz) (hs0 : 0 < d.sz)
    (g n cap : Nat) (xs : List α) (p : α) (cs : List Value) (ok okp : Nat → Prop) (hs : a.eval s = .slice (some ⟨g, 0, none⟩) n cap) (hx : a.eval x = .slice (some ⟨W.heap.size, 0, none⟩) 1 1) (hp : Kd.FK d W okp p cs) (hokp : ∀ k, okp k → ok k ∧ k ≠ g)
    (HO : Kd.N d e W base ok (.slice (some ⟨g, 0, none⟩) n cap) xs) (HB : Below base w0 W) (hbase : base ≤ g) (hfr : ∀ k, W.heap.size ≤ k → ok k) (hroom : n + 1 ≤ cap)
    (h : ∀ w1, Kd.N d e w1 base ok (.slice (some ⟨g, 0, none⟩) (n + 1) cap) (xs ++ [p]) → Below base w0 w1 → W.grownBy w1 (some g) → wpList P ops Q rest (a.put o.dst (.slice (some ⟨g, 0, none⟩) (n + 1) cap)) w1) :
    wpList P ops Q (o :: rest) a (W.alloc (.cells cs.toArray e)) := by
  obtain ⟨h0, rows, hlr, hR, hf⟩ := HO
  obtain ⟨_, inner, hown, hr⟩ := hR
  have hn : n = rows.length := by
    rcases hown.2 with ⟨hv, _⟩ | ⟨g', cap', cur, hv, _⟩
    · cases hv
    · injection hv
  have hlen : cs.length = d.sz := d.K_len (Kd.FK_now hp)
  have h1 : ∀ u ∈ cs, u.oneCell' = true := d.K_one (Kd.FK_now hp)
  have hg0 : ∀ k, (Value.slice (some ⟨g, 0, none⟩) n cap).ownBlock = some k → g = k := fun k hk => by simpa [Value.ownBlock] using hk
  subst hn
  refine Go.wpList_append_own_spare (W.alloc (.cells cs.toArray e)) hgd s x t ho base e i0 d.sz ht hi hsz g rows.length cap inner hs (hown.alloc _) ⟨W.heap.size, 0, none⟩ 1 1 cs hx (by rw [hlen]; simp)
    (by simpa using World.news_of_block (cs := cs.toArray) (t := e) (fr := (0, 0)) (heap_alloc_new W (.cells cs.toArray e))) h1 hroom ?_
  intro w1 hown1 hg1
  have hg2 : W.grownBy w1 (some g) := World.grownBy.trans (World.grownBy_alloc W _ _) hg1
  have hrow : (Kd.raw d.sz).R e w1 base (fun _ => True) (.slice (some ⟨g, 0, none⟩) (rows.length + 1) cap) (rows ++ [cs]) :=
    Kd.R_appended (W := W) (v := .slice (some ⟨g, 0, none⟩) rows.length cap) (p := cs) (okp := fun _ => False) (fun _ _ => trivial) (hr.imp_ (fun _ _ hp => hp)) ⟨rfl, hlen, h1⟩ (fun _ hk => hk.elim) (fun _ _ => trivial) hown1 hg2 (.inl rfl)
  refine h w1 ?_ ((HB.alloc (Nat.le_trans hbase (Nat.le_of_lt (Kd.N_lt ⟨h0, rows, hlr, ⟨fun k hk => hk.symm, inner, hown, hr⟩, hf⟩ g rfl))) _).grown hg1 (by have := Kd.N_lt ⟨h0, rows, hlr, ⟨fun k hk => hk.symm, inner, hown, hr⟩, hf⟩ g rfl; simp; omega) (fun k hk => by injection hk with hk; omega)) hg2
  exact Kd.N_appended (W := W) (v := .slice (some ⟨g, 0, none⟩) rows.length cap) (ys := [p]) (news := [cs]) (okp := okp) h0 hlr hf rfl (fun j y c hy hc => by
    rcases j with _ | j
    · simp only [List.getElem?_cons_zero, Option.some.injEq] at hy hc
      rw [← hy, ← hc]; exact hp
    · simp at hy) (fun k hk => ⟨(hokp k hk).1, fun he => (hokp k hk).2 (by injection he)⟩) hfr hrow hg2 (.inl rfl)
end
section
variable {α : Type}
end
section
variable {P : Program}
end
section
variable {P : Program} {ops : Array Oper} {rest : List Oper} {o : Oper} {a : Act} {Q : Exit → Act → World → Prop}
end
section
variable {α : Type}
end
section
variable {P : Program} {ops : Array Oper} {rest : List Oper} {o : Oper} {a : Act} {Q : Exit → Act → World → Prop} {α : Type}
theorem N_append_keep (d : Kd α) {w0 W : World} (base : Nat) (hgd : o.guard = none) (s x : Operand) (t e : TypeId) (z : Value) (bytes : Nat)
    (ho : o.op = .call { callee := .builtin .append, args := #[s, x], argTypes := #[t, t] })
    (ht : P.underlying t = some (.slice e)) (hinfo : (P.info? e).map (fun i => (i.zero, i.size, i.bytes)) = some (some z, d.sz, bytes)) (hz : z.cells.size = d.sz) (hs0 : 0 < d.sz) (hb0 : 0 < bytes)
    (v : Value) (xs : List α) (p : α) (cs : List Value) (ok okp : Nat → Prop) (hs : a.eval s = v) (hx : a.eval x = .slice (some ⟨W.heap.size, 0, none⟩) 1 1) (hp : Kd.FK d W okp p cs) (hokp : ∀ k, okp k → ok k ∧ some k ≠ v.ownBlock) (hfresh : ∀ k, W.heap.size ≤ k → ok k)
    (HO : Kd.N d e W base ok v xs) (HB : Below base w0 W) (hbase : base ≤ W.heap.size) (hl : (xs.length + 1) * bytes ≤ 140737488355328)
    (h : ∀ v1 w1, Kd.N d e w1 base ok v1 (xs ++ [p]) → Kd.N d e w1 base ok v xs → Below base w0 w1 → W.grownBy w1 v.ownBlock → (v1.ownBlock = v.ownBlock ∨ ∃ b, v1.ownBlock = some b ∧ W.heap.size ≤ b) → wpList P ops Q rest (a.put o.dst v1) w1) :
    wpList P ops Q (o :: rest) a (W.alloc (.cells cs.toArray e)) := by
  have HO2 := HO
  obtain ⟨h0, rows, hlr, hR, hf⟩ := HO
  obtain ⟨_, inner, hown, hr⟩ := hR
  cases hq : P.info? e with
  | none => simp [hq] at hinfo
  | some i =>
  have hi : i.zero = some z ∧ i.size = d.sz ∧ i.bytes = bytes := by simpa [hq] using hinfo
  rcases hown.2 with ⟨rfl, hn0⟩ | ⟨g, cap, cur, rfl, hbg, hg, hnc, hcm, hcs, htake⟩
  · have hxs : xs = [] := List.eq_nil_of_length_eq_zero (by omega)
    subst hxs
    exact Kd.N_append d base hgd s x t e z bytes ho ht hinfo hz hs0 hb0 _ _ p cs ok okp hs hx hp hokp hfresh HO2 HB hbase hl fun v1 w1 h1 h2 h3 h4 => h v1 w1 h1 (Kd.N_nil _ _ _ _ _) h2 h3 h4
  · by_cases hroom : rows.length + 1 ≤ cap
    · refine N_append_spare d base hgd s x t e i ho ht hq hi.2.1 hs0 g rows.length cap xs p cs ok okp hs hx hp (fun k hk => ⟨(hokp k hk).1, fun he => (hokp k hk).2 (by rw [he]; rfl)⟩) HO2 HB hbg hfresh hroom ?_
      intro w1 h1 h2 h3
      refine h _ w1 h1 ?_ h2 h3 (.inl rfl)
      have h4 := Kd.N_take (m := rows.length) h1 (by rw [List.length_append]; omega)
      rw [hlr, List.take_left' rfl, ← hlr] at h4
      exact h4
    · have hlen : cs.length = d.sz := d.K_len (Kd.FK_now hp)
      have h1 : ∀ u ∈ cs, u.oneCell' = true := d.K_one (Kd.FK_now hp)
      have hown2 := hown.alloc (Obj.cells cs.toArray e)
      have hnews : ∀ j u, cs[j]? = some u → (W.alloc (.cells cs.toArray e)).cell? ((⟨W.heap.size, 0, none⟩ : Addr).add j) = some u := by
        simpa using World.news_of_block (cs := cs.toArray) (t := e) (fr := (0, 0)) (heap_alloc_new W (.cells cs.toArray e))
      have holds : ∀ j u, inner[j]? = some u → (W.alloc (.cells cs.toArray e)).cell? ((⟨g, 0, none⟩ : Addr).add j) = some u := hown2.cells (g := g) rfl
      have hl2 : (rows.length + 1) * bytes ≤ 140737488355328 := by rw [hlr]; exact hl
      have hle : rows.length + 1 ≤ 140737488355328 := Nat.le_trans (Nat.le_mul_of_pos_right _ hb0) hl2
      have h63 : rows.length + 1 ≤ maxLen := by simp only [maxLen]; omega
      obtain ⟨v', w', hr1, hown', hgb, _⟩ := run_append_own (P := P) (W.alloc (.cells cs.toArray e)) base t o.type e i z d.sz bytes ht hq hi.1 hi.2.1 hi.2.2 hz hs0 _ rows.length inner hown2 ⟨W.heap.size, 0, none⟩ 1 1 cs (by rw [hlen]; simp) hnews h1 h63 hl2 (Nat.le_trans hbase (by simp))
      have hr2 := run_append_grow (P := P) (W.alloc (.cells cs.toArray e)) t o.type e i z ht hq hi.1 ⟨g, 0, none⟩ rows.length cap inner (by rw [hi.2.1]; exact hown.1) holds ⟨W.heap.size, 0, none⟩ 1 1 cs (by rw [hi.2.1, hlen]; simp) hnews (by omega) (by omega) (by rw [hi.2.2]; exact growslice_fits (by omega) hl2)
      rw [hr2] at hr1
      injection hr1 with e1 e2
      subst e1 e2
      refine wpList_append_run hgd s x t t ho _ _ hs hx hr2 ?_
      have hB : Below W.heap.size W ((W.alloc (.cells cs.toArray e)).drew.alloc (.cells (inner.toArray ++ cs.toArray ++ Builtin.zeroCells z.cells (grownCap (W.alloc (.cells cs.toArray e)) (rows.length + 1) cap e - (rows.length + 1))) e)) := below_alloc (below_drew (below_alloc (Below.refl _ _) _)) _
      have hG : W.grownBy ((W.alloc (.cells cs.toArray e)).drew.alloc (.cells (inner.toArray ++ cs.toArray ++ Builtin.zeroCells z.cells (grownCap (W.alloc (.cells cs.toArray e)) (rows.length + 1) cap e - (rows.length + 1))) e)) (Value.slice (some ⟨g, 0, none⟩) rows.length cap).ownBlock := World.grownBy.trans (World.grownBy_alloc W _ _) hgb
      have hat : (Value.slice (some ⟨(W.alloc (.cells cs.toArray e)).heap.size, 0, none⟩) (rows.length + 1) (grownCap (W.alloc (.cells cs.toArray e)) (rows.length + 1) cap e)).ownBlock = (Value.slice (some ⟨g, 0, none⟩) rows.length cap).ownBlock ∨ ∃ b, (Value.slice (some ⟨(W.alloc (.cells cs.toArray e)).heap.size, 0, none⟩) (rows.length + 1) (grownCap (W.alloc (.cells cs.toArray e)) (rows.length + 1) cap e)).ownBlock = some b ∧ W.heap.size ≤ b := .inr ⟨_, rfl, by simp⟩
      refine h _ _ ?_ (Kd.N_below HO2 hB) (HB.trans (hB.mono hbase)) hG hat
      have hrow := Kd.R_appended (d := Kd.raw d.sz) (ok := fun _ => True) (W := W) (v := .slice (some ⟨g, 0, none⟩) rows.length cap) (p := cs) (okp := fun _ => False) (fun _ _ => trivial) (hr.imp_ (fun _ _ hp => hp)) ⟨rfl, hlen, h1⟩ (fun _ hk => hk.elim) (fun _ _ => trivial) hown' hG hat
      exact Kd.N_appended (W := W) (ys := [p]) (news := [cs]) (okp := okp) h0 hlr hf rfl (fun j y c hy hc => by
        rcases j with _ | j
        · simp only [List.getElem?_cons_zero, Option.some.injEq] at hy hc
          rw [← hy, ← hc]; exact hp
        · simp at hy) hokp hfresh hrow hG hat
end
end Go.Proofs.YtodifojhegbjaaaDoorMpRows
