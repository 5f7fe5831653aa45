/- The table of powers of ten lies in the world: what strconv.Itoa asks. -/
import Derived.Lib.SmallJoins
import Derived.Lib.LaidTab
import Derived.Lib.ItoaNum
import Derived.LaidSub
import Derived.MakeChecks
import Derived.Sort.Grow
import Derived.WalkKit
import Derived.Test.YtkccjohhakljnaaGreatDoorProg
namespace Go.Proofs.YtkccjohhakljnaaGreatDoorTab
open Go.RowKit Go.Proofs
def TabOK (w : World) : Prop := Lib.TabIs Tryz.prog w "internal/strconv.uint64pow10" .u64 Lib.pow10Tab
theorem tab_below {w w' : World} (h : TabOK w) (hb : Below w.heap.size w w') : TabOK w' := by
  unfold TabOK at h ⊢
  cases hg : Tryz.prog.globalNamed "internal/strconv.uint64pow10" with
  | none =>
    unfold Lib.TabIs World.var? at h
    rw [hg] at h
    simp at h
  | some g => exact Go.Joins.tab_stays hg h hb (Nat.le_refl _)
theorem grow_below (w : World) (q : Nat) (os : Array Obj) : Below w.heap.size w (Go.Sort.grow (w.drewN q) os) := by
  have hg : w.grownBy (Go.Sort.grow (w.drewN q) os) none := by
    refine ⟨rfl, rfl, rfl, by simp [Go.Sort.grow], fun k hk _ => ?_⟩
    rw [Go.Sort.heap_grow_old _ _ (by simpa using hk)]
    rfl
  exact (Below.refl _ w).grown hg (Nat.le_refl _) (fun j hj => by cases hj)
theorem tab_of_laid {l : List (String × DataW Unit)} {w : World} (h : laidMetH Tryz.prog l w) (hl : (l.filter fun x => x.1 == "internal/strconv.uint64pow10") = [("internal/strconv.uint64pow10", Lib.tabData .u64 Lib.pow10Tab)]) : TabOK w := by
  have h2 := laidMetH.filter (fun x => x.1 == "internal/strconv.uint64pow10") h
  rw [hl, MakeChecks.laidMetH_plain _ _ _ (by kernel_rfl)] at h2
  exact Lib.tabIs_of_head (g := 1) (t := 112) (e := 99) (n := 20) (by kernel_rfl) (by kernel_rfl) Tryz.underlying112 Tryz.underlying99 (by kernel_rfl) (by kernel_rfl) h2
end Go.Proofs.YtkccjohhakljnaaGreatDoorTab
