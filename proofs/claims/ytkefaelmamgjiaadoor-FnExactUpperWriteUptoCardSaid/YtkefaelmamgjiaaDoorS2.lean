/- spec: l1Parts, l1Count, TreeOk, l2Within, l11Same, l11Less, l2PathOk, l3Path. -/
import Derived.Test.YtkefaelmamgjiaaDoorS1
set_option linter.unusedVariables false
set_option linter.unusedSimpArgs false
set_option maxHeartbeats 1000000
namespace Go.Proofs.YtkefaelmamgjiaaDoor
open Go.RowKit

mutual
def Tr.partsOk : Tr → Nat → Bool
  | .mk d m s ns ks, dep => (Tr.mk d m s ns ks).plainOk && decide (dep ≤ 4) && Tr.partsOks ks (dep + 1)
def Tr.partsOks : List Tr → Nat → Bool
  | [], _ => true
  | t :: ts, dep => t.partsOk dep && Tr.partsOks ts dep
end
theorem Tr.partsOk_eq (t : Tr) (dep : Nat) : t.partsOk dep = (t.plainOk && decide (dep ≤ 4) && Tr.partsOks t.kids (dep + 1)) := by cases t; simp only [Tr.partsOk, Tr.kids]
theorem partsOks_drop {ts : List Tr} {k : Nat} (h : k < ts.length) (dep : Nat) : Tr.partsOks (ts.drop k) dep = (ts[k].partsOk dep && Tr.partsOks (ts.drop (k + 1)) dep) := by
  rw [List.drop_eq_getElem_cons h, Tr.partsOks]
mutual
/-- How many parts there are below. -/
def Tr.count : Tr → Nat
  | .mk _ _ _ _ ks => ks.length + Tr.counts ks
def Tr.counts : List Tr → Nat
  | [] => 0
  | t :: ts => t.count + Tr.counts ts
end
theorem Tr.count_eq (t : Tr) : t.count = t.kids.length + Tr.counts t.kids := by cases t; simp only [Tr.count, Tr.kids]
mutual
theorem Tr.count_wt : ∀ t : Tr, t.count + 1 ≤ t.wt
  | .mk d m s ns ks => by have := Tr.counts_wt ks; simp only [Tr.count, Tr.wt]; omega
theorem Tr.counts_wt : ∀ ts : List Tr, Tr.counts ts + ts.length ≤ Tr.wts ts
  | [] => by simp [Tr.counts, Tr.wts]
  | t :: ts => by have := Tr.count_wt t; have := Tr.counts_wt ts; simp only [Tr.counts, Tr.wts, List.length_cons]; omega
end
theorem counts_drop {ts : List Tr} {k : Nat} (h : k < ts.length) : Tr.counts (ts.drop k) = ts[k].count + Tr.counts (ts.drop (k + 1)) := by
  rw [List.drop_eq_getElem_cons h, Tr.counts]
def Tr.ok (t : Tr) : Bool := t.dir && t.partsOk 0 && decide (t.count ≤ 30)
end Go.Proofs.YtkefaelmamgjiaaDoor
