/-
  NARROWER THAN 'FOR EVERY INPUT', by the rows' own cells (each row's printed sentence says how): FnExactLayerApply: loops · FnExactTreeDo: loops.
  DERIVED. THE GIVEN ROWS OF THIS SEAT. 6 by the template 'for every input the law returns true; each argument reads behind the call as it read before'; 0 by the template 'total and deterministic' (their statements: YtkefaelmamgjiaaTotals.lean).
  GIVEN WITH THE SEED: the statements are not yours to turn. If you find one false, say at which input.
  Laid BY PROGRAM, IN A SANDBOX (cutbox-rows.mjs): the forced cells as the released guide's own fill.sh prints them over the translation 6da87aec606e0098… (all of the seat's roots in one cut). By AI agents, Wed Nov 11 2026. No macro, syntax, notation, axiom, sorry.
-/
import Derived.Test.YtkefaelmamgjiaaChecked
import GoSem.Claim
import GoSem.ClaimJoined
import GoSem.ClaimMapViews
import Derived.JoinedTies
import Derived.KernelRfl
namespace Go.Proofs.Ytkefaelmamgjiaa
/- THE CELL 'sum', in the pinned program and in every row, IS THE sha256 OF THE DUMP (.gsa) THAT YtkefaelmamgjiaaProg.lean LOADS. Nothing in Lean hashes anything: it is a label: what it is worth is what the hold of that sum in a sandbox is worth. -/
noncomputable def Try.pinned : Pinned := { name := "ytkefaelmamgjiaa", sum := "6da87aec606e0098afb179f0f7a99eefa882777ff56065556ae8d2eb31d68652", checked := Try.checked }
namespace Rows
def none {H : Type} : Left H := { results := [], args := [] }

/-- 'laws.FnNodesStart': WHATEVER THE INPUT: true; the input reads as it did. -/
def fnNodesStartSpec : ChangeSpec := { name := "fnNodesStart", fn := fun _ => fun
  | [d] => { results := [.lit (.bool true)], args := [d] }
  | _ => none }
def fnNodesStartRow : OpenClaim := { program := "ytkefaelmamgjiaa", sum := "6da87aec606e0098afb179f0f7a99eefa882777ff56065556ae8d2eb31d68652", func := "loop.example/changetrail/laws.FnNodesStart", spec := "fnNodesStart", unfollowed := true, recurses := true, apart := false }
def FnNodesStartSaid : Prop := fnNodesStartRow.holds Try.pinned (OpenSpec.ofChange fnNodesStartSpec)

/-- ITS FALSE NEIGHBOUR: 'it returns false'. Refute it at one input. -/
def fnNodesStartWrong : ChangeSpec := { name := "fnNodesStart", fn := fun _ => fun
  | [d] => { results := [.lit (.bool false)], args := [d] }
  | _ => none }
def FnNodesStartWrongFalsely : Prop := fnNodesStartRow.holds Try.pinned (OpenSpec.ofChange fnNodesStartWrong)

/-- 'laws.FnNodesBoth': WHATEVER THE INPUT: true; the input reads as it did. -/
def fnNodesBothSpec : ChangeSpec := { name := "fnNodesBoth", fn := fun _ => fun
  | [d1, d2] => { results := [.lit (.bool true)], args := [d1, d2] }
  | _ => none }
def fnNodesBothRow : OpenClaim := { program := "ytkefaelmamgjiaa", sum := "6da87aec606e0098afb179f0f7a99eefa882777ff56065556ae8d2eb31d68652", func := "loop.example/changetrail/laws.FnNodesBoth", spec := "fnNodesBoth", recurses := true, apart := false }
def FnNodesBothSaid : Prop := fnNodesBothRow.holds Try.pinned (OpenSpec.ofChange fnNodesBothSpec)

/-- ITS FALSE NEIGHBOUR: 'it returns false'. Refute it at one input. -/
def fnNodesBothWrong : ChangeSpec := { name := "fnNodesBoth", fn := fun _ => fun
  | [d1, d2] => { results := [.lit (.bool false)], args := [d1, d2] }
  | _ => none }
def FnNodesBothWrongFalsely : Prop := fnNodesBothRow.holds Try.pinned (OpenSpec.ofChange fnNodesBothWrong)

/-- 'laws.FnExactLayerApply': WHATEVER THE INPUT: true; the input reads as it did. -/
def fnExactLayerApplySpec : ChangeSpec := { name := "fnExactLayerApply", fn := fun _ => fun
  | [d1, d2] => { results := [.lit (.bool true)], args := [d1, d2] }
  | _ => none }
def fnExactLayerApplyRow : OpenClaim := { program := "ytkefaelmamgjiaa", sum := "6da87aec606e0098afb179f0f7a99eefa882777ff56065556ae8d2eb31d68652", func := "loop.example/changetrail/laws.FnExactLayerApply", spec := "fnExactLayerApply", inPlace := ["slices.overlaps[string]", "slices.overlaps[loop.example/changetrail/impl.Tree]"], recurses := true, loops := true, apart := false }
def FnExactLayerApplySaid : Prop := fnExactLayerApplyRow.holds Try.pinned (OpenSpec.ofChange fnExactLayerApplySpec)

/-- ITS FALSE NEIGHBOUR: 'it returns false'. Refute it at one input. -/
def fnExactLayerApplyWrong : ChangeSpec := { name := "fnExactLayerApply", fn := fun _ => fun
  | [d1, d2] => { results := [.lit (.bool false)], args := [d1, d2] }
  | _ => none }
def FnExactLayerApplyWrongFalsely : Prop := fnExactLayerApplyRow.holds Try.pinned (OpenSpec.ofChange fnExactLayerApplyWrong)

/-- 'laws.FnCallTwo': WHATEVER THE INPUT: true; the input reads as it did. -/
def fnCallTwoSpec : ChangeSpec := { name := "fnCallTwo", fn := fun _ => fun
  | [d] => { results := [.lit (.bool true)], args := [d] }
  | _ => none }
def fnCallTwoRow : OpenClaim := { program := "ytkefaelmamgjiaa", sum := "6da87aec606e0098afb179f0f7a99eefa882777ff56065556ae8d2eb31d68652", func := "loop.example/changetrail/laws.FnCallTwo", spec := "fnCallTwo", inPlace := ["slices.overlaps[string]", "slices.overlaps[loop.example/changetrail/impl.Tree]"], recurses := true, apart := false }
def FnCallTwoSaid : Prop := fnCallTwoRow.holds Try.pinned (OpenSpec.ofChange fnCallTwoSpec)

/-- ITS FALSE NEIGHBOUR: 'it returns false'. Refute it at one input. -/
def fnCallTwoWrong : ChangeSpec := { name := "fnCallTwo", fn := fun _ => fun
  | [d] => { results := [.lit (.bool false)], args := [d] }
  | _ => none }
def FnCallTwoWrongFalsely : Prop := fnCallTwoRow.holds Try.pinned (OpenSpec.ofChange fnCallTwoWrong)

/-- 'laws.FnCallOnly': WHATEVER THE INPUT: true; the input reads as it did. -/
def fnCallOnlySpec : ChangeSpec := { name := "fnCallOnly", fn := fun _ => fun
  | [d] => { results := [.lit (.bool true)], args := [d] }
  | _ => none }
def fnCallOnlyRow : OpenClaim := { program := "ytkefaelmamgjiaa", sum := "6da87aec606e0098afb179f0f7a99eefa882777ff56065556ae8d2eb31d68652", func := "loop.example/changetrail/laws.FnCallOnly", spec := "fnCallOnly", inPlace := ["slices.overlaps[string]", "slices.overlaps[loop.example/changetrail/impl.Tree]"], recurses := true, apart := false }
def FnCallOnlySaid : Prop := fnCallOnlyRow.holds Try.pinned (OpenSpec.ofChange fnCallOnlySpec)

/-- ITS FALSE NEIGHBOUR: 'it returns false'. Refute it at one input. -/
def fnCallOnlyWrong : ChangeSpec := { name := "fnCallOnly", fn := fun _ => fun
  | [d] => { results := [.lit (.bool false)], args := [d] }
  | _ => none }
def FnCallOnlyWrongFalsely : Prop := fnCallOnlyRow.holds Try.pinned (OpenSpec.ofChange fnCallOnlyWrong)

/-- 'laws.FnExactTreeDo': WHATEVER THE INPUT: true; the input reads as it did. -/
def fnExactTreeDoSpec : ChangeSpec := { name := "fnExactTreeDo", fn := fun _ => fun
  | [d1, d2] => { results := [.lit (.bool true)], args := [d1, d2] }
  | _ => none }
def fnExactTreeDoRow : OpenClaim := { program := "ytkefaelmamgjiaa", sum := "6da87aec606e0098afb179f0f7a99eefa882777ff56065556ae8d2eb31d68652", func := "loop.example/changetrail/laws.FnExactTreeDo", spec := "fnExactTreeDo", inPlace := ["slices.overlaps[string]", "slices.overlaps[loop.example/changetrail/impl.Tree]"], recurses := true, loops := true, apart := false }
def FnExactTreeDoSaid : Prop := fnExactTreeDoRow.holds Try.pinned (OpenSpec.ofChange fnExactTreeDoSpec)

/-- ITS FALSE NEIGHBOUR: 'it returns false'. Refute it at one input. -/
def fnExactTreeDoWrong : ChangeSpec := { name := "fnExactTreeDo", fn := fun _ => fun
  | [d1, d2] => { results := [.lit (.bool false)], args := [d1, d2] }
  | _ => none }
def FnExactTreeDoWrongFalsely : Prop := fnExactTreeDoRow.holds Try.pinned (OpenSpec.ofChange fnExactTreeDoWrong)

/- THE SECOND FORM. 'bulk': how many values and letters a reading holds, each counted each time it is reached (what is shared counts as often as it is met; a slice's spare places count too). A statement '..UptoSaid' is the law's where the arguments, and the package variables that the reading takes, are together of bulk at most 1048576: NARROWER than '..Said'. Prove '..Said' where nothing that the law and all that it calls make is longer than what came in: it says more and counts as full. Else prove '..UptoSaid'. A law counts once. -/
mutual
def uptoBulk {H : Type} : DataW H → Nat
  | .lit (.string bytes) => bytes.length + 1
  | .lit _ => 1
  | .nil => 1
  | .ptr d => uptoBulk d + 1
  | .slice elems spare => uptoBulkAll elems + uptoBulkAll spare + 1
  | .agg parts => uptoBulkAll parts + 1
  | .iface _ d => uptoBulk d + 1
  | .map entries => uptoBulkEntries entries + 1
  | .held _ => 1
def uptoBulkAll {H : Type} : List (DataW H) → Nat
  | [] => 0
  | d :: r => uptoBulk d + uptoBulkAll r
def uptoBulkEntries {H : Type} : List (Lit × DataW H) → Nat
  | [] => 0
  | x :: r => uptoBulkEntry x + uptoBulkEntries r
def uptoBulkEntry {H : Type} : Lit × DataW H → Nat
  | (.string bytes, d) => bytes.length + uptoBulk d + 1
  | (_, d) => uptoBulk d + 1
 end
def uptoSmall : (H : Type) → List (DataW H) → Bool := fun _ ds => decide (uptoBulkAll ds ≤ 1048576)
def OpenSpec.upto (s : _root_.Go.ChangeSpec) : _root_.Go.OpenSpec := { _root_.Go.OpenSpec.ofChange s with cond := some uptoSmall }

/-- 'laws.FnNodesStart', WHERE WHAT IT READS IS OF BULK AT MOST 1048576: true; the input reads as it did. -/
def fnNodesStartUptoRow : OpenClaim := { program := "ytkefaelmamgjiaa", sum := "6da87aec606e0098afb179f0f7a99eefa882777ff56065556ae8d2eb31d68652", func := "loop.example/changetrail/laws.FnNodesStart", spec := "fnNodesStart", unfollowed := true, recurses := true, apart := false, narrowed := true }
def FnNodesStartUptoSaid : Prop := fnNodesStartUptoRow.holds Try.pinned (OpenSpec.upto fnNodesStartSpec)

/-- 'laws.FnNodesBoth', WHERE WHAT IT READS IS OF BULK AT MOST 1048576: true; the input reads as it did. -/
def fnNodesBothUptoRow : OpenClaim := { program := "ytkefaelmamgjiaa", sum := "6da87aec606e0098afb179f0f7a99eefa882777ff56065556ae8d2eb31d68652", func := "loop.example/changetrail/laws.FnNodesBoth", spec := "fnNodesBoth", recurses := true, apart := false, narrowed := true }
def FnNodesBothUptoSaid : Prop := fnNodesBothUptoRow.holds Try.pinned (OpenSpec.upto fnNodesBothSpec)

/-- 'laws.FnExactLayerApply', WHERE WHAT IT READS IS OF BULK AT MOST 1048576: true; the input reads as it did. -/
def fnExactLayerApplyUptoRow : OpenClaim := { program := "ytkefaelmamgjiaa", sum := "6da87aec606e0098afb179f0f7a99eefa882777ff56065556ae8d2eb31d68652", func := "loop.example/changetrail/laws.FnExactLayerApply", spec := "fnExactLayerApply", inPlace := ["slices.overlaps[string]", "slices.overlaps[loop.example/changetrail/impl.Tree]"], recurses := true, loops := true, apart := false, narrowed := true }
def FnExactLayerApplyUptoSaid : Prop := fnExactLayerApplyUptoRow.holds Try.pinned (OpenSpec.upto fnExactLayerApplySpec)

/-- 'laws.FnCallTwo', WHERE WHAT IT READS IS OF BULK AT MOST 1048576: true; the input reads as it did. -/
def fnCallTwoUptoRow : OpenClaim := { program := "ytkefaelmamgjiaa", sum := "6da87aec606e0098afb179f0f7a99eefa882777ff56065556ae8d2eb31d68652", func := "loop.example/changetrail/laws.FnCallTwo", spec := "fnCallTwo", inPlace := ["slices.overlaps[string]", "slices.overlaps[loop.example/changetrail/impl.Tree]"], recurses := true, apart := false, narrowed := true }
def FnCallTwoUptoSaid : Prop := fnCallTwoUptoRow.holds Try.pinned (OpenSpec.upto fnCallTwoSpec)

/-- 'laws.FnCallOnly', WHERE WHAT IT READS IS OF BULK AT MOST 1048576: true; the input reads as it did. -/
def fnCallOnlyUptoRow : OpenClaim := { program := "ytkefaelmamgjiaa", sum := "6da87aec606e0098afb179f0f7a99eefa882777ff56065556ae8d2eb31d68652", func := "loop.example/changetrail/laws.FnCallOnly", spec := "fnCallOnly", inPlace := ["slices.overlaps[string]", "slices.overlaps[loop.example/changetrail/impl.Tree]"], recurses := true, apart := false, narrowed := true }
def FnCallOnlyUptoSaid : Prop := fnCallOnlyUptoRow.holds Try.pinned (OpenSpec.upto fnCallOnlySpec)

/-- 'laws.FnExactTreeDo', WHERE WHAT IT READS IS OF BULK AT MOST 1048576: true; the input reads as it did. -/
def fnExactTreeDoUptoRow : OpenClaim := { program := "ytkefaelmamgjiaa", sum := "6da87aec606e0098afb179f0f7a99eefa882777ff56065556ae8d2eb31d68652", func := "loop.example/changetrail/laws.FnExactTreeDo", spec := "fnExactTreeDo", inPlace := ["slices.overlaps[string]", "slices.overlaps[loop.example/changetrail/impl.Tree]"], recurses := true, loops := true, apart := false, narrowed := true }
def FnExactTreeDoUptoSaid : Prop := fnExactTreeDoUptoRow.holds Try.pinned (OpenSpec.upto fnExactTreeDoSpec)

end Rows
end Go.Proofs.Ytkefaelmamgjiaa
