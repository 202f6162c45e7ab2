/- The shapes of this program's types, and data that a call makes for itself. -/
import Derived.Test.YtkefaelmamgjiaaDoorDat
import Derived.Test.YtkefaelmamgjiaaDoorTys
import Derived.Test.YtkefaelmamgjiaaDoorChecked
set_option linter.unusedVariables false
namespace Go.Proofs.YtkefaelmamgjiaaDoor
open Go.RowKit
def treeSh : Sh := .st [.leaf, .leaf, .leaf, .sl 9, .sl 46]
def entrySh : Sh := .st [.sl 9, .leaf, .leaf, .leaf, .leaf]
def upperSh : Sh := .st [.sl 37, .sl 40]
def callSh : Sh := .st [.leaf, .sl 9, .sl 9, .leaf, .leaf]
def nodeSh : Sh := .st [.leaf, .sl 9]
def shE (t : TypeId) : Sh :=
  bif Nat.beq t 9 then .leaf else bif Nat.beq t 5 then .leaf else bif Nat.beq t 3 then .leaf else bif Nat.beq t 37 then .sl 9 else
  bif Nat.beq t 46 then treeSh else bif Nat.beq t 40 then entrySh else bif Nat.beq t 99999 then nodeSh else .leaf
/-- What a call made, nobody else's. -/
def Own (w0 w : World) (d : D) (sh : Sh) (cs : List Value) : Prop := ∃ fp, Ow shE w d sh cs fp ∧ fp.Nodup ∧ ∀ b ∈ fp, w0.heap.size ≤ b
theorem Own.rd {w0 w : World} {d : D} {sh : Sh} {cs : List Value} (h : Own w0 w d sh cs) : Rd (fun b => w0.heap.size ≤ b) w d cs := by
  obtain ⟨fp, h1, _, h3⟩ := h
  exact Ow.rd _ _ _ _ h1 h3
section
variable {ok : Nat → Prop} {C : List It} {F : List Fa} {w0 w : World} {d : D} {sh : Sh} {cs : List Value}
/-- A call came back with data of its own making: it is read. -/
theorem St.retRd {W0 : Start} (s : St ok W0 C F w) {w' : World} (hb : Below w.heap.size w w') (h : Own w w' d sh cs) : St ok W0 C (.dat cs d :: F) w' :=
  s.ret hb (Rd.keep (Keeps.refl _ _) (fun b _ hb => .inr hb) _ _ h.rd)
/-- At the end. -/
theorem St.tellOw {fp : List Nat} (s : St ok (w0 : Start) C F w) {i : Nat} (hi : C[i]? = some (OwI shE d sh cs fp)) : Own w0 w d sh cs := by
  obtain ⟨h1, h2, h3⟩ := s.ow hi
  exact ⟨fp, h1, h2, fun b hb => (h3 b hb).elim (fun h => (List.not_mem_nil h).elim) id⟩
end
end Go.Proofs.YtkefaelmamgjiaaDoor
