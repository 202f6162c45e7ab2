/-
  laws.FnNodesBoth answers true, and its arguments read as they did, whatever the two codes: where an id is, that path has this id; and the other way round.
  Condition: none.
-/
import Derived.Test.YtkefaelmamgjiaaN11
import Derived.Test.YtkefaelmamgjiaaOp
import Derived.Test.YtkefaelmamgjiaaRows
import Derived.WalkKit
import Derived.ProofKit
import Derived.OpenShut
import Derived.JoinedCond
set_option linter.unusedVariables false
namespace Go.Proofs.Ytkefaelmamgjiaa
open Go.ChangeShapes Go.WideShapes Go.ChangeAt Go.RowKit

theorem own : ownKnob Try.prog.godebug = none := by kernel_rfl
theorem laidOut : laidOutB Try.prog = true := by kernel_rfl
theorem mapsRow : mapsRowed Try.prog = true := by kernel_rfl
theorem full : ∀ t e, t < Try.prog.types.size → Try.prog.underlying t = some (.slice e) → 0 < Try.prog.cellsOf e := slices_full_of Try.prog (by kernel_rfl)
theorem okBool {W' : World} (c : Bool) : Value.okWide Try.prog W' .any 0 4 (.bool c) := by
  simp [Value.okWide, Try.underlying4, Cell.okWide, Cell.ok]
theorem Sp_bytes {d : D} (h : Sp Try.prog d 22) : ∃ l, d = .sl (bytesL l) := by
  obtain ⟨ds, rfl, h1⟩ := Sp_sl h Try.underlying22
  obtain ⟨l, rfl⟩ := SpE_map (f := fun b : UInt8 => D.int .u8 (b.toNat : Int)) (fun d hd => by
    obtain ⟨n, rfl, hn⟩ := Sp_int hd Try.underlying5
    have hx : 0 ≤ n ∧ n ≤ 255 := by simpa [Lit.wf, IntKind.min, IntKind.max, IntKind.signed, IntKind.bits] using hn
    refine ⟨UInt8.ofNat n.toNat, ?_⟩
    have : (UInt8.ofNat n.toNat).toNat = n.toNat := by rw [UInt8.toNat_ofNat']; exact Nat.mod_eq_of_lt (by omega)
    rw [this]
    congr 1
    omega) h1
  exact ⟨l, rfl⟩
set_option maxRecDepth 100000 in
/-- What the walk gives, for every argument. -/
theorem contract (H : Type) (enc : TypeId × Value → H) (W : World) (base : Nat) (args : Array Value) (ds gs : List (DataW H)) (before : List MemPlace)
    (hval : ∀ (j : Nat) t v, Try.f4.params[j]? = some t → args[j]? = some v → Value.okWide Try.prog W .any base t v)
    (hW : DataW.Whole enc Try.prog Try.f4.params.toList Rows.fnNodesBothSpec.vars false W args.toList ds gs before) :
    Calls Try.prog 4 args W fun e W' => ∃ v, e = .returned v ∧ Rows.fnNodesBothSpec.post enc Try.prog Try.f4 false true false false W args v W' := by
  have hW' := hW
  have hlt : ∀ p ∈ before, p.block < W.heap.size := fun p hp => hW.lt p hp
  obtain ⟨p, q, hA0, hV, rfl, hfz, hnd⟩ := hW
  have hA : DataW.TrodAll enc Try.prog W 0 (fun _ => true) true Try.f4.params.toList args.toList ds p := hA0
  have hA1 := hA
  rw [Try.params4] at hA hval
  obtain ⟨v0, vs0, d0, ds0, p0, q0, hargs, rfl, rfl, h0, r0⟩ := trodAll_cons hA
  obtain ⟨v1, vs1, d1, ds1, p1, q1, rfl, rfl, rfl, h1, r1⟩ := trodAll_cons r0
  obtain ⟨rfl, rfl, rfl⟩ := trodAll_nil r1
  obtain rfl : args = #[v0, v1] := by cases args; simp_all
  obtain ⟨rfl, rfl⟩ := trodVars_none hV
  simp only [List.append_nil] at hW' hlt hA1
  obtain ⟨d', g1, g2, g3⟩ := trod_Rd (T := [22, 5]) (by kernel_rfl) rfl h0
  obtain ⟨d'', k1, k2, k3⟩ := trod_Rd (T := [22, 5]) (by kernel_rfl) rfl h1
  obtain ⟨l1, rfl⟩ := Sp_bytes g2
  obtain ⟨l2, rfl⟩ := Sp_bytes k2
  have hc : ∀ (v : Value) (l : List UInt8), Value.okWide Try.prog W .any base 22 v → Rd (fun _ => True) W (.sl (bytesL l)) v.cells.toList → v.cells = #[v] := by
    intro v l ho h
    cases v with
    | agg cs => simp [Value.okWide, Try.underlying22, Cell.okWide, Cell.ok] at ho
    | _ => rfl
  have e0 := hc _ _ (hval 0 22 v0 rfl rfl) g1
  have e1 := hc _ _ (hval 1 22 v1 rfl rfl) k1
  rw [e0] at g1
  rw [e1] at k1
  have hcalls := FnNodesBoth_ok (ok := fun _ => True) (w0 := W) g1 k1
  refine hcalls.mono fun e W' hr => ?_
  cases e with
  | panicked c => exact hr.elim
  | outgrown => exact hr.elim
  | returned v =>
    obtain ⟨rfl, hbw⟩ := hr
    refine ⟨_, rfl, post_of_below (pa := p0 ++ p1) (pv := []) hW' (fun _ _ _ => trodAll_cons_mk (shut_bool Try.underlying4 _) trodAll_mk0) (fun sp hsp => ?_) (fun _ _ => rfl) (by simp) hbw (ok_one (by kernel_rfl) rfl (okBool _))⟩
    have hA2 := trodAll_below laidOut mapsRow full hbw (sp := sp) (fun t ht => by
      rw [Try.params4] at ht
      obtain rfl : t = 22 := by simpa using ht
      exact of_decide_eq_true (by kernel_rfl)) hA1 hlt hsp
    exact hA2
set_option maxRecDepth 100000 in
theorem lifted (os : Os) (started : os.Started) (H : Type) (enc : TypeId × Value → H) :
    ReturnsInHanded {} Try.checked os 4 .any (Rows.fnNodesBothSpec.pre6 enc Try.prog Try.f4 Rows.fnNodesBothRow.domain false) (Rows.fnNodesBothSpec.post enc Try.prog Try.f4 false true false false) := by
  refine returnsInHanded_of_change (C := Try.checked) own started (by kernel_rfl) Try.func4
    (ChangeSpec.witness6 (enc := enc) (C := Try.checked) false ⟨#[], #[.slice none 0 0, .slice none 0 0], []⟩ 8 (by kernel_rfl) (by kernel_rfl) (by kernel_rfl) (by kernel_rfl)) ?_
  intro W base args ds gs before hval hW _ _
  exact contract H enc W base args ds gs before hval hW
theorem FnNodesBoth_holds : Rows.FnNodesBothSaid :=
  OpenClaim.holds_of_wide 4 Try.f4 rfl rfl rfl rfl rfl rfl rfl ⟨rfl, rfl, rfl, rfl, rfl⟩ rfl rfl rfl rfl rfl (by kernel_rfl) Try.func4 (by kernel_rfl)
    (of_decide_eq_true (by kernel_rfl)) (by unfold Func.isWrapper; first | (rw [if_pos (by decide +kernel)]; kernel_rfl) | (rw [if_neg (by decide +kernel)]; exact ⟨rfl, rfl⟩))
    (fun os started H enc _ => lifted os started H enc)
end Go.Proofs.Ytkefaelmamgjiaa
