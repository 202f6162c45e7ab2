/- spec: l1In, l1NameOk, l1Plain, l1Parts, l1Count, TreeOk. -/
import Derived.Test.YtkefaelmamgjiaaDoorDat
import Derived.Test.YtkefaelmamgjiaaDoorTys
import Derived.Test.YtkefaelmamgjiaaDoorChecked
set_option linter.unusedVariables false
set_option linter.unusedSimpArgs false
set_option maxHeartbeats 1000000
namespace Go.Proofs.YtkefaelmamgjiaaDoor
open Go.RowKit

def inI (n lo hi : Int) : Bool := decide (lo ≤ n) && decide (n ≤ hi)
theorem l1In_ok {w0 : World} (n lo hi : Int) : Calls Tryd.prog 14 #[.int .i64 n, .int .i64 lo, .int .i64 hi] w0 (Ret fun v w' => v = .bool (inI n lo hi) ∧ Below w0.heap.size w0 w') := by
  have s := St.start (fun _ => False) w0
  refine calls_enter (n := 15) Tryd.func14 rfl rfl rfl ?_
  repeat (first | refine VS_seq ?_ | refine VS_block ?_ | refine VS_skip ?_ | refine VS_nil_block ?_)
  refine VS_region_lit ?_
  refine VL_run (d := 6) (run_assign rfl (by conv => lhs; whnf)) rfl rfl ?_
  refine VL_nil ?_
  repeat (first | refine VS_seq ?_ | refine VS_block ?_ | refine VS_skip ?_ | refine VS_nil_block ?_)
  refine VS_meetB s 6 (inI n lo hi) [7, 8, 9, 10, 11, 12, 13, 14, 6] ?_ ?_
  · refine VS_region_lit ?_
    refine VL_run (d := 7) (run_move rfl (by conv => lhs; whnf)) rfl rfl ?_
    refine VL_run (d := 8) (run_move rfl (by conv => lhs; whnf)) rfl rfl ?_
    refine VL_run (d := 9) (run_geI rfl rfl rfl) rfl rfl ?_
    refine VL_run (d := 10) (run_move rfl (by conv => lhs; whnf)) rfl rfl ?_
    refine VL_split 10 (by conv => lhs; whnf) (fun h10 => ?_) (fun h10 => ?_) <;> (try simp only [decide_eq_true_eq, decide_eq_false_iff_not, Bool.not_eq_true', Bool.not_eq_false', ne_eq, Decidable.not_not, cond_true, cond_false, Bool.and_eq_true, Bool.or_eq_true, Bool.and_eq_false_iff, Bool.or_eq_false_iff, Bool.not_true, Bool.not_false, reduceCtorEq] at h10)
    · refine VL_run (d := 11) (run_move rfl (by conv => lhs; whnf)) rfl rfl ?_
      refine VL_run (d := 12) (run_move rfl (by conv => lhs; whnf)) rfl rfl ?_
      refine VL_run (d := 13) (run_leI rfl rfl rfl) rfl rfl ?_
      first | (refine VL_run (d := 14) (run_pickT rfl rfl rfl) rfl rfl ?_) | (refine VL_run (d := 14) (run_pickF rfl rfl rfl) rfl rfl ?_) | (refine VL_run (d := 14) (run_pick rfl rfl (fun _ => rfl) (fun _ => rfl)) rfl rfl ?_)
      refine VL_run (d := 6) (run_assign rfl (by conv => lhs; whnf)) rfl rfl ?_
      refine VL_nil ?_
      exact VS_endB s (by conv => lhs; whnf) (by first | (simp [inI, *]; done) | (simp_all [inI]; done)) (by repeat (first | exact Out.mix _ _ _ | exact Out.refl _ _ | refine Out.upd rfl ?_ | refine Out.mix_in rfl ?_))
    · refine VL_not (d := 11) rfl rfl rfl rfl ?_
      refine VL_not (d := 12) rfl rfl rfl rfl ?_
      refine VL_not (d := 13) rfl rfl rfl rfl ?_
      first | (refine VL_run (d := 14) (run_pickT rfl rfl rfl) rfl rfl ?_) | (refine VL_run (d := 14) (run_pickF rfl rfl rfl) rfl rfl ?_) | (refine VL_run (d := 14) (run_pick rfl rfl (fun _ => rfl) (fun _ => rfl)) rfl rfl ?_)
      refine VL_run (d := 6) (run_assign rfl (by conv => lhs; whnf)) rfl rfl ?_
      refine VL_nil ?_
      exact VS_endB s (by conv => lhs; whnf) (by first | (simp [inI, *]; done) | (simp_all [inI]; done)) (by repeat (first | exact Out.mix _ _ _ | exact Out.refl _ _ | refine Out.upd rfl ?_ | refine Out.mix_in rfl ?_))
  clear s; intro w j6 s
  refine VS_ret ?_
  repeat (first | refine blockV_ret ?_ | refine backV_ret ?_ | refine backV2_ret ?_ | refine backV3_ret ?_ | refine thenV_ret ?_ | refine metV2_ret ?_)
  refine fin_one (fn := Tryd.f14) rfl (res_tmp (by conv => lhs; whnf)) ?_
  exact ⟨rfl, s.below⟩
def chOk (b : UInt8) : Bool := decide ((97 : Int) ≤ b.toNat) && decide ((b.toNat : Int) ≤ 122) || decide ((48 : Int) ≤ b.toNat) && decide ((b.toNat : Int) ≤ 57)
def nameFrom (s : ByteArray) (i : Nat) : Bool :=
  if h : i < s.size then (chOk s[i] && nameFrom s (i + 1)) else inI s.size 1 5
termination_by s.size - i
theorem l1NameOk_ok {w0 : World} (nm : ByteArray) (hn : nm.size ≤ 1000000000000) : Calls Tryd.prog 30 #[.string nm] w0 (Ret fun v w' => v = .bool (nameFrom nm 0) ∧ Below w0.heap.size w0 w') := by
  have s := St.start (fun _ => False) w0
  refine calls_enter (n := 36) Tryd.func30 rfl rfl rfl ?_
  repeat (first | refine VS_seq ?_ | refine VS_block ?_ | refine VS_skip ?_ | refine VS_nil_block ?_)
  refine VS_region_lit ?_
  refine VL_run (d := 2) (run_assign rfl (by conv => lhs; whnf)) rfl rfl ?_
  refine VL_nil ?_
  repeat (first | refine VS_seq ?_ | refine VS_block ?_ | refine VS_skip ?_ | refine VS_nil_block ?_)
  refine VS_region_lit ?_
  refine VL_run (d := 3) (run_assign rfl (by conv => lhs; whnf)) rfl rfl ?_
  refine VL_nil ?_
  repeat (first | refine VS_seq ?_ | refine VS_block ?_ | refine VS_skip ?_ | refine VS_nil_block ?_)
  refine VS_loop [2, 3, 4, 5, 6, 7, 8, 9, 10, 11, 12, 13, 14, 15, 16, 17, 18, 19, 20, 21, 22, 23, 24, 25, 26, 27, 28, 29, 30, 31, 32] (fun k : Nat => [(3, .int .i64 k)]) (fun k w => St (fun _ => False) w0 [] [] w ∧ k ≤ nm.size ∧ nameFrom nm 0 = nameFrom nm k) (fun k => nm.size - k) 0 ⟨s, by omega, rfl⟩ ((Has.nil _).cons rfl) ?_
  clear s
  rintro k w j ⟨s, hk, hf⟩
  repeat (first | refine VS_seq ?_ | refine VS_block ?_ | refine VS_skip ?_ | refine VS_nil_block ?_)
  refine VS_region_lit ?_
  refine VL_run (d := 4) (run_move rfl (by conv => lhs; whnf)) rfl rfl ?_
  refine VL_run (d := 5) (run_move rfl (by conv => lhs; whnf)) rfl rfl ?_
  refine VL_run (d := 6) (run_lenStr rfl Tryd.underlying9 rfl) rfl rfl ?_
  refine VL_run (d := 7) (run_ltI rfl rfl rfl) rfl rfl ?_
  refine VL_nil ?_
  refine VS_cond rfl (fun c0 => ?_) (fun c0 => ?_) <;> (try simp only [decide_eq_true_eq, decide_eq_false_iff_not, Bool.not_eq_true', Bool.not_eq_false', ne_eq, Decidable.not_not, cond_true, cond_false, Bool.and_eq_true, Bool.or_eq_true, Bool.and_eq_false_iff, Bool.or_eq_false_iff, Bool.not_true, Bool.not_false, reduceCtorEq] at c0)
  · repeat (first | refine VS_seq ?_ | refine VS_block ?_ | refine VS_skip ?_ | refine VS_nil_block ?_)
    have hk' : k < nm.size := by omega
    have hb : nm[(k : Int).toNat]? = some nm[k] := by simp [hk']
    refine VS_meetB s 32 (!chOk nm[k]) [10, 11, 12, 13, 14, 15, 16, 17, 18, 19, 20, 21, 22, 23, 24, 25, 26, 27, 28, 29, 30, 31, 32] ?_ ?_
    · refine VS_region_lit ?_
      refine VL_run (d := 10) (run_move rfl (by conv => lhs; whnf)) rfl rfl ?_
      refine VL_run (d := 11) (run_move rfl (by conv => lhs; whnf)) rfl rfl ?_
      refine VL_run (d := 12) (run_indexStr rfl Tryd.underlying9 rfl rfl (by omega) ‹_›) rfl rfl ?_
      refine VL_run (d := 13) (run_geI rfl rfl rfl) rfl rfl ?_
      refine VL_run (d := 14) (run_move rfl (by conv => lhs; whnf)) rfl rfl ?_
      refine VL_split 14 (by conv => lhs; whnf) (fun h14 => ?_) (fun h14 => ?_) <;> (try simp only [decide_eq_true_eq, decide_eq_false_iff_not, Bool.not_eq_true', Bool.not_eq_false', ne_eq, Decidable.not_not, cond_true, cond_false, Bool.and_eq_true, Bool.or_eq_true, Bool.and_eq_false_iff, Bool.or_eq_false_iff, Bool.not_true, Bool.not_false, reduceCtorEq] at h14)
      · refine VL_run (d := 15) (run_move rfl (by conv => lhs; whnf)) rfl rfl ?_
        refine VL_run (d := 16) (run_move rfl (by conv => lhs; whnf)) rfl rfl ?_
        refine VL_run (d := 17) (run_indexStr rfl Tryd.underlying9 rfl rfl (by omega) ‹_›) rfl rfl ?_
        refine VL_run (d := 18) (run_leI rfl rfl rfl) rfl rfl ?_
        first | (refine VL_run (d := 19) (run_pickT rfl rfl rfl) rfl rfl ?_) | (refine VL_run (d := 19) (run_pickF rfl rfl rfl) rfl rfl ?_) | (refine VL_run (d := 19) (run_pick rfl rfl (fun _ => rfl) (fun _ => rfl)) rfl rfl ?_)
        refine VL_run (d := 20) (run_move rfl (by conv => lhs; whnf)) rfl rfl ?_
        refine VL_split 20 (by conv => lhs; whnf) (fun h20 => ?_) (fun h20 => ?_) <;> (try simp only [decide_eq_true_eq, decide_eq_false_iff_not, Bool.not_eq_true', Bool.not_eq_false', ne_eq, Decidable.not_not, cond_true, cond_false, Bool.and_eq_true, Bool.or_eq_true, Bool.and_eq_false_iff, Bool.or_eq_false_iff, Bool.not_true, Bool.not_false, reduceCtorEq] at h20)
        · refine VL_not (d := 21) rfl rfl rfl rfl ?_
          refine VL_not (d := 22) rfl rfl rfl rfl ?_
          refine VL_not (d := 23) rfl rfl rfl rfl ?_
          refine VL_not (d := 24) rfl rfl rfl rfl ?_
          refine VL_not (d := 25) rfl rfl rfl rfl ?_
          refine VL_not (d := 26) rfl rfl rfl rfl ?_
          refine VL_not (d := 27) rfl rfl rfl rfl ?_
          refine VL_not (d := 28) rfl rfl rfl rfl ?_
          refine VL_not (d := 29) rfl rfl rfl rfl ?_
          refine VL_not (d := 30) rfl rfl rfl rfl ?_
          first | (refine VL_run (d := 31) (run_pickT rfl rfl rfl) rfl rfl ?_) | (refine VL_run (d := 31) (run_pickF rfl rfl rfl) rfl rfl ?_) | (refine VL_run (d := 31) (run_pick rfl rfl (fun _ => rfl) (fun _ => rfl)) rfl rfl ?_)
          refine VL_run (d := 32) (run_not rfl rfl) rfl rfl ?_
          refine VL_nil ?_
          exact VS_endB s (by conv => lhs; whnf) (by first | (simp [chOk, *]; done) | (simp_all [chOk]; done)) (by repeat (first | exact Out.mix _ _ _ | exact Out.refl _ _ | refine Out.upd rfl ?_ | refine Out.mix_in rfl ?_))
        · refine VL_run (d := 21) (run_move rfl (by conv => lhs; whnf)) rfl rfl ?_
          refine VL_run (d := 22) (run_move rfl (by conv => lhs; whnf)) rfl rfl ?_
          refine VL_run (d := 23) (run_indexStr rfl Tryd.underlying9 rfl rfl (by omega) ‹_›) rfl rfl ?_
          refine VL_run (d := 24) (run_geI rfl rfl rfl) rfl rfl ?_
          refine VL_run (d := 25) (run_move rfl (by conv => lhs; whnf)) rfl rfl ?_
          refine VL_split 25 (by conv => lhs; whnf) (fun h25 => ?_) (fun h25 => ?_) <;> (try simp only [decide_eq_true_eq, decide_eq_false_iff_not, Bool.not_eq_true', Bool.not_eq_false', ne_eq, Decidable.not_not, cond_true, cond_false, Bool.and_eq_true, Bool.or_eq_true, Bool.and_eq_false_iff, Bool.or_eq_false_iff, Bool.not_true, Bool.not_false, reduceCtorEq] at h25)
          · refine VL_run (d := 26) (run_move rfl (by conv => lhs; whnf)) rfl rfl ?_
            refine VL_run (d := 27) (run_move rfl (by conv => lhs; whnf)) rfl rfl ?_
            refine VL_run (d := 28) (run_indexStr rfl Tryd.underlying9 rfl rfl (by omega) ‹_›) rfl rfl ?_
            refine VL_run (d := 29) (run_leI rfl rfl rfl) rfl rfl ?_
            first | (refine VL_run (d := 30) (run_pickT rfl rfl rfl) rfl rfl ?_) | (refine VL_run (d := 30) (run_pickF rfl rfl rfl) rfl rfl ?_) | (refine VL_run (d := 30) (run_pick rfl rfl (fun _ => rfl) (fun _ => rfl)) rfl rfl ?_)
            first | (refine VL_run (d := 31) (run_pickT rfl rfl rfl) rfl rfl ?_) | (refine VL_run (d := 31) (run_pickF rfl rfl rfl) rfl rfl ?_) | (refine VL_run (d := 31) (run_pick rfl rfl (fun _ => rfl) (fun _ => rfl)) rfl rfl ?_)
            refine VL_run (d := 32) (run_not rfl rfl) rfl rfl ?_
            refine VL_nil ?_
            exact VS_endB s (by conv => lhs; whnf) (by first | (simp [chOk, *]; done) | (simp_all [chOk]; done)) (by repeat (first | exact Out.mix _ _ _ | exact Out.refl _ _ | refine Out.upd rfl ?_ | refine Out.mix_in rfl ?_))
          · refine VL_not (d := 26) rfl rfl rfl rfl ?_
            refine VL_not (d := 27) rfl rfl rfl rfl ?_
            refine VL_not (d := 28) rfl rfl rfl rfl ?_
            refine VL_not (d := 29) rfl rfl rfl rfl ?_
            first | (refine VL_run (d := 30) (run_pickT rfl rfl rfl) rfl rfl ?_) | (refine VL_run (d := 30) (run_pickF rfl rfl rfl) rfl rfl ?_) | (refine VL_run (d := 30) (run_pick rfl rfl (fun _ => rfl) (fun _ => rfl)) rfl rfl ?_)
            first | (refine VL_run (d := 31) (run_pickT rfl rfl rfl) rfl rfl ?_) | (refine VL_run (d := 31) (run_pickF rfl rfl rfl) rfl rfl ?_) | (refine VL_run (d := 31) (run_pick rfl rfl (fun _ => rfl) (fun _ => rfl)) rfl rfl ?_)
            refine VL_run (d := 32) (run_not rfl rfl) rfl rfl ?_
            refine VL_nil ?_
            exact VS_endB s (by conv => lhs; whnf) (by first | (simp [chOk, *]; done) | (simp_all [chOk]; done)) (by repeat (first | exact Out.mix _ _ _ | exact Out.refl _ _ | refine Out.upd rfl ?_ | refine Out.mix_in rfl ?_))
      · refine VL_not (d := 15) rfl rfl rfl rfl ?_
        refine VL_not (d := 16) rfl rfl rfl rfl ?_
        refine VL_not (d := 17) rfl rfl rfl rfl ?_
        refine VL_not (d := 18) rfl rfl rfl rfl ?_
        first | (refine VL_run (d := 19) (run_pickT rfl rfl rfl) rfl rfl ?_) | (refine VL_run (d := 19) (run_pickF rfl rfl rfl) rfl rfl ?_) | (refine VL_run (d := 19) (run_pick rfl rfl (fun _ => rfl) (fun _ => rfl)) rfl rfl ?_)
        refine VL_run (d := 20) (run_move rfl (by conv => lhs; whnf)) rfl rfl ?_
        refine VL_run (d := 21) (run_move rfl (by conv => lhs; whnf)) rfl rfl ?_
        refine VL_run (d := 22) (run_move rfl (by conv => lhs; whnf)) rfl rfl ?_
        refine VL_run (d := 23) (run_indexStr rfl Tryd.underlying9 rfl rfl (by omega) ‹_›) rfl rfl ?_
        refine VL_run (d := 24) (run_geI rfl rfl rfl) rfl rfl ?_
        refine VL_run (d := 25) (run_move rfl (by conv => lhs; whnf)) rfl rfl ?_
        refine VL_split 25 (by conv => lhs; whnf) (fun h25 => ?_) (fun h25 => ?_) <;> (try simp only [decide_eq_true_eq, decide_eq_false_iff_not, Bool.not_eq_true', Bool.not_eq_false', ne_eq, Decidable.not_not, cond_true, cond_false, Bool.and_eq_true, Bool.or_eq_true, Bool.and_eq_false_iff, Bool.or_eq_false_iff, Bool.not_true, Bool.not_false, reduceCtorEq] at h25)
        · refine VL_run (d := 26) (run_move rfl (by conv => lhs; whnf)) rfl rfl ?_
          refine VL_run (d := 27) (run_move rfl (by conv => lhs; whnf)) rfl rfl ?_
          refine VL_run (d := 28) (run_indexStr rfl Tryd.underlying9 rfl rfl (by omega) ‹_›) rfl rfl ?_
          refine VL_run (d := 29) (run_leI rfl rfl rfl) rfl rfl ?_
          first | (refine VL_run (d := 30) (run_pickT rfl rfl rfl) rfl rfl ?_) | (refine VL_run (d := 30) (run_pickF rfl rfl rfl) rfl rfl ?_) | (refine VL_run (d := 30) (run_pick rfl rfl (fun _ => rfl) (fun _ => rfl)) rfl rfl ?_)
          first | (refine VL_run (d := 31) (run_pickT rfl rfl rfl) rfl rfl ?_) | (refine VL_run (d := 31) (run_pickF rfl rfl rfl) rfl rfl ?_) | (refine VL_run (d := 31) (run_pick rfl rfl (fun _ => rfl) (fun _ => rfl)) rfl rfl ?_)
          refine VL_run (d := 32) (run_not rfl rfl) rfl rfl ?_
          refine VL_nil ?_
          exact VS_endB s (by conv => lhs; whnf) (by first | (simp [chOk, *]; done) | (simp_all [chOk]; done)) (by repeat (first | exact Out.mix _ _ _ | exact Out.refl _ _ | refine Out.upd rfl ?_ | refine Out.mix_in rfl ?_))
        · refine VL_not (d := 26) rfl rfl rfl rfl ?_
          refine VL_not (d := 27) rfl rfl rfl rfl ?_
          refine VL_not (d := 28) rfl rfl rfl rfl ?_
          refine VL_not (d := 29) rfl rfl rfl rfl ?_
          first | (refine VL_run (d := 30) (run_pickT rfl rfl rfl) rfl rfl ?_) | (refine VL_run (d := 30) (run_pickF rfl rfl rfl) rfl rfl ?_) | (refine VL_run (d := 30) (run_pick rfl rfl (fun _ => rfl) (fun _ => rfl)) rfl rfl ?_)
          first | (refine VL_run (d := 31) (run_pickT rfl rfl rfl) rfl rfl ?_) | (refine VL_run (d := 31) (run_pickF rfl rfl rfl) rfl rfl ?_) | (refine VL_run (d := 31) (run_pick rfl rfl (fun _ => rfl) (fun _ => rfl)) rfl rfl ?_)
          refine VL_run (d := 32) (run_not rfl rfl) rfl rfl ?_
          refine VL_nil ?_
          exact VS_endB s (by conv => lhs; whnf) (by first | (simp [chOk, *]; done) | (simp_all [chOk]; done)) (by repeat (first | exact Out.mix _ _ _ | exact Out.refl _ _ | refine Out.upd rfl ?_ | refine Out.mix_in rfl ?_))
    clear s; intro w j32 s
    refine VS_cond rfl (fun c1 => ?_) (fun c1 => ?_) <;> (try simp only [decide_eq_true_eq, decide_eq_false_iff_not, Bool.not_eq_true', Bool.not_eq_false', ne_eq, Decidable.not_not, cond_true, cond_false, Bool.and_eq_true, Bool.or_eq_true, Bool.and_eq_false_iff, Bool.or_eq_false_iff, Bool.not_true, Bool.not_false, reduceCtorEq] at c1)
    · repeat (first | refine VS_seq ?_ | refine VS_block ?_ | refine VS_skip ?_ | refine VS_nil_block ?_)
      refine VS_region_lit ?_
      refine VL_run (d := 2) (run_assign rfl (by conv => lhs; whnf)) rfl rfl ?_
      refine VL_nil ?_
      refine VS_ret ?_
      repeat (first | refine blockV_ret ?_ | refine backV_ret ?_ | refine backV2_ret ?_ | refine backV3_ret ?_ | refine thenV_ret ?_ | refine metV2_ret ?_)
      refine fin_one (fn := Tryd.f30) rfl (res_tmp (by conv => lhs; whnf)) ?_
      refine ⟨?_, s.below⟩
      rw [hf, nameFrom, dif_pos hk']
      simp_all
    · repeat (first | refine VS_seq ?_ | refine VS_block ?_ | refine VS_skip ?_ | refine VS_nil_block ?_)
      refine VS_region_lit ?_
      refine VL_run (d := 8) (run_move rfl (by conv => lhs; whnf)) rfl rfl ?_
      refine VL_run (d := 9) (run_add rfl rfl rfl (by omega)) rfl rfl ?_
      refine VL_run (d := 3) (run_assign rfl (by conv => lhs; whnf)) rfl rfl ?_
      refine VL_nil ?_
      refine VS_back (k + 1) ?_ (by repeat (first | exact Has.nil _ | refine Has.cons rfl ?_)) (by repeat (first | exact Out.mix _ _ _ | exact Out.refl _ _ | refine Out.upd rfl ?_ | refine Out.mix_in rfl ?_)) ?_
      · refine ⟨s, by omega, ?_⟩
        rw [hf, nameFrom, dif_pos hk']
        simp_all
      · omega
  · refine VS_exit ?_
    repeat (first | refine blockV_hit ?_ | refine backV_exit ?_ | refine backV2_exit ?_ | refine backV3_exit ?_ | refine blockV_miss rfl ?_ | refine thenV_exit ?_ | refine metV2_exit ?_)
    repeat (first | refine VS_seq ?_ | refine VS_block ?_ | refine VS_skip ?_ | refine VS_nil_block ?_)
    refine VS_region_lit ?_
    refine VL_run (d := 33) (run_move rfl (by conv => lhs; whnf)) rfl rfl ?_
    refine VL_run (d := 34) (run_lenStr rfl Tryd.underlying9 rfl) rfl rfl ?_
    refine VL_does (d := 35) (does_call3 rfl (by kernel_rfl) rfl rfl rfl (l1In_ok _ _ _) ?_) rfl rfl
    rintro _ w ⟨rfl, hb⟩
    replace s := s.step hb
    clear hb
    refine VL_run (d := 2) (run_assign rfl (by conv => lhs; whnf)) rfl rfl ?_
    refine VL_nil ?_
    refine VS_ret ?_
    repeat (first | refine blockV_ret ?_ | refine backV_ret ?_ | refine backV2_ret ?_ | refine backV3_ret ?_ | refine thenV_ret ?_ | refine metV2_ret ?_)
    refine fin_one (fn := Tryd.f30) rfl (res_tmp (by conv => lhs; whnf)) ?_
    refine ⟨?_, s.below⟩
    rw [hf, nameFrom, dif_neg (by omega)]
/-- Names from place 'i' on are names, in order. -/
def namesUp (ns : List ByteArray) (i : Nat) : Bool :=
  if h : i < ns.length then nameFrom ns[i] 0 && (decide (i = 0) || bl (ns[i - 1]'(by omega)) ns[i]) && namesUp ns (i + 1) else true
termination_by ns.length - i
def Tr.plainOk (t : Tr) : Bool :=
  inI t.mode 0 7 && decide (t.names.length = t.kids.length) && (bif t.dir then namesUp t.names 0 && decide (t.data = ⟨#[]⟩) else decide (t.data.size ≤ 24) && decide (t.names.length = 0))
end Go.Proofs.YtkefaelmamgjiaaDoor
