/- spec: l11Less, l2PathOk, l3Path, l33Paths, l1At, l2Parent, l2Fits. -/
import Derived.Test.YtkefaelmamgjiaaDoorS2
import Derived.Test.YtkefaelmamgjiaaDoorT1
set_option linter.unusedVariables false
set_option linter.unusedSimpArgs false
set_option maxHeartbeats 1000000
namespace Go.Proofs.YtkefaelmamgjiaaDoor
open Go.RowKit

/-- Paths in order. -/
def pathLt : List ByteArray → List ByteArray → Bool
  | [], [] => false
  | [], _ :: _ => true
  | _ :: _, [] => false
  | x :: a, y :: b => if x = y then pathLt a b else bl x y
def pathOk (p : List ByteArray) : Bool := p.all (fun n => nameFrom n 0) && inI p.length 1 4
theorem l2PathOk_ok (p : List ByteArray) {ok : Nat → Prop} {w0 : World} {v1 : Value} (h1 : Rd ok w0 (.sl (strsD p)) [v1]) (hp : PFit p) :
    Calls Tryd.prog 11 #[v1] w0 (Ret fun v w' => v = .bool (pathOk p) ∧ Below w0.heap.size w0 w') := by
  obtain ⟨A, c, e1, hl1⟩ := Rd_strs h1
  obtain rfl := List.singleton_inj.1 e1
  have f1 := hp.len
  have f2 := hp.mem
  have s := (St.start ok w0).begin h1
  refine calls_enter (n := 19) Tryd.func11 rfl rfl rfl ?_
  repeat (first | refine VS_seq ?_ | refine VS_block ?_ | refine VS_skip ?_ | refine VS_nil_block ?_)
  refine VS_region_lit ?_
  refine VL_run (d := 2) (run_assign rfl (by conv => lhs; whnf)) rfl rfl ?_
  refine VL_nil ?_
  repeat (first | refine VS_seq ?_ | refine VS_block ?_ | refine VS_skip ?_ | refine VS_nil_block ?_)
  refine VS_region_lit ?_
  refine VL_run (d := 3) (run_assign rfl (by conv => lhs; whnf)) rfl rfl ?_
  refine VL_nil ?_
  repeat (first | refine VS_seq ?_ | refine VS_block ?_ | refine VS_skip ?_ | refine VS_nil_block ?_)
  refine VS_loop [2, 3, 4, 5, 6, 7, 8, 9, 10, 11, 12, 13, 14, 15] (fun k : Nat => [(3, .int .i64 k)]) (fun k w => St ok w0 [] [.dat [.slice A p.length c] (.sl (strsD p))] w ∧ k ≤ p.length ∧ p.all (fun n => nameFrom n 0) = (p.drop k).all (fun n => nameFrom n 0)) (fun k => p.length - k) 0 ⟨s, by omega, rfl⟩ (by repeat (first | exact Has.nil _ | refine Has.cons rfl ?_)) ?_
  clear s
  rintro k w j ⟨s, hk, hf⟩
  repeat (first | refine VS_seq ?_ | refine VS_block ?_ | refine VS_skip ?_ | refine VS_nil_block ?_)
  refine VS_region_lit ?_
  refine VL_run (d := 4) (run_move rfl (by conv => lhs; whnf)) rfl rfl ?_
  refine VL_run (d := 5) (run_move rfl (by conv => lhs; whnf)) rfl rfl ?_
  refine VL_run (d := 6) (run_lenSlice rfl ⟨_, Tryd.underlying37⟩ rfl) rfl rfl ?_
  refine VL_run (d := 7) (run_ltI rfl rfl rfl) rfl rfl ?_
  refine VL_nil ?_
  refine VS_cond rfl (fun c0 => ?_) (fun c0 => ?_) <;> (try simp only [decide_eq_true_eq, decide_eq_false_iff_not, Bool.not_eq_true', Bool.not_eq_false', ne_eq, Decidable.not_not, cond_true, cond_false, Bool.and_eq_true, Bool.or_eq_true, Bool.and_eq_false_iff, Bool.or_eq_false_iff, Bool.not_true, Bool.not_false, reduceCtorEq] at c0)
  · repeat (first | refine VS_seq ?_ | refine VS_block ?_ | refine VS_skip ?_ | refine VS_nil_block ?_)
    have hk' : k < p.length := by omega
    have hd := List.drop_eq_getElem_cons hk'
    rw [hd, List.all_cons] at hf
    obtain ⟨ad, rfl, s⟩ := s.openS (i := 0) rfl k hk'
    refine VS_region_lit ?_
    refine VL_run (d := 10) (run_move rfl (by conv => lhs; whnf)) rfl rfl ?_
    refine VL_run (d := 11) (run_move rfl (by conv => lhs; whnf)) rfl rfl ?_
    refine VL_run (d := 12) (run_indexAddr rfl Tryd.underlying37 ty9 rfl rfl (by omega) (by omega)) rfl rfl ?_
    first | (refine VL_run (d := 13) (run_load_own1 s rfl ty9 rfl (i := 0) rfl rfl) rfl rfl ?_) | (refine VL_run (d := 13) (run_load_own1 s rfl ty9 rfl (i := 1) rfl rfl) rfl rfl ?_) | (refine VL_run (d := 13) (run_load_own1 s rfl ty9 rfl (i := 2) rfl rfl) rfl rfl ?_) | (refine VL_run (d := 13) (run_load_own1 s rfl ty9 rfl (i := 3) rfl rfl) rfl rfl ?_) | (refine VL_run (d := 13) (run_load_own1 s rfl ty9 rfl (i := 4) rfl rfl) rfl rfl ?_) | (refine VL_run (d := 13) (run_load_own1 s rfl ty9 rfl (i := 5) rfl rfl) rfl rfl ?_) | (refine VL_run (d := 13) (run_load_own1 s rfl ty9 rfl (i := 6) rfl rfl) rfl rfl ?_) | (refine VL_run (d := 13) (run_load_own1 s rfl ty9 rfl (i := 7) rfl rfl) rfl rfl ?_) | (refine VL_run (d := 13) (run_load_own1 s rfl ty9 rfl (i := 8) rfl rfl) rfl rfl ?_) | (refine VL_run (d := 13) (run_load_at1 s rfl ty9 rfl (i := 0) rfl rfl) rfl rfl ?_) | (refine VL_run (d := 13) (run_load_at1 s rfl ty9 rfl (i := 1) rfl rfl) rfl rfl ?_) | (refine VL_run (d := 13) (run_load_at1 s rfl ty9 rfl (i := 2) rfl rfl) rfl rfl ?_) | (refine VL_run (d := 13) (run_load_at1 s rfl ty9 rfl (i := 3) rfl rfl) rfl rfl ?_) | (refine VL_run (d := 13) (run_load_at1 s rfl ty9 rfl (i := 4) rfl rfl) rfl rfl ?_) | (refine VL_run (d := 13) (run_load_at1 s rfl ty9 rfl (i := 5) rfl rfl) rfl rfl ?_) | (refine VL_run (d := 13) (run_load_at1 s rfl ty9 rfl (i := 6) rfl rfl) rfl rfl ?_) | (refine VL_run (d := 13) (run_load_at1 s rfl ty9 rfl (i := 7) rfl rfl) rfl rfl ?_) | (refine VL_run (d := 13) (run_load_at1 s rfl ty9 rfl (i := 8) rfl rfl) rfl rfl ?_) | (refine VL_run (d := 13) (run_load_at0 s rfl ty9 rfl (i := 0) rfl rfl) rfl rfl ?_) | (refine VL_run (d := 13) (run_load_at0 s rfl ty9 rfl (i := 1) rfl rfl) rfl rfl ?_) | (refine VL_run (d := 13) (run_load_at0 s rfl ty9 rfl (i := 2) rfl rfl) rfl rfl ?_) | (refine VL_run (d := 13) (run_load_at0 s rfl ty9 rfl (i := 3) rfl rfl) rfl rfl ?_) | (refine VL_run (d := 13) (run_load_at0 s rfl ty9 rfl (i := 4) rfl rfl) rfl rfl ?_) | (refine VL_run (d := 13) (run_load_at0 s rfl ty9 rfl (i := 5) rfl rfl) rfl rfl ?_) | (refine VL_run (d := 13) (run_load_at0 s rfl ty9 rfl (i := 6) rfl rfl) rfl rfl ?_) | (refine VL_run (d := 13) (run_load_at0 s rfl ty9 rfl (i := 7) rfl rfl) rfl rfl ?_) | (refine VL_run (d := 13) (run_load_at0 s rfl ty9 rfl (i := 8) rfl rfl) rfl rfl ?_)
    refine VL_does (d := 14) (does_call1 rfl (by kernel_rfl) rfl (l1NameOk_ok _ (Nat.le_trans (f2 _ (List.getElem_mem hk')) (by decide))) ?_) rfl rfl
    rintro _ w ⟨rfl, hb⟩
    replace s := s.step hb
    clear hb
    refine VL_run (d := 15) (run_not rfl rfl) rfl rfl ?_
    refine VL_nil ?_
    refine VS_cond rfl (fun c1 => ?_) (fun c1 => ?_) <;> (try simp only [decide_eq_true_eq, decide_eq_false_iff_not, Bool.not_eq_true', Bool.not_eq_false', ne_eq, Decidable.not_not, cond_true, cond_false, Bool.and_eq_true, Bool.or_eq_true, Bool.and_eq_false_iff, Bool.or_eq_false_iff, Bool.not_true, Bool.not_false, reduceCtorEq] at c1)
    · repeat (first | refine VS_seq ?_ | refine VS_block ?_ | refine VS_skip ?_ | refine VS_nil_block ?_)
      refine VS_region_lit ?_
      refine VL_run (d := 2) (run_assign rfl (by conv => lhs; whnf)) rfl rfl ?_
      refine VL_nil ?_
      refine VS_ret ?_
      repeat (first | refine blockV_ret ?_ | refine backV_ret ?_ | refine backV2_ret ?_ | refine backV3_ret ?_ | refine thenV_ret ?_ | refine metV2_ret ?_)
      refine fin_one (fn := Tryd.f11) rfl (res_tmp (by conv => lhs; whnf)) ?_
      refine ⟨?_, s.below⟩
      rw [pathOk, hf, c1]
      rfl
    · repeat (first | refine VS_seq ?_ | refine VS_block ?_ | refine VS_skip ?_ | refine VS_nil_block ?_)
      refine VS_region_lit ?_
      refine VL_run (d := 8) (run_move rfl (by conv => lhs; whnf)) rfl rfl ?_
      refine VL_run (d := 9) (run_add rfl rfl rfl (by omega)) rfl rfl ?_
      refine VL_run (d := 3) (run_assign rfl (by conv => lhs; whnf)) rfl rfl ?_
      refine VL_nil ?_
      refine VS_back (k + 1) ?_ (by repeat (first | exact Has.nil _ | refine Has.cons rfl ?_)) (by repeat (first | exact Out.mix _ _ _ | exact Out.refl _ _ | refine Out.upd rfl ?_ | refine Out.mix_in rfl ?_)) ?_
      · refine ⟨s.less (by simp), by omega, ?_⟩
        rw [hf, c1, Bool.true_and]
      · omega
  · refine VS_exit ?_
    repeat (first | refine blockV_hit ?_ | refine backV_exit ?_ | refine backV2_exit ?_ | refine backV3_exit ?_ | refine blockV_miss rfl ?_ | refine thenV_exit ?_ | refine metV2_exit ?_)
    repeat (first | refine VS_seq ?_ | refine VS_block ?_ | refine VS_skip ?_ | refine VS_nil_block ?_)
    refine VS_region_lit ?_
    refine VL_run (d := 16) (run_move rfl (by conv => lhs; whnf)) rfl rfl ?_
    refine VL_run (d := 17) (run_lenSlice rfl ⟨_, Tryd.underlying37⟩ rfl) rfl rfl ?_
    refine VL_does (d := 18) (does_call3 rfl (by kernel_rfl) rfl rfl rfl (l1In_ok _ _ _) ?_) rfl rfl
    rintro _ w ⟨rfl, hb⟩
    replace s := s.step hb
    clear hb
    refine VL_run (d := 2) (run_assign rfl (by conv => lhs; whnf)) rfl rfl ?_
    refine VL_nil ?_
    refine VS_ret ?_
    repeat (first | refine blockV_ret ?_ | refine backV_ret ?_ | refine backV2_ret ?_ | refine backV3_ret ?_ | refine thenV_ret ?_ | refine metV2_ret ?_)
    refine fin_one (fn := Tryd.f11) rfl (res_tmp (by conv => lhs; whnf)) ?_
    refine ⟨?_, s.below⟩
    rw [List.drop_of_length_le (by omega)] at hf
    rw [pathOk, hf]
    rfl
end Go.Proofs.YtkefaelmamgjiaaDoor
