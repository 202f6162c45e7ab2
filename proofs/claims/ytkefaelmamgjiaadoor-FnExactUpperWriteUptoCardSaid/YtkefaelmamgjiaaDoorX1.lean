/- laws: sz, to, eq of lists of texts, of entries, of uppers. -/
import Derived.Test.YtkefaelmamgjiaaDoorShp
set_option linter.unusedVariables false
set_option linter.unusedSimpArgs false
set_option maxHeartbeats 1000000
namespace Go.Proofs.YtkefaelmamgjiaaDoor
open Go.RowKit

/-- What is left of a number, -1 if it is not enough. -/
def szI (l : Int) (n : Nat) : Int := if (n : Int) ≤ l then l - n else -1
theorem szI_go {m : Int} {a b : Nat} (h : 0 ≤ m - a) : szI m (a + b) = szI (m - a) b := by unfold szI; split <;> split <;> omega
theorem szI_out {m : Int} {a b : Nat} (h : m - a < 0) : szI m (a + b) = -1 := by unfold szI; split <;> omega
theorem szI_neg {m : Int} {a b : Nat} (h : szI m a < 0) (h0 : 0 ≤ m) : szI m (a + b) = -1 := by unfold szI at *; split at h <;> split <;> omega
theorem szI_pos {m : Int} {a b : Nat} (h : 0 ≤ szI m a) : szI m (a + b) = szI (szI m a) b := by unfold szI at *; split at h <;> split <;> split <;> omega
theorem szI_le {m : Int} {a : Nat} (h0 : 0 ≤ m) : -1 ≤ szI m a ∧ szI m a ≤ m := by unfold szI; split <;> omega
theorem szStringS_ok (p : List ByteArray) {ok : Nat → Prop} {w0 : World} {v1 : Value} (h1 : Rd ok w0 (.sl (strsD p)) [v1]) (hp : PFit p) (left : Int) (h0 : 0 ≤ left) (hm : left ≤ 1048576) :
    Calls Tryd.prog 28 #[v1, .int .i64 left] w0 (Ret fun v w' => v = .int .i64 (szI left (namesWt p)) ∧ Below w0.heap.size w0 w') := by
  obtain ⟨A, c, e1, hl1⟩ := Rd_strs h1
  obtain rfl := List.singleton_inj.1 e1
  have f1 := hp.len
  have f2 := hp.mem
  have hw := namesWt_sum p
  have s := (St.start ok w0).begin h1
  refine calls_enter (n := 28) Tryd.func28 rfl rfl rfl ?_
  repeat (first | refine VS_seq ?_ | refine VS_block ?_ | refine VS_skip ?_ | refine VS_nil_block ?_)
  refine VS_region_lit ?_
  refine VL_run (d := 4) (run_assign rfl (by conv => lhs; whnf)) rfl rfl ?_
  refine VL_nil ?_
  repeat (first | refine VS_seq ?_ | refine VS_block ?_ | refine VS_skip ?_ | refine VS_nil_block ?_)
  refine VS_region_lit ?_
  refine VL_run (d := 6) (run_move rfl (by conv => lhs; whnf)) rfl rfl ?_
  refine VL_run (d := 7) (run_move rfl (by conv => lhs; whnf)) rfl rfl ?_
  refine VL_run (d := 8) (run_lenSlice rfl ⟨_, Tryd.underlying37⟩ rfl) rfl rfl ?_
  refine VL_run (d := 9) (run_sub rfl rfl rfl (by omega)) rfl rfl ?_
  refine VL_run (d := 1) (run_assign rfl (by conv => lhs; whnf)) rfl rfl ?_
  refine VL_nil ?_
  repeat (first | refine VS_seq ?_ | refine VS_block ?_ | refine VS_skip ?_ | refine VS_nil_block ?_)
  refine VS_region_lit ?_
  refine VL_run (d := 10) (run_move rfl (by conv => lhs; whnf)) rfl rfl ?_
  refine VL_run (d := 11) (run_ltI rfl rfl rfl) rfl rfl ?_
  refine VL_nil ?_
  refine VS_cond rfl (fun c0 => ?_) (fun c0 => ?_) <;> (try simp only [decide_eq_true_eq, decide_eq_false_iff_not, Bool.not_eq_true', Bool.not_eq_false', ne_eq, Decidable.not_not, cond_true, cond_false, Bool.and_eq_true, Bool.or_eq_true, Bool.and_eq_false_iff, Bool.or_eq_false_iff, Bool.not_true, Bool.not_false, reduceCtorEq] at c0)
  · repeat (first | refine VS_seq ?_ | refine VS_block ?_ | refine VS_skip ?_ | refine VS_nil_block ?_)
    refine VS_region_lit ?_
    refine VL_run (d := 4) (run_assign rfl (by conv => lhs; whnf)) rfl rfl ?_
    refine VL_nil ?_
    refine VS_ret ?_
    repeat (first | refine blockV_ret ?_ | refine backV_ret ?_ | refine backV2_ret ?_ | refine backV3_ret ?_ | refine thenV_ret ?_ | refine metV2_ret ?_)
    refine fin_one (fn := Tryd.f28) rfl (res_tmp (by conv => lhs; whnf)) ?_
    exact ⟨by rw [hw, szI_out (by omega)], s.below⟩
  · repeat (first | refine VS_seq ?_ | refine VS_block ?_ | refine VS_skip ?_ | refine VS_nil_block ?_)
    refine VS_region_lit ?_
    refine VL_run (d := 5) (run_assign rfl (by conv => lhs; whnf)) rfl rfl ?_
    refine VL_nil ?_
    repeat (first | refine VS_seq ?_ | refine VS_block ?_ | refine VS_skip ?_ | refine VS_nil_block ?_)
    refine VS_loop2 [1, 4, 5, 12, 13, 14, 15, 16, 17, 18, 19, 20, 21, 22, 23, 24, 25, 26] (fun (k : Nat) (m : Int) => [(5, .int .i64 k), (1, .int .i64 m)]) (fun k m w => St ok w0 [] [.dat [.slice A p.length c] (.sl (strsD p))] w ∧ k ≤ p.length ∧ 0 ≤ m ∧ m ≤ left ∧ szI left (namesWt p) = szI m ((p.drop k).map ByteArray.size).sum) (fun k _ => p.length - k) 0 (left - p.length) ⟨s, by omega, by omega, by omega, by rw [hw, szI_go (by omega)]; rfl⟩ (by repeat (first | exact Has.nil _ | refine Has.cons rfl ?_)) ?_
    clear s
    rintro k m w j ⟨s, hk, g0, g1, hf⟩
    repeat (first | refine VS_seq ?_ | refine VS_block ?_ | refine VS_skip ?_ | refine VS_nil_block ?_)
    refine VS_region_lit ?_
    refine VL_run (d := 12) (run_move rfl (by conv => lhs; whnf)) rfl rfl ?_
    refine VL_run (d := 13) (run_move rfl (by conv => lhs; whnf)) rfl rfl ?_
    refine VL_run (d := 14) (run_lenSlice rfl ⟨_, Tryd.underlying37⟩ rfl) rfl rfl ?_
    refine VL_run (d := 15) (run_ltI rfl rfl rfl) rfl rfl ?_
    refine VL_nil ?_
    refine VS_cond rfl (fun c1 => ?_) (fun c1 => ?_) <;> (try simp only [decide_eq_true_eq, decide_eq_false_iff_not, Bool.not_eq_true', Bool.not_eq_false', ne_eq, Decidable.not_not, cond_true, cond_false, Bool.and_eq_true, Bool.or_eq_true, Bool.and_eq_false_iff, Bool.or_eq_false_iff, Bool.not_true, Bool.not_false, reduceCtorEq] at c1)
    · repeat (first | refine VS_seq ?_ | refine VS_block ?_ | refine VS_skip ?_ | refine VS_nil_block ?_)
      have hk' : k < p.length := by omega
      obtain ⟨ad, rfl, s⟩ := s.openS (i := 0) rfl k hk'
      have hx := f2 _ (List.getElem_mem hk')
      rw [sum_drop _ hk'] at hf
      refine VS_region_lit ?_
      refine VL_run (d := 18) (run_move rfl (by conv => lhs; whnf)) rfl rfl ?_
      refine VL_run (d := 19) (run_move rfl (by conv => lhs; whnf)) rfl rfl ?_
      refine VL_run (d := 20) (run_move rfl (by conv => lhs; whnf)) rfl rfl ?_
      refine VL_run (d := 21) (run_indexAddr rfl Tryd.underlying37 ty9 rfl rfl (by omega) (by omega)) rfl rfl ?_
      first | (refine VL_run (d := 22) (run_load_own1 s rfl ty9 rfl (i := 0) rfl rfl) rfl rfl ?_) | (refine VL_run (d := 22) (run_load_own1 s rfl ty9 rfl (i := 1) rfl rfl) rfl rfl ?_) | (refine VL_run (d := 22) (run_load_own1 s rfl ty9 rfl (i := 2) rfl rfl) rfl rfl ?_) | (refine VL_run (d := 22) (run_load_own1 s rfl ty9 rfl (i := 3) rfl rfl) rfl rfl ?_) | (refine VL_run (d := 22) (run_load_own1 s rfl ty9 rfl (i := 4) rfl rfl) rfl rfl ?_) | (refine VL_run (d := 22) (run_load_own1 s rfl ty9 rfl (i := 5) rfl rfl) rfl rfl ?_) | (refine VL_run (d := 22) (run_load_own1 s rfl ty9 rfl (i := 6) rfl rfl) rfl rfl ?_) | (refine VL_run (d := 22) (run_load_own1 s rfl ty9 rfl (i := 7) rfl rfl) rfl rfl ?_) | (refine VL_run (d := 22) (run_load_own1 s rfl ty9 rfl (i := 8) rfl rfl) rfl rfl ?_) | (refine VL_run (d := 22) (run_load_at1 s rfl ty9 rfl (i := 0) rfl rfl) rfl rfl ?_) | (refine VL_run (d := 22) (run_load_at1 s rfl ty9 rfl (i := 1) rfl rfl) rfl rfl ?_) | (refine VL_run (d := 22) (run_load_at1 s rfl ty9 rfl (i := 2) rfl rfl) rfl rfl ?_) | (refine VL_run (d := 22) (run_load_at1 s rfl ty9 rfl (i := 3) rfl rfl) rfl rfl ?_) | (refine VL_run (d := 22) (run_load_at1 s rfl ty9 rfl (i := 4) rfl rfl) rfl rfl ?_) | (refine VL_run (d := 22) (run_load_at1 s rfl ty9 rfl (i := 5) rfl rfl) rfl rfl ?_) | (refine VL_run (d := 22) (run_load_at1 s rfl ty9 rfl (i := 6) rfl rfl) rfl rfl ?_) | (refine VL_run (d := 22) (run_load_at1 s rfl ty9 rfl (i := 7) rfl rfl) rfl rfl ?_) | (refine VL_run (d := 22) (run_load_at1 s rfl ty9 rfl (i := 8) rfl rfl) rfl rfl ?_) | (refine VL_run (d := 22) (run_load_at0 s rfl ty9 rfl (i := 0) rfl rfl) rfl rfl ?_) | (refine VL_run (d := 22) (run_load_at0 s rfl ty9 rfl (i := 1) rfl rfl) rfl rfl ?_) | (refine VL_run (d := 22) (run_load_at0 s rfl ty9 rfl (i := 2) rfl rfl) rfl rfl ?_) | (refine VL_run (d := 22) (run_load_at0 s rfl ty9 rfl (i := 3) rfl rfl) rfl rfl ?_) | (refine VL_run (d := 22) (run_load_at0 s rfl ty9 rfl (i := 4) rfl rfl) rfl rfl ?_) | (refine VL_run (d := 22) (run_load_at0 s rfl ty9 rfl (i := 5) rfl rfl) rfl rfl ?_) | (refine VL_run (d := 22) (run_load_at0 s rfl ty9 rfl (i := 6) rfl rfl) rfl rfl ?_) | (refine VL_run (d := 22) (run_load_at0 s rfl ty9 rfl (i := 7) rfl rfl) rfl rfl ?_) | (refine VL_run (d := 22) (run_load_at0 s rfl ty9 rfl (i := 8) rfl rfl) rfl rfl ?_)
      refine VL_run (d := 23) (run_lenStr rfl Tryd.underlying9 rfl) rfl rfl ?_
      refine VL_run (d := 24) (run_sub rfl rfl rfl (by omega)) rfl rfl ?_
      refine VL_run (d := 1) (run_assign rfl (by conv => lhs; whnf)) rfl rfl ?_
      refine VL_nil ?_
      repeat (first | refine VS_seq ?_ | refine VS_block ?_ | refine VS_skip ?_ | refine VS_nil_block ?_)
      refine VS_region_lit ?_
      refine VL_run (d := 25) (run_move rfl (by conv => lhs; whnf)) rfl rfl ?_
      refine VL_run (d := 26) (run_ltI rfl rfl rfl) rfl rfl ?_
      refine VL_nil ?_
      refine VS_cond rfl (fun c2 => ?_) (fun c2 => ?_) <;> (try simp only [decide_eq_true_eq, decide_eq_false_iff_not, Bool.not_eq_true', Bool.not_eq_false', ne_eq, Decidable.not_not, cond_true, cond_false, Bool.and_eq_true, Bool.or_eq_true, Bool.and_eq_false_iff, Bool.or_eq_false_iff, Bool.not_true, Bool.not_false, reduceCtorEq] at c2)
      · repeat (first | refine VS_seq ?_ | refine VS_block ?_ | refine VS_skip ?_ | refine VS_nil_block ?_)
        refine VS_region_lit ?_
        refine VL_run (d := 4) (run_assign rfl (by conv => lhs; whnf)) rfl rfl ?_
        refine VL_nil ?_
        refine VS_ret ?_
        repeat (first | refine blockV_ret ?_ | refine backV_ret ?_ | refine backV2_ret ?_ | refine backV3_ret ?_ | refine thenV_ret ?_ | refine metV2_ret ?_)
        refine fin_one (fn := Tryd.f28) rfl (res_tmp (by conv => lhs; whnf)) ?_
        exact ⟨by rw [hf, szI_out (by omega)], s.below⟩
      · repeat (first | refine VS_seq ?_ | refine VS_block ?_ | refine VS_skip ?_ | refine VS_nil_block ?_)
        refine VS_region_lit ?_
        refine VL_run (d := 16) (run_move rfl (by conv => lhs; whnf)) rfl rfl ?_
        refine VL_run (d := 17) (run_add rfl rfl rfl (by omega)) rfl rfl ?_
        refine VL_run (d := 5) (run_assign rfl (by conv => lhs; whnf)) rfl rfl ?_
        refine VL_nil ?_
        refine VS_back2 (k + 1) (m - p[k].size) ?_ (by repeat (first | exact Has.nil _ | refine Has.cons rfl ?_)) (by repeat (first | exact Out.mix _ _ _ | exact Out.refl _ _ | refine Out.upd rfl ?_ | refine Out.mix_in rfl ?_)) ?_
        · exact ⟨s.less (by simp), by omega, by omega, by omega, by rw [hf, szI_go (by omega)]⟩
        · omega
    · refine VS_exit ?_
      repeat (first | refine blockV_hit ?_ | refine backV_exit ?_ | refine backV2_exit ?_ | refine backV3_exit ?_ | refine blockV_miss rfl ?_ | refine thenV_exit ?_ | refine metV2_exit ?_)
      repeat (first | refine VS_seq ?_ | refine VS_block ?_ | refine VS_skip ?_ | refine VS_nil_block ?_)
      refine VS_region_lit ?_
      refine VL_run (d := 27) (run_move rfl (by conv => lhs; whnf)) rfl rfl ?_
      refine VL_run (d := 4) (run_assign rfl (by conv => lhs; whnf)) rfl rfl ?_
      refine VL_nil ?_
      refine VS_ret ?_
      repeat (first | refine blockV_ret ?_ | refine backV_ret ?_ | refine backV2_ret ?_ | refine backV3_ret ?_ | refine thenV_ret ?_ | refine metV2_ret ?_)
      refine fin_one (fn := Tryd.f28) rfl (res_tmp (by conv => lhs; whnf)) ?_
      refine ⟨?_, s.below⟩
      rw [hf, List.drop_of_length_le (by omega)]
      simp [szI, g0]
theorem szStringSS_ok (p : List (List ByteArray)) {ok : Nat → Prop} {w0 : World} {v1 : Value} (h1 : Rd ok w0 (.sl (pathsD p)) [v1]) (hp : pathsWt p ≤ 1000000000) (left : Int) (h0 : 0 ≤ left) (hm : left ≤ 1048576) :
    Calls Tryd.prog 9 #[v1, .int .i64 left] w0 (Ret fun v w' => v = .int .i64 (szI left (pathsWt p)) ∧ Below w0.heap.size w0 w') := by
  obtain ⟨A, c, e1, hl1⟩ := Rd_paths h1
  obtain rfl := List.singleton_inj.1 e1
  have hw : pathsWt p = p.length + (p.map namesWt).sum := rfl
  have s := (St.start ok w0).begin h1
  refine calls_enter (n := 27) Tryd.func9 rfl rfl rfl ?_
  repeat (first | refine VS_seq ?_ | refine VS_block ?_ | refine VS_skip ?_ | refine VS_nil_block ?_)
  refine VS_region_lit ?_
  refine VL_run (d := 4) (run_assign rfl (by conv => lhs; whnf)) rfl rfl ?_
  refine VL_nil ?_
  repeat (first | refine VS_seq ?_ | refine VS_block ?_ | refine VS_skip ?_ | refine VS_nil_block ?_)
  refine VS_region_lit ?_
  refine VL_run (d := 6) (run_move rfl (by conv => lhs; whnf)) rfl rfl ?_
  refine VL_run (d := 7) (run_move rfl (by conv => lhs; whnf)) rfl rfl ?_
  refine VL_run (d := 8) (run_lenSlice rfl ⟨_, Tryd.underlying22⟩ rfl) rfl rfl ?_
  refine VL_run (d := 9) (run_sub rfl rfl rfl (by omega)) rfl rfl ?_
  refine VL_run (d := 1) (run_assign rfl (by conv => lhs; whnf)) rfl rfl ?_
  refine VL_nil ?_
  repeat (first | refine VS_seq ?_ | refine VS_block ?_ | refine VS_skip ?_ | refine VS_nil_block ?_)
  refine VS_region_lit ?_
  refine VL_run (d := 10) (run_move rfl (by conv => lhs; whnf)) rfl rfl ?_
  refine VL_run (d := 11) (run_ltI rfl rfl rfl) rfl rfl ?_
  refine VL_nil ?_
  refine VS_cond rfl (fun c0 => ?_) (fun c0 => ?_) <;> (try simp only [decide_eq_true_eq, decide_eq_false_iff_not, Bool.not_eq_true', Bool.not_eq_false', ne_eq, Decidable.not_not, cond_true, cond_false, Bool.and_eq_true, Bool.or_eq_true, Bool.and_eq_false_iff, Bool.or_eq_false_iff, Bool.not_true, Bool.not_false, reduceCtorEq] at c0)
  · repeat (first | refine VS_seq ?_ | refine VS_block ?_ | refine VS_skip ?_ | refine VS_nil_block ?_)
    refine VS_region_lit ?_
    refine VL_run (d := 4) (run_assign rfl (by conv => lhs; whnf)) rfl rfl ?_
    refine VL_nil ?_
    refine VS_ret ?_
    repeat (first | refine blockV_ret ?_ | refine backV_ret ?_ | refine backV2_ret ?_ | refine backV3_ret ?_ | refine thenV_ret ?_ | refine metV2_ret ?_)
    refine fin_one (fn := Tryd.f9) rfl (res_tmp (by conv => lhs; whnf)) ?_
    exact ⟨by rw [hw, szI_out (by omega)], s.below⟩
  · repeat (first | refine VS_seq ?_ | refine VS_block ?_ | refine VS_skip ?_ | refine VS_nil_block ?_)
    refine VS_region_lit ?_
    refine VL_run (d := 5) (run_assign rfl (by conv => lhs; whnf)) rfl rfl ?_
    refine VL_nil ?_
    repeat (first | refine VS_seq ?_ | refine VS_block ?_ | refine VS_skip ?_ | refine VS_nil_block ?_)
    refine VS_loop2 [1, 4, 5, 12, 13, 14, 15, 16, 17, 18, 19, 20, 21, 22, 23, 24, 25] (fun (k : Nat) (m : Int) => [(5, .int .i64 k), (1, .int .i64 m)]) (fun k m w => St ok w0 [] [.dat [.slice A p.length c] (.sl (pathsD p))] w ∧ k ≤ p.length ∧ 0 ≤ m ∧ m ≤ left ∧ szI left (pathsWt p) = szI m ((p.drop k).map namesWt).sum) (fun k _ => p.length - k) 0 (left - p.length) ⟨s, by omega, by omega, by omega, by rw [hw, szI_go (by omega)]; rfl⟩ (by repeat (first | exact Has.nil _ | refine Has.cons rfl ?_)) ?_
    clear s
    rintro k m w j ⟨s, hk, g0, g1, hf⟩
    repeat (first | refine VS_seq ?_ | refine VS_block ?_ | refine VS_skip ?_ | refine VS_nil_block ?_)
    refine VS_region_lit ?_
    refine VL_run (d := 12) (run_move rfl (by conv => lhs; whnf)) rfl rfl ?_
    refine VL_run (d := 13) (run_move rfl (by conv => lhs; whnf)) rfl rfl ?_
    refine VL_run (d := 14) (run_lenSlice rfl ⟨_, Tryd.underlying22⟩ rfl) rfl rfl ?_
    refine VL_run (d := 15) (run_ltI rfl rfl rfl) rfl rfl ?_
    refine VL_nil ?_
    refine VS_cond rfl (fun c1 => ?_) (fun c1 => ?_) <;> (try simp only [decide_eq_true_eq, decide_eq_false_iff_not, Bool.not_eq_true', Bool.not_eq_false', ne_eq, Decidable.not_not, cond_true, cond_false, Bool.and_eq_true, Bool.or_eq_true, Bool.and_eq_false_iff, Bool.or_eq_false_iff, Bool.not_true, Bool.not_false, reduceCtorEq] at c1)
    · repeat (first | refine VS_seq ?_ | refine VS_block ?_ | refine VS_skip ?_ | refine VS_nil_block ?_)
      have hk' : k < p.length := by omega
      obtain ⟨ad, A5, c5, rfl, hl5, s⟩ := s.openP (i := 0) rfl k hk'
      have hx := sum_mem (f := namesWt) (List.getElem_mem hk')
      rw [sum_drop _ hk'] at hf
      have hb := szI_le (a := namesWt p[k]) g0
      refine VS_region_lit ?_
      refine VL_run (d := 18) (run_move rfl (by conv => lhs; whnf)) rfl rfl ?_
      refine VL_run (d := 19) (run_move rfl (by conv => lhs; whnf)) rfl rfl ?_
      refine VL_run (d := 20) (run_indexAddr rfl Tryd.underlying22 ty37 rfl rfl (by omega) (by omega)) rfl rfl ?_
      first | (refine VL_run (d := 21) (run_load_own1 s rfl ty37 rfl (i := 0) rfl rfl) rfl rfl ?_) | (refine VL_run (d := 21) (run_load_own1 s rfl ty37 rfl (i := 1) rfl rfl) rfl rfl ?_) | (refine VL_run (d := 21) (run_load_own1 s rfl ty37 rfl (i := 2) rfl rfl) rfl rfl ?_) | (refine VL_run (d := 21) (run_load_own1 s rfl ty37 rfl (i := 3) rfl rfl) rfl rfl ?_) | (refine VL_run (d := 21) (run_load_own1 s rfl ty37 rfl (i := 4) rfl rfl) rfl rfl ?_) | (refine VL_run (d := 21) (run_load_own1 s rfl ty37 rfl (i := 5) rfl rfl) rfl rfl ?_) | (refine VL_run (d := 21) (run_load_own1 s rfl ty37 rfl (i := 6) rfl rfl) rfl rfl ?_) | (refine VL_run (d := 21) (run_load_own1 s rfl ty37 rfl (i := 7) rfl rfl) rfl rfl ?_) | (refine VL_run (d := 21) (run_load_own1 s rfl ty37 rfl (i := 8) rfl rfl) rfl rfl ?_) | (refine VL_run (d := 21) (run_load_at1 s rfl ty37 rfl (i := 0) rfl rfl) rfl rfl ?_) | (refine VL_run (d := 21) (run_load_at1 s rfl ty37 rfl (i := 1) rfl rfl) rfl rfl ?_) | (refine VL_run (d := 21) (run_load_at1 s rfl ty37 rfl (i := 2) rfl rfl) rfl rfl ?_) | (refine VL_run (d := 21) (run_load_at1 s rfl ty37 rfl (i := 3) rfl rfl) rfl rfl ?_) | (refine VL_run (d := 21) (run_load_at1 s rfl ty37 rfl (i := 4) rfl rfl) rfl rfl ?_) | (refine VL_run (d := 21) (run_load_at1 s rfl ty37 rfl (i := 5) rfl rfl) rfl rfl ?_) | (refine VL_run (d := 21) (run_load_at1 s rfl ty37 rfl (i := 6) rfl rfl) rfl rfl ?_) | (refine VL_run (d := 21) (run_load_at1 s rfl ty37 rfl (i := 7) rfl rfl) rfl rfl ?_) | (refine VL_run (d := 21) (run_load_at1 s rfl ty37 rfl (i := 8) rfl rfl) rfl rfl ?_) | (refine VL_run (d := 21) (run_load_at0 s rfl ty37 rfl (i := 0) rfl rfl) rfl rfl ?_) | (refine VL_run (d := 21) (run_load_at0 s rfl ty37 rfl (i := 1) rfl rfl) rfl rfl ?_) | (refine VL_run (d := 21) (run_load_at0 s rfl ty37 rfl (i := 2) rfl rfl) rfl rfl ?_) | (refine VL_run (d := 21) (run_load_at0 s rfl ty37 rfl (i := 3) rfl rfl) rfl rfl ?_) | (refine VL_run (d := 21) (run_load_at0 s rfl ty37 rfl (i := 4) rfl rfl) rfl rfl ?_) | (refine VL_run (d := 21) (run_load_at0 s rfl ty37 rfl (i := 5) rfl rfl) rfl rfl ?_) | (refine VL_run (d := 21) (run_load_at0 s rfl ty37 rfl (i := 6) rfl rfl) rfl rfl ?_) | (refine VL_run (d := 21) (run_load_at0 s rfl ty37 rfl (i := 7) rfl rfl) rfl rfl ?_) | (refine VL_run (d := 21) (run_load_at0 s rfl ty37 rfl (i := 8) rfl rfl) rfl rfl ?_)
      refine VL_run (d := 22) (run_move rfl (by conv => lhs; whnf)) rfl rfl ?_
      refine VL_does (d := 23) (does_call2 rfl (by kernel_rfl) rfl rfl (szStringS_ok _ (s.dat (i := 1) rfl) (by unfold PFit; omega) m g0 (by omega)) ?_) rfl rfl
      rintro _ w ⟨rfl, hb⟩
      replace s := s.step hb
      clear hb
      refine VL_run (d := 1) (run_assign rfl (by conv => lhs; whnf)) rfl rfl ?_
      refine VL_nil ?_
      repeat (first | refine VS_seq ?_ | refine VS_block ?_ | refine VS_skip ?_ | refine VS_nil_block ?_)
      refine VS_region_lit ?_
      refine VL_run (d := 24) (run_move rfl (by conv => lhs; whnf)) rfl rfl ?_
      refine VL_run (d := 25) (run_ltI rfl rfl rfl) rfl rfl ?_
      refine VL_nil ?_
      refine VS_cond rfl (fun c2 => ?_) (fun c2 => ?_) <;> (try simp only [decide_eq_true_eq, decide_eq_false_iff_not, Bool.not_eq_true', Bool.not_eq_false', ne_eq, Decidable.not_not, cond_true, cond_false, Bool.and_eq_true, Bool.or_eq_true, Bool.and_eq_false_iff, Bool.or_eq_false_iff, Bool.not_true, Bool.not_false, reduceCtorEq] at c2)
      · repeat (first | refine VS_seq ?_ | refine VS_block ?_ | refine VS_skip ?_ | refine VS_nil_block ?_)
        refine VS_region_lit ?_
        refine VL_run (d := 4) (run_assign rfl (by conv => lhs; whnf)) rfl rfl ?_
        refine VL_nil ?_
        refine VS_ret ?_
        repeat (first | refine blockV_ret ?_ | refine backV_ret ?_ | refine backV2_ret ?_ | refine backV3_ret ?_ | refine thenV_ret ?_ | refine metV2_ret ?_)
        refine fin_one (fn := Tryd.f9) rfl (res_tmp (by conv => lhs; whnf)) ?_
        exact ⟨by rw [hf, szI_neg c2 g0], s.below⟩
      · repeat (first | refine VS_seq ?_ | refine VS_block ?_ | refine VS_skip ?_ | refine VS_nil_block ?_)
        refine VS_region_lit ?_
        refine VL_run (d := 16) (run_move rfl (by conv => lhs; whnf)) rfl rfl ?_
        refine VL_run (d := 17) (run_add rfl rfl rfl (by omega)) rfl rfl ?_
        refine VL_run (d := 5) (run_assign rfl (by conv => lhs; whnf)) rfl rfl ?_
        refine VL_nil ?_
        refine VS_back2 (k + 1) (szI m (namesWt p[k])) ?_ (by repeat (first | exact Has.nil _ | refine Has.cons rfl ?_)) (by repeat (first | exact Out.mix _ _ _ | exact Out.refl _ _ | refine Out.upd rfl ?_ | refine Out.mix_in rfl ?_)) ?_
        · exact ⟨s.less (by simp), by omega, by omega, by omega, by rw [hf, szI_pos (by omega)]⟩
        · omega
    · refine VS_exit ?_
      repeat (first | refine blockV_hit ?_ | refine backV_exit ?_ | refine backV2_exit ?_ | refine backV3_exit ?_ | refine blockV_miss rfl ?_ | refine thenV_exit ?_ | refine metV2_exit ?_)
      repeat (first | refine VS_seq ?_ | refine VS_block ?_ | refine VS_skip ?_ | refine VS_nil_block ?_)
      refine VS_region_lit ?_
      refine VL_run (d := 26) (run_move rfl (by conv => lhs; whnf)) rfl rfl ?_
      refine VL_run (d := 4) (run_assign rfl (by conv => lhs; whnf)) rfl rfl ?_
      refine VL_nil ?_
      refine VS_ret ?_
      repeat (first | refine blockV_ret ?_ | refine backV_ret ?_ | refine backV2_ret ?_ | refine backV3_ret ?_ | refine thenV_ret ?_ | refine metV2_ret ?_)
      refine fin_one (fn := Tryd.f9) rfl (res_tmp (by conv => lhs; whnf)) ?_
      refine ⟨?_, s.below⟩
      rw [hf, List.drop_of_length_le (by omega)]
      simp [szI, g0]
theorem szEntry_ok (e : En) {ok : Nat → Prop} {w0 : World} {cs : List Value} (h1 : Rd ok w0 e.toD cs) (hp : e.wt ≤ 1000000000) (left : Int) (h0 : 0 ≤ left) (hm : left ≤ 1048576) :
    Calls Tryd.prog 29 #[.agg cs.toArray, .int .i64 left] w0 (Ret fun v w' => v = .int .i64 (szI left e.wt) ∧ Below w0.heap.size w0 w') := by
  obtain ⟨A, c, rfl, hl, hpa⟩ := En.opn h1
  have hw : e.wt = namesWt e.path + e.data.size := rfl
  have hb := szI_le (a := namesWt e.path) h0
  clear h1
  have s := (St.start ok w0).begin hpa
  refine calls_enter (n := 19) Tryd.func29 rfl rfl rfl ?_
  repeat (first | refine VS_seq ?_ | refine VS_block ?_ | refine VS_skip ?_ | refine VS_nil_block ?_)
  refine VS_region_lit ?_
  refine VL_does (d := 2) (does_box s rfl rfl rfl ?_) rfl rfl
  clear s; intro b2 w s
  refine VL_run (d := 4) (run_assign rfl (by conv => lhs; whnf)) rfl rfl ?_
  refine VL_nil ?_
  repeat (first | refine VS_seq ?_ | refine VS_block ?_ | refine VS_skip ?_ | refine VS_nil_block ?_)
  refine VS_region_lit ?_
  refine VL_run (d := 5) (run_fieldAddr rfl fo65_0 rfl) rfl rfl ?_
  first | (refine VL_run (d := 6) (run_load_own1 s rfl ty37 rfl (i := 0) rfl rfl) rfl rfl ?_) | (refine VL_run (d := 6) (run_load_own1 s rfl ty37 rfl (i := 1) rfl rfl) rfl rfl ?_) | (refine VL_run (d := 6) (run_load_own1 s rfl ty37 rfl (i := 2) rfl rfl) rfl rfl ?_) | (refine VL_run (d := 6) (run_load_own1 s rfl ty37 rfl (i := 3) rfl rfl) rfl rfl ?_) | (refine VL_run (d := 6) (run_load_own1 s rfl ty37 rfl (i := 4) rfl rfl) rfl rfl ?_) | (refine VL_run (d := 6) (run_load_own1 s rfl ty37 rfl (i := 5) rfl rfl) rfl rfl ?_) | (refine VL_run (d := 6) (run_load_own1 s rfl ty37 rfl (i := 6) rfl rfl) rfl rfl ?_) | (refine VL_run (d := 6) (run_load_own1 s rfl ty37 rfl (i := 7) rfl rfl) rfl rfl ?_) | (refine VL_run (d := 6) (run_load_own1 s rfl ty37 rfl (i := 8) rfl rfl) rfl rfl ?_) | (refine VL_run (d := 6) (run_load_at1 s rfl ty37 rfl (i := 0) rfl rfl) rfl rfl ?_) | (refine VL_run (d := 6) (run_load_at1 s rfl ty37 rfl (i := 1) rfl rfl) rfl rfl ?_) | (refine VL_run (d := 6) (run_load_at1 s rfl ty37 rfl (i := 2) rfl rfl) rfl rfl ?_) | (refine VL_run (d := 6) (run_load_at1 s rfl ty37 rfl (i := 3) rfl rfl) rfl rfl ?_) | (refine VL_run (d := 6) (run_load_at1 s rfl ty37 rfl (i := 4) rfl rfl) rfl rfl ?_) | (refine VL_run (d := 6) (run_load_at1 s rfl ty37 rfl (i := 5) rfl rfl) rfl rfl ?_) | (refine VL_run (d := 6) (run_load_at1 s rfl ty37 rfl (i := 6) rfl rfl) rfl rfl ?_) | (refine VL_run (d := 6) (run_load_at1 s rfl ty37 rfl (i := 7) rfl rfl) rfl rfl ?_) | (refine VL_run (d := 6) (run_load_at1 s rfl ty37 rfl (i := 8) rfl rfl) rfl rfl ?_) | (refine VL_run (d := 6) (run_load_at0 s rfl ty37 rfl (i := 0) rfl rfl) rfl rfl ?_) | (refine VL_run (d := 6) (run_load_at0 s rfl ty37 rfl (i := 1) rfl rfl) rfl rfl ?_) | (refine VL_run (d := 6) (run_load_at0 s rfl ty37 rfl (i := 2) rfl rfl) rfl rfl ?_) | (refine VL_run (d := 6) (run_load_at0 s rfl ty37 rfl (i := 3) rfl rfl) rfl rfl ?_) | (refine VL_run (d := 6) (run_load_at0 s rfl ty37 rfl (i := 4) rfl rfl) rfl rfl ?_) | (refine VL_run (d := 6) (run_load_at0 s rfl ty37 rfl (i := 5) rfl rfl) rfl rfl ?_) | (refine VL_run (d := 6) (run_load_at0 s rfl ty37 rfl (i := 6) rfl rfl) rfl rfl ?_) | (refine VL_run (d := 6) (run_load_at0 s rfl ty37 rfl (i := 7) rfl rfl) rfl rfl ?_) | (refine VL_run (d := 6) (run_load_at0 s rfl ty37 rfl (i := 8) rfl rfl) rfl rfl ?_)
  refine VL_run (d := 7) (run_move rfl (by conv => lhs; whnf)) rfl rfl ?_
  refine VL_does (d := 8) (does_call2 rfl (by kernel_rfl) rfl rfl (szStringS_ok _ (s.dat (i := 0) rfl) (by unfold PFit; omega) left h0 hm) ?_) rfl rfl
  rintro _ w ⟨rfl, hb⟩
  replace s := s.step hb
  clear hb
  refine VL_run (d := 1) (run_assign rfl (by conv => lhs; whnf)) rfl rfl ?_
  refine VL_nil ?_
  repeat (first | refine VS_seq ?_ | refine VS_block ?_ | refine VS_skip ?_ | refine VS_nil_block ?_)
  refine VS_region_lit ?_
  refine VL_run (d := 9) (run_move rfl (by conv => lhs; whnf)) rfl rfl ?_
  refine VL_run (d := 10) (run_ltI rfl rfl rfl) rfl rfl ?_
  refine VL_nil ?_
  refine VS_cond rfl (fun c0 => ?_) (fun c0 => ?_) <;> (try simp only [decide_eq_true_eq, decide_eq_false_iff_not, Bool.not_eq_true', Bool.not_eq_false', ne_eq, Decidable.not_not, cond_true, cond_false, Bool.and_eq_true, Bool.or_eq_true, Bool.and_eq_false_iff, Bool.or_eq_false_iff, Bool.not_true, Bool.not_false, reduceCtorEq] at c0)
  · repeat (first | refine VS_seq ?_ | refine VS_block ?_ | refine VS_skip ?_ | refine VS_nil_block ?_)
    refine VS_region_lit ?_
    refine VL_run (d := 4) (run_assign rfl (by conv => lhs; whnf)) rfl rfl ?_
    refine VL_nil ?_
    refine VS_ret ?_
    repeat (first | refine blockV_ret ?_ | refine backV_ret ?_ | refine backV2_ret ?_ | refine backV3_ret ?_ | refine thenV_ret ?_ | refine metV2_ret ?_)
    refine fin_one (fn := Tryd.f29) rfl (res_tmp (by conv => lhs; whnf)) ?_
    exact ⟨by rw [hw, szI_neg c0 h0], s.below⟩
  · repeat (first | refine VS_seq ?_ | refine VS_block ?_ | refine VS_skip ?_ | refine VS_nil_block ?_)
    refine VS_region_lit ?_
    refine VL_run (d := 11) (run_move rfl (by conv => lhs; whnf)) rfl rfl ?_
    refine VL_run (d := 12) (run_fieldAddr rfl fo65_4 rfl) rfl rfl ?_
    first | (refine VL_run (d := 13) (run_load_own1 s rfl ty9 rfl (i := 0) rfl rfl) rfl rfl ?_) | (refine VL_run (d := 13) (run_load_own1 s rfl ty9 rfl (i := 1) rfl rfl) rfl rfl ?_) | (refine VL_run (d := 13) (run_load_own1 s rfl ty9 rfl (i := 2) rfl rfl) rfl rfl ?_) | (refine VL_run (d := 13) (run_load_own1 s rfl ty9 rfl (i := 3) rfl rfl) rfl rfl ?_) | (refine VL_run (d := 13) (run_load_own1 s rfl ty9 rfl (i := 4) rfl rfl) rfl rfl ?_) | (refine VL_run (d := 13) (run_load_own1 s rfl ty9 rfl (i := 5) rfl rfl) rfl rfl ?_) | (refine VL_run (d := 13) (run_load_own1 s rfl ty9 rfl (i := 6) rfl rfl) rfl rfl ?_) | (refine VL_run (d := 13) (run_load_own1 s rfl ty9 rfl (i := 7) rfl rfl) rfl rfl ?_) | (refine VL_run (d := 13) (run_load_own1 s rfl ty9 rfl (i := 8) rfl rfl) rfl rfl ?_) | (refine VL_run (d := 13) (run_load_at1 s rfl ty9 rfl (i := 0) rfl rfl) rfl rfl ?_) | (refine VL_run (d := 13) (run_load_at1 s rfl ty9 rfl (i := 1) rfl rfl) rfl rfl ?_) | (refine VL_run (d := 13) (run_load_at1 s rfl ty9 rfl (i := 2) rfl rfl) rfl rfl ?_) | (refine VL_run (d := 13) (run_load_at1 s rfl ty9 rfl (i := 3) rfl rfl) rfl rfl ?_) | (refine VL_run (d := 13) (run_load_at1 s rfl ty9 rfl (i := 4) rfl rfl) rfl rfl ?_) | (refine VL_run (d := 13) (run_load_at1 s rfl ty9 rfl (i := 5) rfl rfl) rfl rfl ?_) | (refine VL_run (d := 13) (run_load_at1 s rfl ty9 rfl (i := 6) rfl rfl) rfl rfl ?_) | (refine VL_run (d := 13) (run_load_at1 s rfl ty9 rfl (i := 7) rfl rfl) rfl rfl ?_) | (refine VL_run (d := 13) (run_load_at1 s rfl ty9 rfl (i := 8) rfl rfl) rfl rfl ?_) | (refine VL_run (d := 13) (run_load_at0 s rfl ty9 rfl (i := 0) rfl rfl) rfl rfl ?_) | (refine VL_run (d := 13) (run_load_at0 s rfl ty9 rfl (i := 1) rfl rfl) rfl rfl ?_) | (refine VL_run (d := 13) (run_load_at0 s rfl ty9 rfl (i := 2) rfl rfl) rfl rfl ?_) | (refine VL_run (d := 13) (run_load_at0 s rfl ty9 rfl (i := 3) rfl rfl) rfl rfl ?_) | (refine VL_run (d := 13) (run_load_at0 s rfl ty9 rfl (i := 4) rfl rfl) rfl rfl ?_) | (refine VL_run (d := 13) (run_load_at0 s rfl ty9 rfl (i := 5) rfl rfl) rfl rfl ?_) | (refine VL_run (d := 13) (run_load_at0 s rfl ty9 rfl (i := 6) rfl rfl) rfl rfl ?_) | (refine VL_run (d := 13) (run_load_at0 s rfl ty9 rfl (i := 7) rfl rfl) rfl rfl ?_) | (refine VL_run (d := 13) (run_load_at0 s rfl ty9 rfl (i := 8) rfl rfl) rfl rfl ?_)
    refine VL_run (d := 14) (run_lenStr rfl Tryd.underlying9 rfl) rfl rfl ?_
    refine VL_run (d := 15) (run_sub rfl rfl rfl (by omega)) rfl rfl ?_
    refine VL_run (d := 1) (run_assign rfl (by conv => lhs; whnf)) rfl rfl ?_
    refine VL_nil ?_
    repeat (first | refine VS_seq ?_ | refine VS_block ?_ | refine VS_skip ?_ | refine VS_nil_block ?_)
    refine VS_region_lit ?_
    refine VL_run (d := 16) (run_move rfl (by conv => lhs; whnf)) rfl rfl ?_
    refine VL_run (d := 17) (run_ltI rfl rfl rfl) rfl rfl ?_
    refine VL_nil ?_
    refine VS_cond rfl (fun c1 => ?_) (fun c1 => ?_) <;> (try simp only [decide_eq_true_eq, decide_eq_false_iff_not, Bool.not_eq_true', Bool.not_eq_false', ne_eq, Decidable.not_not, cond_true, cond_false, Bool.and_eq_true, Bool.or_eq_true, Bool.and_eq_false_iff, Bool.or_eq_false_iff, Bool.not_true, Bool.not_false, reduceCtorEq] at c1)
    · repeat (first | refine VS_seq ?_ | refine VS_block ?_ | refine VS_skip ?_ | refine VS_nil_block ?_)
      refine VS_region_lit ?_
      refine VL_run (d := 4) (run_assign rfl (by conv => lhs; whnf)) rfl rfl ?_
      refine VL_nil ?_
      refine VS_ret ?_
      repeat (first | refine blockV_ret ?_ | refine backV_ret ?_ | refine backV2_ret ?_ | refine backV3_ret ?_ | refine thenV_ret ?_ | refine metV2_ret ?_)
      refine fin_one (fn := Tryd.f29) rfl (res_tmp (by conv => lhs; whnf)) ?_
      exact ⟨by rw [hw, szI_pos (by omega)]; congr 1; unfold szI at *; split <;> omega, s.below⟩
    · repeat (first | refine VS_seq ?_ | refine VS_block ?_ | refine VS_skip ?_ | refine VS_nil_block ?_)
      refine VS_region_lit ?_
      refine VL_run (d := 18) (run_move rfl (by conv => lhs; whnf)) rfl rfl ?_
      refine VL_run (d := 4) (run_assign rfl (by conv => lhs; whnf)) rfl rfl ?_
      refine VL_nil ?_
      refine VS_ret ?_
      repeat (first | refine blockV_ret ?_ | refine backV_ret ?_ | refine backV2_ret ?_ | refine backV3_ret ?_ | refine thenV_ret ?_ | refine metV2_ret ?_)
      refine fin_one (fn := Tryd.f29) rfl (res_tmp (by conv => lhs; whnf)) ?_
      exact ⟨by rw [hw, szI_pos (by omega)]; congr 1; generalize szI left (namesWt e.path) = z at *; unfold szI; split <;> omega, s.below⟩
theorem szEntryS_ok (p : List En) {ok : Nat → Prop} {w0 : World} {v1 : Value} (h1 : Rd ok w0 (.sl (entsD p)) [v1]) (hp : entsWt p ≤ 1000000000) (left : Int) (h0 : 0 ≤ left) (hm : left ≤ 1048576) :
    Calls Tryd.prog 10 #[v1, .int .i64 left] w0 (Ret fun v w' => v = .int .i64 (szI left (entsWt p)) ∧ Below w0.heap.size w0 w') := by
  obtain ⟨A, c, e1, hl1⟩ := Rd_ents h1
  obtain rfl := List.singleton_inj.1 e1
  have hw : entsWt p = p.length + (p.map En.wt).sum := rfl
  have s := (St.start ok w0).begin h1
  refine calls_enter (n := 27) Tryd.func10 rfl rfl rfl ?_
  repeat (first | refine VS_seq ?_ | refine VS_block ?_ | refine VS_skip ?_ | refine VS_nil_block ?_)
  refine VS_region_lit ?_
  refine VL_run (d := 4) (run_assign rfl (by conv => lhs; whnf)) rfl rfl ?_
  refine VL_nil ?_
  repeat (first | refine VS_seq ?_ | refine VS_block ?_ | refine VS_skip ?_ | refine VS_nil_block ?_)
  refine VS_region_lit ?_
  refine VL_run (d := 6) (run_move rfl (by conv => lhs; whnf)) rfl rfl ?_
  refine VL_run (d := 7) (run_move rfl (by conv => lhs; whnf)) rfl rfl ?_
  refine VL_run (d := 8) (run_lenSlice rfl ⟨_, Tryd.underlying23⟩ rfl) rfl rfl ?_
  refine VL_run (d := 9) (run_sub rfl rfl rfl (by omega)) rfl rfl ?_
  refine VL_run (d := 1) (run_assign rfl (by conv => lhs; whnf)) rfl rfl ?_
  refine VL_nil ?_
  repeat (first | refine VS_seq ?_ | refine VS_block ?_ | refine VS_skip ?_ | refine VS_nil_block ?_)
  refine VS_region_lit ?_
  refine VL_run (d := 10) (run_move rfl (by conv => lhs; whnf)) rfl rfl ?_
  refine VL_run (d := 11) (run_ltI rfl rfl rfl) rfl rfl ?_
  refine VL_nil ?_
  refine VS_cond rfl (fun c0 => ?_) (fun c0 => ?_) <;> (try simp only [decide_eq_true_eq, decide_eq_false_iff_not, Bool.not_eq_true', Bool.not_eq_false', ne_eq, Decidable.not_not, cond_true, cond_false, Bool.and_eq_true, Bool.or_eq_true, Bool.and_eq_false_iff, Bool.or_eq_false_iff, Bool.not_true, Bool.not_false, reduceCtorEq] at c0)
  · repeat (first | refine VS_seq ?_ | refine VS_block ?_ | refine VS_skip ?_ | refine VS_nil_block ?_)
    refine VS_region_lit ?_
    refine VL_run (d := 4) (run_assign rfl (by conv => lhs; whnf)) rfl rfl ?_
    refine VL_nil ?_
    refine VS_ret ?_
    repeat (first | refine blockV_ret ?_ | refine backV_ret ?_ | refine backV2_ret ?_ | refine backV3_ret ?_ | refine thenV_ret ?_ | refine metV2_ret ?_)
    refine fin_one (fn := Tryd.f10) rfl (res_tmp (by conv => lhs; whnf)) ?_
    exact ⟨by rw [hw, szI_out (by omega)], s.below⟩
  · repeat (first | refine VS_seq ?_ | refine VS_block ?_ | refine VS_skip ?_ | refine VS_nil_block ?_)
    refine VS_region_lit ?_
    refine VL_run (d := 5) (run_assign rfl (by conv => lhs; whnf)) rfl rfl ?_
    refine VL_nil ?_
    repeat (first | refine VS_seq ?_ | refine VS_block ?_ | refine VS_skip ?_ | refine VS_nil_block ?_)
    refine VS_loop2 [1, 4, 5, 12, 13, 14, 15, 16, 17, 18, 19, 20, 21, 22, 23, 24, 25] (fun (k : Nat) (m : Int) => [(5, .int .i64 k), (1, .int .i64 m)]) (fun k m w => St ok w0 [] [.dat [.slice A p.length c] (.sl (entsD p))] w ∧ k ≤ p.length ∧ 0 ≤ m ∧ m ≤ left ∧ szI left (entsWt p) = szI m ((p.drop k).map En.wt).sum) (fun k _ => p.length - k) 0 (left - p.length) ⟨s, by omega, by omega, by omega, by rw [hw, szI_go (by omega)]; rfl⟩ (by repeat (first | exact Has.nil _ | refine Has.cons rfl ?_)) ?_
    clear s
    rintro k m w j ⟨s, hk, g0, g1, hf⟩
    repeat (first | refine VS_seq ?_ | refine VS_block ?_ | refine VS_skip ?_ | refine VS_nil_block ?_)
    refine VS_region_lit ?_
    refine VL_run (d := 12) (run_move rfl (by conv => lhs; whnf)) rfl rfl ?_
    refine VL_run (d := 13) (run_move rfl (by conv => lhs; whnf)) rfl rfl ?_
    refine VL_run (d := 14) (run_lenSlice rfl ⟨_, Tryd.underlying23⟩ rfl) rfl rfl ?_
    refine VL_run (d := 15) (run_ltI rfl rfl rfl) rfl rfl ?_
    refine VL_nil ?_
    refine VS_cond rfl (fun c1 => ?_) (fun c1 => ?_) <;> (try simp only [decide_eq_true_eq, decide_eq_false_iff_not, Bool.not_eq_true', Bool.not_eq_false', ne_eq, Decidable.not_not, cond_true, cond_false, Bool.and_eq_true, Bool.or_eq_true, Bool.and_eq_false_iff, Bool.or_eq_false_iff, Bool.not_true, Bool.not_false, reduceCtorEq] at c1)
    · repeat (first | refine VS_seq ?_ | refine VS_block ?_ | refine VS_skip ?_ | refine VS_nil_block ?_)
      have hk' : k < p.length := by omega
      obtain ⟨ad, A5, c5, rfl, hl5, s⟩ := s.openEn (i := 0) rfl k hk'
      have hx := sum_mem (f := En.wt) (List.getElem_mem hk')
      rw [sum_drop _ hk'] at hf
      have hb := szI_le (a := p[k].wt) g0
      refine VS_region_lit ?_
      refine VL_run (d := 18) (run_move rfl (by conv => lhs; whnf)) rfl rfl ?_
      refine VL_run (d := 19) (run_move rfl (by conv => lhs; whnf)) rfl rfl ?_
      refine VL_run (d := 20) (run_indexAddr rfl Tryd.underlying23 ty65 rfl rfl (by omega) (by omega)) rfl rfl ?_
      first | (refine VL_run (d := 21) (run_load_ownA (cs := [_, _, _, _, _]) s rfl ty65 rfl (i := 0) rfl rfl rfl) rfl rfl ?_) | (refine VL_run (d := 21) (run_load_ownA (cs := [_, _, _, _, _]) s rfl ty65 rfl (i := 1) rfl rfl rfl) rfl rfl ?_) | (refine VL_run (d := 21) (run_load_ownA (cs := [_, _, _, _, _]) s rfl ty65 rfl (i := 2) rfl rfl rfl) rfl rfl ?_) | (refine VL_run (d := 21) (run_load_ownA (cs := [_, _, _, _, _]) s rfl ty65 rfl (i := 3) rfl rfl rfl) rfl rfl ?_) | (refine VL_run (d := 21) (run_load_ownA (cs := [_, _, _, _, _]) s rfl ty65 rfl (i := 4) rfl rfl rfl) rfl rfl ?_) | (refine VL_run (d := 21) (run_load_ownA (cs := [_, _, _, _, _]) s rfl ty65 rfl (i := 5) rfl rfl rfl) rfl rfl ?_) | (refine VL_run (d := 21) (run_load_ownA (cs := [_, _, _, _, _]) s rfl ty65 rfl (i := 6) rfl rfl rfl) rfl rfl ?_) | (refine VL_run (d := 21) (run_load_ownA (cs := [_, _, _, _, _]) s rfl ty65 rfl (i := 7) rfl rfl rfl) rfl rfl ?_) | (refine VL_run (d := 21) (run_load_ownA (cs := [_, _, _, _, _]) s rfl ty65 rfl (i := 8) rfl rfl rfl) rfl rfl ?_) | (refine VL_run (d := 21) (run_load_atA s rfl ty65 rfl (i := 0) rfl rfl) rfl rfl ?_) | (refine VL_run (d := 21) (run_load_atA s rfl ty65 rfl (i := 1) rfl rfl) rfl rfl ?_) | (refine VL_run (d := 21) (run_load_atA s rfl ty65 rfl (i := 2) rfl rfl) rfl rfl ?_) | (refine VL_run (d := 21) (run_load_atA s rfl ty65 rfl (i := 3) rfl rfl) rfl rfl ?_) | (refine VL_run (d := 21) (run_load_atA s rfl ty65 rfl (i := 4) rfl rfl) rfl rfl ?_) | (refine VL_run (d := 21) (run_load_atA s rfl ty65 rfl (i := 5) rfl rfl) rfl rfl ?_) | (refine VL_run (d := 21) (run_load_atA s rfl ty65 rfl (i := 6) rfl rfl) rfl rfl ?_) | (refine VL_run (d := 21) (run_load_atA s rfl ty65 rfl (i := 7) rfl rfl) rfl rfl ?_) | (refine VL_run (d := 21) (run_load_atA s rfl ty65 rfl (i := 8) rfl rfl) rfl rfl ?_)
      refine VL_run (d := 22) (run_move rfl (by conv => lhs; whnf)) rfl rfl ?_
      refine VL_does (d := 23) (does_call2 rfl (by kernel_rfl) rfl rfl (szEntry_ok _ (s.dat (i := 1) rfl) (by omega) m g0 (by omega)) ?_) rfl rfl
      rintro _ w ⟨rfl, hb⟩
      replace s := s.step hb
      clear hb
      refine VL_run (d := 1) (run_assign rfl (by conv => lhs; whnf)) rfl rfl ?_
      refine VL_nil ?_
      repeat (first | refine VS_seq ?_ | refine VS_block ?_ | refine VS_skip ?_ | refine VS_nil_block ?_)
      refine VS_region_lit ?_
      refine VL_run (d := 24) (run_move rfl (by conv => lhs; whnf)) rfl rfl ?_
      refine VL_run (d := 25) (run_ltI rfl rfl rfl) rfl rfl ?_
      refine VL_nil ?_
      refine VS_cond rfl (fun c2 => ?_) (fun c2 => ?_) <;> (try simp only [decide_eq_true_eq, decide_eq_false_iff_not, Bool.not_eq_true', Bool.not_eq_false', ne_eq, Decidable.not_not, cond_true, cond_false, Bool.and_eq_true, Bool.or_eq_true, Bool.and_eq_false_iff, Bool.or_eq_false_iff, Bool.not_true, Bool.not_false, reduceCtorEq] at c2)
      · repeat (first | refine VS_seq ?_ | refine VS_block ?_ | refine VS_skip ?_ | refine VS_nil_block ?_)
        refine VS_region_lit ?_
        refine VL_run (d := 4) (run_assign rfl (by conv => lhs; whnf)) rfl rfl ?_
        refine VL_nil ?_
        refine VS_ret ?_
        repeat (first | refine blockV_ret ?_ | refine backV_ret ?_ | refine backV2_ret ?_ | refine backV3_ret ?_ | refine thenV_ret ?_ | refine metV2_ret ?_)
        refine fin_one (fn := Tryd.f10) rfl (res_tmp (by conv => lhs; whnf)) ?_
        exact ⟨by rw [hf, szI_neg c2 g0], s.below⟩
      · repeat (first | refine VS_seq ?_ | refine VS_block ?_ | refine VS_skip ?_ | refine VS_nil_block ?_)
        refine VS_region_lit ?_
        refine VL_run (d := 16) (run_move rfl (by conv => lhs; whnf)) rfl rfl ?_
        refine VL_run (d := 17) (run_add rfl rfl rfl (by omega)) rfl rfl ?_
        refine VL_run (d := 5) (run_assign rfl (by conv => lhs; whnf)) rfl rfl ?_
        refine VL_nil ?_
        refine VS_back2 (k + 1) (szI m p[k].wt) ?_ (by repeat (first | exact Has.nil _ | refine Has.cons rfl ?_)) (by repeat (first | exact Out.mix _ _ _ | exact Out.refl _ _ | refine Out.upd rfl ?_ | refine Out.mix_in rfl ?_)) ?_
        · exact ⟨s.less (by simp), by omega, by omega, by omega, by rw [hf, szI_pos (by omega)]⟩
        · omega
    · refine VS_exit ?_
      repeat (first | refine blockV_hit ?_ | refine backV_exit ?_ | refine backV2_exit ?_ | refine backV3_exit ?_ | refine blockV_miss rfl ?_ | refine thenV_exit ?_ | refine metV2_exit ?_)
      repeat (first | refine VS_seq ?_ | refine VS_block ?_ | refine VS_skip ?_ | refine VS_nil_block ?_)
      refine VS_region_lit ?_
      refine VL_run (d := 26) (run_move rfl (by conv => lhs; whnf)) rfl rfl ?_
      refine VL_run (d := 4) (run_assign rfl (by conv => lhs; whnf)) rfl rfl ?_
      refine VL_nil ?_
      refine VS_ret ?_
      repeat (first | refine blockV_ret ?_ | refine backV_ret ?_ | refine backV2_ret ?_ | refine backV3_ret ?_ | refine thenV_ret ?_ | refine metV2_ret ?_)
      refine fin_one (fn := Tryd.f10) rfl (res_tmp (by conv => lhs; whnf)) ?_
      refine ⟨?_, s.below⟩
      rw [hf, List.drop_of_length_le (by omega)]
      simp [szI, g0]
theorem szUpper_ok (u : Up) {ok : Nat → Prop} {w0 : World} {cs : List Value} (h1 : Rd ok w0 u.toD cs) (hp : u.wt ≤ 1000000000) (left : Int) (h0 : 0 ≤ left) (hm : left ≤ 1048576) :
    Calls Tryd.prog 4 #[.agg cs.toArray, .int .i64 left] w0 (Ret fun v w' => v = .int .i64 (szI left u.wt) ∧ Below w0.heap.size w0 w') := by
  obtain ⟨A, c, B, d, rfl, hl, hl2, hpa, hpb⟩ := Up.opn h1
  have hw : u.wt = pathsWt u.gone + entsWt u.puts := rfl
  have hb := szI_le (a := pathsWt u.gone) h0
  clear h1
  have s := ((St.start ok w0).begin hpb).begin hpa
  refine calls_enter (n := 18) Tryd.func4 rfl rfl rfl ?_
  repeat (first | refine VS_seq ?_ | refine VS_block ?_ | refine VS_skip ?_ | refine VS_nil_block ?_)
  refine VS_region_lit ?_
  refine VL_does (d := 2) (does_box s rfl rfl rfl ?_) rfl rfl
  clear s; intro b2 w s
  refine VL_run (d := 4) (run_assign rfl (by conv => lhs; whnf)) rfl rfl ?_
  refine VL_nil ?_
  repeat (first | refine VS_seq ?_ | refine VS_block ?_ | refine VS_skip ?_ | refine VS_nil_block ?_)
  refine VS_region_lit ?_
  refine VL_run (d := 5) (run_fieldAddr rfl fo25_0 rfl) rfl rfl ?_
  first | (refine VL_run (d := 6) (run_load_own1 s rfl ty22 rfl (i := 0) rfl rfl) rfl rfl ?_) | (refine VL_run (d := 6) (run_load_own1 s rfl ty22 rfl (i := 1) rfl rfl) rfl rfl ?_) | (refine VL_run (d := 6) (run_load_own1 s rfl ty22 rfl (i := 2) rfl rfl) rfl rfl ?_) | (refine VL_run (d := 6) (run_load_own1 s rfl ty22 rfl (i := 3) rfl rfl) rfl rfl ?_) | (refine VL_run (d := 6) (run_load_own1 s rfl ty22 rfl (i := 4) rfl rfl) rfl rfl ?_) | (refine VL_run (d := 6) (run_load_own1 s rfl ty22 rfl (i := 5) rfl rfl) rfl rfl ?_) | (refine VL_run (d := 6) (run_load_own1 s rfl ty22 rfl (i := 6) rfl rfl) rfl rfl ?_) | (refine VL_run (d := 6) (run_load_own1 s rfl ty22 rfl (i := 7) rfl rfl) rfl rfl ?_) | (refine VL_run (d := 6) (run_load_own1 s rfl ty22 rfl (i := 8) rfl rfl) rfl rfl ?_) | (refine VL_run (d := 6) (run_load_at1 s rfl ty22 rfl (i := 0) rfl rfl) rfl rfl ?_) | (refine VL_run (d := 6) (run_load_at1 s rfl ty22 rfl (i := 1) rfl rfl) rfl rfl ?_) | (refine VL_run (d := 6) (run_load_at1 s rfl ty22 rfl (i := 2) rfl rfl) rfl rfl ?_) | (refine VL_run (d := 6) (run_load_at1 s rfl ty22 rfl (i := 3) rfl rfl) rfl rfl ?_) | (refine VL_run (d := 6) (run_load_at1 s rfl ty22 rfl (i := 4) rfl rfl) rfl rfl ?_) | (refine VL_run (d := 6) (run_load_at1 s rfl ty22 rfl (i := 5) rfl rfl) rfl rfl ?_) | (refine VL_run (d := 6) (run_load_at1 s rfl ty22 rfl (i := 6) rfl rfl) rfl rfl ?_) | (refine VL_run (d := 6) (run_load_at1 s rfl ty22 rfl (i := 7) rfl rfl) rfl rfl ?_) | (refine VL_run (d := 6) (run_load_at1 s rfl ty22 rfl (i := 8) rfl rfl) rfl rfl ?_) | (refine VL_run (d := 6) (run_load_at0 s rfl ty22 rfl (i := 0) rfl rfl) rfl rfl ?_) | (refine VL_run (d := 6) (run_load_at0 s rfl ty22 rfl (i := 1) rfl rfl) rfl rfl ?_) | (refine VL_run (d := 6) (run_load_at0 s rfl ty22 rfl (i := 2) rfl rfl) rfl rfl ?_) | (refine VL_run (d := 6) (run_load_at0 s rfl ty22 rfl (i := 3) rfl rfl) rfl rfl ?_) | (refine VL_run (d := 6) (run_load_at0 s rfl ty22 rfl (i := 4) rfl rfl) rfl rfl ?_) | (refine VL_run (d := 6) (run_load_at0 s rfl ty22 rfl (i := 5) rfl rfl) rfl rfl ?_) | (refine VL_run (d := 6) (run_load_at0 s rfl ty22 rfl (i := 6) rfl rfl) rfl rfl ?_) | (refine VL_run (d := 6) (run_load_at0 s rfl ty22 rfl (i := 7) rfl rfl) rfl rfl ?_) | (refine VL_run (d := 6) (run_load_at0 s rfl ty22 rfl (i := 8) rfl rfl) rfl rfl ?_)
  refine VL_run (d := 7) (run_move rfl (by conv => lhs; whnf)) rfl rfl ?_
  refine VL_does (d := 8) (does_call2 rfl (by kernel_rfl) rfl rfl (szStringSS_ok _ (s.dat (i := 0) rfl) (by omega) left h0 hm) ?_) rfl rfl
  rintro _ w ⟨rfl, hb⟩
  replace s := s.step hb
  clear hb
  refine VL_run (d := 1) (run_assign rfl (by conv => lhs; whnf)) rfl rfl ?_
  refine VL_nil ?_
  repeat (first | refine VS_seq ?_ | refine VS_block ?_ | refine VS_skip ?_ | refine VS_nil_block ?_)
  refine VS_region_lit ?_
  refine VL_run (d := 9) (run_move rfl (by conv => lhs; whnf)) rfl rfl ?_
  refine VL_run (d := 10) (run_ltI rfl rfl rfl) rfl rfl ?_
  refine VL_nil ?_
  refine VS_cond rfl (fun c0 => ?_) (fun c0 => ?_) <;> (try simp only [decide_eq_true_eq, decide_eq_false_iff_not, Bool.not_eq_true', Bool.not_eq_false', ne_eq, Decidable.not_not, cond_true, cond_false, Bool.and_eq_true, Bool.or_eq_true, Bool.and_eq_false_iff, Bool.or_eq_false_iff, Bool.not_true, Bool.not_false, reduceCtorEq] at c0)
  · repeat (first | refine VS_seq ?_ | refine VS_block ?_ | refine VS_skip ?_ | refine VS_nil_block ?_)
    refine VS_region_lit ?_
    refine VL_run (d := 4) (run_assign rfl (by conv => lhs; whnf)) rfl rfl ?_
    refine VL_nil ?_
    refine VS_ret ?_
    repeat (first | refine blockV_ret ?_ | refine backV_ret ?_ | refine backV2_ret ?_ | refine backV3_ret ?_ | refine thenV_ret ?_ | refine metV2_ret ?_)
    refine fin_one (fn := Tryd.f4) rfl (res_tmp (by conv => lhs; whnf)) ?_
    exact ⟨by rw [hw, szI_neg c0 h0], s.below⟩
  · repeat (first | refine VS_seq ?_ | refine VS_block ?_ | refine VS_skip ?_ | refine VS_nil_block ?_)
    have hb2 := szI_le (a := entsWt u.puts) (m := szI left (pathsWt u.gone)) (by omega)
    refine VS_region_lit ?_
    refine VL_run (d := 11) (run_fieldAddr rfl fo25_1 rfl) rfl rfl ?_
    first | (refine VL_run (d := 12) (run_load_own1 s rfl ty23 rfl (i := 0) rfl rfl) rfl rfl ?_) | (refine VL_run (d := 12) (run_load_own1 s rfl ty23 rfl (i := 1) rfl rfl) rfl rfl ?_) | (refine VL_run (d := 12) (run_load_own1 s rfl ty23 rfl (i := 2) rfl rfl) rfl rfl ?_) | (refine VL_run (d := 12) (run_load_own1 s rfl ty23 rfl (i := 3) rfl rfl) rfl rfl ?_) | (refine VL_run (d := 12) (run_load_own1 s rfl ty23 rfl (i := 4) rfl rfl) rfl rfl ?_) | (refine VL_run (d := 12) (run_load_own1 s rfl ty23 rfl (i := 5) rfl rfl) rfl rfl ?_) | (refine VL_run (d := 12) (run_load_own1 s rfl ty23 rfl (i := 6) rfl rfl) rfl rfl ?_) | (refine VL_run (d := 12) (run_load_own1 s rfl ty23 rfl (i := 7) rfl rfl) rfl rfl ?_) | (refine VL_run (d := 12) (run_load_own1 s rfl ty23 rfl (i := 8) rfl rfl) rfl rfl ?_) | (refine VL_run (d := 12) (run_load_at1 s rfl ty23 rfl (i := 0) rfl rfl) rfl rfl ?_) | (refine VL_run (d := 12) (run_load_at1 s rfl ty23 rfl (i := 1) rfl rfl) rfl rfl ?_) | (refine VL_run (d := 12) (run_load_at1 s rfl ty23 rfl (i := 2) rfl rfl) rfl rfl ?_) | (refine VL_run (d := 12) (run_load_at1 s rfl ty23 rfl (i := 3) rfl rfl) rfl rfl ?_) | (refine VL_run (d := 12) (run_load_at1 s rfl ty23 rfl (i := 4) rfl rfl) rfl rfl ?_) | (refine VL_run (d := 12) (run_load_at1 s rfl ty23 rfl (i := 5) rfl rfl) rfl rfl ?_) | (refine VL_run (d := 12) (run_load_at1 s rfl ty23 rfl (i := 6) rfl rfl) rfl rfl ?_) | (refine VL_run (d := 12) (run_load_at1 s rfl ty23 rfl (i := 7) rfl rfl) rfl rfl ?_) | (refine VL_run (d := 12) (run_load_at1 s rfl ty23 rfl (i := 8) rfl rfl) rfl rfl ?_) | (refine VL_run (d := 12) (run_load_at0 s rfl ty23 rfl (i := 0) rfl rfl) rfl rfl ?_) | (refine VL_run (d := 12) (run_load_at0 s rfl ty23 rfl (i := 1) rfl rfl) rfl rfl ?_) | (refine VL_run (d := 12) (run_load_at0 s rfl ty23 rfl (i := 2) rfl rfl) rfl rfl ?_) | (refine VL_run (d := 12) (run_load_at0 s rfl ty23 rfl (i := 3) rfl rfl) rfl rfl ?_) | (refine VL_run (d := 12) (run_load_at0 s rfl ty23 rfl (i := 4) rfl rfl) rfl rfl ?_) | (refine VL_run (d := 12) (run_load_at0 s rfl ty23 rfl (i := 5) rfl rfl) rfl rfl ?_) | (refine VL_run (d := 12) (run_load_at0 s rfl ty23 rfl (i := 6) rfl rfl) rfl rfl ?_) | (refine VL_run (d := 12) (run_load_at0 s rfl ty23 rfl (i := 7) rfl rfl) rfl rfl ?_) | (refine VL_run (d := 12) (run_load_at0 s rfl ty23 rfl (i := 8) rfl rfl) rfl rfl ?_)
    refine VL_run (d := 13) (run_move rfl (by conv => lhs; whnf)) rfl rfl ?_
    refine VL_does (d := 14) (does_call2 rfl (by kernel_rfl) rfl rfl (szEntryS_ok _ (s.dat (i := 1) rfl) (by omega) (szI left (pathsWt u.gone)) (by omega) (by omega)) ?_) rfl rfl
    rintro _ w ⟨rfl, hb⟩
    replace s := s.step hb
    clear hb
    refine VL_run (d := 1) (run_assign rfl (by conv => lhs; whnf)) rfl rfl ?_
    refine VL_nil ?_
    repeat (first | refine VS_seq ?_ | refine VS_block ?_ | refine VS_skip ?_ | refine VS_nil_block ?_)
    refine VS_region_lit ?_
    refine VL_run (d := 15) (run_move rfl (by conv => lhs; whnf)) rfl rfl ?_
    refine VL_run (d := 16) (run_ltI rfl rfl rfl) rfl rfl ?_
    refine VL_nil ?_
    refine VS_cond rfl (fun c1 => ?_) (fun c1 => ?_) <;> (try simp only [decide_eq_true_eq, decide_eq_false_iff_not, Bool.not_eq_true', Bool.not_eq_false', ne_eq, Decidable.not_not, cond_true, cond_false, Bool.and_eq_true, Bool.or_eq_true, Bool.and_eq_false_iff, Bool.or_eq_false_iff, Bool.not_true, Bool.not_false, reduceCtorEq] at c1)
    · repeat (first | refine VS_seq ?_ | refine VS_block ?_ | refine VS_skip ?_ | refine VS_nil_block ?_)
      refine VS_region_lit ?_
      refine VL_run (d := 4) (run_assign rfl (by conv => lhs; whnf)) rfl rfl ?_
      refine VL_nil ?_
      refine VS_ret ?_
      repeat (first | refine blockV_ret ?_ | refine backV_ret ?_ | refine backV2_ret ?_ | refine backV3_ret ?_ | refine thenV_ret ?_ | refine metV2_ret ?_)
      refine fin_one (fn := Tryd.f4) rfl (res_tmp (by conv => lhs; whnf)) ?_
      exact ⟨by rw [hw, szI_pos (by omega)]; congr 1; omega, s.below⟩
    · repeat (first | refine VS_seq ?_ | refine VS_block ?_ | refine VS_skip ?_ | refine VS_nil_block ?_)
      refine VS_region_lit ?_
      refine VL_run (d := 17) (run_move rfl (by conv => lhs; whnf)) rfl rfl ?_
      refine VL_run (d := 4) (run_assign rfl (by conv => lhs; whnf)) rfl rfl ?_
      refine VL_nil ?_
      refine VS_ret ?_
      repeat (first | refine blockV_ret ?_ | refine backV_ret ?_ | refine backV2_ret ?_ | refine backV3_ret ?_ | refine thenV_ret ?_ | refine metV2_ret ?_)
      refine fin_one (fn := Tryd.f4) rfl (res_tmp (by conv => lhs; whnf)) ?_
      exact ⟨by rw [hw, szI_pos (by omega)], s.below⟩
end Go.Proofs.YtkefaelmamgjiaaDoor
