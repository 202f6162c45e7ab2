/- nodes (impl): slices.Equal, slices.Compare, nodesWell, NodesPath, NodesId; laws: wtTexts. -/
import Derived.Test.YtkefaelmamgjiaaN1
import Derived.Test.YtkefaelmamgjiaaI1
set_option linter.unusedVariables false
set_option linter.unusedSimpArgs false
set_option maxHeartbeats 4000000
namespace Go.Proofs.Ytkefaelmamgjiaa
open Go.RowKit

theorem take_all_eq {p q : List ByteArray} (hl : p.length = q.length) (h : p.take p.length = q.take p.length) : p = q := by
  rw [List.take_length, hl, List.take_length] at h
  exact h
theorem wtTexts_ok (p q : List ByteArray) {ok : Nat → Prop} {w0 : World} {v1 v2 : Value} (h1 : Rd ok w0 (.sl (strsD p)) [v1]) (h2 : Rd ok w0 (.sl (strsD q)) [v2]) (hp : p.length ≤ 1000000000000) (hq : q.length ≤ 1000000000000) :
    Calls Try.prog 19 #[v1, v2] w0 (Ret fun v w' => v = .bool (decide (p = q)) ∧ Below w0.heap.size w0 w') := by
  obtain ⟨A, c, e1, hl1⟩ := Rd_strs h1
  obtain ⟨B, d, e2, hl2⟩ := Rd_strs h2
  obtain rfl := List.singleton_inj.1 e1
  obtain rfl := List.singleton_inj.1 e2
  have s := ((St.start ok w0).begin h2).begin h1
  refine calls_enter (n := 26) Try.func19 rfl rfl rfl ?_
  repeat (refine VS_seq ?_)
  refine VS_region_lit ?_
  refine VL_run (d := 4) (run_assign rfl (by conv => lhs; whnf)) rfl rfl ?_
  refine VL_nil ?_
  repeat (refine VS_seq ?_)
  refine VS_region_lit ?_
  refine VL_run (d := 6) (run_move rfl (by conv => lhs; whnf)) rfl rfl ?_
  refine VL_run (d := 7) (run_lenSlice rfl ⟨_, Try.underlying23⟩ rfl) rfl rfl ?_
  refine VL_run (d := 8) (run_move rfl (by conv => lhs; whnf)) rfl rfl ?_
  refine VL_run (d := 9) (run_lenSlice rfl ⟨_, Try.underlying23⟩ rfl) rfl rfl ?_
  refine VL_run (d := 10) (run_neI rfl rfl rfl) rfl rfl ?_
  refine VL_nil ?_
  refine VS_cond rfl (fun c0 => ?_) (fun c0 => ?_) <;> (try simp only [decide_eq_true_eq, decide_eq_false_iff_not, Bool.not_eq_true', Bool.not_eq_false', ne_eq, Decidable.not_not, cond_true, cond_false, Bool.and_eq_true, Bool.or_eq_true, Bool.and_eq_false_iff, Bool.or_eq_false_iff, Bool.not_true, Bool.not_false, reduceCtorEq] at c0)
  · repeat (refine VS_seq ?_)
    refine VS_region_lit ?_
    refine VL_run (d := 4) (run_assign rfl (by conv => lhs; whnf)) rfl rfl ?_
    refine VL_nil ?_
    refine VS_ret ?_
    repeat (first | refine blockV_ret ?_ | refine backV_ret ?_ | refine backV2_ret ?_ | refine backV3_ret ?_ | refine thenV_ret ?_ | refine metV2_ret ?_)
    refine fin_one (fn := Try.f19) rfl (res_tmp (by conv => lhs; whnf)) ?_
    refine ⟨?_, s.below⟩
    have : ¬ p = q := fun h => c0 (by rw [h])
    simp [this]
  · repeat (first | refine VS_seq ?_ | refine VS_skip ?_)
    refine VS_region_lit ?_
    refine VL_run (d := 5) (run_assign rfl (by conv => lhs; whnf)) rfl rfl ?_
    refine VL_nil ?_
    repeat (refine VS_block ?_)
    refine VS_loop [4, 5, 11, 12, 13, 14, 15, 16, 17, 18, 19, 20, 21, 22, 23, 24, 25] (fun k : Nat => [(5, .int .i64 k)]) (fun k w => St ok w0 [] [.dat [.slice A p.length c] (.sl (strsD p)), .dat [.slice B q.length d] (.sl (strsD q))] w ∧ k ≤ p.length ∧ p.take k = q.take k) (fun k => p.length - k) 0 ⟨s, by omega, by simp⟩ (by repeat (first | exact Has.nil _ | refine Has.cons rfl ?_)) ?_
    clear s
    rintro k w j ⟨s, hk, hf⟩
    repeat (refine VS_seq ?_)
    refine VS_region_lit ?_
    refine VL_run (d := 11) (run_move rfl (by conv => lhs; whnf)) rfl rfl ?_
    refine VL_run (d := 12) (run_move rfl (by conv => lhs; whnf)) rfl rfl ?_
    refine VL_run (d := 13) (run_lenSlice rfl ⟨_, Try.underlying23⟩ rfl) rfl rfl ?_
    refine VL_run (d := 14) (run_ltI rfl rfl rfl) rfl rfl ?_
    refine VL_nil ?_
    refine VS_cond rfl (fun c1 => ?_) (fun c1 => ?_) <;> (try simp only [decide_eq_true_eq, decide_eq_false_iff_not, Bool.not_eq_true', Bool.not_eq_false', ne_eq, Decidable.not_not, cond_true, cond_false, Bool.and_eq_true, Bool.or_eq_true, Bool.and_eq_false_iff, Bool.or_eq_false_iff, Bool.not_true, Bool.not_false, reduceCtorEq] at c1)
    · repeat (first | refine VS_seq ?_ | refine VS_block ?_ | refine VS_skip ?_)
      have hk' : k < p.length := by omega
      have hk2 : k < q.length := by omega
      obtain ⟨ad, rfl, s⟩ := s.openS (i := 0) rfl k hk'
      obtain ⟨ad2, rfl, s⟩ := s.openS (i := 2) rfl k hk2
      refine VS_drawS 9 s mixed ?_
      clear s; intro s
      refine VA_take 0 (d := 17) rfl (by kernel_rfl) rfl (fun w g => run_move rfl (by conv => lhs; whnf)) s.see ?_
      refine VA_take 1 (d := 18) rfl (by kernel_rfl) rfl (fun w g => run_move rfl (by conv => lhs; whnf)) s.see ?_
      refine VA_take 2 (d := 19) rfl (by kernel_rfl) rfl (fun w g => run_indexAddr rfl Try.underlying23 ty9 rfl rfl (by omega) (by omega)) s.see ?_
      refine VA_take 3 (d := 20) rfl (by kernel_rfl) rfl (fun w g => see_at0 g rfl ty9 rfl (i := 1) rfl rfl) s.see ?_
      refine VA_take 4 (d := 21) rfl (by kernel_rfl) rfl (fun w g => run_move rfl (by conv => lhs; whnf)) s.see ?_
      refine VA_take 5 (d := 22) rfl (by kernel_rfl) rfl (fun w g => run_move rfl (by conv => lhs; whnf)) s.see ?_
      refine VA_take 6 (d := 23) rfl (by kernel_rfl) rfl (fun w g => run_indexAddr rfl Try.underlying23 ty9 rfl rfl (by omega) (by omega)) s.see ?_
      refine VA_take 7 (d := 24) rfl (by kernel_rfl) rfl (fun w g => see_at0 g rfl ty9 rfl (i := 0) rfl rfl) s.see ?_
      refine VA_take 8 (d := 25) rfl (by kernel_rfl) rfl (fun w g => run_neS rfl rfl rfl) s.see ?_
      refine VA_done (by kernel_rfl) ?_
      refine VS_cond rfl (fun c2 => ?_) (fun c2 => ?_) <;> (try simp only [decide_eq_true_eq, decide_eq_false_iff_not, Bool.not_eq_true', Bool.not_eq_false', ne_eq, Decidable.not_not, cond_true, cond_false, Bool.and_eq_true, Bool.or_eq_true, Bool.and_eq_false_iff, Bool.or_eq_false_iff, Bool.not_true, Bool.not_false, reduceCtorEq] at c2)
      · repeat (refine VS_seq ?_)
        refine VS_region_lit ?_
        refine VL_run (d := 4) (run_assign rfl (by conv => lhs; whnf)) rfl rfl ?_
        refine VL_nil ?_
        refine VS_ret ?_
        repeat (first | refine blockV_ret ?_ | refine backV_ret ?_)
        refine fin_one (fn := Try.f19) rfl (res_tmp (by conv => lhs; whnf)) ?_
        refine ⟨?_, s.below⟩
        have : ¬ p = q := fun h => c2 (by simp only [h])
        simp [this]
      · repeat (first | refine VS_skip ?_ | refine VS_nil_block ?_)
        refine VS_region_lit ?_
        refine VL_run (d := 15) (run_move rfl (by conv => lhs; whnf)) rfl rfl ?_
        refine VL_run (d := 16) (run_add rfl rfl rfl (by omega)) rfl rfl ?_
        refine VL_run (d := 5) (run_assign rfl (by conv => lhs; whnf)) rfl rfl ?_
        refine VL_nil ?_
        refine VS_back (k + 1) ?_ (by repeat (first | exact Has.nil _ | refine Has.cons rfl ?_)) (by repeat (first | exact Out.mix _ _ _ | refine Out.upd rfl ?_)) ?_
        · exact ⟨s.less (by (repeat (first | exact sub_nil | refine sub_cons (by (repeat (first | exact .head _ | refine .tail _ ?_))) ?_))), by omega, by rw [← take_snoc hk', ← take_snoc hk2, hf, c2]⟩
        · omega
    · refine VS_exit ?_
      repeat (first | refine blockV_hit ?_ | refine backV_exit ?_)
      repeat (refine VS_seq ?_)
      refine VS_region_lit ?_
      refine VL_run (d := 4) (run_assign rfl (by conv => lhs; whnf)) rfl rfl ?_
      refine VL_nil ?_
      refine VS_ret ?_
      repeat (first | refine blockV_ret ?_ | refine backV_ret ?_ | refine backV2_ret ?_ | refine backV3_ret ?_ | refine thenV_ret ?_ | refine metV2_ret ?_)
      refine fin_one (fn := Try.f19) rfl (res_tmp (by conv => lhs; whnf)) ?_
      obtain rfl : k = p.length := by omega
      exact ⟨by rw [decide_eq_true (take_all_eq (by omega) hf)], s.below⟩
theorem slicesEqual_ok (p q : List ByteArray) {ok : Nat → Prop} {w0 : World} {v1 v2 : Value} (h1 : Rd ok w0 (.sl (strsD p)) [v1]) (h2 : Rd ok w0 (.sl (strsD q)) [v2]) (hp : p.length ≤ 1000000000000) (hq : q.length ≤ 1000000000000) :
    Calls Try.prog 57 #[v1, v2] w0 (Ret fun v w' => v = .bool (decide (p = q)) ∧ Below w0.heap.size w0 w') := by
  obtain ⟨A, c, e1, hl1⟩ := Rd_strs h1
  obtain ⟨B, d, e2, hl2⟩ := Rd_strs h2
  obtain rfl := List.singleton_inj.1 e1
  obtain rfl := List.singleton_inj.1 e2
  have s := ((St.start ok w0).begin h2).begin h1
  refine calls_enter (n := 26) Try.func57 rfl rfl rfl ?_
  repeat (refine VS_seq ?_)
  refine VS_region_lit ?_
  refine VL_run (d := 4) (run_assign rfl (by conv => lhs; whnf)) rfl rfl ?_
  refine VL_nil ?_
  repeat (refine VS_seq ?_)
  refine VS_region_lit ?_
  refine VL_run (d := 6) (run_move rfl (by conv => lhs; whnf)) rfl rfl ?_
  refine VL_run (d := 7) (run_lenSlice rfl ⟨_, Try.underlying23⟩ rfl) rfl rfl ?_
  refine VL_run (d := 8) (run_move rfl (by conv => lhs; whnf)) rfl rfl ?_
  refine VL_run (d := 9) (run_lenSlice rfl ⟨_, Try.underlying23⟩ rfl) rfl rfl ?_
  refine VL_run (d := 10) (run_neI rfl rfl rfl) rfl rfl ?_
  refine VL_nil ?_
  refine VS_cond rfl (fun c0 => ?_) (fun c0 => ?_) <;> (try simp only [decide_eq_true_eq, decide_eq_false_iff_not, Bool.not_eq_true', Bool.not_eq_false', ne_eq, Decidable.not_not, cond_true, cond_false, Bool.and_eq_true, Bool.or_eq_true, Bool.and_eq_false_iff, Bool.or_eq_false_iff, Bool.not_true, Bool.not_false, reduceCtorEq] at c0)
  · repeat (refine VS_seq ?_)
    refine VS_region_lit ?_
    refine VL_run (d := 4) (run_assign rfl (by conv => lhs; whnf)) rfl rfl ?_
    refine VL_nil ?_
    refine VS_ret ?_
    repeat (first | refine blockV_ret ?_ | refine backV_ret ?_ | refine backV2_ret ?_ | refine backV3_ret ?_ | refine thenV_ret ?_ | refine metV2_ret ?_)
    refine fin_one (fn := Try.f57) rfl (res_tmp (by conv => lhs; whnf)) ?_
    refine ⟨?_, s.below⟩
    have : ¬ p = q := fun h => c0 (by rw [h])
    simp [this]
  · repeat (first | refine VS_seq ?_ | refine VS_skip ?_)
    refine VS_region_lit ?_
    refine VL_run (d := 11) (run_move rfl (by conv => lhs; whnf)) rfl rfl ?_
    refine VL_run (d := 12) (run_lenSlice rfl ⟨_, Try.underlying23⟩ rfl) rfl rfl ?_
    refine VL_run (d := 13) (run_move rfl (by conv => lhs; whnf)) rfl rfl ?_
    refine VL_nil ?_
    repeat (refine VS_block ?_)
    refine VS_loop [4, 5, 13, 14, 15, 16, 17, 18, 19, 20, 21, 22, 23, 24, 25] (fun k : Nat => [(13, .int .i64 k)]) (fun k w => St ok w0 [] [.dat [.slice A p.length c] (.sl (strsD p)), .dat [.slice B q.length d] (.sl (strsD q))] w ∧ k ≤ p.length ∧ p.take k = q.take k) (fun k => p.length - k) 0 ⟨s, by omega, by simp⟩ (by repeat (first | exact Has.nil _ | refine Has.cons rfl ?_)) ?_
    clear s
    rintro k w j ⟨s, hk, hf⟩
    repeat (refine VS_seq ?_)
    refine VS_region_lit ?_
    refine VL_run (d := 14) (run_ltI rfl rfl rfl) rfl rfl ?_
    refine VL_nil ?_
    repeat (refine VS_seq ?_)
    refine VS_cond rfl (fun c1 => ?_) (fun c1 => ?_) <;> (try simp only [decide_eq_true_eq, decide_eq_false_iff_not, Bool.not_eq_true', Bool.not_eq_false', ne_eq, Decidable.not_not, cond_true, cond_false, Bool.and_eq_true, Bool.or_eq_true, Bool.and_eq_false_iff, Bool.or_eq_false_iff, Bool.not_true, Bool.not_false, reduceCtorEq] at c1)
    · repeat (first | refine VS_seq ?_ | refine VS_block ?_ | refine VS_skip ?_)
      refine VS_region_lit ?_
      refine VL_run (d := 15) (run_move rfl (by conv => lhs; whnf)) rfl rfl ?_
      refine VL_run (d := 5) (run_assign rfl (by conv => lhs; whnf)) rfl rfl ?_
      refine VL_nil ?_
      repeat (refine VS_seq ?_)
      have hk' : k < p.length := by omega
      have hk2 : k < q.length := by omega
      obtain ⟨ad, rfl, s⟩ := s.openS (i := 0) rfl k hk'
      obtain ⟨ad2, rfl, s⟩ := s.openS (i := 2) rfl k hk2
      refine VS_drawS 9 s mixed ?_
      clear s; intro s
      refine VA_take 0 (d := 16) rfl (by kernel_rfl) rfl (fun w g => run_move rfl (by conv => lhs; whnf)) s.see ?_
      refine VA_take 1 (d := 17) rfl (by kernel_rfl) rfl (fun w g => run_move rfl (by conv => lhs; whnf)) s.see ?_
      refine VA_take 2 (d := 18) rfl (by kernel_rfl) rfl (fun w g => run_indexAddr rfl Try.underlying23 ty9 rfl rfl (by omega) (by omega)) s.see ?_
      refine VA_take 3 (d := 19) rfl (by kernel_rfl) rfl (fun w g => see_at0 g rfl ty9 rfl (i := 1) rfl rfl) s.see ?_
      refine VA_take 4 (d := 20) rfl (by kernel_rfl) rfl (fun w g => run_move rfl (by conv => lhs; whnf)) s.see ?_
      refine VA_take 5 (d := 21) rfl (by kernel_rfl) rfl (fun w g => run_move rfl (by conv => lhs; whnf)) s.see ?_
      refine VA_take 6 (d := 22) rfl (by kernel_rfl) rfl (fun w g => run_indexAddr rfl Try.underlying23 ty9 rfl rfl (by omega) (by omega)) s.see ?_
      refine VA_take 7 (d := 23) rfl (by kernel_rfl) rfl (fun w g => see_at0 g rfl ty9 rfl (i := 0) rfl rfl) s.see ?_
      refine VA_take 8 (d := 24) rfl (by kernel_rfl) rfl (fun w g => run_neS rfl rfl rfl) s.see ?_
      refine VA_done (by kernel_rfl) ?_
      refine VS_cond rfl (fun c2 => ?_) (fun c2 => ?_) <;> (try simp only [decide_eq_true_eq, decide_eq_false_iff_not, Bool.not_eq_true', Bool.not_eq_false', ne_eq, Decidable.not_not, cond_true, cond_false, Bool.and_eq_true, Bool.or_eq_true, Bool.and_eq_false_iff, Bool.or_eq_false_iff, Bool.not_true, Bool.not_false, reduceCtorEq] at c2)
      · repeat (refine VS_seq ?_)
        refine VS_region_lit ?_
        refine VL_run (d := 4) (run_assign rfl (by conv => lhs; whnf)) rfl rfl ?_
        refine VL_nil ?_
        refine VS_ret ?_
        repeat (first | refine blockV_ret ?_ | refine backV_ret ?_)
        refine fin_one (fn := Try.f57) rfl (res_tmp (by conv => lhs; whnf)) ?_
        refine ⟨?_, s.below⟩
        have : ¬ p = q := fun h => c2 (by simp only [h])
        simp [this]
      · repeat (first | refine VS_skip ?_ | refine VS_nil_block ?_)
        refine VS_region_lit ?_
        refine VL_run (d := 25) (run_add rfl rfl rfl (by omega)) rfl rfl ?_
        refine VL_run (d := 13) (run_move rfl (by conv => lhs; whnf)) rfl rfl ?_
        refine VL_nil ?_
        refine VS_back (k + 1) ?_ (by repeat (first | exact Has.nil _ | refine Has.cons rfl ?_)) (by repeat (first | exact Out.mix _ _ _ | refine Out.upd rfl ?_)) ?_
        · exact ⟨s.less (by (repeat (first | exact sub_nil | refine sub_cons (by (repeat (first | exact .head _ | refine .tail _ ?_))) ?_))), by omega, by rw [← take_snoc hk', ← take_snoc hk2, hf, c2]⟩
        · omega
    · refine VS_exit ?_
      repeat (first | refine blockV_hit ?_ | refine backV_exit ?_)
      repeat (refine VS_seq ?_)
      refine VS_region_lit ?_
      refine VL_run (d := 4) (run_assign rfl (by conv => lhs; whnf)) rfl rfl ?_
      refine VL_nil ?_
      refine VS_ret ?_
      repeat (first | refine blockV_ret ?_ | refine backV_ret ?_ | refine backV2_ret ?_ | refine backV3_ret ?_ | refine thenV_ret ?_ | refine metV2_ret ?_)
      refine fin_one (fn := Try.f57) rfl (res_tmp (by conv => lhs; whnf)) ?_
      obtain rfl : k = p.length := by omega
      exact ⟨by rw [decide_eq_true (take_all_eq (by omega) hf)], s.below⟩
theorem isNaNS_ok (x : ByteArray) {w0 : World} : Calls Try.prog 143 #[.string x] w0 (Ret fun v w' => v = .bool false ∧ Below w0.heap.size w0 w') := by
  have s := St.start (fun _ => False) w0
  refine calls_enter (n := 6) Try.func143 rfl rfl rfl ?_
  repeat (refine VS_seq ?_)
  refine VS_region_lit ?_
  refine VL_run (d := 2) (run_assign rfl (by conv => lhs; whnf)) rfl rfl ?_
  refine VL_nil ?_
  repeat (refine VS_seq ?_)
  refine VS_region_lit ?_
  refine VL_run (d := 3) (run_move rfl (by conv => lhs; whnf)) rfl rfl ?_
  refine VL_run (d := 4) (run_move rfl (by conv => lhs; whnf)) rfl rfl ?_
  refine VL_run (d := 5) (run_neS rfl rfl rfl) rfl rfl ?_
  refine VL_run (d := 2) (run_assign rfl (by conv => lhs; whnf)) rfl rfl ?_
  refine VL_nil ?_
  refine VS_ret ?_
  repeat (first | refine blockV_ret ?_ | refine backV_ret ?_ | refine backV2_ret ?_ | refine backV3_ret ?_ | refine thenV_ret ?_ | refine metV2_ret ?_)
  refine fin_one (fn := Try.f143) rfl (res_tmp (by conv => lhs; whnf)) ?_
  exact ⟨by simp, s.below⟩
def cmpB (x y : ByteArray) : Int := bif bl x y then -1 else bif bl x y || decide (x = y) then 0 else 1
theorem cmpCompare_ok (x y : ByteArray) {w0 : World} : Calls Try.prog 129 #[.string x, .string y] w0 (Ret fun v w' => v = .int .i64 (cmpB x y) ∧ Below w0.heap.size w0 w') := by
  have s := St.start (fun _ => False) w0
  refine calls_enter (n := 20) Try.func129 rfl rfl rfl ?_
  repeat (refine VS_seq ?_)
  refine VS_region_lit ?_
  refine VL_run (d := 4) (run_assign rfl (by conv => lhs; whnf)) rfl rfl ?_
  refine VL_nil ?_
  repeat (refine VS_seq ?_)
  refine VS_region_lit ?_
  refine VL_run (d := 7) (run_move rfl (by conv => lhs; whnf)) rfl rfl ?_
  refine VL_does (d := 8) (does_call1 rfl (by kernel_rfl) rfl (isNaNS_ok _) ?_) rfl rfl
  rintro _ w ⟨rfl, hb⟩
  replace s := s.step hb
  clear hb
  refine VL_run (d := 5) (run_assign rfl (by conv => lhs; whnf)) rfl rfl ?_
  refine VL_nil ?_
  repeat (refine VS_seq ?_)
  refine VS_region_lit ?_
  refine VL_run (d := 9) (run_move rfl (by conv => lhs; whnf)) rfl rfl ?_
  refine VL_does (d := 10) (does_call1 rfl (by kernel_rfl) rfl (isNaNS_ok _) ?_) rfl rfl
  rintro _ w ⟨rfl, hb⟩
  replace s := s.step hb
  clear hb
  refine VL_run (d := 6) (run_assign rfl (by conv => lhs; whnf)) rfl rfl ?_
  refine VL_nil ?_
  repeat (refine VS_seq ?_)
  refine VS_region_lit ?_
  refine VL_run (d := 11) (run_move rfl (by conv => lhs; whnf)) rfl rfl ?_
  refine VL_nil ?_
  refine VS_cond rfl (fun c0 => ?_) (fun c0 => ?_) <;> (try simp only [decide_eq_true_eq, decide_eq_false_iff_not, Bool.not_eq_true', Bool.not_eq_false', ne_eq, Decidable.not_not, cond_true, cond_false, Bool.and_eq_true, Bool.or_eq_true, Bool.and_eq_false_iff, Bool.or_eq_false_iff, Bool.not_true, Bool.not_false, reduceCtorEq] at c0)
  · repeat (first | refine VS_seq ?_ | refine VS_skip ?_)
    refine VS_region_lit ?_
    refine VL_run (d := 13) (run_move rfl (by conv => lhs; whnf)) rfl rfl ?_
    refine VL_nil ?_
    refine VS_cond rfl (fun c2 => ?_) (fun c2 => ?_) <;> (try simp only [decide_eq_true_eq, decide_eq_false_iff_not, Bool.not_eq_true', Bool.not_eq_false', ne_eq, Decidable.not_not, cond_true, cond_false, Bool.and_eq_true, Bool.or_eq_true, Bool.and_eq_false_iff, Bool.or_eq_false_iff, Bool.not_true, Bool.not_false, reduceCtorEq] at c2)
    · repeat (first | refine VS_seq ?_ | refine VS_skip ?_)
      refine VS_region_lit ?_
      refine VL_run (d := 14) (run_move rfl (by conv => lhs; whnf)) rfl rfl ?_
      refine VL_run (d := 15) (run_move rfl (by conv => lhs; whnf)) rfl rfl ?_
      refine VL_run (d := 16) (run_ltS rfl rfl rfl) rfl rfl ?_
      refine VL_nil ?_
      refine VS_cond rfl (fun c3 => ?_) (fun c3 => ?_) <;> (try simp only [decide_eq_true_eq, decide_eq_false_iff_not, Bool.not_eq_true', Bool.not_eq_false', ne_eq, Decidable.not_not, cond_true, cond_false, Bool.and_eq_true, Bool.or_eq_true, Bool.and_eq_false_iff, Bool.or_eq_false_iff, Bool.not_true, Bool.not_false, reduceCtorEq] at c3)
      · repeat (refine VS_seq ?_)
        refine VS_region_lit ?_
        refine VL_run (d := 4) (run_assign rfl (by conv => lhs; whnf)) rfl rfl ?_
        refine VL_nil ?_
        refine VS_ret ?_
        repeat (first | refine blockV_ret ?_ | refine backV_ret ?_ | refine backV2_ret ?_ | refine backV3_ret ?_ | refine thenV_ret ?_ | refine metV2_ret ?_)
        refine fin_one (fn := Try.f129) rfl (res_tmp (by conv => lhs; whnf)) ?_
        exact ⟨by clear s; unfold cmpB; simp_all, s.below⟩
      · repeat (first | refine VS_seq ?_ | refine VS_skip ?_)
        refine VS_region_lit ?_
        refine VL_run (d := 17) (run_move rfl (by conv => lhs; whnf)) rfl rfl ?_
        refine VL_run (d := 18) (run_move rfl (by conv => lhs; whnf)) rfl rfl ?_
        refine VL_run (d := 19) (run_gtS rfl rfl rfl) rfl rfl ?_
        refine VL_nil ?_
        refine VS_cond rfl (fun c4 => ?_) (fun c4 => ?_) <;> (try simp only [decide_eq_true_eq, decide_eq_false_iff_not, Bool.not_eq_true', Bool.not_eq_false', ne_eq, Decidable.not_not, cond_true, cond_false, Bool.and_eq_true, Bool.or_eq_true, Bool.and_eq_false_iff, Bool.or_eq_false_iff, Bool.not_true, Bool.not_false, reduceCtorEq] at c4)
        · repeat (refine VS_seq ?_)
          refine VS_region_lit ?_
          refine VL_run (d := 4) (run_assign rfl (by conv => lhs; whnf)) rfl rfl ?_
          refine VL_nil ?_
          refine VS_ret ?_
          repeat (first | refine blockV_ret ?_ | refine backV_ret ?_ | refine backV2_ret ?_ | refine backV3_ret ?_ | refine thenV_ret ?_ | refine metV2_ret ?_)
          refine fin_one (fn := Try.f129) rfl (res_tmp (by conv => lhs; whnf)) ?_
          exact ⟨by clear s; unfold cmpB; simp_all, s.below⟩
        · repeat (first | refine VS_seq ?_ | refine VS_skip ?_)
          refine VS_region_lit ?_
          refine VL_run (d := 4) (run_assign rfl (by conv => lhs; whnf)) rfl rfl ?_
          refine VL_nil ?_
          refine VS_ret ?_
          repeat (first | refine blockV_ret ?_ | refine backV_ret ?_ | refine backV2_ret ?_ | refine backV3_ret ?_ | refine thenV_ret ?_ | refine metV2_ret ?_)
          refine fin_one (fn := Try.f129) rfl (res_tmp (by conv => lhs; whnf)) ?_
          exact ⟨by clear s; unfold cmpB; simp_all, s.below⟩
def cmpP : List ByteArray → List ByteArray → Int
  | [], [] => 0
  | [], _ :: _ => -1
  | _ :: _, [] => 1
  | x :: a, y :: b => if cmpB x y ≠ 0 then cmpB x y else cmpP a b
theorem slicesCompare_ok (p q : List ByteArray) {ok : Nat → Prop} {w0 : World} {v1 v2 : Value} (h1 : Rd ok w0 (.sl (strsD p)) [v1]) (h2 : Rd ok w0 (.sl (strsD q)) [v2]) (hp : p.length ≤ 1000000000000) (hq : q.length ≤ 1000000000000) :
    Calls Try.prog 97 #[v1, v2] w0 (Ret fun v w' => v = .int .i64 (cmpP p q) ∧ Below w0.heap.size w0 w') := by
  obtain ⟨A, c, e1, hl1⟩ := Rd_strs h1
  obtain ⟨B, d, e2, hl2⟩ := Rd_strs h2
  obtain rfl := List.singleton_inj.1 e1
  obtain rfl := List.singleton_inj.1 e2
  have s := ((St.start ok w0).begin h2).begin h1
  refine calls_enter (n := 36) Try.func97 rfl rfl rfl ?_
  repeat (refine VS_seq ?_)
  refine VS_region_lit ?_
  refine VL_run (d := 4) (run_assign rfl (by conv => lhs; whnf)) rfl rfl ?_
  refine VL_nil ?_
  repeat (refine VS_seq ?_)
  refine VS_region_lit ?_
  refine VL_run (d := 9) (run_move rfl (by conv => lhs; whnf)) rfl rfl ?_
  refine VL_run (d := 10) (run_lenSlice rfl ⟨_, Try.underlying23⟩ rfl) rfl rfl ?_
  refine VL_run (d := 11) (run_move rfl (by conv => lhs; whnf)) rfl rfl ?_
  refine VL_nil ?_
  repeat (refine VS_block ?_)
  refine VS_loop [4, 5, 6, 7, 8, 11, 12, 13, 14, 15, 16, 17, 18, 19, 20, 21, 22, 23, 24, 25, 26, 27, 28, 29, 30] (fun k : Nat => [(11, .int .i64 k)]) (fun k w => St ok w0 [] [.dat [.slice A p.length c] (.sl (strsD p)), .dat [.slice B q.length d] (.sl (strsD q))] w ∧ k ≤ p.length ∧ k ≤ q.length ∧ cmpP (p.drop k) (q.drop k) = cmpP p q) (fun k => p.length - k) 0 ⟨s, by omega, by omega, rfl⟩ (by repeat (first | exact Has.nil _ | refine Has.cons rfl ?_)) ?_
  clear s
  rintro k w j ⟨s, hk, hk0, hf⟩
  repeat (refine VS_seq ?_)
  refine VS_region_lit ?_
  refine VL_run (d := 12) (run_ltI rfl rfl rfl) rfl rfl ?_
  refine VL_nil ?_
  repeat (refine VS_seq ?_)
  refine VS_cond rfl (fun c0 => ?_) (fun c0 => ?_) <;> (try simp only [decide_eq_true_eq, decide_eq_false_iff_not, Bool.not_eq_true', Bool.not_eq_false', ne_eq, Decidable.not_not, cond_true, cond_false, Bool.and_eq_true, Bool.or_eq_true, Bool.and_eq_false_iff, Bool.or_eq_false_iff, Bool.not_true, Bool.not_false, reduceCtorEq] at c0)
  · repeat (first | refine VS_seq ?_ | refine VS_block ?_ | refine VS_skip ?_)
    have hk' : k < p.length := by omega
    obtain ⟨ad, rfl, s⟩ := s.openS (i := 0) rfl k hk'
    refine VS_region_lit ?_
    refine VL_run (d := 13) (run_move rfl (by conv => lhs; whnf)) rfl rfl ?_
    refine VL_run (d := 14) (run_indexAddr rfl Try.underlying23 ty9 rfl rfl (by omega) (by omega)) rfl rfl ?_
    refine VL_run (d := 15) (run_load_at0 s rfl ty9 rfl (i := 0) rfl rfl) rfl rfl ?_
    refine VL_run (d := 5) (run_assign rfl (by conv => lhs; whnf)) rfl rfl ?_
    refine VL_run (d := 6) (run_assign rfl (by conv => lhs; whnf)) rfl rfl ?_
    refine VL_nil ?_
    repeat (refine VS_seq ?_)
    refine VS_region_lit ?_
    refine VL_run (d := 16) (run_move rfl (by conv => lhs; whnf)) rfl rfl ?_
    refine VL_run (d := 17) (run_move rfl (by conv => lhs; whnf)) rfl rfl ?_
    refine VL_run (d := 18) (run_lenSlice rfl ⟨_, Try.underlying23⟩ rfl) rfl rfl ?_
    refine VL_run (d := 19) (run_geI rfl rfl rfl) rfl rfl ?_
    refine VL_nil ?_
    refine VS_cond rfl (fun c1 => ?_) (fun c1 => ?_) <;> (try simp only [decide_eq_true_eq, decide_eq_false_iff_not, Bool.not_eq_true', Bool.not_eq_false', ne_eq, Decidable.not_not, cond_true, cond_false, Bool.and_eq_true, Bool.or_eq_true, Bool.and_eq_false_iff, Bool.or_eq_false_iff, Bool.not_true, Bool.not_false, reduceCtorEq] at c1)
    · repeat (refine VS_seq ?_)
      refine VS_region_lit ?_
      refine VL_run (d := 4) (run_assign rfl (by conv => lhs; whnf)) rfl rfl ?_
      refine VL_nil ?_
      refine VS_ret ?_
      repeat (first | refine blockV_ret ?_ | refine backV_ret ?_)
      refine fin_one (fn := Try.f97) rfl (res_tmp (by conv => lhs; whnf)) ?_
      rw [List.drop_eq_getElem_cons hk', List.drop_of_length_le (l := q) (by omega), cmpP] at hf
      exact ⟨by rw [← hf], s.below⟩
    · repeat (first | refine VS_seq ?_ | refine VS_skip ?_)
      have hk2 : k < q.length := by omega
      obtain ⟨ad2, rfl, s⟩ := s.openS (i := 2) rfl k hk2
      rw [List.drop_eq_getElem_cons hk', List.drop_eq_getElem_cons hk2, cmpP] at hf
      refine VS_region_lit ?_
      refine VL_run (d := 20) (run_move rfl (by conv => lhs; whnf)) rfl rfl ?_
      refine VL_run (d := 21) (run_move rfl (by conv => lhs; whnf)) rfl rfl ?_
      refine VL_run (d := 22) (run_indexAddr rfl Try.underlying23 ty9 rfl rfl (by omega) (by omega)) rfl rfl ?_
      refine VL_run (d := 23) (run_load_at0 s rfl ty9 rfl (i := 0) rfl rfl) rfl rfl ?_
      refine VL_run (d := 7) (run_assign rfl (by conv => lhs; whnf)) rfl rfl ?_
      refine VL_nil ?_
      repeat (refine VS_seq ?_)
      refine VS_region_lit ?_
      refine VL_run (d := 24) (run_move rfl (by conv => lhs; whnf)) rfl rfl ?_
      refine VL_run (d := 25) (run_move rfl (by conv => lhs; whnf)) rfl rfl ?_
      refine VL_does (d := 26) (does_call2 rfl (by kernel_rfl) rfl rfl (cmpCompare_ok _ _) ?_) rfl rfl
      rintro _ w ⟨rfl, hb⟩
      replace s := s.step hb
      clear hb
      refine VL_run (d := 8) (run_assign rfl (by conv => lhs; whnf)) rfl rfl ?_
      refine VL_nil ?_
      repeat (refine VS_seq ?_)
      refine VS_region_lit ?_
      refine VL_run (d := 27) (run_move rfl (by conv => lhs; whnf)) rfl rfl ?_
      refine VL_run (d := 28) (run_neI rfl rfl rfl) rfl rfl ?_
      refine VL_nil ?_
      refine VS_cond rfl (fun c2 => ?_) (fun c2 => ?_) <;> (try simp only [decide_eq_true_eq, decide_eq_false_iff_not, Bool.not_eq_true', Bool.not_eq_false', ne_eq, Decidable.not_not, cond_true, cond_false, Bool.and_eq_true, Bool.or_eq_true, Bool.and_eq_false_iff, Bool.or_eq_false_iff, Bool.not_true, Bool.not_false, reduceCtorEq] at c2)
      · repeat (refine VS_seq ?_)
        refine VS_region_lit ?_
        refine VL_run (d := 29) (run_move rfl (by conv => lhs; whnf)) rfl rfl ?_
        refine VL_run (d := 4) (run_assign rfl (by conv => lhs; whnf)) rfl rfl ?_
        refine VL_nil ?_
        refine VS_ret ?_
        repeat (first | refine blockV_ret ?_ | refine backV_ret ?_)
        refine fin_one (fn := Try.f97) rfl (res_tmp (by conv => lhs; whnf)) ?_
        rw [if_pos c2] at hf
        exact ⟨by rw [← hf], s.below⟩
      · repeat (first | refine VS_skip ?_ | refine VS_nil_block ?_)
        refine VS_region_lit ?_
        refine VL_run (d := 30) (run_add rfl rfl rfl (by omega)) rfl rfl ?_
        refine VL_run (d := 11) (run_move rfl (by conv => lhs; whnf)) rfl rfl ?_
        refine VL_nil ?_
        refine VS_back (k + 1) ?_ (by repeat (first | exact Has.nil _ | refine Has.cons rfl ?_)) (by repeat (first | exact Out.mix _ _ _ | refine Out.upd rfl ?_)) ?_
        · rw [if_neg (by simp [c2])] at hf
          exact ⟨s.less (by (repeat (first | exact sub_nil | refine sub_cons (by (repeat (first | exact .head _ | refine .tail _ ?_))) ?_))), by omega, by omega, hf⟩
        · omega
  · refine VS_exit ?_
    repeat (first | refine blockV_hit ?_ | refine backV_exit ?_)
    repeat (refine VS_seq ?_)
    refine VS_region_lit ?_
    refine VL_run (d := 31) (run_move rfl (by conv => lhs; whnf)) rfl rfl ?_
    refine VL_run (d := 32) (run_lenSlice rfl ⟨_, Try.underlying23⟩ rfl) rfl rfl ?_
    refine VL_run (d := 33) (run_move rfl (by conv => lhs; whnf)) rfl rfl ?_
    refine VL_run (d := 34) (run_lenSlice rfl ⟨_, Try.underlying23⟩ rfl) rfl rfl ?_
    refine VL_run (d := 35) (run_ltI rfl rfl rfl) rfl rfl ?_
    refine VL_nil ?_
    refine VS_cond rfl (fun c3 => ?_) (fun c3 => ?_) <;> (try simp only [decide_eq_true_eq, decide_eq_false_iff_not, Bool.not_eq_true', Bool.not_eq_false', ne_eq, Decidable.not_not, cond_true, cond_false, Bool.and_eq_true, Bool.or_eq_true, Bool.and_eq_false_iff, Bool.or_eq_false_iff, Bool.not_true, Bool.not_false, reduceCtorEq] at c3)
    · repeat (refine VS_seq ?_)
      refine VS_region_lit ?_
      refine VL_run (d := 4) (run_assign rfl (by conv => lhs; whnf)) rfl rfl ?_
      refine VL_nil ?_
      refine VS_ret ?_
      repeat (first | refine blockV_ret ?_ | refine backV_ret ?_ | refine backV2_ret ?_ | refine backV3_ret ?_ | refine thenV_ret ?_ | refine metV2_ret ?_)
      refine fin_one (fn := Try.f97) rfl (res_tmp (by conv => lhs; whnf)) ?_
      rw [List.drop_of_length_le (by omega), List.drop_eq_getElem_cons (show k < q.length by omega), cmpP] at hf
      exact ⟨by rw [← hf], s.below⟩
    · repeat (first | refine VS_seq ?_ | refine VS_skip ?_)
      refine VS_region_lit ?_
      refine VL_run (d := 4) (run_assign rfl (by conv => lhs; whnf)) rfl rfl ?_
      refine VL_nil ?_
      refine VS_ret ?_
      repeat (first | refine blockV_ret ?_ | refine backV_ret ?_ | refine backV2_ret ?_ | refine backV3_ret ?_ | refine thenV_ret ?_ | refine metV2_ret ?_)
      refine fin_one (fn := Try.f97) rfl (res_tmp (by conv => lhs; whnf)) ?_
      rw [List.drop_of_length_le (by omega), List.drop_of_length_le (by omega), cmpP] at hf
      exact ⟨by rw [← hf], s.below⟩
theorem bytesLess_irrefl : ∀ l, Op.bytesLess l l = false
  | [] => rfl
  | x :: l => by simp [Op.bytesLess, bytesLess_irrefl l]
theorem bl_irrefl (x : ByteArray) : bl x x = false := bytesLess_irrefl _
theorem cmpP_lt : ∀ p q : List ByteArray, decide (0 ≤ cmpP p q) = !pathLt p q
  | [], [] => rfl
  | [], _ :: _ => rfl
  | _ :: _, [] => rfl
  | x :: a, y :: b => by
    rw [cmpP, pathLt]
    by_cases h : x = y
    · subst h
      have : cmpB x x = 0 := by simp [cmpB, bl_irrefl]
      rw [this, if_neg (by simp), if_pos rfl]
      exact cmpP_lt a b
    · rw [if_neg h]
      cases hb : bl x y <;> simp [cmpB, hb, h]
section
variable {ok : Nat → Prop} {W0 : Start} {w : World} {C : List It} {F : List Fa}
theorem St.partN (s : St ok W0 C F w) {i : Nat} {A : Option Addr} {m c : Nat} {xs : List (Int × List ByteArray)} (hi : F[i]? = some (.dat [.slice A m c] (.sl (nodeDs xs)))) (l h : Nat) (h1 : l ≤ h) (h2 : h ≤ m) (ys : List (Int × List ByteArray)) (hy : (xs.drop l).take (h - l) = ys) :
    St ok W0 C (.dat [.slice (if c = l then A else A.map (·.add (l * 2))) (h - l) (c - l)] (.sl (nodeDs ys)) :: F) w := by
  subst hy
  refine s.know (f := .dat _ _) ?_
  show Rd _ _ _ _
  have := Rd.part (nodeDs_wd xs) (by decide) (s.dat hi) h1 h2
  simpa [nodeDs, List.map_drop, List.map_take] using this
end
theorem nodesWell_ok (n : Nd) {ok : Nat → Prop} {w0 : World} {cs : List Value} (h : Rd ok w0 n.toD cs) (hn : NdB n 1000000000) :
    Calls Try.prog 54 #[.agg cs.toArray] w0 (Ret fun v w' => v = .bool n.ok ∧ Below w0.heap.size w0 w') := by
  obtain ⟨A, c, rfl, hl, h3⟩ := Nd.opn h
  have hlen := hn.2.2.1
  have hnx := hn.1
  have hnx2 := hn.2.1
  have s := (St.start ok w0).begin h3
  refine calls_enter (n := 70) Try.func54 rfl rfl rfl ?_
  repeat (refine VS_seq ?_)
  refine VS_region_lit ?_
  refine VL_does (d := 1) (does_box s rfl rfl rfl ?_) rfl rfl
  clear s; intro b1 w s
  refine VL_run (d := 2) (run_assign rfl (by conv => lhs; whnf)) rfl rfl ?_
  refine VL_nil ?_
  repeat (refine VS_seq ?_)
  refine VS_region_lit ?_
  refine VL_run (d := 7) (run_fieldAddr rfl fo30_1 rfl) rfl rfl ?_
  refine VL_run (d := 8) (run_load_own1 s rfl ty28 rfl (i := 0) rfl rfl) rfl rfl ?_
  refine VL_run (d := 9) (run_lenSlice rfl ⟨_, Try.underlying28⟩ rfl) rfl rfl ?_
  refine VL_run (d := 10) (run_move rfl (by conv => lhs; whnf)) rfl rfl ?_
  refine VL_nil ?_
  repeat (refine VS_block ?_)
  refine VS_loop [2, 3, 4, 6, 10, 11, 12, 13, 14, 15, 16, 17, 18, 19, 20, 21, 22, 23, 24, 25, 26, 27, 28, 29, 30, 31, 32, 33, 34, 35, 36, 37, 38, 39, 40, 41, 42, 43, 44, 45, 46, 47, 48, 49, 50, 51, 52, 53, 54, 55, 56, 57, 58, 59, 60] (fun k : Nat => [(10, .int .i64 k)]) (fun k w => St ok w0 [.blk b1 [.int .i64 n.next, .slice A n.list.length c] 30] [.dat [.slice A n.list.length c] (.sl (nodeDs n.list))] w ∧ k ≤ n.list.length ∧ n.okFrom 0 = n.okFrom k) (fun k => n.list.length - k) 0 ⟨s, by omega, rfl⟩ (by repeat (first | exact Has.nil _ | refine Has.cons rfl ?_)) ?_
  clear s
  rintro k w j ⟨s, hk, hf⟩
  repeat (refine VS_seq ?_)
  refine VS_region_lit ?_
  refine VL_run (d := 11) (run_ltI rfl rfl rfl) rfl rfl ?_
  refine VL_nil ?_
  repeat (refine VS_seq ?_)
  refine VS_cond rfl (fun c0 => ?_) (fun c0 => ?_) <;> (try simp only [decide_eq_true_eq, decide_eq_false_iff_not, Bool.not_eq_true', Bool.not_eq_false', ne_eq, Decidable.not_not, cond_true, cond_false, Bool.and_eq_true, Bool.or_eq_true, Bool.and_eq_false_iff, Bool.or_eq_false_iff, Bool.not_true, Bool.not_false, reduceCtorEq] at c0)
  · repeat (first | refine VS_seq ?_ | refine VS_block ?_ | refine VS_skip ?_)
    have hk' : k < n.list.length := by omega
    have hp := hn.plen hk'
    have hp1 := hn.path hk'
    have hp2 := hn.plen (show k - 1 < n.list.length by omega)
    rw [Nd.okFrom.eq_def n k, dif_pos hk'] at hf
    obtain ⟨ad2, A6, c6, rfl, -, s⟩ := s.openN (i := 0) rfl (k - 1) (by omega)
    obtain ⟨ad, A5, c5, e5, -, s⟩ := s.openN (i := 2) rfl k hk'
    obtain rfl := Option.some.inj e5
    refine VS_region_lit ?_
    refine VL_run (d := 12) (run_move rfl (by conv => lhs; whnf)) rfl rfl ?_
    refine VL_run (d := 13) (run_indexAddr rfl Try.underlying28 ty37 rfl rfl (by omega) (by omega)) rfl rfl ?_
    refine VL_run (d := 14) (run_load_atA s rfl ty37 rfl (i := 0) rfl rfl) rfl rfl ?_
    refine VL_does (d := 4) (does_alloc s rfl ty37 rfl ?_) rfl rfl
    clear s; intro b4 w s
    refine VL_run (d := 3) (run_assign rfl (by conv => lhs; whnf)) rfl rfl ?_
    (refine VL_doesU (does_store s rfl ty37 rfl rfl (i := 0) rfl rfl rfl (by (intro u hu; simp only [List.mem_cons, List.not_mem_nil, or_false] at hu; rcases hu with rfl | rfl | rfl | rfl | rfl <;> rfl)) rfl ?_) rfl rfl rfl)
    clear s; intro w s
    try simp only [List.set_cons_zero, List.set_cons_succ, patch, List.take_succ_cons, List.take_zero, List.drop_succ_cons, List.drop_zero, List.drop_nil, List.nil_append, List.cons_append, List.append_nil, List.length_cons, List.length_nil, Nat.reduceAdd, Nat.zero_add] at s
    refine VL_nil ?_
    repeat (refine VS_seq ?_)
    have hcl := cmpP_lt (n.list[k - 1]'(by omega)).2 n.list[k].2
    refine VS_meetB s 44 (!(inI n.list[k].1 1 (n.next - 1) && pathOk n.list[k].2 && (decide (k = 0) || pathLt (n.list[k - 1]'(by omega)).2 n.list[k].2))) [15, 16, 17, 18, 19, 20, 21, 22, 23, 24, 25, 26, 27, 28, 29, 30, 31, 32, 33, 34, 35, 36, 37, 38, 39, 40, 41, 42, 43, 44] ?_ ?_
    · refine VS_drawS 30 s mixed ?_
      clear s; intro s
      refine VA_take 0 (d := 15) rfl (by kernel_rfl) rfl (fun w g => run_fieldAddr rfl fo37_1 rfl) s.see ?_
      refine VA_take 1 (d := 16) rfl (by kernel_rfl) rfl (fun w g => see_own1 g rfl ty23 rfl (i := 0) rfl rfl) s.see ?_
      refine VA_one (i := 2) (by kernel_rfl) ?_
      refine VO_does (d := 17) rfl (does_call2 rfl (by kernel_rfl) rfl rfl (namesOk_ok _ 1 (s.dat (i := 1) rfl) hp1) ?_) rfl rfl
      rintro _ w ⟨rfl, hb⟩
      replace s := s.step hb
      clear hb
      refine ⟨fun _ => s.sees (by intro b c t h; exact h) (by intro f h; exact h), ?_⟩
      refine VA_take 3 (d := 18) rfl (by kernel_rfl) rfl (fun w g => run_not rfl rfl) (by exact s.see) ?_
      refine VA_take 4 (d := 19) rfl (by kernel_rfl) rfl (fun w g => run_move rfl (by conv => lhs; whnf)) (by exact s.see) ?_
      refine VA_split 19 (by conv => lhs; whnf) (fun h19 => ?_) (fun h19 => ?_) <;> (try simp only [decide_eq_true_eq, decide_eq_false_iff_not, Bool.not_eq_true', Bool.not_eq_false', ne_eq, Decidable.not_not, cond_true, cond_false, Bool.and_eq_true, Bool.or_eq_true, Bool.and_eq_false_iff, Bool.or_eq_false_iff, Bool.not_true, Bool.not_false, reduceCtorEq] at h19)
      · refine VA_not 5 (d := 20) rfl (by kernel_rfl) rfl (by exact s.see) ?_
        refine VA_not 6 (d := 21) rfl (by kernel_rfl) rfl (by exact s.see) ?_
        refine VA_not 7 (d := 22) rfl (by kernel_rfl) rfl (by exact s.see) ?_
        refine VA_not 8 (d := 23) rfl (by kernel_rfl) rfl (by exact s.see) ?_
        refine VA_not 9 (d := 24) rfl (by kernel_rfl) rfl (by exact s.see) ?_
        refine VA_not 10 (d := 25) rfl (by kernel_rfl) rfl (by exact s.see) ?_
        refine VA_not 11 (d := 26) rfl (by kernel_rfl) rfl (by exact s.see) ?_
        refine VA_not 12 (d := 27) rfl (by kernel_rfl) rfl (by exact s.see) ?_
        refine VA_not 13 (d := 28) rfl (by kernel_rfl) rfl (by exact s.see) ?_
        refine VA_not 14 (d := 29) rfl (by kernel_rfl) rfl (by exact s.see) ?_
        refine VA_not 15 (d := 30) rfl (by kernel_rfl) rfl (by exact s.see) ?_
        refine VA_not 16 (d := 31) rfl (by kernel_rfl) rfl (by exact s.see) ?_
        refine VA_not 17 (d := 32) rfl (by kernel_rfl) rfl (by exact s.see) ?_
        refine VA_not 18 (d := 33) rfl (by kernel_rfl) rfl (by exact s.see) ?_
        refine VA_not 19 (d := 34) rfl (by kernel_rfl) rfl (by exact s.see) ?_
        refine VA_take 20 (d := 35) rfl (by kernel_rfl) rfl (fun w g => run_pickT rfl rfl rfl) (by exact s.see) ?_
        refine VA_take 21 (d := 36) rfl (by kernel_rfl) rfl (fun w g => run_move rfl (by conv => lhs; whnf)) (by exact s.see) ?_
        refine VA_not 22 (d := 37) rfl (by kernel_rfl) rfl (by exact s.see) ?_
        refine VA_not 23 (d := 38) rfl (by kernel_rfl) rfl (by exact s.see) ?_
        refine VA_not 24 (d := 39) rfl (by kernel_rfl) rfl (by exact s.see) ?_
        refine VA_not 25 (d := 40) rfl (by kernel_rfl) rfl (by exact s.see) ?_
        refine VA_not 26 (d := 41) rfl (by kernel_rfl) rfl (by exact s.see) ?_
        refine VA_not 27 (d := 42) rfl (by kernel_rfl) rfl (by exact s.see) ?_
        refine VA_not 28 (d := 43) rfl (by kernel_rfl) rfl (by exact s.see) ?_
        refine VA_take 29 (d := 44) rfl (by kernel_rfl) rfl (fun w g => run_pickT rfl rfl rfl) (by exact s.see) ?_
        refine VA_done (by kernel_rfl) ?_
        exact VS_endB s (by conv => lhs; whnf) (by clear s; simp only [show namesOkB n.list[k].2 1 = pathOk n.list[k].2 from rfl] at *; grind) (by repeat (first | exact Out.refl _ _ | refine Out.upd rfl ?_))
      · refine VA_take 5 (d := 20) rfl (by kernel_rfl) rfl (fun w g => run_move rfl (by conv => lhs; whnf)) (by exact s.see) ?_
        refine VA_take 6 (d := 21) rfl (by kernel_rfl) rfl (fun w g => run_gtI rfl rfl rfl) (by exact s.see) ?_
        refine VA_take 7 (d := 22) rfl (by kernel_rfl) rfl (fun w g => run_move rfl (by conv => lhs; whnf)) (by exact s.see) ?_
        refine VA_split 22 (by conv => lhs; whnf) (fun h22 => ?_) (fun h22 => ?_) <;> (try simp only [decide_eq_true_eq, decide_eq_false_iff_not, Bool.not_eq_true', Bool.not_eq_false', ne_eq, Decidable.not_not, cond_true, cond_false, Bool.and_eq_true, Bool.or_eq_true, Bool.and_eq_false_iff, Bool.or_eq_false_iff, Bool.not_true, Bool.not_false, reduceCtorEq] at h22)
        · refine VA_take 8 (d := 23) rfl (by kernel_rfl) rfl (fun w g => run_fieldAddr rfl fo30_1 rfl) (by exact s.see) ?_
          refine VA_take 9 (d := 24) rfl (by kernel_rfl) rfl (fun w g => see_own1 g rfl ty28 rfl (i := 1) rfl rfl) (by exact s.see) ?_
          refine VA_take 10 (d := 25) rfl (by kernel_rfl) rfl (fun w g => run_move rfl (by conv => lhs; whnf)) (by exact s.see) ?_
          refine VA_take 11 (d := 26) rfl (by kernel_rfl) rfl (fun w g => run_sub rfl rfl rfl (by omega)) (by exact s.see) ?_
          refine VA_take 12 (d := 27) rfl (by kernel_rfl) rfl (fun w g => run_indexAddrN (q := (k - 1)) rfl Try.underlying28 ty37 rfl rfl (by omega) (by omega)) (by exact s.see) ?_
          refine VA_take 13 (d := 28) rfl (by kernel_rfl) rfl (fun w g => run_fieldAddr rfl fo37_1 rfl) (by exact s.see) ?_
          refine VA_take 14 (d := 29) rfl (by kernel_rfl) rfl (fun w g => see_at1 g rfl ty23 rfl (i := 2) rfl rfl) (by exact s.see) ?_
          refine VA_take 15 (d := 30) rfl (by kernel_rfl) rfl (fun w g => run_fieldAddr rfl fo37_1 rfl) (by exact s.see) ?_
          refine VA_take 16 (d := 31) rfl (by kernel_rfl) rfl (fun w g => see_own1 g rfl ty23 rfl (i := 0) rfl rfl) (by exact s.see) ?_
          refine VA_one (i := 17) (by kernel_rfl) ?_
          refine VO_does (d := 32) rfl (does_call2 rfl (by kernel_rfl) rfl rfl (slicesCompare_ok _ _ (s.dat (i := 3) rfl) (s.dat (i := 1) rfl) (by omega) (by omega)) ?_) rfl rfl
          rintro _ w ⟨rfl, hb⟩
          replace s := s.step hb
          clear hb
          refine ⟨fun _ => s.sees (by intro b c t h; exact h) (by intro f h; exact h), ?_⟩
          refine VA_take 18 (d := 33) rfl (by kernel_rfl) rfl (fun w g => run_geI rfl rfl rfl) (by exact s.see) ?_
          refine VA_take 19 (d := 34) rfl (by kernel_rfl) rfl (fun w g => run_pickT rfl rfl rfl) (by exact s.see) ?_
          refine VA_take 20 (d := 35) rfl (by kernel_rfl) rfl (fun w g => run_pickF rfl rfl rfl) (by exact s.see) ?_
          refine VA_take 21 (d := 36) rfl (by kernel_rfl) rfl (fun w g => run_move rfl (by conv => lhs; whnf)) (by exact s.see) ?_
          refine VA_split 36 (by conv => lhs; whnf) (fun h36 => ?_) (fun h36 => ?_) <;> (try simp only [decide_eq_true_eq, decide_eq_false_iff_not, Bool.not_eq_true', Bool.not_eq_false', ne_eq, Decidable.not_not, cond_true, cond_false, Bool.and_eq_true, Bool.or_eq_true, Bool.and_eq_false_iff, Bool.or_eq_false_iff, Bool.not_true, Bool.not_false, reduceCtorEq] at h36)
          · refine VA_not 22 (d := 37) rfl (by kernel_rfl) rfl (by exact s.see) ?_
            refine VA_not 23 (d := 38) rfl (by kernel_rfl) rfl (by exact s.see) ?_
            refine VA_not 24 (d := 39) rfl (by kernel_rfl) rfl (by exact s.see) ?_
            refine VA_not 25 (d := 40) rfl (by kernel_rfl) rfl (by exact s.see) ?_
            refine VA_not 26 (d := 41) rfl (by kernel_rfl) rfl (by exact s.see) ?_
            refine VA_not 27 (d := 42) rfl (by kernel_rfl) rfl (by exact s.see) ?_
            refine VA_not 28 (d := 43) rfl (by kernel_rfl) rfl (by exact s.see) ?_
            refine VA_take 29 (d := 44) rfl (by kernel_rfl) rfl (fun w g => run_pickT rfl rfl rfl) (by exact s.see) ?_
            refine VA_done (by kernel_rfl) ?_
            exact VS_endB s (by conv => lhs; whnf) (by clear s; simp only [show namesOkB n.list[k].2 1 = pathOk n.list[k].2 from rfl] at *; grind) (by repeat (first | exact Out.refl _ _ | refine Out.upd rfl ?_))
          · refine VA_take 22 (d := 37) rfl (by kernel_rfl) rfl (fun w g => run_fieldAddr rfl fo37_0 rfl) (by exact s.see) ?_
            refine VA_take 23 (d := 38) rfl (by kernel_rfl) rfl (fun w g => see_own1 g rfl ty3 rfl (i := 0) rfl rfl) (by exact s.see) ?_
            refine VA_take 24 (d := 39) rfl (by kernel_rfl) rfl (fun w g => run_fieldAddr rfl fo30_0 rfl) (by exact s.see) ?_
            refine VA_take 25 (d := 40) rfl (by kernel_rfl) rfl (fun w g => see_own1 g rfl ty3 rfl (i := 1) rfl rfl) (by exact s.see) ?_
            refine VA_take 26 (d := 41) rfl (by kernel_rfl) rfl (fun w g => run_sub rfl rfl rfl (by omega)) (by exact s.see) ?_
            refine VA_one (i := 27) (by kernel_rfl) ?_
            refine VO_does (d := 42) rfl (does_call3 rfl (by kernel_rfl) rfl rfl rfl (within_ok _ _ _) ?_) rfl rfl
            rintro _ w ⟨rfl, hb⟩
            replace s := s.step hb
            clear hb
            refine ⟨fun _ => s.sees (by intro b c t h; exact h) (by intro f h; exact h), ?_⟩
            refine VA_take 28 (d := 43) rfl (by kernel_rfl) rfl (fun w g => run_not rfl rfl) (by exact s.see) ?_
            refine VA_take 29 (d := 44) rfl (by kernel_rfl) rfl (fun w g => run_pickF rfl rfl rfl) (by exact s.see) ?_
            refine VA_done (by kernel_rfl) ?_
            exact VS_endB s (by conv => lhs; whnf) (by clear s; simp only [show namesOkB n.list[k].2 1 = pathOk n.list[k].2 from rfl] at *; grind) (by repeat (first | exact Out.refl _ _ | refine Out.upd rfl ?_))
        · refine VA_not 8 (d := 23) rfl (by kernel_rfl) rfl (by exact s.see) ?_
          refine VA_not 9 (d := 24) rfl (by kernel_rfl) rfl (by exact s.see) ?_
          refine VA_not 10 (d := 25) rfl (by kernel_rfl) rfl (by exact s.see) ?_
          refine VA_not 11 (d := 26) rfl (by kernel_rfl) rfl (by exact s.see) ?_
          refine VA_not 12 (d := 27) rfl (by kernel_rfl) rfl (by exact s.see) ?_
          refine VA_not 13 (d := 28) rfl (by kernel_rfl) rfl (by exact s.see) ?_
          refine VA_not 14 (d := 29) rfl (by kernel_rfl) rfl (by exact s.see) ?_
          refine VA_not 15 (d := 30) rfl (by kernel_rfl) rfl (by exact s.see) ?_
          refine VA_not 16 (d := 31) rfl (by kernel_rfl) rfl (by exact s.see) ?_
          refine VA_not 17 (d := 32) rfl (by kernel_rfl) rfl (by exact s.see) ?_
          refine VA_not 18 (d := 33) rfl (by kernel_rfl) rfl (by exact s.see) ?_
          refine VA_take 19 (d := 34) rfl (by kernel_rfl) rfl (fun w g => run_pickF rfl rfl rfl) (by exact s.see) ?_
          refine VA_take 20 (d := 35) rfl (by kernel_rfl) rfl (fun w g => run_pickF rfl rfl rfl) (by exact s.see) ?_
          refine VA_take 21 (d := 36) rfl (by kernel_rfl) rfl (fun w g => run_move rfl (by conv => lhs; whnf)) (by exact s.see) ?_
          refine VA_take 22 (d := 37) rfl (by kernel_rfl) rfl (fun w g => run_fieldAddr rfl fo37_0 rfl) (by exact s.see) ?_
          refine VA_take 23 (d := 38) rfl (by kernel_rfl) rfl (fun w g => see_own1 g rfl ty3 rfl (i := 0) rfl rfl) (by exact s.see) ?_
          refine VA_take 24 (d := 39) rfl (by kernel_rfl) rfl (fun w g => run_fieldAddr rfl fo30_0 rfl) (by exact s.see) ?_
          refine VA_take 25 (d := 40) rfl (by kernel_rfl) rfl (fun w g => see_own1 g rfl ty3 rfl (i := 1) rfl rfl) (by exact s.see) ?_
          refine VA_take 26 (d := 41) rfl (by kernel_rfl) rfl (fun w g => run_sub rfl rfl rfl (by omega)) (by exact s.see) ?_
          refine VA_one (i := 27) (by kernel_rfl) ?_
          refine VO_does (d := 42) rfl (does_call3 rfl (by kernel_rfl) rfl rfl rfl (within_ok _ _ _) ?_) rfl rfl
          rintro _ w ⟨rfl, hb⟩
          replace s := s.step hb
          clear hb
          refine ⟨fun _ => s.sees (by intro b c t h; exact h) (by intro f h; exact h), ?_⟩
          refine VA_take 28 (d := 43) rfl (by kernel_rfl) rfl (fun w g => run_not rfl rfl) (by exact s.see) ?_
          refine VA_take 29 (d := 44) rfl (by kernel_rfl) rfl (fun w g => run_pickF rfl rfl rfl) (by exact s.see) ?_
          refine VA_done (by kernel_rfl) ?_
          exact VS_endB s (by conv => lhs; whnf) (by clear s; simp only [show namesOkB n.list[k].2 1 = pathOk n.list[k].2 from rfl] at *; grind) (by repeat (first | exact Out.refl _ _ | refine Out.upd rfl ?_))
    clear s; intro w j44 s
    refine VS_cond rfl (fun c1 => ?_) (fun c1 => ?_) <;> (try simp only [decide_eq_true_eq, decide_eq_false_iff_not, Bool.not_eq_true', Bool.not_eq_false', ne_eq, Decidable.not_not, cond_true, cond_false, Bool.and_eq_true, Bool.or_eq_true, Bool.and_eq_false_iff, Bool.or_eq_false_iff, Bool.not_true, Bool.not_false, reduceCtorEq] at c1)
    · repeat (refine VS_seq ?_)
      refine VS_region_lit ?_
      refine VL_run (d := 2) (run_assign rfl (by conv => lhs; whnf)) rfl rfl ?_
      refine VL_nil ?_
      refine VS_ret ?_
      repeat (first | refine blockV_ret ?_ | refine backV_ret ?_)
      refine fin_one (fn := Try.f54) rfl (res_tmp (by conv => lhs; whnf)) ?_
      refine ⟨?_, s.below⟩
      clear s
      have hno : n.okFrom 0 = false := by
        rw [hf, Nd.okAt]
        rcases c1 with (h | h) | ⟨h, h'⟩
        · simp [h]
        · simp [h]
        · simp [h, h']
      rw [Nd.ok, hno, Bool.and_false]
    · repeat (first | refine VS_seq ?_ | refine VS_skip ?_)
      refine VS_region_lit ?_
      refine VL_run (d := 45) (run_fieldAddr rfl fo30_1 rfl) rfl rfl ?_
      refine VL_run (d := 46) (run_load_own1 s rfl ty28 rfl (i := 1) rfl rfl) rfl rfl ?_
      refine VL_run (d := 47) (run_move rfl (by conv => lhs; whnf)) rfl rfl ?_
      refine VL_run (d := 48) (run_sliceSlH (h := k) rfl Try.underlying28 ty37 rfl rfl (by omega) (by omega)) rfl rfl ?_
      refine VL_run (d := 49) (run_lenSlice rfl ⟨_, Try.underlying28⟩ rfl) rfl rfl ?_
      refine VL_run (d := 50) (run_move rfl (by conv => lhs; whnf)) rfl rfl ?_
      refine VL_nil ?_
      have s := s.partN (i := 4) rfl 0 k (by omega) (by omega) (n.list.take k) (by simp)
      generalize (if c = 0 then some ad2 else (some ad2).map (·.add (0 * 2))) = B at s ⊢
      repeat (refine VS_block ?_)
      refine VS_loop [2, 6, 50, 51, 52, 53, 54, 55, 56, 57, 58, 59] (fun i : Nat => [(50, .int .i64 i)]) (fun i w => St ok w0 [.blk b4 [.int .i64 n.list[k].1, .slice A5 n.list[k].2.length c5] 37, .blk b1 [.int .i64 n.next, .slice (some ad2) n.list.length c] 30] [.dat [.slice B (k - 0) (c - 0)] (.sl (nodeDs (n.list.take k))), .dat [.slice (some ad2) n.list.length c] (.sl (nodeDs n.list))] w ∧ i ≤ k ∧ (n.list.take i).all (fun y => decide (y.1 ≠ n.list[k].1)) = true) (fun i => k - i) 0 ⟨s.less (by (repeat (first | exact sub_nil | refine sub_cons (by (repeat (first | exact .head _ | refine .tail _ ?_))) ?_))), by omega, by simp⟩ (by repeat (first | exact Has.nil _ | refine Has.cons rfl ?_)) ?_
      clear s
      rintro i w j ⟨s, hi, hall⟩
      repeat (refine VS_seq ?_)
      refine VS_region_lit ?_
      refine VL_run (d := 51) (run_ltI rfl rfl rfl) rfl rfl ?_
      refine VL_nil ?_
      repeat (refine VS_seq ?_)
      refine VS_cond rfl (fun c2 => ?_) (fun c2 => ?_) <;> (try simp only [decide_eq_true_eq, decide_eq_false_iff_not, Bool.not_eq_true', Bool.not_eq_false', ne_eq, Decidable.not_not, cond_true, cond_false, Bool.and_eq_true, Bool.or_eq_true, Bool.and_eq_false_iff, Bool.or_eq_false_iff, Bool.not_true, Bool.not_false, reduceCtorEq] at c2)
      · repeat (first | refine VS_seq ?_ | refine VS_block ?_ | refine VS_skip ?_)
        have hi2 : i < k := by omega
        have hi' : i < n.list.length := by omega
        have hit : (n.list.take k)[i]'(by simp; omega) = n.list[i] := List.getElem_take
        obtain ⟨ad3, A7, c7, rfl, -, s⟩ := s.openN (i := 0) rfl i (by simp; omega)
        rw [hit] at s
        refine VS_region_lit ?_
        refine VL_run (d := 52) (run_indexAddrN (q := i) rfl Try.underlying28 ty37 rfl rfl (by omega) (by omega)) rfl rfl ?_
        refine VL_run (d := 53) (run_load_atA s rfl ty37 rfl (i := 0) rfl rfl) rfl rfl ?_
        refine VL_does (d := 6) (does_alloc s rfl ty37 rfl ?_) rfl rfl
        clear s; intro b6 w s
        (refine VL_doesU (does_store s rfl ty37 rfl rfl (i := 0) rfl rfl rfl (by (intro u hu; simp only [List.mem_cons, List.not_mem_nil, or_false] at hu; rcases hu with rfl | rfl | rfl | rfl | rfl <;> rfl)) rfl ?_) rfl rfl rfl)
        clear s; intro w s
        try simp only [List.set_cons_zero, List.set_cons_succ, patch, List.take_succ_cons, List.take_zero, List.drop_succ_cons, List.drop_zero, List.drop_nil, List.nil_append, List.cons_append, List.append_nil, List.length_cons, List.length_nil, Nat.reduceAdd, Nat.zero_add] at s
        refine VL_nil ?_
        repeat (refine VS_seq ?_)
        refine VS_region_lit ?_
        refine VL_run (d := 54) (run_fieldAddr rfl fo37_0 rfl) rfl rfl ?_
        refine VL_run (d := 55) (run_load_own1 s rfl ty3 rfl (i := 0) rfl rfl) rfl rfl ?_
        refine VL_run (d := 56) (run_fieldAddr rfl fo37_0 rfl) rfl rfl ?_
        refine VL_run (d := 57) (run_load_own1 s rfl ty3 rfl (i := 1) rfl rfl) rfl rfl ?_
        refine VL_run (d := 58) (run_eqI rfl rfl rfl) rfl rfl ?_
        refine VL_nil ?_
        refine VS_cond rfl (fun c3 => ?_) (fun c3 => ?_) <;> (try simp only [decide_eq_true_eq, decide_eq_false_iff_not, Bool.not_eq_true', Bool.not_eq_false', ne_eq, Decidable.not_not, cond_true, cond_false, Bool.and_eq_true, Bool.or_eq_true, Bool.and_eq_false_iff, Bool.or_eq_false_iff, Bool.not_true, Bool.not_false, reduceCtorEq] at c3)
        · repeat (refine VS_seq ?_)
          refine VS_region_lit ?_
          refine VL_run (d := 2) (run_assign rfl (by conv => lhs; whnf)) rfl rfl ?_
          refine VL_nil ?_
          refine VS_ret ?_
          repeat (first | refine blockV_ret ?_ | refine backV_ret ?_)
          refine fin_one (fn := Try.f54) rfl (res_tmp (by conv => lhs; whnf)) ?_
          refine ⟨?_, s.below⟩
          clear s
          have hno : (n.list.take k).all (fun y => decide (y.1 ≠ n.list[k].1)) = false := by
            rw [List.all_eq_false]
            exact ⟨n.list[i], List.mem_take_iff_getElem.2 ⟨i, by omega, rfl⟩, by simp [c3]⟩
          have hno : n.okFrom 0 = false := by
            rw [hf, Nd.okAt, hno]
            simp
          rw [Nd.ok, hno, Bool.and_false]
        · repeat (first | refine VS_skip ?_ | refine VS_nil_block ?_)
          refine VS_region_lit ?_
          refine VL_run (d := 59) (run_add rfl rfl rfl (by omega)) rfl rfl ?_
          refine VL_run (d := 50) (run_move rfl (by conv => lhs; whnf)) rfl rfl ?_
          refine VL_nil ?_
          refine VS_back (i + 1) ?_ (by repeat (first | exact Has.nil _ | refine Has.cons rfl ?_)) (by repeat (first | exact Out.mix _ _ _ | refine Out.upd rfl ?_)) ?_
          · exact ⟨(s.drop 0).less (by (repeat (first | exact sub_nil | refine sub_cons (by (repeat (first | exact .head _ | refine .tail _ ?_))) ?_))), by omega, by rw [List.take_succ_eq_append_getElem hi', List.all_append, hall]; simp [c3]⟩
          · omega
      · refine VS_exit ?_
        repeat (first | refine blockV_hit ?_ | refine backV_exit ?_)
        repeat (refine VS_nil_block ?_)
        refine VS_region_lit ?_
        refine VL_run (d := 60) (run_add rfl rfl rfl (by omega)) rfl rfl ?_
        refine VL_run (d := 10) (run_move rfl (by conv => lhs; whnf)) rfl rfl ?_
        refine VL_nil ?_
        refine VS_back (k + 1) ?_ (by repeat (first | exact Has.nil _ | refine Has.cons rfl ?_)) (by repeat (first | exact Out.mix _ _ _ | refine Out.upd rfl ?_ | refine Out.mix_in rfl ?_)) ?_
        · obtain rfl : i = k := by omega
          refine ⟨(s.drop 0).less (by (repeat (first | exact sub_nil | refine sub_cons (by (repeat (first | exact .head _ | refine .tail _ ?_))) ?_))), by omega, ?_⟩
          clear s
          have hd : (decide (i = 0) || pathLt (n.list[i - 1]'(by omega)).2 n.list[i].2) = true := by
            rcases c1.2 with h | h
            · simp [h]
            · simp only [h, Bool.or_true]
          rw [hf, Nd.okAt, hall, c1.1.1, c1.1.2, hd]
          rfl
        · omega
  · refine VS_exit ?_
    repeat (first | refine blockV_hit ?_ | refine backV_exit ?_)
    repeat (refine VS_seq ?_)
    refine VS_meetB s 2 (inI n.next 1 10000 && decide ((n.list.length : Int) ≤ 30)) [61, 62, 63, 64, 65, 66, 67, 68, 69, 2] ?_ ?_
    · refine VS_region_lit ?_
      refine VL_run (d := 61) (run_fieldAddr rfl fo30_0 rfl) rfl rfl ?_
      refine VL_run (d := 62) (run_load_own1 s rfl ty3 rfl (i := 0) rfl rfl) rfl rfl ?_
      refine VL_does (d := 63) (does_call3 rfl (by kernel_rfl) rfl rfl rfl (within_ok _ _ _) ?_) rfl rfl
      rintro _ w ⟨rfl, hb⟩
      replace s := s.step hb
      clear hb
      refine VL_run (d := 64) (run_move rfl (by conv => lhs; whnf)) rfl rfl ?_
      refine VL_split 64 (by conv => lhs; whnf) (fun h64 => ?_) (fun h64 => ?_) <;> (try simp only [decide_eq_true_eq, decide_eq_false_iff_not, Bool.not_eq_true', Bool.not_eq_false', ne_eq, Decidable.not_not, cond_true, cond_false, Bool.and_eq_true, Bool.or_eq_true, Bool.and_eq_false_iff, Bool.or_eq_false_iff, Bool.not_true, Bool.not_false, reduceCtorEq] at h64)
      · refine VL_run (d := 65) (run_fieldAddr rfl fo30_1 rfl) rfl rfl ?_
        refine VL_run (d := 66) (run_load_own1 s rfl ty28 rfl (i := 0) rfl rfl) rfl rfl ?_
        refine VL_run (d := 67) (run_lenSlice rfl ⟨_, Try.underlying28⟩ rfl) rfl rfl ?_
        refine VL_run (d := 68) (run_leI rfl rfl rfl) rfl rfl ?_
        refine VL_run (d := 69) (run_pickT rfl rfl rfl) rfl rfl ?_
        refine VL_run (d := 2) (run_assign rfl (by conv => lhs; whnf)) rfl rfl ?_
        refine VL_nil ?_
        exact VS_endB s (by conv => lhs; whnf) (by (simp_all; done)) (by repeat (first | exact Out.refl _ _ | refine Out.upd rfl ?_))
      · refine VL_not (d := 65) rfl rfl rfl rfl ?_
        refine VL_not (d := 66) rfl rfl rfl rfl ?_
        refine VL_not (d := 67) rfl rfl rfl rfl ?_
        refine VL_not (d := 68) rfl rfl rfl rfl ?_
        refine VL_run (d := 69) (run_pickF rfl rfl rfl) rfl rfl ?_
        refine VL_run (d := 2) (run_assign rfl (by conv => lhs; whnf)) rfl rfl ?_
        refine VL_nil ?_
        exact VS_endB s (by conv => lhs; whnf) (by (simp_all; done)) (by repeat (first | exact Out.refl _ _ | refine Out.upd rfl ?_))
    clear s; intro w j2 s
    refine VS_ret ?_
    repeat (first | refine blockV_ret ?_ | refine backV_ret ?_ | refine backV2_ret ?_ | refine backV3_ret ?_ | refine thenV_ret ?_ | refine metV2_ret ?_)
    refine fin_one (fn := Try.f54) rfl (res_tmp (by conv => lhs; whnf)) ?_
    refine ⟨?_, s.below⟩
    clear s
    rw [Nd.okFrom.eq_def n k, dif_neg (by omega)] at hf
    rw [Nd.ok, hf, Bool.and_true, show decide (n.list.length ≤ 30) = decide ((n.list.length : Int) ≤ 30) from decide_eq_decide.2 (by omega)]
theorem implNodesId_ok (n : Nd) (q : List ByteArray) {ok : Nat → Prop} {w0 : World} {cs : List Value} {v2 : Value} (h : Rd ok w0 n.toD cs) (h2 : Rd ok w0 (.sl (strsD q)) [v2]) (hn : NdB n 1000000000) (hq : q.length ≤ 1000000000000) :
    Calls Try.prog 20 #[.agg cs.toArray, v2] w0 (Ret fun v w' => v = .int .i64 (bif n.ok then idOf n.list q else 0) ∧ Below w0.heap.size w0 w') := by
  obtain ⟨A, c, rfl, hl, h3⟩ := Nd.opn h
  have hlen := hn.2.2.1
  have s := (((St.start ok w0).begin h2).begin h3).begin h
  clear h h3
  refine calls_enter (n := 23) Try.func20 rfl rfl rfl ?_
  repeat (refine VS_seq ?_)
  refine VS_region_lit ?_
  refine VL_does (d := 2) (does_box s rfl rfl rfl ?_) rfl rfl
  clear s; intro b2 w s
  refine VL_run (d := 4) (run_assign rfl (by conv => lhs; whnf)) rfl rfl ?_
  refine VL_nil ?_
  repeat (refine VS_seq ?_)
  refine VS_region_lit ?_
  refine VL_run (d := 7) (run_load_ownA (cs := [_, _]) s rfl ty30 rfl (i := 0) rfl rfl rfl) rfl rfl ?_
  refine VL_does (d := 8) (does_call1 rfl (by kernel_rfl) rfl (nodesWell_ok n (s.dat (i := 0) rfl) hn) ?_) rfl rfl
  rintro _ w ⟨rfl, hb⟩
  replace s := s.step hb
  clear hb
  refine VL_nil ?_
  refine VS_cond rfl (fun c0 => ?_) (fun c0 => ?_) <;> (try simp only [decide_eq_true_eq, decide_eq_false_iff_not, Bool.not_eq_true', Bool.not_eq_false', ne_eq, Decidable.not_not, cond_true, cond_false, Bool.and_eq_true, Bool.or_eq_true, Bool.and_eq_false_iff, Bool.or_eq_false_iff, Bool.not_true, Bool.not_false, reduceCtorEq] at c0)
  · repeat (refine VS_seq ?_)
    refine VS_region_lit ?_
    refine VL_run (d := 9) (run_fieldAddr rfl fo30_1 rfl) rfl rfl ?_
    refine VL_run (d := 10) (run_load_own1 s rfl ty28 rfl (i := 0) rfl rfl) rfl rfl ?_
    refine VL_run (d := 11) (run_lenSlice rfl ⟨_, Try.underlying28⟩ rfl) rfl rfl ?_
    refine VL_run (d := 12) (run_move rfl (by conv => lhs; whnf)) rfl rfl ?_
    refine VL_nil ?_
    repeat (refine VS_block ?_)
    refine VS_loop [4, 6, 12, 13, 14, 15, 16, 17, 18, 19, 20, 21, 22] (fun k : Nat => [(12, .int .i64 k)]) (fun k w => St ok w0 [.blk b2 [.int .i64 n.next, .slice A n.list.length c] 30] [.dat [.slice A n.list.length c] (.sl (nodeDs n.list)), .dat [v2] (.sl (strsD q))] w ∧ k ≤ n.list.length ∧ idOf (n.list.drop k) q = idOf n.list q) (fun k => n.list.length - k) 0 ⟨s.less (by (repeat (first | exact sub_nil | refine sub_cons (by (repeat (first | exact .head _ | refine .tail _ ?_))) ?_))), by omega, rfl⟩ (by repeat (first | exact Has.nil _ | refine Has.cons rfl ?_)) ?_
    clear s
    rintro k w j ⟨s, hk, hf⟩
    repeat (refine VS_seq ?_)
    refine VS_region_lit ?_
    refine VL_run (d := 13) (run_ltI rfl rfl rfl) rfl rfl ?_
    refine VL_nil ?_
    repeat (refine VS_seq ?_)
    refine VS_cond rfl (fun c1 => ?_) (fun c1 => ?_) <;> (try simp only [decide_eq_true_eq, decide_eq_false_iff_not, Bool.not_eq_true', Bool.not_eq_false', ne_eq, Decidable.not_not, cond_true, cond_false, Bool.and_eq_true, Bool.or_eq_true, Bool.and_eq_false_iff, Bool.or_eq_false_iff, Bool.not_true, Bool.not_false, reduceCtorEq] at c1)
    · repeat (first | refine VS_seq ?_ | refine VS_block ?_ | refine VS_skip ?_)
      have hk' : k < n.list.length := by omega
      have hp := hn.plen hk'
      rw [List.drop_eq_getElem_cons hk', idOf] at hf
      obtain ⟨ad, A5, c5, rfl, -, s⟩ := s.openN (i := 0) rfl k hk'
      refine VS_region_lit ?_
      refine VL_run (d := 14) (run_indexAddr rfl Try.underlying28 ty37 rfl rfl (by omega) (by omega)) rfl rfl ?_
      refine VL_run (d := 15) (run_load_atA s rfl ty37 rfl (i := 0) rfl rfl) rfl rfl ?_
      refine VL_does (d := 6) (does_alloc s rfl ty37 rfl ?_) rfl rfl
      clear s; intro b6 w s
      (refine VL_doesU (does_store s rfl ty37 rfl rfl (i := 0) rfl rfl rfl (by (intro u hu; simp only [List.mem_cons, List.not_mem_nil, or_false] at hu; rcases hu with rfl | rfl | rfl | rfl | rfl <;> rfl)) rfl ?_) rfl rfl rfl)
      clear s; intro w s
      try simp only [List.set_cons_zero, List.set_cons_succ, patch, List.take_succ_cons, List.take_zero, List.drop_succ_cons, List.drop_zero, List.drop_nil, List.nil_append, List.cons_append, List.append_nil, List.length_cons, List.length_nil, Nat.reduceAdd, Nat.zero_add] at s
      refine VL_nil ?_
      repeat (refine VS_seq ?_)
      refine VS_region_lit ?_
      refine VL_run (d := 16) (run_fieldAddr rfl fo37_1 rfl) rfl rfl ?_
      refine VL_run (d := 17) (run_load_own1 s rfl ty23 rfl (i := 0) rfl rfl) rfl rfl ?_
      refine VL_run (d := 18) (run_move rfl (by conv => lhs; whnf)) rfl rfl ?_
      refine VL_does (d := 19) (does_call2 rfl (by kernel_rfl) rfl rfl (slicesEqual_ok _ q (s.dat (i := 1) rfl) (s.dat (i := 3) rfl) (by omega) hq) ?_) rfl rfl
      rintro _ w ⟨rfl, hb⟩
      replace s := s.step hb
      clear hb
      refine VL_nil ?_
      refine VS_cond rfl (fun c2 => ?_) (fun c2 => ?_) <;> (try simp only [decide_eq_true_eq, decide_eq_false_iff_not, Bool.not_eq_true', Bool.not_eq_false', ne_eq, Decidable.not_not, cond_true, cond_false, Bool.and_eq_true, Bool.or_eq_true, Bool.and_eq_false_iff, Bool.or_eq_false_iff, Bool.not_true, Bool.not_false, reduceCtorEq] at c2)
      · repeat (refine VS_seq ?_)
        refine VS_region_lit ?_
        refine VL_run (d := 20) (run_fieldAddr rfl fo37_0 rfl) rfl rfl ?_
        refine VL_run (d := 21) (run_load_own1 s rfl ty3 rfl (i := 0) rfl rfl) rfl rfl ?_
        refine VL_run (d := 4) (run_assign rfl (by conv => lhs; whnf)) rfl rfl ?_
        refine VL_nil ?_
        refine VS_ret ?_
        repeat (first | refine blockV_ret ?_ | refine backV_ret ?_)
        refine fin_one (fn := Try.f20) rfl (res_tmp (by conv => lhs; whnf)) ?_
        rw [if_pos c2] at hf
        exact ⟨by rw [c0, ← hf]; rfl, s.below⟩
      · repeat (first | refine VS_skip ?_ | refine VS_nil_block ?_)
        refine VS_region_lit ?_
        refine VL_run (d := 22) (run_add rfl rfl rfl (by omega)) rfl rfl ?_
        refine VL_run (d := 12) (run_move rfl (by conv => lhs; whnf)) rfl rfl ?_
        refine VL_nil ?_
        refine VS_back (k + 1) ?_ (by repeat (first | exact Has.nil _ | refine Has.cons rfl ?_)) (by repeat (first | exact Out.mix _ _ _ | refine Out.upd rfl ?_)) ?_
        · rw [if_neg c2] at hf
          exact ⟨(s.drop 0).less (by (repeat (first | exact sub_nil | refine sub_cons (by (repeat (first | exact .head _ | refine .tail _ ?_))) ?_))), by omega, hf⟩
        · omega
    · refine VS_exit ?_
      repeat (first | refine blockV_hit ?_ | refine backV_exit ?_)
      repeat (refine VS_seq ?_)
      refine VS_region_lit ?_
      refine VL_run (d := 4) (run_assign rfl (by conv => lhs; whnf)) rfl rfl ?_
      refine VL_nil ?_
      refine VS_ret ?_
      repeat (first | refine blockV_ret ?_ | refine backV_ret ?_ | refine backV2_ret ?_ | refine backV3_ret ?_ | refine thenV_ret ?_ | refine metV2_ret ?_)
      refine fin_one (fn := Try.f20) rfl (res_tmp (by conv => lhs; whnf)) ?_
      refine ⟨?_, s.below⟩
      clear s
      first
        | (rw [c0]; rfl)
        | (rw [List.drop_of_length_le (by omega)] at hf
           rw [c0, ← hf]
           rfl)
  · repeat (first | refine VS_seq ?_ | refine VS_skip ?_)
    refine VS_region_lit ?_
    refine VL_run (d := 4) (run_assign rfl (by conv => lhs; whnf)) rfl rfl ?_
    refine VL_nil ?_
    refine VS_ret ?_
    repeat (first | refine blockV_ret ?_ | refine backV_ret ?_ | refine backV2_ret ?_ | refine backV3_ret ?_ | refine thenV_ret ?_ | refine metV2_ret ?_)
    refine fin_one (fn := Try.f20) rfl (res_tmp (by conv => lhs; whnf)) ?_
    refine ⟨?_, s.below⟩
    clear s
    first
      | (rw [c0]; rfl)
      | (rw [List.drop_of_length_le (by omega)] at hf
         rw [c0, ← hf]
         rfl)
theorem implNodesPath_ok (n : Nd) (id : Int) {ok : Nat → Prop} {w0 : World} {cs : List Value} (h : Rd ok w0 n.toD cs) (hn : NdB n 1000000000) :
    Calls Try.prog 17 #[.agg cs.toArray, .int .i64 id] w0 (Ret fun v w' => ∃ u, v = .tuple #[u, .bool (pathOf n id).isSome] ∧ Rd (okR ok w0) w' (.sl (strsD ((pathOf n id).getD []))) [u] ∧ Below w0.heap.size w0 w') := by
  obtain ⟨A, c, rfl, hl, h3⟩ := Nd.opn h
  have hlen := hn.2.2.1
  have s := ((St.start ok w0).begin h3).begin h
  clear h h3
  refine calls_enter (n := 27) Try.func17 rfl rfl rfl ?_
  repeat (refine VS_seq ?_)
  refine VS_region_lit ?_
  refine VL_does (d := 2) (does_box s rfl rfl rfl ?_) rfl rfl
  clear s; intro b2 w s
  refine VL_run (d := 4) (run_assign rfl (by conv => lhs; whnf)) rfl rfl ?_
  refine VL_run (d := 5) (run_assign rfl (by conv => lhs; whnf)) rfl rfl ?_
  refine VL_nil ?_
  repeat (refine VS_seq ?_)
  refine VS_region_lit ?_
  refine VL_run (d := 8) (run_load_ownA (cs := [_, _]) s rfl ty30 rfl (i := 0) rfl rfl rfl) rfl rfl ?_
  refine VL_does (d := 9) (does_call1 rfl (by kernel_rfl) rfl (nodesWell_ok n (s.dat (i := 0) rfl) hn) ?_) rfl rfl
  rintro _ w ⟨rfl, hb⟩
  replace s := s.step hb
  clear hb
  refine VL_nil ?_
  refine VS_cond rfl (fun c0 => ?_) (fun c0 => ?_) <;> (try simp only [decide_eq_true_eq, decide_eq_false_iff_not, Bool.not_eq_true', Bool.not_eq_false', ne_eq, Decidable.not_not, cond_true, cond_false, Bool.and_eq_true, Bool.or_eq_true, Bool.and_eq_false_iff, Bool.or_eq_false_iff, Bool.not_true, Bool.not_false, reduceCtorEq] at c0)
  · repeat (refine VS_seq ?_)
    refine VS_region_lit ?_
    refine VL_run (d := 10) (run_fieldAddr rfl fo30_1 rfl) rfl rfl ?_
    refine VL_run (d := 11) (run_load_own1 s rfl ty28 rfl (i := 0) rfl rfl) rfl rfl ?_
    refine VL_run (d := 12) (run_lenSlice rfl ⟨_, Try.underlying28⟩ rfl) rfl rfl ?_
    refine VL_run (d := 13) (run_move rfl (by conv => lhs; whnf)) rfl rfl ?_
    refine VL_nil ?_
    repeat (refine VS_block ?_)
    refine VS_loop [4, 5, 7, 13, 14, 15, 16, 17, 18, 19, 20, 21, 22, 23, 24, 25] (fun k : Nat => [(13, .int .i64 k)]) (fun k w => St ok w0 [.blk b2 [.int .i64 n.next, .slice A n.list.length c] 30] [.dat [.slice A n.list.length c] (.sl (nodeDs n.list))] w ∧ k ≤ n.list.length ∧ pathAt n id 0 = pathAt n id k) (fun k => n.list.length - k) 0 ⟨s.less (by (repeat (first | exact sub_nil | refine sub_cons (by (repeat (first | exact .head _ | refine .tail _ ?_))) ?_))), by omega, rfl⟩ (by repeat (first | exact Has.nil _ | refine Has.cons rfl ?_)) ?_
    clear s
    rintro k w j ⟨s, hk, hf⟩
    repeat (refine VS_seq ?_)
    refine VS_region_lit ?_
    refine VL_run (d := 14) (run_ltI rfl rfl rfl) rfl rfl ?_
    refine VL_nil ?_
    repeat (refine VS_seq ?_)
    refine VS_cond rfl (fun c1 => ?_) (fun c1 => ?_) <;> (try simp only [decide_eq_true_eq, decide_eq_false_iff_not, Bool.not_eq_true', Bool.not_eq_false', ne_eq, Decidable.not_not, cond_true, cond_false, Bool.and_eq_true, Bool.or_eq_true, Bool.and_eq_false_iff, Bool.or_eq_false_iff, Bool.not_true, Bool.not_false, reduceCtorEq] at c1)
    · repeat (first | refine VS_seq ?_ | refine VS_block ?_ | refine VS_skip ?_)
      have hk' : k < n.list.length := by omega
      have hp := hn.plen hk'
      rw [pathAt.eq_def n id k, dif_pos hk'] at hf
      obtain ⟨ad, A5, c5, rfl, -, s⟩ := s.openN (i := 0) rfl k hk'
      refine VS_region_lit ?_
      refine VL_run (d := 15) (run_indexAddr rfl Try.underlying28 ty37 rfl rfl (by omega) (by omega)) rfl rfl ?_
      refine VL_run (d := 16) (run_load_atA s rfl ty37 rfl (i := 0) rfl rfl) rfl rfl ?_
      refine VL_does (d := 7) (does_alloc s rfl ty37 rfl ?_) rfl rfl
      clear s; intro b7 w s
      (refine VL_doesU (does_store s rfl ty37 rfl rfl (i := 0) rfl rfl rfl (by (intro u hu; simp only [List.mem_cons, List.not_mem_nil, or_false] at hu; rcases hu with rfl | rfl | rfl | rfl | rfl <;> rfl)) rfl ?_) rfl rfl rfl)
      clear s; intro w s
      try simp only [List.set_cons_zero, List.set_cons_succ, patch, List.take_succ_cons, List.take_zero, List.drop_succ_cons, List.drop_zero, List.drop_nil, List.nil_append, List.cons_append, List.append_nil, List.length_cons, List.length_nil, Nat.reduceAdd, Nat.zero_add] at s
      refine VL_nil ?_
      repeat (refine VS_seq ?_)
      refine VS_region_lit ?_
      refine VL_run (d := 17) (run_fieldAddr rfl fo37_0 rfl) rfl rfl ?_
      refine VL_run (d := 18) (run_load_own1 s rfl ty3 rfl (i := 0) rfl rfl) rfl rfl ?_
      refine VL_run (d := 19) (run_move rfl (by conv => lhs; whnf)) rfl rfl ?_
      refine VL_run (d := 20) (run_eqI rfl rfl rfl) rfl rfl ?_
      refine VL_nil ?_
      refine VS_cond rfl (fun c2 => ?_) (fun c2 => ?_) <;> (try simp only [decide_eq_true_eq, decide_eq_false_iff_not, Bool.not_eq_true', Bool.not_eq_false', ne_eq, Decidable.not_not, cond_true, cond_false, Bool.and_eq_true, Bool.or_eq_true, Bool.and_eq_false_iff, Bool.or_eq_false_iff, Bool.not_true, Bool.not_false, reduceCtorEq] at c2)
      · repeat (refine VS_seq ?_)
        refine VS_region_lit ?_
        refine VL_does (d := 21) (does_slice0 s rfl Try.underlying23 ty9 ?_) rfl rfl
        clear s; intro g21 w s
        refine VL_run (d := 22) (run_fieldAddr rfl fo37_1 rfl) rfl rfl ?_
        refine VL_run (d := 23) (run_load_own1 s rfl ty23 rfl (i := 1) rfl rfl) rfl rfl ?_
        (refine VL_does (d := 24) (does_appendD s rfl Try.underlying23 ty9 (by decide) (by decide) (i := 0) rfl rfl rfl (s.dat (i := 1) rfl) (strsD_wd _) (by simp <;> omega) (by (simp only [List.nil_append]; exact rfl)) (show _ = n.list[k].2.length by simp) ?_) rfl rfl)
        clear s; intro A24 c24 w s
        try simp only [List.set_cons_zero, List.set_cons_succ, patch, List.take_succ_cons, List.take_zero, List.drop_succ_cons, List.drop_zero, List.drop_nil, List.nil_append, List.cons_append, List.append_nil, List.length_cons, List.length_nil, Nat.reduceAdd, Nat.zero_add] at s
        refine VL_run (d := 4) (run_assign rfl (by conv => lhs; whnf)) rfl rfl ?_
        refine VL_run (d := 5) (run_assign rfl (by conv => lhs; whnf)) rfl rfl ?_
        refine VL_nil ?_
        refine VS_ret ?_
        repeat (first | refine blockV_ret ?_ | refine backV_ret ?_)
        refine fin_two (fn := Try.f17) rfl (res_tmp (by conv => lhs; whnf)) (res_tmp (by conv => lhs; whnf)) ?_
        rw [if_pos c2] at hf
        have s := s.freeze (k := 0) rfl
        rw [show pathOf n id = some n.list[k].2 by rw [pathOf, c0, hf]; rfl]
        exact ⟨_, rfl, s.tell (s.dat (i := 0) rfl), s.below⟩
      · repeat (first | refine VS_skip ?_ | refine VS_nil_block ?_)
        refine VS_region_lit ?_
        refine VL_run (d := 25) (run_add rfl rfl rfl (by omega)) rfl rfl ?_
        refine VL_run (d := 13) (run_move rfl (by conv => lhs; whnf)) rfl rfl ?_
        refine VL_nil ?_
        refine VS_back (k + 1) ?_ (by repeat (first | exact Has.nil _ | refine Has.cons rfl ?_)) (by repeat (first | exact Out.mix _ _ _ | refine Out.upd rfl ?_)) ?_
        · rw [if_neg c2] at hf
          exact ⟨(s.drop 0).less (by (repeat (first | exact sub_nil | refine sub_cons (by (repeat (first | exact .head _ | refine .tail _ ?_))) ?_))), by omega, hf⟩
        · omega
    · refine VS_exit ?_
      repeat (first | refine blockV_hit ?_ | refine backV_exit ?_)
      repeat (refine VS_seq ?_)
      refine VS_region_lit ?_
      refine VL_does (d := 26) (does_slice0 s rfl Try.underlying23 ty9 ?_) rfl rfl
      clear s; intro g26 w s
      refine VL_run (d := 4) (run_assign rfl (by conv => lhs; whnf)) rfl rfl ?_
      refine VL_run (d := 5) (run_assign rfl (by conv => lhs; whnf)) rfl rfl ?_
      refine VL_nil ?_
      refine VS_ret ?_
      repeat (first | refine blockV_ret ?_ | refine backV_ret ?_ | refine backV2_ret ?_ | refine backV3_ret ?_ | refine thenV_ret ?_ | refine metV2_ret ?_)
      refine fin_two (fn := Try.f17) rfl (res_tmp (by conv => lhs; whnf)) (res_tmp (by conv => lhs; whnf)) ?_
      have s := s.freeze (k := 0) rfl
      have hno : pathOf n id = none := by
        clear s
        first
          | (rw [pathOf, c0]; rfl)
          | (rw [pathAt.eq_def n id k, dif_neg (by omega)] at hf
             rw [pathOf, c0, hf]
             rfl)
      rw [hno]
      exact ⟨_, rfl, s.tell (s.dat (i := 0) rfl), s.below⟩
  · repeat (first | refine VS_seq ?_ | refine VS_skip ?_)
    refine VS_region_lit ?_
    refine VL_does (d := 26) (does_slice0 s rfl Try.underlying23 ty9 ?_) rfl rfl
    clear s; intro g26 w s
    refine VL_run (d := 4) (run_assign rfl (by conv => lhs; whnf)) rfl rfl ?_
    refine VL_run (d := 5) (run_assign rfl (by conv => lhs; whnf)) rfl rfl ?_
    refine VL_nil ?_
    refine VS_ret ?_
    repeat (first | refine blockV_ret ?_ | refine backV_ret ?_ | refine backV2_ret ?_ | refine backV3_ret ?_ | refine thenV_ret ?_ | refine metV2_ret ?_)
    refine fin_two (fn := Try.f17) rfl (res_tmp (by conv => lhs; whnf)) (res_tmp (by conv => lhs; whnf)) ?_
    have s := s.freeze (k := 0) rfl
    have hno : pathOf n id = none := by
      clear s
      first
        | (rw [pathOf, c0]; rfl)
        | (rw [pathAt.eq_def n id k, dif_neg (by omega)] at hf
           rw [pathOf, c0, hf]
           rfl)
    rw [hno]
    exact ⟨_, rfl, s.tell (s.dat (i := 0) rfl), s.below⟩
end Go.Proofs.Ytkefaelmamgjiaa
