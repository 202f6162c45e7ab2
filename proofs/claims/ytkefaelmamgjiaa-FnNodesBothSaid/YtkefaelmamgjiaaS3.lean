/- spec: l11Less, l2PathOk, l3Path, l33Paths, l1At, l2Parent, l2Fits. -/
import Derived.Test.YtkefaelmamgjiaaS2
import Derived.Test.YtkefaelmamgjiaaT1
set_option linter.unusedVariables false
set_option linter.unusedSimpArgs false
set_option maxHeartbeats 1000000
namespace Go.Proofs.Ytkefaelmamgjiaa
open Go.RowKit

/-- Paths in order. -/
def pathLt : List ByteArray → List ByteArray → Bool
  | [], [] => false
  | [], _ :: _ => true
  | _ :: _, [] => false
  | x :: a, y :: b => if x = y then pathLt a b else bl x y
theorem l11Less_ok (p q : List ByteArray) {ok : Nat → Prop} {w0 : World} {v1 v2 : Value} (h1 : Rd ok w0 (.sl (strsD p)) [v1]) (h2 : Rd ok w0 (.sl (strsD q)) [v2]) (hp : p.length ≤ 1000000000000) (hq : q.length ≤ 1000000000000) :
    Calls Try.prog 103 #[v1, v2] w0 (Ret fun v w' => v = .bool (pathLt p q) ∧ Below w0.heap.size w0 w') := by
  obtain ⟨A, c, e1, hl1⟩ := Rd_strs h1
  obtain ⟨B, d, e2, hl2⟩ := Rd_strs h2
  obtain rfl := List.singleton_inj.1 e1
  obtain rfl := List.singleton_inj.1 e2
  have s := ((St.start ok w0).begin h2).begin h1
  refine calls_enter (n := 41) Try.func103 rfl rfl rfl ?_
  repeat (refine VS_seq ?_)
  refine VS_region_lit ?_
  refine VL_run (d := 4) (run_assign rfl (by conv => lhs; whnf)) rfl rfl ?_
  refine VL_nil ?_
  repeat (refine VS_seq ?_)
  refine VS_region_lit ?_
  refine VL_run (d := 5) (run_assign rfl (by conv => lhs; whnf)) rfl rfl ?_
  refine VL_nil ?_
  repeat (refine VS_block ?_)
  refine VS_loop [4, 5, 6, 7, 8, 9, 10, 11, 12, 13, 14, 15, 16, 17, 18, 19, 20, 21, 22, 23, 24, 25, 26, 27, 28, 29, 30, 31, 32, 33, 34, 35] (fun k : Nat => [(5, .int .i64 k)]) (fun k w => St ok w0 [] [.dat [.slice A p.length c] (.sl (strsD p)), .dat [.slice B q.length d] (.sl (strsD q))] w ∧ k ≤ p.length ∧ k ≤ q.length ∧ pathLt p q = pathLt (p.drop k) (q.drop k)) (fun k => p.length - k) 0 ⟨s, by omega, by omega, rfl⟩ (by repeat (first | exact Has.nil _ | refine Has.cons rfl ?_)) ?_
  clear s
  rintro k w j ⟨s, hk, hk2, hf⟩
  repeat (refine VS_seq ?_)
  refine VS_meetB s 15 (decide (k < p.length) && decide (k < q.length)) [6, 7, 8, 9, 10, 11, 12, 13, 14, 15] ?_ ?_
  · refine VS_region_lit ?_
    refine VL_run (d := 6) (run_move rfl (by conv => lhs; whnf)) rfl rfl ?_
    refine VL_run (d := 7) (run_move rfl (by conv => lhs; whnf)) rfl rfl ?_
    refine VL_run (d := 8) (run_lenSlice rfl ⟨_, Try.underlying23⟩ rfl) rfl rfl ?_
    refine VL_run (d := 9) (run_ltI rfl rfl rfl) rfl rfl ?_
    refine VL_run (d := 10) (run_move rfl (by conv => lhs; whnf)) rfl rfl ?_
    refine VL_split 10 (by conv => lhs; whnf) (fun h10 => ?_) (fun h10 => ?_) <;> (try simp only [decide_eq_true_eq, decide_eq_false_iff_not, Bool.not_eq_true', Bool.not_eq_false', ne_eq, Decidable.not_not, cond_true, cond_false, Bool.and_eq_true, Bool.or_eq_true, Bool.and_eq_false_iff, Bool.or_eq_false_iff, Bool.not_true, Bool.not_false, reduceCtorEq] at h10)
    · refine VL_run (d := 11) (run_move rfl (by conv => lhs; whnf)) rfl rfl ?_
      refine VL_run (d := 12) (run_move rfl (by conv => lhs; whnf)) rfl rfl ?_
      refine VL_run (d := 13) (run_lenSlice rfl ⟨_, Try.underlying23⟩ rfl) rfl rfl ?_
      refine VL_run (d := 14) (run_ltI rfl rfl rfl) rfl rfl ?_
      refine VL_run (d := 15) (run_pickT rfl rfl rfl) rfl rfl ?_
      refine VL_nil ?_
      exact VS_endB s (by conv => lhs; whnf) (by (simp_all; done)) (by repeat (first | exact Out.refl _ _ | refine Out.upd rfl ?_))
    · refine VL_not (d := 11) rfl rfl rfl rfl ?_
      refine VL_not (d := 12) rfl rfl rfl rfl ?_
      refine VL_not (d := 13) rfl rfl rfl rfl ?_
      refine VL_not (d := 14) rfl rfl rfl rfl ?_
      refine VL_run (d := 15) (run_pickF rfl rfl rfl) rfl rfl ?_
      refine VL_nil ?_
      exact VS_endB s (by conv => lhs; whnf) (by (simp_all; omega)) (by repeat (first | exact Out.refl _ _ | refine Out.upd rfl ?_))
  clear s; intro w j15 s
  refine VS_cond rfl (fun c0 => ?_) (fun c0 => ?_) <;> (try simp only [decide_eq_true_eq, decide_eq_false_iff_not, Bool.not_eq_true', Bool.not_eq_false', ne_eq, Decidable.not_not, cond_true, cond_false, Bool.and_eq_true, Bool.or_eq_true, Bool.and_eq_false_iff, Bool.or_eq_false_iff, Bool.not_true, Bool.not_false, reduceCtorEq] at c0)
  · repeat (first | refine VS_seq ?_ | refine VS_block ?_ | refine VS_skip ?_)
    have hk' : k < p.length := c0.1
    have hk3 : k < q.length := c0.2
    have hd := List.drop_eq_getElem_cons hk'
    have hd2 := List.drop_eq_getElem_cons hk3
    obtain ⟨ad, rfl, s⟩ := s.openS (i := 0) rfl k hk'
    obtain ⟨ad2, rfl, s⟩ := s.openS (i := 2) rfl k hk3
    refine VS_drawS 9 s mixed ?_
    clear s; intro s
    refine VA_take 0 (d := 18) rfl (by kernel_rfl) rfl (fun w g => run_move rfl (by conv => lhs; whnf)) s.see ?_
    refine VA_take 1 (d := 19) rfl (by kernel_rfl) rfl (fun w g => run_move rfl (by conv => lhs; whnf)) s.see ?_
    refine VA_take 2 (d := 20) rfl (by kernel_rfl) rfl (fun w g => run_indexAddr rfl Try.underlying23 ty9 rfl rfl (by omega) (by omega)) s.see ?_
    refine VA_take 3 (d := 21) rfl (by kernel_rfl) rfl (fun w g => see_at0 g rfl ty9 rfl (i := 1) rfl rfl) s.see ?_
    refine VA_take 4 (d := 22) rfl (by kernel_rfl) rfl (fun w g => run_move rfl (by conv => lhs; whnf)) s.see ?_
    refine VA_take 5 (d := 23) rfl (by kernel_rfl) rfl (fun w g => run_move rfl (by conv => lhs; whnf)) s.see ?_
    refine VA_take 6 (d := 24) rfl (by kernel_rfl) rfl (fun w g => run_indexAddr rfl Try.underlying23 ty9 rfl rfl (by omega) (by omega)) s.see ?_
    refine VA_take 7 (d := 25) rfl (by kernel_rfl) rfl (fun w g => see_at0 g rfl ty9 rfl (i := 0) rfl rfl) s.see ?_
    refine VA_take 8 (d := 26) rfl (by kernel_rfl) rfl (fun w g => run_neS rfl rfl rfl) s.see ?_
    refine VA_done (by kernel_rfl) ?_
    refine VS_cond rfl (fun c1 => ?_) (fun c1 => ?_) <;> (try simp only [decide_eq_true_eq, decide_eq_false_iff_not, Bool.not_eq_true', Bool.not_eq_false', ne_eq, Decidable.not_not, cond_true, cond_false, Bool.and_eq_true, Bool.or_eq_true, Bool.and_eq_false_iff, Bool.or_eq_false_iff, Bool.not_true, Bool.not_false, reduceCtorEq] at c1)
    · repeat (refine VS_seq ?_)
      refine VS_drawS 10 s mixed ?_
      clear s; intro s
      refine VA_take 0 (d := 27) rfl (by kernel_rfl) rfl (fun w g => run_move rfl (by conv => lhs; whnf)) s.see ?_
      refine VA_take 1 (d := 28) rfl (by kernel_rfl) rfl (fun w g => run_move rfl (by conv => lhs; whnf)) s.see ?_
      refine VA_take 2 (d := 29) rfl (by kernel_rfl) rfl (fun w g => run_indexAddr rfl Try.underlying23 ty9 rfl rfl (by omega) (by omega)) s.see ?_
      refine VA_take 3 (d := 30) rfl (by kernel_rfl) rfl (fun w g => see_at0 g rfl ty9 rfl (i := 1) rfl rfl) s.see ?_
      refine VA_take 4 (d := 31) rfl (by kernel_rfl) rfl (fun w g => run_move rfl (by conv => lhs; whnf)) s.see ?_
      refine VA_take 5 (d := 32) rfl (by kernel_rfl) rfl (fun w g => run_move rfl (by conv => lhs; whnf)) s.see ?_
      refine VA_take 6 (d := 33) rfl (by kernel_rfl) rfl (fun w g => run_indexAddr rfl Try.underlying23 ty9 rfl rfl (by omega) (by omega)) s.see ?_
      refine VA_take 7 (d := 34) rfl (by kernel_rfl) rfl (fun w g => see_at0 g rfl ty9 rfl (i := 0) rfl rfl) s.see ?_
      refine VA_take 8 (d := 35) rfl (by kernel_rfl) rfl (fun w g => run_ltS rfl rfl rfl) s.see ?_
      refine VA_take 9 (d := 4) rfl (by kernel_rfl) rfl (fun w g => run_assign rfl (by conv => lhs; whnf)) s.see ?_
      refine VA_done (by kernel_rfl) ?_
      refine VS_ret ?_
      repeat (first | refine blockV_ret ?_ | refine backV_ret ?_)
      refine fin_one (fn := Try.f103) rfl (res_tmp (by conv => lhs; whnf)) ?_
      refine ⟨?_, s.below⟩
      rw [hf, hd, hd2, pathLt, if_neg c1]
    · repeat (first | refine VS_skip ?_ | refine VS_nil_block ?_)
      refine VS_region_lit ?_
      refine VL_run (d := 16) (run_move rfl (by conv => lhs; whnf)) rfl rfl ?_
      refine VL_run (d := 17) (run_add rfl rfl rfl (by omega)) rfl rfl ?_
      refine VL_run (d := 5) (run_assign rfl (by conv => lhs; whnf)) rfl rfl ?_
      refine VL_nil ?_
      refine VS_back (k + 1) ?_ (by repeat (first | exact Has.nil _ | refine Has.cons rfl ?_)) (by repeat (first | exact Out.mix _ _ _ | refine Out.upd rfl ?_ | refine Out.mix_in rfl ?_)) ?_
      · refine ⟨s.less (by simp), by omega, by omega, ?_⟩
        rw [hf, hd, hd2, pathLt, if_pos c1]
      · omega
  · refine VS_exit ?_
    repeat (first | refine blockV_hit ?_ | refine backV_exit ?_)
    repeat (refine VS_seq ?_)
    refine VS_region_lit ?_
    refine VL_run (d := 36) (run_move rfl (by conv => lhs; whnf)) rfl rfl ?_
    refine VL_run (d := 37) (run_lenSlice rfl ⟨_, Try.underlying23⟩ rfl) rfl rfl ?_
    refine VL_run (d := 38) (run_move rfl (by conv => lhs; whnf)) rfl rfl ?_
    refine VL_run (d := 39) (run_lenSlice rfl ⟨_, Try.underlying23⟩ rfl) rfl rfl ?_
    refine VL_run (d := 40) (run_ltI rfl rfl rfl) rfl rfl ?_
    refine VL_run (d := 4) (run_assign rfl (by conv => lhs; whnf)) rfl rfl ?_
    refine VL_nil ?_
    refine VS_ret ?_
    repeat (first | refine blockV_ret ?_ | refine backV_ret ?_ | refine backV2_ret ?_ | refine backV3_ret ?_ | refine thenV_ret ?_ | refine metV2_ret ?_)
    refine fin_one (fn := Try.f103) rfl (res_tmp (by conv => lhs; whnf)) ?_
    refine ⟨?_, s.below⟩
    rw [hf]
    by_cases h1 : k < p.length
    · have h2 : k = q.length := by omega
      rw [List.drop_eq_getElem_cons h1, List.drop_of_length_le (l := q) (by omega), pathLt]
      simp; omega
    · rw [List.drop_of_length_le (l := p) (by omega)]
      by_cases h2 : k < q.length
      · rw [List.drop_eq_getElem_cons h2, pathLt]
        simp; omega
      · rw [List.drop_of_length_le (l := q) (by omega), pathLt]
        simp; omega
def pathOk (p : List ByteArray) : Bool := p.all (fun n => nameFrom n 0) && inI p.length 1 4
theorem l2PathOk_ok (p : List ByteArray) {ok : Nat → Prop} {w0 : World} {v1 : Value} (h1 : Rd ok w0 (.sl (strsD p)) [v1]) (hp : PFit p) :
    Calls Try.prog 102 #[v1] w0 (Ret fun v w' => v = .bool (pathOk p) ∧ Below w0.heap.size w0 w') := by
  obtain ⟨A, c, e1, hl1⟩ := Rd_strs h1
  obtain rfl := List.singleton_inj.1 e1
  have f1 := hp.len
  have f2 := hp.mem
  have s := (St.start ok w0).begin h1
  refine calls_enter (n := 19) Try.func102 rfl rfl rfl ?_
  repeat (refine VS_seq ?_)
  refine VS_region_lit ?_
  refine VL_run (d := 2) (run_assign rfl (by conv => lhs; whnf)) rfl rfl ?_
  refine VL_nil ?_
  repeat (refine VS_seq ?_)
  refine VS_region_lit ?_
  refine VL_run (d := 3) (run_assign rfl (by conv => lhs; whnf)) rfl rfl ?_
  refine VL_nil ?_
  repeat (refine VS_block ?_)
  refine VS_loop [2, 3, 4, 5, 6, 7, 8, 9, 10, 11, 12, 13, 14, 15] (fun k : Nat => [(3, .int .i64 k)]) (fun k w => St ok w0 [] [.dat [.slice A p.length c] (.sl (strsD p))] w ∧ k ≤ p.length ∧ p.all (fun n => nameFrom n 0) = (p.drop k).all (fun n => nameFrom n 0)) (fun k => p.length - k) 0 ⟨s, by omega, rfl⟩ (by repeat (first | exact Has.nil _ | refine Has.cons rfl ?_)) ?_
  clear s
  rintro k w j ⟨s, hk, hf⟩
  repeat (refine VS_seq ?_)
  refine VS_region_lit ?_
  refine VL_run (d := 4) (run_move rfl (by conv => lhs; whnf)) rfl rfl ?_
  refine VL_run (d := 5) (run_move rfl (by conv => lhs; whnf)) rfl rfl ?_
  refine VL_run (d := 6) (run_lenSlice rfl ⟨_, Try.underlying23⟩ rfl) rfl rfl ?_
  refine VL_run (d := 7) (run_ltI rfl rfl rfl) rfl rfl ?_
  refine VL_nil ?_
  refine VS_cond rfl (fun c0 => ?_) (fun c0 => ?_) <;> (try simp only [decide_eq_true_eq, decide_eq_false_iff_not, Bool.not_eq_true', Bool.not_eq_false', ne_eq, Decidable.not_not, cond_true, cond_false, Bool.and_eq_true, Bool.or_eq_true, Bool.and_eq_false_iff, Bool.or_eq_false_iff, Bool.not_true, Bool.not_false, reduceCtorEq] at c0)
  · repeat (first | refine VS_seq ?_ | refine VS_block ?_ | refine VS_skip ?_)
    have hk' : k < p.length := by omega
    have hd := List.drop_eq_getElem_cons hk'
    rw [hd, List.all_cons] at hf
    obtain ⟨ad, rfl, s⟩ := s.openS (i := 0) rfl k hk'
    refine VS_region_lit ?_
    refine VL_run (d := 10) (run_move rfl (by conv => lhs; whnf)) rfl rfl ?_
    refine VL_run (d := 11) (run_move rfl (by conv => lhs; whnf)) rfl rfl ?_
    refine VL_run (d := 12) (run_indexAddr rfl Try.underlying23 ty9 rfl rfl (by omega) (by omega)) rfl rfl ?_
    refine VL_run (d := 13) (run_load_at0 s rfl ty9 rfl (i := 0) rfl rfl) rfl rfl ?_
    refine VL_does (d := 14) (does_call1 rfl (by kernel_rfl) rfl (l1NameOk_ok _ (Nat.le_trans (f2 _ (List.getElem_mem hk')) (by decide))) ?_) rfl rfl
    rintro _ w ⟨rfl, hb⟩
    replace s := s.step hb
    clear hb
    refine VL_run (d := 15) (run_not rfl rfl) rfl rfl ?_
    refine VL_nil ?_
    refine VS_cond rfl (fun c1 => ?_) (fun c1 => ?_) <;> (try simp only [decide_eq_true_eq, decide_eq_false_iff_not, Bool.not_eq_true', Bool.not_eq_false', ne_eq, Decidable.not_not, cond_true, cond_false, Bool.and_eq_true, Bool.or_eq_true, Bool.and_eq_false_iff, Bool.or_eq_false_iff, Bool.not_true, Bool.not_false, reduceCtorEq] at c1)
    · repeat (refine VS_seq ?_)
      refine VS_region_lit ?_
      refine VL_run (d := 2) (run_assign rfl (by conv => lhs; whnf)) rfl rfl ?_
      refine VL_nil ?_
      refine VS_ret ?_
      repeat (first | refine blockV_ret ?_ | refine backV_ret ?_)
      refine fin_one (fn := Try.f102) rfl (res_tmp (by conv => lhs; whnf)) ?_
      refine ⟨?_, s.below⟩
      rw [pathOk, hf, c1]
      rfl
    · repeat (first | refine VS_skip ?_ | refine VS_nil_block ?_)
      refine VS_region_lit ?_
      refine VL_run (d := 8) (run_move rfl (by conv => lhs; whnf)) rfl rfl ?_
      refine VL_run (d := 9) (run_add rfl rfl rfl (by omega)) rfl rfl ?_
      refine VL_run (d := 3) (run_assign rfl (by conv => lhs; whnf)) rfl rfl ?_
      refine VL_nil ?_
      refine VS_back (k + 1) ?_ (by repeat (first | exact Has.nil _ | refine Has.cons rfl ?_)) (by repeat (first | exact Out.mix _ _ _ | refine Out.upd rfl ?_)) ?_
      · refine ⟨s.less (by simp), by omega, ?_⟩
        rw [hf, c1, Bool.true_and]
      · omega
  · refine VS_exit ?_
    repeat (first | refine blockV_hit ?_ | refine backV_exit ?_)
    repeat (refine VS_seq ?_)
    refine VS_region_lit ?_
    refine VL_run (d := 16) (run_move rfl (by conv => lhs; whnf)) rfl rfl ?_
    refine VL_run (d := 17) (run_lenSlice rfl ⟨_, Try.underlying23⟩ rfl) rfl rfl ?_
    refine VL_does (d := 18) (does_call3 rfl (by kernel_rfl) rfl rfl rfl (l1In_ok _ _ _) ?_) rfl rfl
    rintro _ w ⟨rfl, hb⟩
    replace s := s.step hb
    clear hb
    refine VL_run (d := 2) (run_assign rfl (by conv => lhs; whnf)) rfl rfl ?_
    refine VL_nil ?_
    refine VS_ret ?_
    repeat (first | refine blockV_ret ?_ | refine backV_ret ?_ | refine backV2_ret ?_ | refine backV3_ret ?_ | refine thenV_ret ?_ | refine metV2_ret ?_)
    refine fin_one (fn := Try.f102) rfl (res_tmp (by conv => lhs; whnf)) ?_
    refine ⟨?_, s.below⟩
    rw [List.drop_of_length_le (by omega)] at hf
    rw [pathOk, hf]
    rfl
theorem l3Path_ok (p : List ByteArray) (nm : ByteArray) {ok : Nat → Prop} {w0 : World} {v1 : Value} (h1 : Rd ok w0 (.sl (strsD p)) [v1]) (hp : p.length ≤ 1000000000000) :
    Calls Try.prog 94 #[v1, .string nm] w0 (Ret fun v w' => Rd (okR ok w0) w' (.sl (strsD (p ++ [nm]))) [v] ∧ Below w0.heap.size w0 w') := by
  obtain ⟨A, c, e1, hl1⟩ := Rd_strs h1
  obtain rfl := List.singleton_inj.1 e1
  have s := (St.start ok w0).begin h1
  refine calls_enter (n := 11) Try.func94 rfl rfl rfl ?_
  repeat (refine VS_seq ?_)
  refine VS_region_lit ?_
  refine VL_run (d := 4) (run_assign rfl (by conv => lhs; whnf)) rfl rfl ?_
  refine VL_nil ?_
  repeat (refine VS_seq ?_)
  refine VS_region_lit ?_
  refine VL_does (d := 5) (does_slice0 s rfl Try.underlying23 ty9 ?_) rfl rfl
  clear s; intro g5 w s
  refine VL_run (d := 6) (run_move rfl (by conv => lhs; whnf)) rfl rfl ?_
  (refine VL_does (d := 7) (does_appendD s rfl Try.underlying23 ty9 (by decide) (by decide) (i := 0) rfl rfl rfl (s.dat (i := 0) rfl) (strsD_wd _) (by simp; omega) (by (simp only [List.nil_append]; exact rfl)) (by (simp only [List.nil_append, List.length_append, List.length_cons, List.length_nil, strsD_length, Tr.toDs_length, Nat.zero_add]; exact rfl)) ?_) rfl rfl)
  clear s; intro A7 c7 w s
  try simp only [List.set_cons_zero, List.set_cons_succ, patch, List.take_succ_cons, List.take_zero, List.drop_succ_cons, List.drop_zero, List.drop_nil, List.nil_append, List.cons_append, List.append_nil, List.length_cons, List.length_nil, Nat.reduceAdd, Nat.zero_add] at s
  refine VL_run (d := 8) (run_move rfl (by conv => lhs; whnf)) rfl rfl ?_
  refine VL_does (d := 9) (does_slice1 s rfl Try.underlying23 ty9 (by decide) (by decide) rfl rfl (show Rd _ _ (.str nm) [.string nm] from rfl) rfl ?_) rfl rfl
  clear s; intro g9 w s
  (refine VL_does (d := 10) (does_appendR s rfl Try.underlying23 ty9 (by decide) (by decide) (i := 0) rfl rfl rfl (by simp; omega) (strsD_snoc _ _) (show _ = p.length + 1 by simp) ?_) rfl rfl)
  clear s; intro A10 c10 w s
  try simp only [List.set_cons_zero, List.set_cons_succ, patch, List.take_succ_cons, List.take_zero, List.drop_succ_cons, List.drop_zero, List.drop_nil, List.nil_append, List.cons_append, List.append_nil, List.length_cons, List.length_nil, Nat.reduceAdd, Nat.zero_add] at s
  refine VL_run (d := 4) (run_assign rfl (by conv => lhs; whnf)) rfl rfl ?_
  refine VL_nil ?_
  refine VS_ret ?_
  repeat (first | refine blockV_ret ?_ | refine backV_ret ?_ | refine backV2_ret ?_ | refine backV3_ret ?_ | refine thenV_ret ?_ | refine metV2_ret ?_)
  refine fin_one (fn := Try.f94) rfl (res_tmp (by conv => lhs; whnf)) ?_
  have s := s.freeze (k := 0) rfl
  exact ⟨s.tell (s.dat (i := 0) rfl), s.below⟩
end Go.Proofs.Ytkefaelmamgjiaa
