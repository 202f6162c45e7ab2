/- nodes (spec), as draws use them: NodesStart, NodesOk. -/
import Derived.Test.YtkefaelmamgjiaaN5
set_option linter.unusedVariables false
set_option linter.unusedSimpArgs false
set_option maxHeartbeats 4000000
namespace Go.Proofs.Ytkefaelmamgjiaa
open Go.RowKit

mutual
theorem Tr.paths_wt : ∀ (t : Tr) (p : List ByteArray), ∀ q ∈ t.paths p, namesWt q ≤ namesWt p + t.wt
  | .mk d m s ns ks, p, q, h => by
    simp only [Tr.paths] at h
    have := Tr.pathsZ_wt ks ns p q h
    simp only [Tr.wt]
    omega
theorem Tr.pathsZ_wt : ∀ (ks : List Tr) (ns p : List ByteArray), ∀ q ∈ Tr.pathsZ ks ns p, namesWt q ≤ namesWt p + namesWt ns + Tr.wts ks
  | [], _, _, q, h => by simp [Tr.pathsZ] at h
  | k :: ks, [], _, q, h => by simp [Tr.pathsZ] at h
  | k :: ks, n :: ns, p, q, h => by
    simp only [Tr.pathsZ, List.mem_cons, List.mem_append] at h
    simp only [namesWt, Tr.wts]
    rcases h with rfl | h | h
    · rw [namesWt_app]; simp only [namesWt]; omega
    · have := Tr.paths_wt k _ q h
      rw [namesWt_app] at this
      simp only [namesWt] at this
      omega
    · have := Tr.pathsZ_wt ks ns p q h
      omega
end
theorem Tr.paths_len (t : Tr) (p : List ByteArray) : (t.paths p).length ≤ t.wt := by
  have := t.paths_count p
  have := t.count_wt
  omega
theorem NodesStart_ok (t : Tr) {ok : Nat → Prop} {w0 : World} {cs : List Value} (h : Rd ok w0 t.toD cs) (ht : t.Fit) :
    Calls Try.prog 12 #[.agg cs.toArray] w0 (Ret fun v w' => ∃ cc n', v = .agg (List.toArray cc) ∧ NdB n' (t.wt + 1) ∧ Rd (okR ok w0) w' n'.toD cc ∧ Below w0.heap.size w0 w') := by
  obtain ⟨A3, n3, A4, n4, rfl, hl3, hl4, h3, h4⟩ := Tr.opn h
  have s := (St.start ok w0).begin h
  have htw : t.wt ≤ 1000000000 := ht
  have hpl := t.paths_len []
  have hpw := t.paths_wt []
  clear h h3 h4
  refine calls_enter (n := 37) Try.func12 rfl rfl rfl ?_
  repeat (refine VS_seq ?_)
  refine VS_region_lit ?_
  refine VL_does (d := 1) (does_box s rfl rfl rfl ?_) rfl rfl
  clear s; intro b1 w s
  refine VL_does (d := 2) (does_alloc s rfl ty30 rfl ?_) rfl rfl
  clear s; intro b2 w s
  refine VL_nil ?_
  repeat (refine VS_seq ?_)
  refine VS_region_lit ?_
  refine VL_run (d := 6) (run_load_ownA (cs := [_, _, _, _, _]) s rfl ty26 rfl (i := 1) rfl rfl rfl) rfl rfl ?_
  refine VL_does (d := 7) (does_call1 rfl (by kernel_rfl) rfl (TreeOk_ok t (s.dat (i := 0) rfl) ht) ?_) rfl rfl
  rintro _ w ⟨rfl, hb⟩
  replace s := s.step hb
  clear hb
  refine VL_run (d := 8) (run_not rfl rfl) rfl rfl ?_
  refine VL_nil ?_
  refine VS_cond rfl (fun c0 => ?_) (fun c0 => ?_) <;> (try simp only [decide_eq_true_eq, decide_eq_false_iff_not, Bool.not_eq_true', Bool.not_eq_false', ne_eq, Decidable.not_not, cond_true, cond_false, Bool.and_eq_true, Bool.or_eq_true, Bool.and_eq_false_iff, Bool.or_eq_false_iff, Bool.not_true, Bool.not_false, reduceCtorEq] at c0)
  · repeat (refine VS_seq ?_)
    refine VS_region_lit ?_
    refine VL_run (d := 9) (run_build (cs := [.int .i64 0, .slice none 0 0]) rfl ty30 st30 rfl) rfl rfl ?_
    (refine VL_doesU (does_store s rfl ty30 rfl rfl (i := 0) rfl rfl rfl (by (intro u hu; simp only [List.mem_cons, List.not_mem_nil, or_false] at hu; rcases hu with rfl | rfl | rfl | rfl | rfl <;> rfl)) rfl ?_) rfl rfl rfl)
    clear s; intro w s
    try simp only [List.set_cons_zero, List.set_cons_succ, patch, List.take_succ_cons, List.take_zero, List.drop_succ_cons, List.drop_zero, List.drop_nil, List.nil_append, List.cons_append, List.append_nil, List.length_cons, List.length_nil, Nat.reduceAdd, Nat.zero_add] at s
    refine VL_nil ?_
    refine VS_ret ?_
    repeat (first | refine blockV_ret ?_ | refine backV_ret ?_ | refine backV2_ret ?_ | refine backV3_ret ?_ | refine thenV_ret ?_ | refine metV2_ret ?_)
    refine fin_one (fn := Try.f12) rfl (res_ownA (cs := [_, _]) s ty30 rfl (i := 0) rfl rfl rfl) ?_
    exact ⟨_, ⟨0, []⟩, rfl, ⟨Int.le_refl _, (show (0 : Int) ≤ _ by omega), Nat.zero_le _, fun x hx => (List.not_mem_nil hx).elim⟩, s.tell (Rd_mk2 rfl ⟨none, 0, rfl, by simp, trivial⟩), s.below⟩
  · repeat (first | refine VS_seq ?_ | refine VS_skip ?_)
    refine VS_region_lit ?_
    refine VL_run (d := 10) (run_build (cs := [.int .i64 _, .slice none 0 0]) rfl ty30 st30 rfl) rfl rfl ?_
    refine VL_does (d := 3) (does_alloc s rfl ty30 rfl ?_) rfl rfl
    clear s; intro b3 w s
    (refine VL_doesU (does_store s rfl ty30 rfl rfl (i := 0) rfl rfl rfl (by (intro u hu; simp only [List.mem_cons, List.not_mem_nil, or_false] at hu; rcases hu with rfl | rfl | rfl | rfl | rfl <;> rfl)) rfl ?_) rfl rfl rfl)
    clear s; intro w s
    try simp only [List.set_cons_zero, List.set_cons_succ, patch, List.take_succ_cons, List.take_zero, List.drop_succ_cons, List.drop_zero, List.drop_nil, List.nil_append, List.cons_append, List.append_nil, List.length_cons, List.length_nil, Nat.reduceAdd, Nat.zero_add] at s
    refine VL_nil ?_
    have s := s.nilrow 37 2
    repeat (refine VS_seq ?_)
    refine VS_region_lit ?_
    refine VL_does (d := 11) (does_slice0 s rfl Try.underlying23 ty9 ?_) rfl rfl
    clear s; intro g11 w s
    replace s := s.freeze (k := 0) rfl; simp only [List.eraseIdx_cons_zero] at s
    refine VL_run (d := 12) (run_load_ownA (cs := [_, _, _, _, _]) s rfl ty26 rfl (i := 3) rfl rfl rfl) rfl rfl ?_
    refine VL_does (d := 13) (does_call2 rfl (by kernel_rfl) rfl rfl (l33Paths_ok t [] (s.dat (i := 0) rfl) (s.dat (i := 1) rfl) ht (Tr.ok_even c0) (by simp; omega)) ?_) rfl rfl
    rintro v13 w13 ⟨hr, hb⟩
    replace s := s.ret hb hr; clear hb hr; obtain ⟨A13, c13, e13, -⟩ := Rd_paths (s.dat (i := 0) rfl); obtain rfl := List.singleton_inj.1 e13
    refine VL_run (d := 4) (run_assign rfl (by conv => lhs; whnf)) rfl rfl ?_
    refine VL_nil ?_
    repeat (refine VS_seq ?_)
    generalize t.paths [] = ps at *
    refine VS_region_lit ?_
    refine VL_run (d := 5) (run_assign rfl (by conv => lhs; whnf)) rfl rfl ?_
    refine VL_nil ?_
    repeat (refine VS_block ?_)
    refine VS_loop [5, 14, 15, 16, 17, 18, 19, 20, 21, 22, 23, 24, 25, 26, 27, 28, 29, 30, 31, 32, 33, 34, 35] (fun k : Nat => [(5, .int .i64 k)]) (fun k w => ∃ (ys : List (Int × List ByteArray)) (nx : Int), ∃ A6 m6 c6, ys.length = k ∧ nx = k + 1 ∧ (∀ y ∈ ys, namesWt y.2 ≤ t.wt) ∧ k ≤ ps.length ∧ St ok w0 [.row (.slice A6 m6 c6) 37 2 (nodeDs ys), .blk b3 [.int .i64 nx, .slice A6 m6 c6] 30, .blk b2 nd0 30, .blk b1 (trC t A3 n3 A4 n4) 26] [.dat [.slice A13 ps.length c13] (.sl (pathsD ps))] w) (fun k => ps.length - k) 0 ⟨[], 1, none, 0, 0, rfl, by omega, (fun y hy => (List.not_mem_nil hy).elim), by omega, s.less (by (repeat (first | exact sub_nil | refine sub_cons (by (repeat (exact .head _))) ?_)))⟩ (by repeat (first | exact Has.nil _ | refine Has.cons rfl ?_)) ?_
    clear s
    rintro k w j ⟨ys, nx, A6, m6, c6, hys, hnx, hyb, hk, s⟩
    repeat (refine VS_seq ?_)
    refine VS_region_lit ?_
    refine VL_run (d := 14) (run_move rfl (by conv => lhs; whnf)) rfl rfl ?_
    refine VL_run (d := 15) (run_move rfl (by conv => lhs; whnf)) rfl rfl ?_
    refine VL_run (d := 16) (run_lenSlice rfl ⟨_, Try.underlying74⟩ rfl) rfl rfl ?_
    refine VL_run (d := 17) (run_ltI rfl rfl rfl) rfl rfl ?_
    refine VL_nil ?_
    refine VS_cond rfl (fun c1 => ?_) (fun c1 => ?_) <;> (try simp only [decide_eq_true_eq, decide_eq_false_iff_not, Bool.not_eq_true', Bool.not_eq_false', ne_eq, Decidable.not_not, cond_true, cond_false, Bool.and_eq_true, Bool.or_eq_true, Bool.and_eq_false_iff, Bool.or_eq_false_iff, Bool.not_true, Bool.not_false, reduceCtorEq] at c1)
    · repeat (first | refine VS_seq ?_ | refine VS_block ?_ | refine VS_skip ?_)
      have hk' : k < ps.length := by omega
      obtain ⟨ad, A5, c5, rfl, -, s⟩ := s.openP (i := 0) rfl k hk'
      refine VS_drawS 11 s mixed ?_
      clear s; intro s
      refine VA_take 0 (d := 20) rfl (by kernel_rfl) rfl (fun w g => run_fieldAddr rfl fo30_1 rfl) s.see ?_
      refine VA_take 1 (d := 21) rfl (by kernel_rfl) rfl (fun w g => see_own1 g rfl ty28 rfl (i := 1) rfl rfl) s.see ?_
      refine VA_take 2 (d := 22) rfl (by kernel_rfl) rfl (fun w g => run_fieldAddr rfl fo30_0 rfl) s.see ?_
      refine VA_take 3 (d := 23) rfl (by kernel_rfl) rfl (fun w g => see_own1 g rfl ty3 rfl (i := 1) rfl rfl) s.see ?_
      refine VA_take 4 (d := 24) rfl (by kernel_rfl) rfl (fun w g => run_move rfl (by conv => lhs; whnf)) s.see ?_
      refine VA_take 5 (d := 25) rfl (by kernel_rfl) rfl (fun w g => run_move rfl (by conv => lhs; whnf)) s.see ?_
      refine VA_take 6 (d := 26) rfl (by kernel_rfl) rfl (fun w g => run_indexAddr rfl Try.underlying74 ty23 rfl rfl (by omega) (by omega)) s.see ?_
      refine VA_take 7 (d := 27) rfl (by kernel_rfl) rfl (fun w g => see_at0 g rfl ty23 rfl (i := 0) rfl rfl) s.see ?_
      refine VA_take 8 (d := 28) rfl (by kernel_rfl) rfl (fun w g => run_build (cs := [.int .i64 _, .slice _ _ _]) rfl ty37 st37 rfl) s.see ?_
      refine VA_one (i := 9) (by kernel_rfl) ?_
      refine VO_does (d := 29) rfl (does_slice1 s rfl Try.underlying28 ty37 (by decide) (by decide) rfl rfl (show Rd _ _ (nodeD (nx, ps[k])) _ from Rd_mk2 rfl (s.dat (i := 1) rfl)) rfl ?_) rfl rfl
      clear s; intro g29 w s
      refine ⟨fun _ => s.sees (by intro b c t h; exact .tail _ h) (by intro f h; exact h), ?_⟩
      refine VA_one (i := 10) (by kernel_rfl) ?_
      (refine VO_does (d := 30) rfl (does_appendR s rfl Try.underlying28 ty37 (by decide) (by decide) (i := 0) rfl rfl rfl (by simp <;> omega) (nodeDs_snoc _ _) (show _ = ys.length + 1 by simp) ?_) rfl rfl)
      clear s; intro A30 c30 w s
      try simp only [List.set_cons_zero, List.set_cons_succ, patch, List.take_succ_cons, List.take_zero, List.drop_succ_cons, List.drop_zero, List.drop_nil, List.nil_append, List.cons_append, List.append_nil, List.length_cons, List.length_nil, Nat.reduceAdd, Nat.zero_add] at s
      refine ⟨fun _ => s.sees (by intro b c t h; first | exact h | exact .tail _ h | exact .tail _ (.tail _ h) | exact .tail _ (.tail _ (.tail _ h)) | (simp only [List.mem_cons, List.not_mem_nil, or_false, List.set_cons_zero, List.set_cons_succ, reduceCtorEq, false_or] at h ⊢ <;> exact h)) (by intro f h; exact h), ?_⟩
      refine VA_one (i := 11) (by kernel_rfl) ?_
      refine VO_run (d := 31) rfl (run_fieldAddr rfl fo30_1 rfl) rfl rfl ((fun h => nomatch (show true = false from h))) ?_
      refine VA_one (i := 12) (by kernel_rfl) ?_
      (refine VO_doesU rfl (does_store s rfl ty28 rfl rfl (i := 1) rfl rfl rfl (by (intro u hu; simp only [List.mem_cons, List.not_mem_nil, or_false] at hu; subst hu; rfl)) rfl ?_) rfl rfl rfl)
      clear s; intro w s
      try simp only [List.set_cons_zero, List.set_cons_succ, patch, List.take_succ_cons, List.take_zero, List.drop_succ_cons, List.drop_zero, List.drop_nil, List.nil_append, List.cons_append, List.append_nil, List.length_cons, List.length_nil, Nat.reduceAdd, Nat.zero_add] at s
      refine ⟨(fun h => nomatch (show true = false from h)), ?_⟩
      refine VA_done (by kernel_rfl) ?_
      refine VS_region_lit ?_
      refine VL_run (d := 32) (run_fieldAddr rfl fo30_0 rfl) rfl rfl ?_
      refine VL_run (d := 33) (run_load_own1 s rfl ty3 rfl (i := 1) rfl rfl) rfl rfl ?_
      refine VL_run (d := 34) (run_add rfl rfl rfl (by omega)) rfl rfl ?_
      refine VL_run (d := 35) (run_fieldAddr rfl fo30_0 rfl) rfl rfl ?_
      (refine VL_doesU (does_store s rfl ty3 rfl rfl (i := 1) rfl rfl rfl (by (intro u hu; simp only [List.mem_cons, List.not_mem_nil, or_false] at hu; subst hu; rfl)) rfl ?_) rfl rfl rfl)
      clear s; intro w s
      try simp only [List.set_cons_zero, List.set_cons_succ, patch, List.take_succ_cons, List.take_zero, List.drop_succ_cons, List.drop_zero, List.drop_nil, List.nil_append, List.cons_append, List.append_nil, List.length_cons, List.length_nil, Nat.reduceAdd, Nat.zero_add] at s
      refine VL_nil ?_
      repeat (refine VS_nil_block ?_)
      refine VS_region_lit ?_
      refine VL_run (d := 18) (run_move rfl (by conv => lhs; whnf)) rfl rfl ?_
      refine VL_run (d := 19) (run_add rfl rfl rfl (by omega)) rfl rfl ?_
      refine VL_run (d := 5) (run_assign rfl (by conv => lhs; whnf)) rfl rfl ?_
      refine VL_nil ?_
      refine VS_back (k + 1) ?_ (by repeat (first | exact Has.nil _ | refine Has.cons rfl ?_)) (by repeat (first | exact Out.mix _ _ _ | refine Out.upd rfl ?_)) ?_
      · refine ⟨ys ++ [(nx, ps[k])], nx + 1, _, _, _, by simp; omega, by omega, fun y hy => ?_, by omega, s.less (by (repeat (first | exact sub_nil | refine sub_cons (by (repeat (first | exact .head _ | refine .tail _ ?_))) ?_)))⟩
        rcases List.mem_append.1 hy with hy | hy
        · exact hyb y hy
        · obtain rfl := List.mem_singleton.1 hy
          have := hpw _ (List.getElem_mem hk')
          simp only [namesWt] at this
          show namesWt ps[k] ≤ t.wt
          omega
      · omega
    · refine VS_exit ?_
      repeat (first | refine blockV_hit ?_ | refine backV_exit ?_)
      repeat (refine VS_seq ?_)
      refine VS_region_lit ?_
      refine VL_run (d := 36) (run_load_ownA (cs := [_, _]) s rfl ty30 rfl (i := 1) rfl rfl rfl) rfl rfl ?_
      (refine VL_doesU (does_store s rfl ty30 rfl rfl (i := 2) rfl rfl rfl (by (intro u hu; simp only [List.mem_cons, List.not_mem_nil, or_false] at hu; rcases hu with rfl | rfl | rfl | rfl | rfl <;> rfl)) rfl ?_) rfl rfl rfl)
      clear s; intro w s
      try simp only [List.set_cons_zero, List.set_cons_succ, patch, List.take_succ_cons, List.take_zero, List.drop_succ_cons, List.drop_zero, List.drop_nil, List.nil_append, List.cons_append, List.append_nil, List.length_cons, List.length_nil, Nat.reduceAdd, Nat.zero_add] at s
      refine VL_nil ?_
      refine VS_ret ?_
      repeat (first | refine blockV_ret ?_ | refine backV_ret ?_ | refine backV2_ret ?_ | refine backV3_ret ?_ | refine thenV_ret ?_ | refine metV2_ret ?_)
      refine fin_one (fn := Try.f12) rfl (res_ownA (cs := [_, _]) s ty30 rfl (i := 2) rfl rfl rfl) ?_
      have s := s.freeze (k := 0) rfl
      exact ⟨_, ⟨nx, ys⟩, rfl, ⟨(show 0 ≤ nx by omega), (show nx ≤ _ by omega), (show ys.length ≤ _ by omega), fun y hy => Nat.le_trans (hyb y hy) (by omega)⟩, s.tell (Rd_mk2 rfl (s.dat (i := 0) rfl)), s.below⟩
theorem NodesOk_ok (n : Nd) (t : Tr) {ok : Nat → Prop} {w0 : World} {cs ct : List Value} (h : Rd ok w0 n.toD cs) (h2 : Rd ok w0 t.toD ct) (hn : NdB n 1000000000) (ht : t.Fit) :
    Calls Try.prog 144 #[.agg cs.toArray, .agg ct.toArray] w0 (Ret fun v w' => ∃ bb : Bool, v = .bool bb ∧ Below w0.heap.size w0 w') := by
  obtain ⟨A, c, rfl, hl, g3⟩ := Nd.opn h
  obtain ⟨A3, n3, A4, n4, rfl, hl3, hl4, h3, h4⟩ := Tr.opn h2
  have s := (((St.start ok w0).begin h2).begin h).begin g3
  have htw : t.wt ≤ 1000000000 := ht
  have hpl := t.paths_len []
  have hpw := t.paths_wt []
  have hlen := hn.2.2.1
  clear h h2 h3 h4 g3
  refine calls_enter (n := 49) Try.func144 rfl rfl rfl ?_
  repeat (refine VS_seq ?_)
  refine VS_region_lit ?_
  refine VL_does (d := 2) (does_box s rfl rfl rfl ?_) rfl rfl
  clear s; intro b2 w s
  refine VL_does (d := 3) (does_box s rfl rfl rfl ?_) rfl rfl
  clear s; intro b3 w s
  refine VL_run (d := 4) (run_assign rfl (by conv => lhs; whnf)) rfl rfl ?_
  refine VL_nil ?_
  repeat (refine VS_seq ?_)
  refine VS_meetB s 14 (!t.ok || !n.ok) [7, 8, 9, 10, 11, 12, 13, 14] ?_ ?_
  · refine VS_region_lit ?_
    refine VL_run (d := 7) (run_load_ownA (cs := [_, _, _, _, _]) s rfl ty26 rfl (i := 0) rfl rfl rfl) rfl rfl ?_
    refine VL_does (d := 8) (does_call1 rfl (by kernel_rfl) rfl (TreeOk_ok t (s.dat (i := 2) rfl) ht) ?_) rfl rfl
    rintro _ w ⟨rfl, hb⟩
    replace s := s.step hb
    clear hb
    refine VL_run (d := 9) (run_not rfl rfl) rfl rfl ?_
    refine VL_run (d := 10) (run_move rfl (by conv => lhs; whnf)) rfl rfl ?_
    refine VL_split 10 (by conv => lhs; whnf) (fun h10 => ?_) (fun h10 => ?_) <;> (try simp only [decide_eq_true_eq, decide_eq_false_iff_not, Bool.not_eq_true', Bool.not_eq_false', ne_eq, Decidable.not_not, cond_true, cond_false, Bool.and_eq_true, Bool.or_eq_true, Bool.and_eq_false_iff, Bool.or_eq_false_iff, Bool.not_true, Bool.not_false, reduceCtorEq] at h10)
    · refine VL_not (d := 11) rfl rfl rfl rfl ?_
      refine VL_not (d := 12) rfl rfl rfl rfl ?_
      refine VL_not (d := 13) rfl rfl rfl rfl ?_
      refine VL_run (d := 14) (run_pickT rfl rfl rfl) rfl rfl ?_
      refine VL_nil ?_
      exact VS_endB s (by conv => lhs; whnf) (by (simp_all; done)) (by repeat (first | exact Out.refl _ _ | refine Out.upd rfl ?_))
    · refine VL_run (d := 11) (run_load_ownA (cs := [_, _]) s rfl ty30 rfl (i := 1) rfl rfl rfl) rfl rfl ?_
      refine VL_does (d := 12) (does_call1 rfl (by kernel_rfl) rfl (l33Ok_ok n (s.dat (i := 1) rfl) hn) ?_) rfl rfl
      rintro _ w ⟨rfl, hb⟩
      replace s := s.step hb
      clear hb
      refine VL_run (d := 13) (run_not rfl rfl) rfl rfl ?_
      refine VL_run (d := 14) (run_pickF rfl rfl rfl) rfl rfl ?_
      refine VL_nil ?_
      exact VS_endB s (by conv => lhs; whnf) (by (simp_all; done)) (by repeat (first | exact Out.refl _ _ | refine Out.upd rfl ?_))
  clear s; intro w j14 s
  refine VS_cond rfl (fun c0 => ?_) (fun c0 => ?_) <;> (try simp only [decide_eq_true_eq, decide_eq_false_iff_not, Bool.not_eq_true', Bool.not_eq_false', ne_eq, Decidable.not_not, cond_true, cond_false, Bool.and_eq_true, Bool.or_eq_true, Bool.and_eq_false_iff, Bool.or_eq_false_iff, Bool.not_true, Bool.not_false, reduceCtorEq] at c0)
  · repeat (refine VS_seq ?_)
    refine VS_region_lit ?_
    refine VL_run (d := 4) (run_assign rfl (by conv => lhs; whnf)) rfl rfl ?_
    refine VL_nil ?_
    refine VS_ret ?_
    repeat (first | refine blockV_ret ?_ | refine backV_ret ?_ | refine backV2_ret ?_ | refine backV3_ret ?_ | refine thenV_ret ?_ | refine metV2_ret ?_)
    refine fin_one (fn := Try.f144) rfl (res_tmp (by conv => lhs; whnf)) ?_
    exact ⟨_, rfl, s.below⟩
  · repeat (first | refine VS_seq ?_ | refine VS_skip ?_)
    refine VS_region_lit ?_
    refine VL_does (d := 15) (does_slice0 s rfl Try.underlying23 ty9 ?_) rfl rfl
    clear s; intro g15 w s
    replace s := s.freeze (k := 0) rfl; simp only [List.eraseIdx_cons_zero] at s
    refine VL_run (d := 16) (run_load_ownA (cs := [_, _, _, _, _]) s rfl ty26 rfl (i := 0) rfl rfl rfl) rfl rfl ?_
    refine VL_does (d := 17) (does_call2 rfl (by kernel_rfl) rfl rfl (l33Paths_ok t [] (s.dat (i := 0) rfl) (s.dat (i := 3) rfl) ht (Tr.ok_even c0.1) (by simp; omega)) ?_) rfl rfl
    rintro v17 w17 ⟨hr, hb⟩
    replace s := s.ret hb hr; clear hb hr; obtain ⟨A13, c13, e13, -⟩ := Rd_paths (s.dat (i := 0) rfl); obtain rfl := List.singleton_inj.1 e13
    refine VL_run (d := 5) (run_assign rfl (by conv => lhs; whnf)) rfl rfl ?_
    refine VL_nil ?_
    repeat (refine VS_seq ?_)
    generalize t.paths [] = ps at *
    refine VS_region_lit ?_
    refine VL_run (d := 6) (run_assign rfl (by conv => lhs; whnf)) rfl rfl ?_
    refine VL_nil ?_
    repeat (refine VS_block ?_)
    refine VS_loop [4, 6, 18, 19, 20, 21, 22, 23, 24, 25, 26, 27, 28, 29, 30, 31, 32, 33, 34, 35, 36, 37, 38, 39, 40, 41, 42] (fun k : Nat => [(6, .int .i64 k)]) (fun k w => k ≤ ps.length ∧ St ok w0 [.blk b3 (trC t A3 n3 A4 n4) 26, .blk b2 [.int .i64 n.next, .slice A n.list.length c] 30] [.dat [.slice A13 ps.length c13] (.sl (pathsD ps)), .dat [.slice A n.list.length c] (.sl (nodeDs n.list))] w) (fun k => ps.length - k) 0 ⟨by omega, s.less (by (repeat (first | exact sub_nil | refine sub_cons (by (repeat (first | exact .head _ | refine .tail _ ?_))) ?_)))⟩ (by repeat (first | exact Has.nil _ | refine Has.cons rfl ?_)) ?_
    clear s
    rintro k w j ⟨hk, s⟩
    repeat (refine VS_seq ?_)
    refine VS_meetB s 28 (decide (k < ps.length) && decide ((k : Int) < n.list.length)) [18, 19, 20, 21, 22, 23, 24, 25, 26, 27, 28] ?_ ?_
    · refine VS_region_lit ?_
      refine VL_run (d := 18) (run_move rfl (by conv => lhs; whnf)) rfl rfl ?_
      refine VL_run (d := 19) (run_move rfl (by conv => lhs; whnf)) rfl rfl ?_
      refine VL_run (d := 20) (run_lenSlice rfl ⟨_, Try.underlying74⟩ rfl) rfl rfl ?_
      refine VL_run (d := 21) (run_ltI rfl rfl rfl) rfl rfl ?_
      refine VL_run (d := 22) (run_move rfl (by conv => lhs; whnf)) rfl rfl ?_
      refine VL_split 22 (by conv => lhs; whnf) (fun h22 => ?_) (fun h22 => ?_) <;> (try simp only [decide_eq_true_eq, decide_eq_false_iff_not, Bool.not_eq_true', Bool.not_eq_false', ne_eq, Decidable.not_not, cond_true, cond_false, Bool.and_eq_true, Bool.or_eq_true, Bool.and_eq_false_iff, Bool.or_eq_false_iff, Bool.not_true, Bool.not_false, reduceCtorEq] at h22)
      · refine VL_run (d := 23) (run_move rfl (by conv => lhs; whnf)) rfl rfl ?_
        refine VL_run (d := 24) (run_fieldAddr rfl fo30_1 rfl) rfl rfl ?_
        refine VL_run (d := 25) (run_load_own1 s rfl ty28 rfl (i := 1) rfl rfl) rfl rfl ?_
        refine VL_run (d := 26) (run_lenSlice rfl ⟨_, Try.underlying28⟩ rfl) rfl rfl ?_
        refine VL_run (d := 27) (run_ltI rfl rfl rfl) rfl rfl ?_
        refine VL_run (d := 28) (run_pickT rfl rfl rfl) rfl rfl ?_
        refine VL_nil ?_
        exact VS_endB s (by conv => lhs; whnf) (by (simp_all; done)) (by repeat (first | exact Out.refl _ _ | refine Out.upd rfl ?_))
      · refine VL_not (d := 23) rfl rfl rfl rfl ?_
        refine VL_not (d := 24) rfl rfl rfl rfl ?_
        refine VL_not (d := 25) rfl rfl rfl rfl ?_
        refine VL_not (d := 26) rfl rfl rfl rfl ?_
        refine VL_not (d := 27) rfl rfl rfl rfl ?_
        refine VL_run (d := 28) (run_pickF rfl rfl rfl) rfl rfl ?_
        refine VL_nil ?_
        exact VS_endB s (by conv => lhs; whnf) (by (simp_all; omega)) (by repeat (first | exact Out.refl _ _ | refine Out.upd rfl ?_))
    clear s; intro w j28 s
    refine VS_cond rfl (fun c1 => ?_) (fun c1 => ?_) <;> (try simp only [decide_eq_true_eq, decide_eq_false_iff_not, Bool.not_eq_true', Bool.not_eq_false', ne_eq, Decidable.not_not, cond_true, cond_false, Bool.and_eq_true, Bool.or_eq_true, Bool.and_eq_false_iff, Bool.or_eq_false_iff, Bool.not_true, Bool.not_false, reduceCtorEq] at c1)
    · repeat (first | refine VS_seq ?_ | refine VS_block ?_ | refine VS_skip ?_)
      have hk' : k < ps.length := by omega
      have hk2 : k < n.list.length := by omega
      have hp := hn.plen hk2
      have hpp := Nat.le_trans (namesWt_len _) (hpw _ (List.getElem_mem hk'))
      simp only [namesWt] at hpp
      obtain ⟨ad, A5, c5, rfl, -, s⟩ := s.openP (i := 0) rfl k hk'
      obtain ⟨ad2, A6, c6, rfl, -, s⟩ := s.openN (i := 3) rfl k hk2
      refine VS_drawS 12 s mixed ?_
      clear s; intro s
      refine VA_take 0 (d := 31) rfl (by kernel_rfl) rfl (fun w g => run_move rfl (by conv => lhs; whnf)) s.see ?_
      refine VA_take 1 (d := 32) rfl (by kernel_rfl) rfl (fun w g => run_move rfl (by conv => lhs; whnf)) s.see ?_
      refine VA_take 2 (d := 33) rfl (by kernel_rfl) rfl (fun w g => run_indexAddr rfl Try.underlying74 ty23 rfl rfl (by omega) (by omega)) s.see ?_
      refine VA_take 3 (d := 34) rfl (by kernel_rfl) rfl (fun w g => see_at0 g rfl ty23 rfl (i := 2) rfl rfl) s.see ?_
      refine VA_take 4 (d := 35) rfl (by kernel_rfl) rfl (fun w g => run_fieldAddr rfl fo30_1 rfl) s.see ?_
      refine VA_take 5 (d := 36) rfl (by kernel_rfl) rfl (fun w g => see_own1 g rfl ty28 rfl (i := 1) rfl rfl) s.see ?_
      refine VA_take 6 (d := 37) rfl (by kernel_rfl) rfl (fun w g => run_move rfl (by conv => lhs; whnf)) s.see ?_
      refine VA_take 7 (d := 38) rfl (by kernel_rfl) rfl (fun w g => run_indexAddr rfl Try.underlying28 ty37 rfl rfl (by omega) (by omega)) s.see ?_
      refine VA_take 8 (d := 39) rfl (by kernel_rfl) rfl (fun w g => run_fieldAddr rfl fo37_1 rfl) s.see ?_
      refine VA_take 9 (d := 40) rfl (by kernel_rfl) rfl (fun w g => see_at1 g rfl ty23 rfl (i := 0) rfl rfl) s.see ?_
      refine VA_one (i := 10) (by kernel_rfl) ?_
      refine VO_does (d := 41) rfl (does_call2 rfl (by kernel_rfl) rfl rfl (l11Same_ok _ _ (s.dat (i := 3) rfl) (s.dat (i := 1) rfl) (by omega) (by omega)) ?_) rfl rfl
      rintro _ w ⟨rfl, hb⟩
      replace s := s.step hb
      clear hb
      refine ⟨fun _ => s.sees (by intro b c t h; exact h) (by intro f h; exact h), ?_⟩
      refine VA_take 11 (d := 42) rfl (by kernel_rfl) rfl (fun w g => run_not rfl rfl) (by exact s.see) ?_
      refine VA_done (by kernel_rfl) ?_
      refine VS_cond rfl (fun c2 => ?_) (fun c2 => ?_) <;> (try simp only [decide_eq_true_eq, decide_eq_false_iff_not, Bool.not_eq_true', Bool.not_eq_false', ne_eq, Decidable.not_not, cond_true, cond_false, Bool.and_eq_true, Bool.or_eq_true, Bool.and_eq_false_iff, Bool.or_eq_false_iff, Bool.not_true, Bool.not_false, reduceCtorEq] at c2)
      · repeat (refine VS_seq ?_)
        refine VS_region_lit ?_
        refine VL_run (d := 4) (run_assign rfl (by conv => lhs; whnf)) rfl rfl ?_
        refine VL_nil ?_
        refine VS_ret ?_
        repeat (first | refine blockV_ret ?_ | refine backV_ret ?_)
        refine fin_one (fn := Try.f144) rfl (res_tmp (by conv => lhs; whnf)) ?_
        exact ⟨_, rfl, s.below⟩
      · repeat (first | refine VS_skip ?_ | refine VS_nil_block ?_)
        refine VS_region_lit ?_
        refine VL_run (d := 29) (run_move rfl (by conv => lhs; whnf)) rfl rfl ?_
        refine VL_run (d := 30) (run_add rfl rfl rfl (by omega)) rfl rfl ?_
        refine VL_run (d := 6) (run_assign rfl (by conv => lhs; whnf)) rfl rfl ?_
        refine VL_nil ?_
        refine VS_back (k + 1) ?_ (by repeat (first | exact Has.nil _ | refine Has.cons rfl ?_)) (by repeat (first | exact Out.mix _ _ _ | refine Out.upd rfl ?_ | refine Out.mix_in rfl ?_)) ?_
        · exact ⟨by omega, s.less (by (repeat (first | exact sub_nil | refine sub_cons (by (repeat (first | exact .head _ | refine .tail _ ?_))) ?_)))⟩
        · omega
    · refine VS_exit ?_
      repeat (first | refine blockV_hit ?_ | refine backV_exit ?_)
      repeat (refine VS_seq ?_)
      refine VS_region_lit ?_
      refine VL_run (d := 43) (run_move rfl (by conv => lhs; whnf)) rfl rfl ?_
      refine VL_run (d := 44) (run_lenSlice rfl ⟨_, Try.underlying74⟩ rfl) rfl rfl ?_
      refine VL_run (d := 45) (run_fieldAddr rfl fo30_1 rfl) rfl rfl ?_
      refine VL_run (d := 46) (run_load_own1 s rfl ty28 rfl (i := 1) rfl rfl) rfl rfl ?_
      refine VL_run (d := 47) (run_lenSlice rfl ⟨_, Try.underlying28⟩ rfl) rfl rfl ?_
      refine VL_run (d := 48) (run_eqI rfl rfl rfl) rfl rfl ?_
      refine VL_run (d := 4) (run_assign rfl (by conv => lhs; whnf)) rfl rfl ?_
      refine VL_nil ?_
      refine VS_ret ?_
      repeat (first | refine blockV_ret ?_ | refine backV_ret ?_ | refine backV2_ret ?_ | refine backV3_ret ?_ | refine thenV_ret ?_ | refine metV2_ret ?_)
      refine fin_one (fn := Try.f144) rfl (res_tmp (by conv => lhs; whnf)) ?_
      exact ⟨_, rfl, s.below⟩
end Go.Proofs.Ytkefaelmamgjiaa
