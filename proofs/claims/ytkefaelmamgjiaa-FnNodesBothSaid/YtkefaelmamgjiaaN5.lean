/- nodes (spec), as draws use them: l33Moved, NodesStart, NodesOk. -/
import Derived.Test.YtkefaelmamgjiaaN4
set_option linter.unusedVariables false
set_option linter.unusedSimpArgs false
set_option maxHeartbeats 4000000
namespace Go.Proofs.Ytkefaelmamgjiaa
open Go.RowKit

theorem put_mem {α : Type} {xs : List α} {x y : α} {k : Nat} (h : y ∈ xs.take k ++ [x] ++ xs.drop k) : y = x ∨ y ∈ xs := by
  simp only [List.mem_append, List.mem_singleton] at h
  rcases h with (h | h) | h
  · exact .inr (List.mem_of_mem_take h)
  · exact .inl h
  · exact .inr (List.mem_of_mem_drop h)
theorem namesWt_drop (p : List ByteArray) (k : Nat) : namesWt (p.drop k) ≤ namesWt p := by
  have := namesWt_app (p.take k) (p.drop k)
  rw [List.take_append_drop] at this
  omega
theorem l33Moved_ok (n : Nd) (fr to : List ByteArray) (B M : Nat) {ok : Nat → Prop} {w0 : World} {cs : List Value} {v1 v2 : Value} (h : Rd ok w0 n.toD cs) (h1 : Rd ok w0 (.sl (strsD fr)) [v1]) (h2 : Rd ok w0 (.sl (strsD to)) [v2]) (hn : NdB n B) (hf : namesWt fr ≤ 1000000000) (ht : namesWt to ≤ M) (hB : B + M ≤ 1000000000) :
    Calls Try.prog 145 #[.agg cs.toArray, v1, v2] w0 (Ret fun v w' => ∃ cc n', v = .agg (List.toArray cc) ∧ NdB n' (B + M) ∧ Rd (okR ok w0) w' n'.toD cc ∧ Below w0.heap.size w0 w') := by
  obtain ⟨A, c, rfl, hl, h3⟩ := Nd.opn h
  obtain ⟨A1, k1, e1, hl1⟩ := Rd_strs h1
  obtain ⟨A2, k2, e2, hl2⟩ := Rd_strs h2
  obtain rfl := List.singleton_inj.1 e1
  obtain rfl := List.singleton_inj.1 e2
  have hlen := hn.2.2.1
  have hfl := namesWt_len fr
  have htl := namesWt_len to
  have s := (((St.start ok w0).begin h2).begin h1).begin h3
  clear h
  refine calls_enter (n := 45) Try.func145 rfl rfl rfl ?_
  repeat (refine VS_seq ?_)
  refine VS_region_lit ?_
  refine VL_does (d := 3) (does_box s rfl rfl rfl ?_) rfl rfl
  clear s; intro b3 w s
  refine VL_does (d := 6) (does_alloc s rfl ty30 rfl ?_) rfl rfl
  clear s; intro b6 w s
  refine VL_nil ?_
  repeat (refine VS_seq ?_)
  refine VS_region_lit ?_
  refine VL_run (d := 10) (run_fieldAddr rfl fo30_0 rfl) rfl rfl ?_
  refine VL_run (d := 11) (run_load_own1 s rfl ty3 rfl (i := 1) rfl rfl) rfl rfl ?_
  refine VL_run (d := 12) (run_build (cs := [.int .i64 _, .slice none 0 0]) rfl ty30 st30 rfl) rfl rfl ?_
  refine VL_does (d := 7) (does_alloc s rfl ty30 rfl ?_) rfl rfl
  clear s; intro b7 w s
  (refine VL_doesU (does_store s rfl ty30 rfl rfl (i := 0) rfl rfl rfl (by (intro u hu; simp only [List.mem_cons, List.not_mem_nil, or_false] at hu; rcases hu with rfl | rfl | rfl | rfl | rfl <;> rfl)) rfl ?_) rfl rfl rfl)
  clear s; intro w s
  try simp only [List.set_cons_zero, List.set_cons_succ, patch, List.take_succ_cons, List.take_zero, List.drop_succ_cons, List.drop_zero, List.drop_nil, List.nil_append, List.cons_append, List.append_nil, List.length_cons, List.length_nil, Nat.reduceAdd, Nat.zero_add] at s
  refine VL_nil ?_
  repeat (refine VS_seq ?_)
  refine VS_region_lit ?_
  refine VL_run (d := 8) (run_assign rfl (by conv => lhs; whnf)) rfl rfl ?_
  refine VL_nil ?_
  repeat (refine VS_block ?_)
  refine VS_loop [8, 9, 13, 14, 15, 16, 17, 18, 19, 20, 21, 22, 23, 24, 25, 26, 27, 28, 29, 30, 31, 32, 33, 34, 35, 36, 37, 38, 39, 40, 41, 42, 43] (fun k : Nat => [(8, .int .i64 k)]) (fun k w => ∃ ys A7 c7, List.length ys = k ∧ (∀ y ∈ ys, namesWt (Prod.snd y) ≤ B + M) ∧ k ≤ n.list.length ∧ St ok w0 [.blk b7 [.int .i64 n.next, .slice A7 (List.length ys) c7] 30, .blk b6 nd0 30, .blk b3 [.int .i64 n.next, .slice A n.list.length c] 30] [.dat [.slice A7 (List.length ys) c7] (.sl (nodeDs ys)), .dat [.slice A n.list.length c] (.sl (nodeDs n.list)), .dat [.slice A1 fr.length k1] (.sl (strsD fr)), .dat [.slice A2 to.length k2] (.sl (strsD to))] w) (fun k => n.list.length - k) 0 ⟨[], none, 0, rfl, (fun y hy => (List.not_mem_nil hy).elim), by omega, s.know (f := .dat [.slice none 0 0] (.sl (nodeDs []))) ⟨none, 0, rfl, by simp, trivial⟩⟩ (by repeat (first | exact Has.nil _ | refine Has.cons rfl ?_)) ?_
  clear s
  rintro k w j ⟨ys, A7, c7, hys, hyb, hk, s⟩
  repeat (refine VS_seq ?_)
  refine VS_region_lit ?_
  refine VL_run (d := 13) (run_move rfl (by conv => lhs; whnf)) rfl rfl ?_
  refine VL_run (d := 14) (run_fieldAddr rfl fo30_1 rfl) rfl rfl ?_
  refine VL_run (d := 15) (run_load_own1 s rfl ty28 rfl (i := 2) rfl rfl) rfl rfl ?_
  refine VL_run (d := 16) (run_lenSlice rfl ⟨_, Try.underlying28⟩ rfl) rfl rfl ?_
  refine VL_run (d := 17) (run_ltI rfl rfl rfl) rfl rfl ?_
  refine VL_nil ?_
  refine VS_cond rfl (fun c0 => ?_) (fun c0 => ?_) <;> (try simp only [decide_eq_true_eq, decide_eq_false_iff_not, Bool.not_eq_true', Bool.not_eq_false', ne_eq, Decidable.not_not, cond_true, cond_false, Bool.and_eq_true, Bool.or_eq_true, Bool.and_eq_false_iff, Bool.or_eq_false_iff, Bool.not_true, Bool.not_false, reduceCtorEq] at c0)
  · repeat (first | refine VS_seq ?_ | refine VS_block ?_ | refine VS_skip ?_)
    have hk' : k < n.list.length := by omega
    have hp := hn.plen hk'
    have hpw := hn.path hk'
    obtain ⟨ad, A5, c5, rfl, hl5, s⟩ := s.openN (i := 1) rfl k hk'
    refine VS_region_lit ?_
    refine VL_run (d := 20) (run_fieldAddr rfl fo30_1 rfl) rfl rfl ?_
    refine VL_run (d := 21) (run_load_own1 s rfl ty28 rfl (i := 2) rfl rfl) rfl rfl ?_
    refine VL_run (d := 22) (run_move rfl (by conv => lhs; whnf)) rfl rfl ?_
    refine VL_run (d := 23) (run_indexAddr rfl Try.underlying28 ty37 rfl rfl (by omega) (by omega)) rfl rfl ?_
    refine VL_run (d := 24) (run_load_atA s rfl ty37 rfl (i := 0) rfl rfl) rfl rfl ?_
    refine VL_does (d := 9) (does_alloc s rfl ty37 rfl ?_) rfl rfl
    clear s; intro b9 w s
    (refine VL_doesU (does_store s rfl ty37 rfl rfl (i := 0) rfl rfl rfl (by (intro u hu; simp only [List.mem_cons, List.not_mem_nil, or_false] at hu; rcases hu with rfl | rfl | rfl | rfl | rfl <;> rfl)) rfl ?_) rfl rfl rfl)
    clear s; intro w s
    try simp only [List.set_cons_zero, List.set_cons_succ, patch, List.take_succ_cons, List.take_zero, List.drop_succ_cons, List.drop_zero, List.drop_nil, List.nil_append, List.cons_append, List.append_nil, List.length_cons, List.length_nil, Nat.reduceAdd, Nat.zero_add] at s
    refine VL_nil ?_
    repeat (refine VS_seq ?_)
    refine VS_region_lit ?_
    refine VL_run (d := 25) (run_fieldAddr rfl fo37_1 rfl) rfl rfl ?_
    refine VL_run (d := 26) (run_load_own1 s rfl ty23 rfl (i := 0) rfl rfl) rfl rfl ?_
    refine VL_run (d := 27) (run_move rfl (by conv => lhs; whnf)) rfl rfl ?_
    refine VL_does (d := 28) (does_call2 rfl (by kernel_rfl) rfl rfl (l2Within_ok _ fr (s.dat (i := 1) rfl) (s.dat (i := 4) rfl) (by omega) (by omega)) ?_) rfl rfl
    rintro _ w ⟨rfl, hb⟩
    replace s := s.step hb
    clear hb
    refine VL_nil ?_
    refine VS_join1 [29, 30, 31, 32, 33, 34, 35, 36, 37, 38] (fun _ : Unit => []) (fun _ w => ∃ q A8 c8, namesWt q ≤ B + M ∧ St ok w0 [.blk b9 [.int .i64 n.list[k].1, .slice A8 q.length c8] 37, .blk b7 [.int .i64 n.next, .slice A7 (List.length ys) c7] 30, .blk b6 nd0 30, .blk b3 [.int .i64 n.next, .slice (some ad) n.list.length c] 30] [.dat [.slice A8 q.length c8] (.sl (strsD q)), .dat [.slice A7 (List.length ys) c7] (.sl (nodeDs ys)), .dat [.slice (some ad) n.list.length c] (.sl (nodeDs n.list)), .dat [.slice A1 fr.length k1] (.sl (strsD fr)), .dat [.slice A2 to.length k2] (.sl (strsD to))] w) ?_ ?_
    · refine VS_cond rfl (fun c1 => ?_) (fun c1 => ?_) <;> (try simp only [decide_eq_true_eq, decide_eq_false_iff_not, Bool.not_eq_true', Bool.not_eq_false', ne_eq, Decidable.not_not, cond_true, cond_false, Bool.and_eq_true, Bool.or_eq_true, Bool.and_eq_false_iff, Bool.or_eq_false_iff, Bool.not_true, Bool.not_false, reduceCtorEq] at c1)
      · have hle := c1.length_le
        have hdw := namesWt_drop n.list[k].2 fr.length
        have s := s.partS (i := 1) rfl fr.length n.list[k].2.length (by omega) (by omega) (n.list[k].2.drop fr.length) (List.take_of_length_le (by simp))
        refine VS_drawS 9 s mixed ?_
        clear s; intro s
        refine VA_take 1 (d := 30) rfl (by kernel_rfl) rfl (fun w g => run_move rfl (by conv => lhs; whnf)) s.see ?_
        refine VA_take 3 (d := 32) rfl (by kernel_rfl) rfl (fun w g => run_fieldAddr rfl fo37_1 rfl) s.see ?_
        refine VA_take 4 (d := 33) rfl (by kernel_rfl) rfl (fun w g => see_own1 g rfl ty23 rfl (i := 0) rfl rfl) s.see ?_
        refine VA_take 5 (d := 34) rfl (by kernel_rfl) rfl (fun w g => run_move rfl (by conv => lhs; whnf)) s.see ?_
        refine VA_take 6 (d := 35) rfl (by kernel_rfl) rfl (fun w g => run_lenSlice rfl ⟨_, Try.underlying23⟩ rfl) s.see ?_
        refine VA_take 7 (d := 36) rfl (by kernel_rfl) rfl (fun w g => run_sliceSlL (l := fr.length) rfl Try.underlying23 ty9 rfl rfl (by omega) (by omega) (by omega)) s.see ?_
        refine VA_one (i := 0) (by kernel_rfl) ?_
        refine VO_does (d := 29) rfl (does_slice0 s rfl Try.underlying23 ty9 ?_) rfl rfl
        clear s; intro g29 w s
        refine ⟨fun _ => s.sees (by intro b c t h; exact .tail _ h) (by intro f h; exact h), ?_⟩
        refine VA_one (i := 2) (by kernel_rfl) ?_
        (refine VO_does (d := 31) rfl (does_appendD s rfl Try.underlying23 ty9 (by decide) (by decide) (i := 0) rfl rfl rfl (s.fa (.dat [.slice A2 to.length k2] (.sl (strsD to))) (by (repeat (first | exact .head _ | refine .tail _ ?_)))) (strsD_wd _) (by simp <;> omega) (by (simp only [List.nil_append]; exact rfl)) (show _ = to.length by simp) ?_) rfl rfl)
        clear s; intro A31 c31 w s
        try simp only [List.set_cons_zero, List.set_cons_succ, patch, List.take_succ_cons, List.take_zero, List.drop_succ_cons, List.drop_zero, List.drop_nil, List.nil_append, List.cons_append, List.append_nil, List.length_cons, List.length_nil, Nat.reduceAdd, Nat.zero_add] at s
        refine ⟨fun _ => s.sees (by intro b c t h; exact .tail _ h) (by intro f h; exact h), ?_⟩
        refine VA_one (i := 8) (by kernel_rfl) ?_
        (refine VO_does (d := 37) rfl (does_appendD s rfl Try.underlying23 ty9 (by decide) (by decide) (i := 0) rfl rfl rfl (s.fa (.dat [.slice (if c5 = fr.length then A5 else A5.map (·.add (fr.length * 1))) (n.list[k].2.length - fr.length) (c5 - fr.length)] (.sl (strsD (n.list[k].2.drop fr.length)))) (by (repeat (exact .head _)))) (strsD_wd _) (by simp <;> omega) (show _ = strsD (to ++ n.list[k].2.drop fr.length) by simp [strsD]) (show _ = (to ++ n.list[k].2.drop fr.length).length by simp) ?_) rfl rfl)
        clear s; intro A37 c37 w s
        try simp only [List.set_cons_zero, List.set_cons_succ, patch, List.take_succ_cons, List.take_zero, List.drop_succ_cons, List.drop_zero, List.drop_nil, List.nil_append, List.cons_append, List.append_nil, List.length_cons, List.length_nil, Nat.reduceAdd, Nat.zero_add] at s
        refine ⟨fun _ => s.sees (by intro b c t h; exact .tail _ h) (by intro f h; exact h), ?_⟩
        replace s := s.freeze (k := 0) rfl; simp only [List.eraseIdx_cons_zero] at s
        refine VA_one (i := 9) (by kernel_rfl) ?_
        refine VO_run (d := 38) rfl (run_fieldAddr rfl fo37_1 rfl) rfl rfl ((fun h => nomatch (show true = false from h))) ?_
        refine VA_one (i := 10) (by kernel_rfl) ?_
        (refine VO_doesU rfl (does_store s rfl ty23 rfl rfl (i := 0) rfl rfl rfl (by (intro u hu; simp only [List.mem_cons, List.not_mem_nil, or_false] at hu; subst hu; rfl)) rfl ?_) rfl rfl rfl)
        clear s; intro w s
        try simp only [List.set_cons_zero, List.set_cons_succ, patch, List.take_succ_cons, List.take_zero, List.drop_succ_cons, List.drop_zero, List.drop_nil, List.nil_append, List.cons_append, List.append_nil, List.length_cons, List.length_nil, Nat.reduceAdd, Nat.zero_add] at s
        refine ⟨(fun h => nomatch (show true = false from h)), ?_⟩
        refine VA_done (by kernel_rfl) ?_
        refine VS_met (()) ?_ (by repeat (exact Has.nil _)) (by repeat (first | exact Out.refl _ _ | refine Out.upd rfl ?_))
        first
          | exact ⟨to ++ n.list[k].2.drop fr.length, _, _, by rw [namesWt_app]; omega, s.less (by (repeat (first | exact sub_nil | refine sub_cons (by (repeat (first | exact .head _ | refine .tail _ ?_))) ?_)))⟩
          | exact ⟨n.list[k].2, A5, c5, by omega, s.less (by (repeat (first | exact sub_nil | refine sub_cons (by (repeat (first | exact .head _ | refine .tail _ ?_))) ?_)))⟩
      · repeat (refine VS_skip ?_)
        refine VS_met (()) ?_ (by repeat (exact Has.nil _)) (by repeat (exact Out.refl _ _))
        first
          | exact ⟨to ++ n.list[k].2.drop fr.length, _, _, by rw [namesWt_app]; omega, s.less (by (repeat (first | exact sub_nil | refine sub_cons (by (repeat (first | exact .head _ | refine .tail _ ?_))) ?_)))⟩
          | exact ⟨n.list[k].2, A5, c5, by omega, s.less (by (repeat (first | exact sub_nil | refine sub_cons (by (repeat (first | exact .head _ | refine .tail _ ?_))) ?_)))⟩
    clear s
    rintro _ w j ⟨q, A8, c8, hq, s⟩
    refine VS_region_lit ?_
    refine VL_run (d := 39) (run_fieldAddr rfl fo30_1 rfl) rfl rfl ?_
    refine VL_run (d := 40) (run_load_own1 s rfl ty28 rfl (i := 1) rfl rfl) rfl rfl ?_
    refine VL_run (d := 41) (run_load_ownA (cs := [_, _]) s rfl ty37 rfl (i := 0) rfl rfl rfl) rfl rfl ?_
    refine VL_does (d := 42) (does_call2 rfl (by kernel_rfl) rfl rfl (l33Put_ok ys (n.list[k].1, q) (s.dat (i := 1) rfl) (Rd_mk2 rfl (s.dat (i := 0) rfl)) (by omega) (fun y hy => Nat.le_trans (hyb y hy) hB) (Nat.le_trans hq hB)) ?_) rfl rfl
    rintro v42 w42 ⟨q2, hk2, hr, hb⟩
    replace s := s.ret hb hr; clear hb hr; obtain ⟨A9, c9, e9, -⟩ := Rd_sl1 (s.dat (i := 0) rfl); rw [nodeDs_length] at e9; obtain rfl := List.singleton_inj.1 e9
    refine VL_run (d := 43) (run_fieldAddr rfl fo30_1 rfl) rfl rfl ?_
    (refine VL_doesU (does_store s rfl ty28 rfl rfl (i := 1) rfl rfl rfl (by (intro u hu; simp only [List.mem_cons, List.not_mem_nil, or_false] at hu; subst hu; rfl)) rfl ?_) rfl rfl rfl)
    clear s; intro w s
    try simp only [List.set_cons_zero, List.set_cons_succ, patch, List.take_succ_cons, List.take_zero, List.drop_succ_cons, List.drop_zero, List.drop_nil, List.nil_append, List.cons_append, List.append_nil, List.length_cons, List.length_nil, Nat.reduceAdd, Nat.zero_add] at s
    refine VL_nil ?_
    repeat (refine VS_nil_block ?_)
    refine VS_region_lit ?_
    refine VL_run (d := 18) (run_move rfl (by conv => lhs; whnf)) rfl rfl ?_
    refine VL_run (d := 19) (run_add rfl rfl rfl (by omega)) rfl rfl ?_
    refine VL_run (d := 8) (run_assign rfl (by conv => lhs; whnf)) rfl rfl ?_
    refine VL_nil ?_
    refine VS_back (k + 1) ?_ (by repeat (first | exact Has.nil _ | refine Has.cons rfl ?_)) (by repeat (first | exact Out.mix _ _ _ | refine Out.upd rfl ?_ | refine Out.mix_in rfl ?_)) ?_
    · refine ⟨ys.take q2 ++ [(n.list[k].1, q)] ++ ys.drop q2, A9, c9, by simp; omega, fun y hy => ?_, by omega, (s.drop 0).less (by (repeat (first | exact sub_nil | refine sub_cons (by (repeat (first | exact .head _ | refine .tail _ ?_))) ?_)))⟩
      rcases put_mem hy with rfl | hy
      · exact hq
      · exact hyb y hy
    · omega
  · refine VS_exit ?_
    repeat (first | refine blockV_hit ?_ | refine backV_exit ?_)
    repeat (refine VS_seq ?_)
    refine VS_region_lit ?_
    refine VL_run (d := 44) (run_load_ownA (cs := [_, _]) s rfl ty30 rfl (i := 0) rfl rfl rfl) rfl rfl ?_
    (refine VL_doesU (does_store s rfl ty30 rfl rfl (i := 1) rfl rfl rfl (by (intro u hu; simp only [List.mem_cons, List.not_mem_nil, or_false] at hu; rcases hu with rfl | rfl | rfl | rfl | rfl <;> rfl)) rfl ?_) rfl rfl rfl)
    clear s; intro w s
    try simp only [List.set_cons_zero, List.set_cons_succ, patch, List.take_succ_cons, List.take_zero, List.drop_succ_cons, List.drop_zero, List.drop_nil, List.nil_append, List.cons_append, List.append_nil, List.length_cons, List.length_nil, Nat.reduceAdd, Nat.zero_add] at s
    refine VL_nil ?_
    refine VS_ret ?_
    repeat (first | refine blockV_ret ?_ | refine backV_ret ?_ | refine backV2_ret ?_ | refine backV3_ret ?_ | refine thenV_ret ?_ | refine metV2_ret ?_)
    refine fin_one (fn := Try.f145) rfl (res_ownA (cs := [_, _]) s ty30 rfl (i := 1) rfl rfl rfl) ?_
    exact ⟨_, ⟨n.next, ys⟩, rfl, ⟨hn.1, by have := hn.2.1; show n.next ≤ _; omega, by show ys.length ≤ _; omega, hyb⟩, s.tell (Rd_mk2 rfl (s.dat (i := 0) rfl)), s.below⟩
end Go.Proofs.Ytkefaelmamgjiaa
