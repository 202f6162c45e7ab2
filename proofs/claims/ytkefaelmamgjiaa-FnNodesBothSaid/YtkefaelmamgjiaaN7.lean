/- nodes (spec), as draws use them: NodesDo. -/
import Derived.Test.YtkefaelmamgjiaaN6
set_option linter.unusedVariables false
set_option linter.unusedSimpArgs false
set_option maxHeartbeats 4000000
namespace Go.Proofs.Ytkefaelmamgjiaa
open Go.RowKit

theorem NodesDo_ok (n : Nd) (t : Tr) (c : Cl) (B M : Nat) {ok : Nat → Prop} {w0 : World} {cs ct cc : List Value} (h : Rd ok w0 n.toD cs) (h2 : Rd ok w0 t.toD ct) (h5 : Rd ok w0 c.toD cc) (hn : NdB n B) (ht : t.Fit) (hc1 : namesWt c.path ≤ M) (hc2 : namesWt c.to ≤ M) (hc3 : c.data.size ≤ 1000000000) (hB : B + M + 2 ≤ 1000000000) :
    Calls Try.prog 130 #[.agg cs.toArray, .agg ct.toArray, .agg cc.toArray] w0 (Ret fun v w' => ∃ cr n' code, v = .tuple #[.agg (List.toArray cr), .int .i64 code] ∧ NdB n' (B + M + 2) ∧ Rd (okR ok w0) w' n'.toD cr ∧ Below w0.heap.size w0 w') := by
  obtain ⟨A, k0, rfl, hl, g3⟩ := Nd.opn h
  obtain ⟨A3, n3, A4, n4, rfl, hl3, hl4, h3, h4⟩ := Tr.opn h2
  obtain ⟨A1, k1, A2, k2, rfl, hl1, hl2, g1, g2⟩ := Cl.opn h5
  have s := (((((St.start ok w0).begin h2).begin h).begin g3).begin g2).begin g1
  have hn2 : NdB n 1000000000 := hn.mono (by omega)
  have hlen := hn.2.2.1
  have hcf : c.Fit := ⟨show namesWt c.path ≤ _ by omega, show namesWt c.to ≤ _ by omega, hc3⟩
  have hcl := namesWt_len c.path
  have hnx := hn.1
  have hnx2 := hn.2.1
  have hn3 : NdB n (B + M + 2) := hn.mono (by omega)
  clear h h2 h3 h4 g3 g1 g2 h5
  refine calls_enter (n := 104) Try.func130 rfl rfl rfl ?_
  repeat (refine VS_seq ?_)
  refine VS_region_lit ?_
  refine VL_does (d := 3) (does_box s rfl rfl rfl ?_) rfl rfl
  clear s; intro b3 w s
  refine VL_does (d := 4) (does_box s rfl rfl rfl ?_) rfl rfl
  clear s; intro b4 w s
  refine VL_does (d := 5) (does_box s rfl rfl rfl ?_) rfl rfl
  clear s; intro b5 w s
  refine VL_does (d := 6) (does_alloc s rfl ty30 rfl ?_) rfl rfl
  clear s; intro b6 w s
  refine VL_run (d := 7) (run_assign rfl (by conv => lhs; whnf)) rfl rfl ?_
  refine VL_nil ?_
  repeat (refine VS_seq ?_)
  refine VS_region_lit ?_
  refine VL_run (d := 13) (run_load_ownA (cs := [_, _]) s rfl ty30 rfl (i := 3) rfl rfl rfl) rfl rfl ?_
  refine VL_run (d := 14) (run_load_ownA (cs := [_, _, _, _, _]) s rfl ty26 rfl (i := 2) rfl rfl rfl) rfl rfl ?_
  refine VL_does (d := 15) (does_call2 rfl (by kernel_rfl) rfl rfl (NodesOk_ok n t (s.dat (i := 3) rfl) (s.dat (i := 4) rfl) hn2 ht) ?_) rfl rfl
  rintro v15 w15 ⟨bb, rfl, hb⟩
  replace s := s.step hb; clear hb
  refine VL_run (d := 16) (run_not rfl rfl) rfl rfl ?_
  refine VL_nil ?_
  refine VS_cond rfl (fun c0 => ?_) (fun c0 => ?_) <;> (try simp only [decide_eq_true_eq, decide_eq_false_iff_not, Bool.not_eq_true', Bool.not_eq_false', ne_eq, Decidable.not_not, cond_true, cond_false, Bool.and_eq_true, Bool.or_eq_true, Bool.and_eq_false_iff, Bool.or_eq_false_iff, Bool.not_true, Bool.not_false, reduceCtorEq] at c0)
  · repeat (refine VS_seq ?_)
    refine VS_region_lit ?_
    refine VL_run (d := 17) (run_build (cs := [.int .i64 0, .slice none 0 0]) rfl ty30 st30 rfl) rfl rfl ?_
    (refine VL_doesU (does_store s rfl ty30 rfl rfl (i := 0) rfl rfl rfl (by (intro u hu; simp only [List.mem_cons, List.not_mem_nil, or_false] at hu; rcases hu with rfl | rfl | rfl | rfl | rfl <;> rfl)) rfl ?_) rfl rfl rfl)
    clear s; intro w s
    try simp only [List.set_cons_zero, List.set_cons_succ, patch, List.take_succ_cons, List.take_zero, List.drop_succ_cons, List.drop_zero, List.drop_nil, List.nil_append, List.cons_append, List.append_nil, List.length_cons, List.length_nil, Nat.reduceAdd, Nat.zero_add] at s
    refine VL_run (d := 7) (run_assign rfl (by conv => lhs; whnf)) rfl rfl ?_
    refine VL_nil ?_
    refine VS_ret ?_
    repeat (first | refine blockV_ret ?_ | refine backV_ret ?_ | refine backV2_ret ?_ | refine backV3_ret ?_ | refine thenV_ret ?_ | refine metV2_ret ?_)
    (refine fin_two (fn := Try.f130) rfl (res_ownA (cs := [_, _]) s ty30 rfl (i := 0) rfl rfl rfl) (res_tmp (by conv => lhs; whnf)) ?_)
    exact ⟨_, ⟨0, []⟩, _, rfl, ⟨Int.le_refl _, (show (0 : Int) ≤ _ by omega), Nat.zero_le _, fun x hx => (List.not_mem_nil hx).elim⟩, s.tell (Rd_mk2 rfl ⟨none, 0, rfl, by simp, trivial⟩), s.below⟩
  · repeat (first | refine VS_seq ?_ | refine VS_skip ?_)
    refine VS_region_lit ?_
    refine VL_run (d := 19) (run_load_ownA (cs := [_, _, _, _, _]) s rfl ty26 rfl (i := 2) rfl rfl rfl) rfl rfl ?_
    refine VL_run (d := 20) (run_load_ownA (cs := [_, _, _, _, _]) s rfl ty70 rfl (i := 1) rfl rfl rfl) rfl rfl ?_
    refine VL_does (d := 21) (does_call2 rfl (by kernel_rfl) rfl rfl (TreeDo_ok t c (s.dat (i := 4) rfl) (Cl.shut (s.dat (i := 0) rfl) (s.dat (i := 1) rfl)) ht hcf) ?_) rfl rfl
    rintro v21 w21 ⟨cs', rfl, hr, hb⟩
    replace s := s.ret hb hr; clear hb hr
    obtain ⟨E3, e3, E4, e4, rfl, -, -, -, -⟩ := Tr.opn (s.dat (i := 0) rfl)
    refine VL_run (d := 18) (run_move rfl (by conv => lhs; whnf)) rfl rfl ?_
    refine VL_run (d := 22) (run_extract rfl rfl rfl) rfl rfl ?_
    refine VL_run (d := 23) (run_extract rfl rfl rfl) rfl rfl ?_
    refine VL_does (d := 8) (does_alloc s rfl ty26 rfl ?_) rfl rfl
    clear s; intro b8 w s
    (refine VL_doesU (does_store s rfl ty26 rfl rfl (i := 0) rfl rfl rfl (by (intro u hu; simp only [List.mem_cons, List.not_mem_nil, or_false] at hu; rcases hu with rfl | rfl | rfl | rfl | rfl <;> rfl)) rfl ?_) rfl rfl rfl)
    clear s; intro w s
    try simp only [List.set_cons_zero, List.set_cons_succ, patch, List.take_succ_cons, List.take_zero, List.drop_succ_cons, List.drop_zero, List.drop_nil, List.nil_append, List.cons_append, List.append_nil, List.length_cons, List.length_nil, Nat.reduceAdd, Nat.zero_add] at s
    refine VL_run (d := 9) (run_assign rfl (by conv => lhs; whnf)) rfl rfl ?_
    refine VL_nil ?_
    repeat (refine VS_seq ?_)
    refine VS_region_lit ?_
    refine VL_run (d := 24) (run_load_ownA (cs := [_, _]) s rfl ty30 rfl (i := 4) rfl rfl rfl) rfl rfl ?_
    refine VL_does (d := 25) (does_call1 rfl (by kernel_rfl) rfl (l33Copy_ok n (s.dat (i := 4) rfl) hn2) ?_) rfl rfl
    rintro v25 w25 ⟨u, rfl, hr, hb⟩
    (obtain ⟨A7, z7, e7⟩ := hr.form); rw [nodeDs_length] at e7; subst e7; replace s := (s.retRow hb hr).freeze (k := 0) rfl; simp only [List.eraseIdx_cons_zero] at s; clear hb hr
    refine VL_does (d := 10) (does_alloc s rfl ty30 rfl ?_) rfl rfl
    clear s; intro b10 w s
    (refine VL_doesU (does_store s rfl ty30 rfl rfl (i := 0) rfl rfl rfl (by (intro u hu; simp only [List.mem_cons, List.not_mem_nil, or_false] at hu; rcases hu with rfl | rfl | rfl | rfl | rfl <;> rfl)) rfl ?_) rfl rfl rfl)
    clear s; intro w s
    try simp only [List.set_cons_zero, List.set_cons_succ, patch, List.take_succ_cons, List.take_zero, List.drop_succ_cons, List.drop_zero, List.drop_nil, List.nil_append, List.cons_append, List.append_nil, List.length_cons, List.length_nil, Nat.reduceAdd, Nat.zero_add] at s
    refine VL_nil ?_
    repeat (refine VS_seq ?_)
    refine VS_region_lit ?_
    refine VL_run (d := 26) (run_move rfl (by conv => lhs; whnf)) rfl rfl ?_
    refine VL_run (d := 27) (run_neI rfl rfl rfl) rfl rfl ?_
    refine VL_nil ?_
    refine VS_cond rfl (fun c1 => ?_) (fun c1 => ?_) <;> (try simp only [decide_eq_true_eq, decide_eq_false_iff_not, Bool.not_eq_true', Bool.not_eq_false', ne_eq, Decidable.not_not, cond_true, cond_false, Bool.and_eq_true, Bool.or_eq_true, Bool.and_eq_false_iff, Bool.or_eq_false_iff, Bool.not_true, Bool.not_false, reduceCtorEq] at c1)
    · repeat (refine VS_seq ?_)
      refine VS_region_lit ?_
      refine VL_run (d := 28) (run_load_ownA (cs := [_, _]) s rfl ty30 rfl (i := 0) rfl rfl rfl) rfl rfl ?_
      refine VL_run (d := 29) (run_move rfl (by conv => lhs; whnf)) rfl rfl ?_
      (refine VL_doesU (does_store s rfl ty30 rfl rfl (i := 2) rfl rfl rfl (by (intro u hu; simp only [List.mem_cons, List.not_mem_nil, or_false] at hu; rcases hu with rfl | rfl | rfl | rfl | rfl <;> rfl)) rfl ?_) rfl rfl rfl)
      clear s; intro w s
      try simp only [List.set_cons_zero, List.set_cons_succ, patch, List.take_succ_cons, List.take_zero, List.drop_succ_cons, List.drop_zero, List.drop_nil, List.nil_append, List.cons_append, List.append_nil, List.length_cons, List.length_nil, Nat.reduceAdd, Nat.zero_add] at s
      refine VL_run (d := 7) (run_assign rfl (by conv => lhs; whnf)) rfl rfl ?_
      refine VL_nil ?_
      refine VS_ret ?_
      repeat (first | refine blockV_ret ?_ | refine backV_ret ?_ | refine backV2_ret ?_ | refine backV3_ret ?_ | refine thenV_ret ?_ | refine metV2_ret ?_)
      (refine fin_two (fn := Try.f130) rfl (res_ownA (cs := [_, _]) s ty30 rfl (i := 2) rfl rfl rfl) (res_tmp (by conv => lhs; whnf)) ?_)
      exact ⟨_, n, _, rfl, hn3, s.tell (Rd_mk2 rfl (s.dat (i := 0) rfl)), s.below⟩
    · repeat (first | refine VS_seq ?_ | refine VS_block ?_ | refine VS_skip ?_)
      refine VS_region_lit ?_
      refine VL_run (d := 31) (run_fieldAddr rfl fo70_0 rfl) rfl rfl ?_
      refine VL_run (d := 32) (run_load_own1 s rfl ty3 rfl (i := 3) rfl rfl) rfl rfl ?_
      refine VL_run (d := 33) (run_eqI rfl rfl rfl) rfl rfl ?_
      refine VL_run (d := 30) (run_assign rfl (by conv => lhs; whnf)) rfl rfl ?_
      refine VL_nil ?_
      refine VS_cond rfl (fun c2 => ?_) (fun c2 => ?_) <;> (try simp only [decide_eq_true_eq, decide_eq_false_iff_not, Bool.not_eq_true', Bool.not_eq_false', ne_eq, Decidable.not_not, cond_true, cond_false, Bool.and_eq_true, Bool.or_eq_true, Bool.and_eq_false_iff, Bool.or_eq_false_iff, Bool.not_true, Bool.not_false, reduceCtorEq] at c2)
      · repeat (refine VS_seq ?_)
        refine VS_region_lit ?_
        refine VL_run (d := 34) (run_load_ownA (cs := [_, _]) s rfl ty30 rfl (i := 0) rfl rfl rfl) rfl rfl ?_
        refine VL_run (d := 35) (run_fieldAddr rfl fo70_1 rfl) rfl rfl ?_
        refine VL_run (d := 36) (run_load_own1 s rfl ty23 rfl (i := 3) rfl rfl) rfl rfl ?_
        refine VL_run (d := 37) (run_fieldAddr rfl fo70_2 rfl) rfl rfl ?_
        refine VL_run (d := 38) (run_load_own1 s rfl ty23 rfl (i := 3) rfl rfl) rfl rfl ?_
        refine VL_does (d := 39) (does_call3 rfl (by kernel_rfl) rfl rfl rfl (l33Moved_ok n c.path c.to B M (Rd_mk2 rfl (s.dat (i := 0) rfl)) (s.dat (i := 2) rfl) (s.dat (i := 3) rfl) hn (by omega) hc2 (by omega)) ?_) rfl rfl
        rintro v39 w39 ⟨cr, n2, rfl, hnb, hr, hb⟩
        replace s := s.ret hb hr; clear hb hr
        refine VL_does (d := 40) (does_call1 rfl (by kernel_rfl) rfl (l33Copy_ok n2 (s.dat (i := 0) rfl) (hnb.mono (by omega))) ?_) rfl rfl
        rintro v40 w40 ⟨u, rfl, hr, hb⟩
        (obtain ⟨A8, c8, e8⟩ := hr.form); rw [nodeDs_length] at e8; subst e8; replace s := (s.retRow hb hr).freeze (k := 0) rfl; simp only [List.eraseIdx_cons_zero] at s; clear hb hr
        (refine VL_doesU (does_store s rfl ty30 rfl rfl (i := 2) rfl rfl rfl (by (intro u hu; simp only [List.mem_cons, List.not_mem_nil, or_false] at hu; rcases hu with rfl | rfl | rfl | rfl | rfl <;> rfl)) rfl ?_) rfl rfl rfl)
        clear s; intro w s
        try simp only [List.set_cons_zero, List.set_cons_succ, patch, List.take_succ_cons, List.take_zero, List.drop_succ_cons, List.drop_zero, List.drop_nil, List.nil_append, List.cons_append, List.append_nil, List.length_cons, List.length_nil, Nat.reduceAdd, Nat.zero_add] at s
        refine VL_run (d := 7) (run_assign rfl (by conv => lhs; whnf)) rfl rfl ?_
        refine VL_nil ?_
        refine VS_ret ?_
        repeat (refine blockV_ret ?_)
        (refine fin_two (fn := Try.f130) rfl (res_ownA (cs := [_, _]) s ty30 rfl (i := 2) rfl rfl rfl) (res_tmp (by conv => lhs; whnf)) ?_)
        exact ⟨_, n2, _, rfl, hnb.mono (by omega), s.tell (Rd_mk2 rfl (s.dat (i := 0) rfl)), s.below⟩
      · repeat (refine VS_seq ?_)
        refine VS_region_lit ?_
        refine VL_run (d := 42) (run_fieldAddr rfl fo70_0 rfl) rfl rfl ?_
        refine VL_run (d := 43) (run_load_own1 s rfl ty3 rfl (i := 3) rfl rfl) rfl rfl ?_
        refine VL_run (d := 44) (run_eqI rfl rfl rfl) rfl rfl ?_
        refine VL_run (d := 41) (run_assign rfl (by conv => lhs; whnf)) rfl rfl ?_
        refine VL_nil ?_
        refine VS_cond rfl (fun c3 => ?_) (fun c3 => ?_) <;> (try simp only [decide_eq_true_eq, decide_eq_false_iff_not, Bool.not_eq_true', Bool.not_eq_false', ne_eq, Decidable.not_not, cond_true, cond_false, Bool.and_eq_true, Bool.or_eq_true, Bool.and_eq_false_iff, Bool.or_eq_false_iff, Bool.not_true, Bool.not_false, reduceCtorEq] at c3)
        · repeat (refine VS_seq ?_)
          refine VS_region_lit ?_
          refine VL_run (d := 45) (run_fieldAddr rfl fo30_0 rfl) rfl rfl ?_
          refine VL_run (d := 46) (run_load_own1 s rfl ty3 rfl (i := 0) rfl rfl) rfl rfl ?_
          refine VL_run (d := 47) (run_build (cs := [.int .i64 _, .slice none 0 0]) rfl ty30 st30 rfl) rfl rfl ?_
          refine VL_does (d := 11) (does_alloc s rfl ty30 rfl ?_) rfl rfl
          clear s; intro b11 w s
          (refine VL_doesU (does_store s rfl ty30 rfl rfl (i := 0) rfl rfl rfl (by (intro u hu; simp only [List.mem_cons, List.not_mem_nil, or_false] at hu; rcases hu with rfl | rfl | rfl | rfl | rfl <;> rfl)) rfl ?_) rfl rfl rfl)
          clear s; intro w s
          try simp only [List.set_cons_zero, List.set_cons_succ, patch, List.take_succ_cons, List.take_zero, List.drop_succ_cons, List.drop_zero, List.drop_nil, List.nil_append, List.cons_append, List.append_nil, List.length_cons, List.length_nil, Nat.reduceAdd, Nat.zero_add] at s
          refine VL_nil ?_
          have s := s.nilrow 37 2
          repeat (refine VS_seq ?_)
          refine VS_region_lit ?_
          refine VL_run (d := 12) (run_assign rfl (by conv => lhs; whnf)) rfl rfl ?_
          refine VL_nil ?_
          repeat (refine VS_block ?_)
          refine VS_loop [12, 48, 49, 50, 51, 52, 53, 54, 55, 56, 57, 58, 59, 60, 61, 62, 63, 64, 65, 66, 67, 68, 69, 70, 71, 72, 73, 74] (fun k : Nat => [(12, .int .i64 k)]) (fun k w => ∃ (ys : List (Int × List ByteArray)), ∃ A6 m6 c6, ys.length ≤ k ∧ (∀ y ∈ ys, y ∈ n.list) ∧ k ≤ n.list.length ∧ St ok w0 [.row (.slice A6 m6 c6) 37 2 (nodeDs ys), .blk b11 [.int .i64 n.next, .slice A6 m6 c6] 30, .blk b10 [.int .i64 n.next, .slice A7 n.list.length z7] 30, .blk b6 nd0 30, .blk b5 (clC c A1 k1 A2 k2) 70] [.dat [.slice A7 n.list.length z7] (.sl (nodeDs n.list)), .dat [.slice A1 c.path.length k1] (.sl (strsD c.path))] w) (fun k => n.list.length - k) 0 ⟨[], none, 0, 0, Nat.le_refl _, (fun y hy => (List.not_mem_nil hy).elim), by omega, (((s.drop 7).drop 6).drop 3).less (by (repeat (first | exact sub_nil | refine sub_cons (by (repeat (first | exact .head _ | refine .tail _ ?_))) ?_)))⟩ (by repeat (first | exact Has.nil _ | refine Has.cons rfl ?_)) ?_
          clear s
          rintro k w j ⟨ys, A6, m6, c6, hys, hyb, hk, s⟩
          repeat (refine VS_seq ?_)
          refine VS_region_lit ?_
          refine VL_run (d := 48) (run_move rfl (by conv => lhs; whnf)) rfl rfl ?_
          refine VL_run (d := 49) (run_fieldAddr rfl fo30_1 rfl) rfl rfl ?_
          refine VL_run (d := 50) (run_load_own1 s rfl ty28 rfl (i := 2) rfl rfl) rfl rfl ?_
          refine VL_run (d := 51) (run_lenSlice rfl ⟨_, Try.underlying28⟩ rfl) rfl rfl ?_
          refine VL_run (d := 52) (run_ltI rfl rfl rfl) rfl rfl ?_
          refine VL_nil ?_
          refine VS_cond rfl (fun c4 => ?_) (fun c4 => ?_) <;> (try simp only [decide_eq_true_eq, decide_eq_false_iff_not, Bool.not_eq_true', Bool.not_eq_false', ne_eq, Decidable.not_not, cond_true, cond_false, Bool.and_eq_true, Bool.or_eq_true, Bool.and_eq_false_iff, Bool.or_eq_false_iff, Bool.not_true, Bool.not_false, reduceCtorEq] at c4)
          · repeat (first | refine VS_seq ?_ | refine VS_block ?_ | refine VS_skip ?_)
            have hk' : k < n.list.length := by omega
            have hp := hn.plen hk'
            obtain ⟨ad, A5, c5, rfl, -, s⟩ := s.openN (i := 0) rfl k hk'
            refine VS_drawS 10 s mixed ?_
            clear s; intro s
            refine VA_take 0 (d := 55) rfl (by kernel_rfl) rfl (fun w g => run_fieldAddr rfl fo30_1 rfl) s.see ?_
            refine VA_take 1 (d := 56) rfl (by kernel_rfl) rfl (fun w g => see_own1 g rfl ty28 rfl (i := 2) rfl rfl) s.see ?_
            refine VA_take 2 (d := 57) rfl (by kernel_rfl) rfl (fun w g => run_move rfl (by conv => lhs; whnf)) s.see ?_
            refine VA_take 3 (d := 58) rfl (by kernel_rfl) rfl (fun w g => run_indexAddr rfl Try.underlying28 ty37 rfl rfl (by omega) (by omega)) s.see ?_
            refine VA_take 4 (d := 59) rfl (by kernel_rfl) rfl (fun w g => run_fieldAddr rfl fo37_1 rfl) s.see ?_
            refine VA_take 5 (d := 60) rfl (by kernel_rfl) rfl (fun w g => see_at1 g rfl ty23 rfl (i := 0) rfl rfl) s.see ?_
            refine VA_take 6 (d := 61) rfl (by kernel_rfl) rfl (fun w g => run_fieldAddr rfl fo70_1 rfl) s.see ?_
            refine VA_take 7 (d := 62) rfl (by kernel_rfl) rfl (fun w g => see_own1 g rfl ty23 rfl (i := 4) rfl rfl) s.see ?_
            refine VA_one (i := 8) (by kernel_rfl) ?_
            refine VO_does (d := 63) rfl (does_call2 rfl (by kernel_rfl) rfl rfl (l11Same_ok _ c.path (s.dat (i := 1) rfl) (s.dat (i := 3) rfl) (by omega) (by omega)) ?_) rfl rfl
            rintro _ w ⟨rfl, hb⟩
            replace s := s.step hb
            clear hb
            refine ⟨fun _ => s.sees (by intro b c t h; exact h) (by intro f h; exact h), ?_⟩
            refine VA_take 9 (d := 64) rfl (by kernel_rfl) rfl (fun w g => run_not rfl rfl) (by exact s.see) ?_
            refine VA_done (by kernel_rfl) ?_
            refine VS_cond rfl (fun c5 => ?_) (fun c5 => ?_) <;> (try simp only [decide_eq_true_eq, decide_eq_false_iff_not, Bool.not_eq_true', Bool.not_eq_false', ne_eq, Decidable.not_not, cond_true, cond_false, Bool.and_eq_true, Bool.or_eq_true, Bool.and_eq_false_iff, Bool.or_eq_false_iff, Bool.not_true, Bool.not_false, reduceCtorEq] at c5)
            · refine VS_drawS 9 s mixed ?_
              clear s; intro s
              refine VA_take 0 (d := 65) rfl (by kernel_rfl) rfl (fun w g => run_fieldAddr rfl fo30_1 rfl) s.see ?_
              refine VA_take 1 (d := 66) rfl (by kernel_rfl) rfl (fun w g => see_own1 g rfl ty28 rfl (i := 1) rfl rfl) s.see ?_
              refine VA_take 2 (d := 67) rfl (by kernel_rfl) rfl (fun w g => run_fieldAddr rfl fo30_1 rfl) s.see ?_
              refine VA_take 3 (d := 68) rfl (by kernel_rfl) rfl (fun w g => see_own1 g rfl ty28 rfl (i := 2) rfl rfl) s.see ?_
              refine VA_take 4 (d := 69) rfl (by kernel_rfl) rfl (fun w g => run_move rfl (by conv => lhs; whnf)) s.see ?_
              refine VA_take 5 (d := 70) rfl (by kernel_rfl) rfl (fun w g => run_indexAddr rfl Try.underlying28 ty37 rfl rfl (by omega) (by omega)) s.see ?_
              refine VA_take 6 (d := 71) rfl (by kernel_rfl) rfl (fun w g => see_atA g rfl ty37 rfl (i := 0) rfl rfl) s.see ?_
              refine VA_one (i := 7) (by kernel_rfl) ?_
              refine VO_does (d := 72) rfl (does_slice1 s rfl Try.underlying28 ty37 (by decide) (by decide) rfl rfl (show Rd _ _ (nodeD n.list[k]) _ from Rd_mk2 rfl (s.dat (i := 1) rfl)) rfl ?_) rfl rfl
              clear s; intro g72 w s
              refine ⟨fun _ => s.sees (by intro b c t h; exact .tail _ h) (by intro f h; exact h), ?_⟩
              refine VA_one (i := 8) (by kernel_rfl) ?_
              (refine VO_does (d := 73) rfl (does_appendR s rfl Try.underlying28 ty37 (by decide) (by decide) (i := 0) rfl rfl rfl (by simp <;> omega) (nodeDs_snoc _ _) (show _ = ys.length + 1 by simp) ?_) rfl rfl)
              clear s; intro A73 c73 w s
              try simp only [List.set_cons_zero, List.set_cons_succ, patch, List.take_succ_cons, List.take_zero, List.drop_succ_cons, List.drop_zero, List.drop_nil, List.nil_append, List.cons_append, List.append_nil, List.length_cons, List.length_nil, Nat.reduceAdd, Nat.zero_add] at s
              refine ⟨fun _ => s.sees (by intro b c t h; first | exact h | exact .tail _ h | exact .tail _ (.tail _ h) | exact .tail _ (.tail _ (.tail _ h)) | (simp only [List.mem_cons, List.not_mem_nil, or_false, List.set_cons_zero, List.set_cons_succ, reduceCtorEq, false_or] at h ⊢ <;> exact h)) (by intro f h; exact h), ?_⟩
              refine VA_one (i := 9) (by kernel_rfl) ?_
              refine VO_run (d := 74) rfl (run_fieldAddr rfl fo30_1 rfl) rfl rfl ((fun h => nomatch (show true = false from h))) ?_
              refine VA_one (i := 10) (by kernel_rfl) ?_
              (refine VO_doesU rfl (does_store s rfl ty28 rfl rfl (i := 1) rfl rfl rfl (by (intro u hu; simp only [List.mem_cons, List.not_mem_nil, or_false] at hu; subst hu; rfl)) rfl ?_) rfl rfl rfl)
              clear s; intro w s
              try simp only [List.set_cons_zero, List.set_cons_succ, patch, List.take_succ_cons, List.take_zero, List.drop_succ_cons, List.drop_zero, List.drop_nil, List.nil_append, List.cons_append, List.append_nil, List.length_cons, List.length_nil, Nat.reduceAdd, Nat.zero_add] at s
              refine ⟨(fun h => nomatch (show true = false from h)), ?_⟩
              refine VA_done (by kernel_rfl) ?_
              repeat (refine VS_nil_block ?_)
              refine VS_region_lit ?_
              refine VL_run (d := 53) (run_move rfl (by conv => lhs; whnf)) rfl rfl ?_
              refine VL_run (d := 54) (run_add rfl rfl rfl (by omega)) rfl rfl ?_
              refine VL_run (d := 12) (run_assign rfl (by conv => lhs; whnf)) rfl rfl ?_
              refine VL_nil ?_
              refine VS_back (k + 1) ?_ (by repeat (first | exact Has.nil _ | refine Has.cons rfl ?_)) (by repeat (first | exact Out.mix _ _ _ | refine Out.upd rfl ?_)) ?_
              · first
                  | exact ⟨ys, A6, m6, c6, by omega, hyb, by omega, s.less (by (repeat (first | exact sub_nil | refine sub_cons (by (repeat (first | exact .head _ | refine .tail _ ?_))) ?_)))⟩
                  | exact ⟨ys ++ [n.list[k]], _, _, _, by simp; omega, fun y hy => by
                      rcases List.mem_append.1 hy with hy | hy
                      · exact hyb y hy
                      · obtain rfl := List.mem_singleton.1 hy
                        exact List.getElem_mem hk', by omega, s.less (by (repeat (first | exact sub_nil | refine sub_cons (by (repeat (first | exact .head _ | refine .tail _ ?_))) ?_)))⟩
              · omega
            · repeat (first | refine VS_skip ?_ | refine VS_nil_block ?_)
              refine VS_region_lit ?_
              refine VL_run (d := 53) (run_move rfl (by conv => lhs; whnf)) rfl rfl ?_
              refine VL_run (d := 54) (run_add rfl rfl rfl (by omega)) rfl rfl ?_
              refine VL_run (d := 12) (run_assign rfl (by conv => lhs; whnf)) rfl rfl ?_
              refine VL_nil ?_
              refine VS_back (k + 1) ?_ (by repeat (first | exact Has.nil _ | refine Has.cons rfl ?_)) (by repeat (first | exact Out.mix _ _ _ | refine Out.upd rfl ?_)) ?_
              · first
                  | exact ⟨ys, A6, m6, c6, by omega, hyb, by omega, s.less (by (repeat (first | exact sub_nil | refine sub_cons (by (repeat (first | exact .head _ | refine .tail _ ?_))) ?_)))⟩
                  | exact ⟨ys ++ [n.list[k]], _, _, _, by simp; omega, fun y hy => by
                      rcases List.mem_append.1 hy with hy | hy
                      · exact hyb y hy
                      · obtain rfl := List.mem_singleton.1 hy
                        exact List.getElem_mem hk', by omega, s.less (by (repeat (first | exact sub_nil | refine sub_cons (by (repeat (first | exact .head _ | refine .tail _ ?_))) ?_)))⟩
              · omega
          · refine VS_exit ?_
            repeat (first | refine blockV_hit ?_ | refine backV_exit ?_)
            repeat (refine VS_seq ?_)
            refine VS_region_lit ?_
            refine VL_run (d := 75) (run_load_ownA (cs := [_, _]) s rfl ty30 rfl (i := 1) rfl rfl rfl) rfl rfl ?_
            (refine VL_doesU (does_store s rfl ty30 rfl rfl (i := 3) rfl rfl rfl (by (intro u hu; simp only [List.mem_cons, List.not_mem_nil, or_false] at hu; rcases hu with rfl | rfl | rfl | rfl | rfl <;> rfl)) rfl ?_) rfl rfl rfl)
            clear s; intro w s
            try simp only [List.set_cons_zero, List.set_cons_succ, patch, List.take_succ_cons, List.take_zero, List.drop_succ_cons, List.drop_zero, List.drop_nil, List.nil_append, List.cons_append, List.append_nil, List.length_cons, List.length_nil, Nat.reduceAdd, Nat.zero_add] at s
            refine VL_run (d := 7) (run_assign rfl (by conv => lhs; whnf)) rfl rfl ?_
            refine VL_nil ?_
            refine VS_ret ?_
            repeat (refine blockV_ret ?_)
            (refine fin_two (fn := Try.f130) rfl (res_ownA (cs := [_, _]) s ty30 rfl (i := 3) rfl rfl rfl) (res_tmp (by conv => lhs; whnf)) ?_)
            have s := s.freeze (k := 0) rfl
            exact ⟨_, ⟨n.next, ys⟩, _, rfl, ⟨hnx, (show n.next ≤ _ by omega), (show ys.length ≤ _ by omega), fun y hy => Nat.le_trans (hn.2.2.2 y (hyb y hy)) (by omega)⟩, s.tell (Rd_mk2 rfl (s.dat (i := 0) rfl)), s.below⟩
        · repeat (refine VS_seq ?_)
          refine VS_region_lit ?_
          refine VL_run (d := 77) (run_load_ownA (cs := [_, _]) s rfl ty30 rfl (i := 0) rfl rfl rfl) rfl rfl ?_
          refine VL_run (d := 78) (run_fieldAddr rfl fo70_1 rfl) rfl rfl ?_
          refine VL_run (d := 79) (run_load_own1 s rfl ty23 rfl (i := 3) rfl rfl) rfl rfl ?_
          refine VL_does (d := 80) (does_call2 rfl (by kernel_rfl) rfl rfl (l33Id_ok n c.path (Rd_mk2 rfl (s.dat (i := 0) rfl)) (s.dat (i := 2) rfl) hn2 (by omega)) ?_) rfl rfl
          rintro _ w ⟨rfl, hb⟩
          replace s := s.step hb
          clear hb
          refine VL_run (d := 81) (run_gtI rfl rfl rfl) rfl rfl ?_
          refine VL_run (d := 76) (run_assign rfl (by conv => lhs; whnf)) rfl rfl ?_
          refine VL_nil ?_
          refine VS_cond rfl (fun c6 => ?_) (fun c6 => ?_) <;> (try simp only [decide_eq_true_eq, decide_eq_false_iff_not, Bool.not_eq_true', Bool.not_eq_false', ne_eq, Decidable.not_not, cond_true, cond_false, Bool.and_eq_true, Bool.or_eq_true, Bool.and_eq_false_iff, Bool.or_eq_false_iff, Bool.not_true, Bool.not_false, reduceCtorEq] at c6)
          · repeat (refine VS_seq ?_)
            refine VS_region_lit ?_
            refine VL_run (d := 82) (run_load_ownA (cs := [_, _]) s rfl ty30 rfl (i := 0) rfl rfl rfl) rfl rfl ?_
            (refine VL_doesU (does_store s rfl ty30 rfl rfl (i := 2) rfl rfl rfl (by (intro u hu; simp only [List.mem_cons, List.not_mem_nil, or_false] at hu; rcases hu with rfl | rfl | rfl | rfl | rfl <;> rfl)) rfl ?_) rfl rfl rfl)
            clear s; intro w s
            try simp only [List.set_cons_zero, List.set_cons_succ, patch, List.take_succ_cons, List.take_zero, List.drop_succ_cons, List.drop_zero, List.drop_nil, List.nil_append, List.cons_append, List.append_nil, List.length_cons, List.length_nil, Nat.reduceAdd, Nat.zero_add] at s
            refine VL_run (d := 7) (run_assign rfl (by conv => lhs; whnf)) rfl rfl ?_
            refine VL_nil ?_
            refine VS_ret ?_
            repeat (refine blockV_ret ?_)
            (refine fin_two (fn := Try.f130) rfl (res_ownA (cs := [_, _]) s ty30 rfl (i := 2) rfl rfl rfl) (res_tmp (by conv => lhs; whnf)) ?_)
            exact ⟨_, n, _, rfl, hn3, s.tell (Rd_mk2 rfl (s.dat (i := 0) rfl)), s.below⟩
          · repeat (refine VS_seq ?_)
            refine VS_region_lit ?_
            refine VL_run (d := 84) (run_fieldAddr rfl fo30_0 rfl) rfl rfl ?_
            refine VL_run (d := 85) (run_load_own1 s rfl ty3 rfl (i := 0) rfl rfl) rfl rfl ?_
            refine VL_run (d := 86) (run_gtI rfl rfl rfl) rfl rfl ?_
            refine VL_run (d := 83) (run_assign rfl (by conv => lhs; whnf)) rfl rfl ?_
            refine VL_nil ?_
            refine VS_cond rfl (fun c7 => ?_) (fun c7 => ?_) <;> (try simp only [decide_eq_true_eq, decide_eq_false_iff_not, Bool.not_eq_true', Bool.not_eq_false', ne_eq, Decidable.not_not, cond_true, cond_false, Bool.and_eq_true, Bool.or_eq_true, Bool.and_eq_false_iff, Bool.or_eq_false_iff, Bool.not_true, Bool.not_false, reduceCtorEq] at c7)
            · repeat (refine VS_seq ?_)
              refine VS_region_lit ?_
              refine VL_run (d := 87) (run_load_ownA (cs := [_, _]) s rfl ty30 rfl (i := 0) rfl rfl rfl) rfl rfl ?_
              (refine VL_doesU (does_store s rfl ty30 rfl rfl (i := 2) rfl rfl rfl (by (intro u hu; simp only [List.mem_cons, List.not_mem_nil, or_false] at hu; rcases hu with rfl | rfl | rfl | rfl | rfl <;> rfl)) rfl ?_) rfl rfl rfl)
              clear s; intro w s
              try simp only [List.set_cons_zero, List.set_cons_succ, patch, List.take_succ_cons, List.take_zero, List.drop_succ_cons, List.drop_zero, List.drop_nil, List.nil_append, List.cons_append, List.append_nil, List.length_cons, List.length_nil, Nat.reduceAdd, Nat.zero_add] at s
              refine VL_run (d := 7) (run_assign rfl (by conv => lhs; whnf)) rfl rfl ?_
              refine VL_nil ?_
              refine VS_ret ?_
              repeat (refine blockV_ret ?_)
              (refine fin_two (fn := Try.f130) rfl (res_ownA (cs := [_, _]) s ty30 rfl (i := 2) rfl rfl rfl) (res_tmp (by conv => lhs; whnf)) ?_)
              exact ⟨_, n, _, rfl, hn3, s.tell (Rd_mk2 rfl (s.dat (i := 0) rfl)), s.below⟩
            · repeat (first | refine VS_seq ?_ | refine VS_skip ?_)
              refine VS_drawS 10 s mixed ?_
              clear s; intro s
              refine VA_take 0 (d := 88) rfl (by kernel_rfl) rfl (fun w g => run_fieldAddr rfl fo30_1 rfl) s.see ?_
              refine VA_take 1 (d := 89) rfl (by kernel_rfl) rfl (fun w g => see_own1 g rfl ty28 rfl (i := 0) rfl rfl) s.see ?_
              refine VA_take 2 (d := 90) rfl (by kernel_rfl) rfl (fun w g => run_fieldAddr rfl fo30_0 rfl) s.see ?_
              refine VA_take 3 (d := 91) rfl (by kernel_rfl) rfl (fun w g => see_own1 g rfl ty3 rfl (i := 0) rfl rfl) s.see ?_
              refine VA_take 5 (d := 93) rfl (by kernel_rfl) rfl (fun w g => run_fieldAddr rfl fo70_1 rfl) s.see ?_
              refine VA_take 6 (d := 94) rfl (by kernel_rfl) rfl (fun w g => see_own1 g rfl ty23 rfl (i := 3) rfl rfl) s.see ?_
              refine VA_one (i := 4) (by kernel_rfl) ?_
              refine VO_does (d := 92) rfl (does_slice0 s rfl Try.underlying23 ty9 ?_) rfl rfl
              clear s; intro g92 w s
              refine ⟨fun _ => s.sees (by intro b c t h; exact .tail _ h) (by intro f h; exact h), ?_⟩
              refine VA_one (i := 7) (by kernel_rfl) ?_
              (refine VO_does (d := 95) rfl (does_appendD s rfl Try.underlying23 ty9 (by decide) (by decide) (i := 0) rfl rfl rfl (s.fa (.dat [.slice A1 c.path.length k1] (.sl (strsD c.path))) (by (repeat (first | exact .head _ | refine .tail _ ?_)))) (strsD_wd _) (by simp <;> omega) (by (simp only [List.nil_append]; exact rfl)) (show _ = c.path.length by simp) ?_) rfl rfl)
              clear s; intro A95 c95 w s
              try simp only [List.set_cons_zero, List.set_cons_succ, patch, List.take_succ_cons, List.take_zero, List.drop_succ_cons, List.drop_zero, List.drop_nil, List.nil_append, List.cons_append, List.append_nil, List.length_cons, List.length_nil, Nat.reduceAdd, Nat.zero_add] at s
              refine ⟨fun _ => s.sees (by intro b c t h; exact .tail _ h) (by intro f h; exact h), ?_⟩
              replace s := s.freeze (k := 0) rfl; simp only [List.eraseIdx_cons_zero] at s
              refine VA_take 8 (d := 96) rfl (by kernel_rfl) rfl (fun w g => run_build (cs := [.int .i64 _, .slice _ _ _]) rfl ty37 st37 rfl) (by (exact s.sees (by intro b c t h; exact h) (by intro f h; exact .tail _ h))) ?_
              refine VA_one (i := 9) (by kernel_rfl) ?_
              refine VO_does (d := 97) rfl (does_call2 rfl (by kernel_rfl) rfl rfl (l33Put_ok n.list (n.next, c.path) (s.fa (.dat [.slice A7 n.list.length z7] (.sl (nodeDs n.list))) (by (repeat (first | exact .head _ | refine .tail _ ?_)))) (Rd_mk2 rfl (s.dat (i := 0) rfl)) hn2.2.2.1 hn2.2.2.2 (show namesWt c.path ≤ _ by omega)) ?_) rfl rfl
              rintro v97 w97 ⟨q2, hk2, hr, hb⟩
              replace s := s.ret hb hr; clear hb hr; obtain ⟨A9, c9, e9, -⟩ := Rd_sl1 (s.dat (i := 0) rfl); rw [nodeDs_length] at e9; obtain rfl := List.singleton_inj.1 e9
              refine ⟨fun _ => s.sees (by intro b c t h; exact h) (by intro f h; exact .tail _ (.tail _ h)), ?_⟩
              refine VA_one (i := 10) (by kernel_rfl) ?_
              refine VO_run (d := 98) rfl (run_fieldAddr rfl fo30_1 rfl) rfl rfl ((fun h => nomatch (show true = false from h))) ?_
              refine VA_one (i := 11) (by kernel_rfl) ?_
              (refine VO_doesU rfl (does_store s rfl ty28 rfl rfl (i := 0) rfl rfl rfl (by (intro u hu; simp only [List.mem_cons, List.not_mem_nil, or_false] at hu; subst hu; rfl)) rfl ?_) rfl rfl rfl)
              clear s; intro w s
              try simp only [List.set_cons_zero, List.set_cons_succ, patch, List.take_succ_cons, List.take_zero, List.drop_succ_cons, List.drop_zero, List.drop_nil, List.nil_append, List.cons_append, List.append_nil, List.length_cons, List.length_nil, Nat.reduceAdd, Nat.zero_add] at s
              refine ⟨(fun h => nomatch (show true = false from h)), ?_⟩
              refine VA_done (by kernel_rfl) ?_
              repeat (refine VS_seq ?_)
              refine VS_region_lit ?_
              refine VL_run (d := 99) (run_fieldAddr rfl fo30_0 rfl) rfl rfl ?_
              refine VL_run (d := 100) (run_load_own1 s rfl ty3 rfl (i := 0) rfl rfl) rfl rfl ?_
              refine VL_run (d := 101) (run_add rfl rfl rfl (by omega)) rfl rfl ?_
              refine VL_run (d := 102) (run_fieldAddr rfl fo30_0 rfl) rfl rfl ?_
              (refine VL_doesU (does_store s rfl ty3 rfl rfl (i := 0) rfl rfl rfl (by (intro u hu; simp only [List.mem_cons, List.not_mem_nil, or_false] at hu; subst hu; rfl)) rfl ?_) rfl rfl rfl)
              clear s; intro w s
              try simp only [List.set_cons_zero, List.set_cons_succ, patch, List.take_succ_cons, List.take_zero, List.drop_succ_cons, List.drop_zero, List.drop_nil, List.nil_append, List.cons_append, List.append_nil, List.length_cons, List.length_nil, Nat.reduceAdd, Nat.zero_add] at s
              refine VL_nil ?_
              repeat (refine VS_seq ?_)
              refine VS_region_lit ?_
              refine VL_run (d := 103) (run_load_ownA (cs := [_, _]) s rfl ty30 rfl (i := 0) rfl rfl rfl) rfl rfl ?_
              (refine VL_doesU (does_store s rfl ty30 rfl rfl (i := 2) rfl rfl rfl (by (intro u hu; simp only [List.mem_cons, List.not_mem_nil, or_false] at hu; rcases hu with rfl | rfl | rfl | rfl | rfl <;> rfl)) rfl ?_) rfl rfl rfl)
              clear s; intro w s
              try simp only [List.set_cons_zero, List.set_cons_succ, patch, List.take_succ_cons, List.take_zero, List.drop_succ_cons, List.drop_zero, List.drop_nil, List.nil_append, List.cons_append, List.append_nil, List.length_cons, List.length_nil, Nat.reduceAdd, Nat.zero_add] at s
              refine VL_run (d := 7) (run_assign rfl (by conv => lhs; whnf)) rfl rfl ?_
              refine VL_nil ?_
              refine VS_ret ?_
              repeat (first | refine blockV_ret ?_ | refine backV_ret ?_ | refine backV2_ret ?_ | refine backV3_ret ?_ | refine thenV_ret ?_ | refine metV2_ret ?_)
              (refine fin_two (fn := Try.f130) rfl (res_ownA (cs := [_, _]) s ty30 rfl (i := 2) rfl rfl rfl) (res_tmp (by conv => lhs; whnf)) ?_)
              refine ⟨_, ⟨n.next + 1, n.list.take q2 ++ [(n.next, c.path)] ++ n.list.drop q2⟩, _, rfl, ⟨(show 0 ≤ n.next + 1 by omega), (show n.next + 1 ≤ _ by omega), (show (n.list.take q2 ++ [(n.next, c.path)] ++ n.list.drop q2).length ≤ _ by simp; omega), fun y hy => ?_⟩, s.tell (Rd_mk2 rfl (s.dat (i := 0) rfl)), s.below⟩
              rcases put_mem hy with rfl | hy
              · show namesWt c.path ≤ _
                omega
              · exact hn3.2.2.2 y hy
end Go.Proofs.Ytkefaelmamgjiaa
