/- spec.l1Copy. -/
import Derived.Test.YtkefaelmamgjiaaDat
import Derived.Test.YtkefaelmamgjiaaTys
import Derived.Test.YtkefaelmamgjiaaChecked
set_option linter.unusedVariables false
set_option linter.unusedSimpArgs false
namespace Go.Proofs.Ytkefaelmamgjiaa
open Go.RowKit

set_option maxHeartbeats 1000000 in
theorem l1Copy_ok (t : Tr) : ∀ {ok : Nat → Prop} {w0 : World} {cs : List Value} (h : Rd ok w0 t.toD cs) (ht : t.Fit),
    Calls Try.prog 69 #[.agg cs.toArray] w0 (Ret fun v w' => ∃ cs', v = .agg cs'.toArray ∧ Rd (okR ok w0) w' t.toD cs' ∧ Below w0.heap.size w0 w') := by
  induction t using Tr.ind with
  | h t ih =>
  intro ok w0 cs h ht
  obtain ⟨A3, c3, A4, c4, rfl, hl3, hl4, h3, h4⟩ := Tr.opn h
  have f1 := ht.names
  have f2 := ht.kids
  clear h
  have s := ((St.start ok w0).begin h4).begin h3
  refine calls_enter (n := 35) Try.func69 rfl rfl rfl ?_
  repeat (refine VS_seq ?_)
  refine VS_region_lit ?_
  refine VL_does (d := 1) (does_box s rfl rfl rfl ?_) rfl rfl
  clear s; intro b1 w s
  refine VL_does (d := 2) (does_alloc s rfl ty26 rfl ?_) rfl rfl
  clear s; intro b2 w s
  refine VL_nil ?_
  repeat (refine VS_seq ?_)
  refine VS_join1 [3, 5, 6, 7, 8, 9, 10, 11, 12, 13, 14, 15] (fun x : Nat => [(3, .pointer (some ⟨x, 0, none⟩))]) (fun b3 w => ∃ A14 c14, St ok w0 [.blk b3 [.bool t.dir, .int .i64 t.mode, .string t.data, .slice A14 t.names.length c14, .slice none 0 0] 26, .row (.slice A14 t.names.length c14) 9 1 (strsD t.names), .blk b2 tr0 26, .blk b1 (trC t A3 c3 A4 c4) 26] [.dat [.slice A3 t.names.length c3] (.sl (strsD t.names)), .dat [.slice A4 t.kids.length c4] (.sl (Tr.toDs t.kids))] w) ?_ ?_
  · refine VS_drawS 12 s mixed ?_
    clear s; intro s
    refine VA_take 0 (d := 5) rfl (by kernel_rfl) rfl (fun w g => run_fieldAddr rfl fo26_0 rfl) s.see ?_
    refine VA_take 1 (d := 6) rfl (by kernel_rfl) rfl (fun w g => see_own1 g rfl ty4 rfl (i := 1) rfl rfl) s.see ?_
    refine VA_take 2 (d := 7) rfl (by kernel_rfl) rfl (fun w g => run_fieldAddr rfl fo26_1 rfl) s.see ?_
    refine VA_take 3 (d := 8) rfl (by kernel_rfl) rfl (fun w g => see_own1 g rfl ty3 rfl (i := 1) rfl rfl) s.see ?_
    refine VA_take 4 (d := 9) rfl (by kernel_rfl) rfl (fun w g => run_fieldAddr rfl fo26_2 rfl) s.see ?_
    refine VA_take 5 (d := 10) rfl (by kernel_rfl) rfl (fun w g => see_own1 g rfl ty9 rfl (i := 1) rfl rfl) s.see ?_
    refine VA_take 7 (d := 12) rfl (by kernel_rfl) rfl (fun w g => run_fieldAddr rfl fo26_3 rfl) s.see ?_
    refine VA_take 8 (d := 13) rfl (by kernel_rfl) rfl (fun w g => see_own1 g rfl ty23 rfl (i := 1) rfl rfl) s.see ?_
    refine VA_two (i := 6) (j := 11) (by kernel_rfl) ?_ ?_
    · refine VO_does (d := 11) rfl (does_slice0 s rfl Try.underlying23 ty9 ?_) rfl rfl
      clear s; intro g11 w s
      refine ⟨fun _ => s.sees (by intro b c t h; exact .tail _ h) (by intro f h; exact h), ?_⟩
      refine VA_two (i := 9) (j := 11) (by kernel_rfl) ?_ ?_
      · (refine VO_does (d := 14) rfl (does_appendD s rfl Try.underlying23 ty9 (by decide) (by decide) (i := 0) rfl rfl rfl (s.dat (i := 0) rfl) (strsD_wd _) (by simp; omega) (by (simp only [List.nil_append]; exact rfl)) (by (simp only [List.nil_append, List.length_append, List.length_cons, List.length_nil, strsD_length, Tr.toDs_length, Nat.zero_add]; exact rfl)) ?_) rfl rfl)
        clear s; intro A14 c14 w s
        try simp only [List.set_cons_zero, List.set_cons_succ, patch, List.take_succ_cons, List.take_zero, List.drop_succ_cons, List.drop_zero, List.drop_nil, List.nil_append, List.cons_append, List.append_nil, List.length_cons, List.length_nil, Nat.reduceAdd, Nat.zero_add] at s
        refine ⟨fun _ => s.sees (by intro b c t h; exact .tail _ h) (by intro f h; exact h), ?_⟩
        refine VA_take 10 (d := 15) rfl (by kernel_rfl) rfl (fun w g => run_build (cs := [.bool _, .int .i64 _, .string _, .slice _ _ _, .slice none 0 0]) rfl ty26 st26 rfl) (by (exact s.sees (by intro b c t h; exact .tail _ h) (by intro f h; exact h))) ?_
        refine VA_one (i := 11) (by kernel_rfl) ?_
        refine VO_does (d := 3) rfl (does_alloc s rfl ty26 rfl ?_) rfl rfl
        clear s; intro b3 w s
        refine ⟨fun _ => s.sees (by intro b c t h; exact .tail _ (.tail _ h)) (by intro f h; exact h), ?_⟩
        refine VA_one (i := 12) (by kernel_rfl) ?_
        (refine VO_doesU rfl (does_store s rfl ty26 rfl rfl (i := 0) rfl rfl rfl (by (intro u hu; simp only [List.mem_cons, List.not_mem_nil, or_false] at hu; rcases hu with rfl | rfl | rfl | rfl | rfl <;> rfl)) rfl ?_) rfl rfl rfl)
        clear s; intro w s
        try simp only [List.set_cons_zero, List.set_cons_succ, patch, List.take_succ_cons, List.take_zero, List.drop_succ_cons, List.drop_zero, List.drop_nil, List.nil_append, List.cons_append, List.append_nil, List.length_cons, List.length_nil, Nat.reduceAdd, Nat.zero_add] at s
        refine ⟨(fun h => nomatch (show true = false from h)), ?_⟩
        refine VA_done (by kernel_rfl) ?_
        refine VS_met (b3) ?_ (by repeat (first | exact Has.nil _ | refine Has.cons rfl ?_)) (by repeat (first | exact Out.refl _ _ | refine Out.upd rfl ?_))
        exact ⟨A14, c14, by exact s⟩
      · refine VO_does (d := 3) rfl (does_alloc s rfl ty26 rfl ?_) rfl rfl
        clear s; intro b3 w s
        refine ⟨fun _ => s.sees (by intro b c t h; exact .tail _ (.tail _ h)) (by intro f h; exact h), ?_⟩
        refine VA_one (i := 9) (by kernel_rfl) ?_
        (refine VO_does (d := 14) rfl (does_appendD s rfl Try.underlying23 ty9 (by decide) (by decide) (i := 1) rfl rfl rfl (s.dat (i := 0) rfl) (strsD_wd _) (by simp; omega) (by (simp only [List.nil_append]; exact rfl)) (by (simp only [List.nil_append, List.length_append, List.length_cons, List.length_nil, strsD_length, Tr.toDs_length, Nat.zero_add]; exact rfl)) ?_) rfl rfl)
        clear s; intro A14 c14 w s
        try simp only [List.set_cons_zero, List.set_cons_succ, patch, List.take_succ_cons, List.take_zero, List.drop_succ_cons, List.drop_zero, List.drop_nil, List.nil_append, List.cons_append, List.append_nil, List.length_cons, List.length_nil, Nat.reduceAdd, Nat.zero_add] at s
        refine ⟨fun _ => s.sees (by intro b c t h; exact .tail _ (.tail _ h)) (by intro f h; exact h), ?_⟩
        refine VA_take 10 (d := 15) rfl (by kernel_rfl) rfl (fun w g => run_build (cs := [.bool _, .int .i64 _, .string _, .slice _ _ _, .slice none 0 0]) rfl ty26 st26 rfl) (by (exact s.sees (by intro b c t h; exact .tail _ (.tail _ h)) (by intro f h; exact h))) ?_
        refine VA_one (i := 12) (by kernel_rfl) ?_
        (refine VO_doesU rfl (does_store s rfl ty26 rfl rfl (i := 0) rfl rfl rfl (by (intro u hu; simp only [List.mem_cons, List.not_mem_nil, or_false] at hu; rcases hu with rfl | rfl | rfl | rfl | rfl <;> rfl)) rfl ?_) rfl rfl rfl)
        clear s; intro w s
        try simp only [List.set_cons_zero, List.set_cons_succ, patch, List.take_succ_cons, List.take_zero, List.drop_succ_cons, List.drop_zero, List.drop_nil, List.nil_append, List.cons_append, List.append_nil, List.length_cons, List.length_nil, Nat.reduceAdd, Nat.zero_add] at s
        refine ⟨(fun h => nomatch (show true = false from h)), ?_⟩
        refine VA_done (by kernel_rfl) ?_
        refine VS_met (b3) ?_ (by repeat (first | exact Has.nil _ | refine Has.cons rfl ?_)) (by repeat (first | exact Out.refl _ _ | refine Out.upd rfl ?_))
        exact ⟨A14, c14, by exact s⟩
    · refine VO_does (d := 3) rfl (does_alloc s rfl ty26 rfl ?_) rfl rfl
      clear s; intro b3 w s
      refine ⟨fun _ => s.sees (by intro b c t h; exact .tail _ h) (by intro f h; exact h), ?_⟩
      refine VA_one (i := 6) (by kernel_rfl) ?_
      refine VO_does (d := 11) rfl (does_slice0 s rfl Try.underlying23 ty9 ?_) rfl rfl
      clear s; intro g11 w s
      refine ⟨fun _ => s.sees (by intro b c t h; exact .tail _ (.tail _ h)) (by intro f h; exact h), ?_⟩
      refine VA_one (i := 9) (by kernel_rfl) ?_
      (refine VO_does (d := 14) rfl (does_appendD s rfl Try.underlying23 ty9 (by decide) (by decide) (i := 0) rfl rfl rfl (s.dat (i := 0) rfl) (strsD_wd _) (by simp; omega) (by (simp only [List.nil_append]; exact rfl)) (by (simp only [List.nil_append, List.length_append, List.length_cons, List.length_nil, strsD_length, Tr.toDs_length, Nat.zero_add]; exact rfl)) ?_) rfl rfl)
      clear s; intro A14 c14 w s
      try simp only [List.set_cons_zero, List.set_cons_succ, patch, List.take_succ_cons, List.take_zero, List.drop_succ_cons, List.drop_zero, List.drop_nil, List.nil_append, List.cons_append, List.append_nil, List.length_cons, List.length_nil, Nat.reduceAdd, Nat.zero_add] at s
      refine ⟨fun _ => s.sees (by intro b c t h; exact .tail _ (.tail _ h)) (by intro f h; exact h), ?_⟩
      refine VA_take 10 (d := 15) rfl (by kernel_rfl) rfl (fun w g => run_build (cs := [.bool _, .int .i64 _, .string _, .slice _ _ _, .slice none 0 0]) rfl ty26 st26 rfl) (by (exact s.sees (by intro b c t h; exact .tail _ (.tail _ h)) (by intro f h; exact h))) ?_
      refine VA_one (i := 12) (by kernel_rfl) ?_
      (refine VO_doesU rfl (does_store s rfl ty26 rfl rfl (i := 1) rfl rfl rfl (by (intro u hu; simp only [List.mem_cons, List.not_mem_nil, or_false] at hu; rcases hu with rfl | rfl | rfl | rfl | rfl <;> rfl)) rfl ?_) rfl rfl rfl)
      clear s; intro w s
      try simp only [List.set_cons_zero, List.set_cons_succ, patch, List.take_succ_cons, List.take_zero, List.drop_succ_cons, List.drop_zero, List.drop_nil, List.nil_append, List.cons_append, List.append_nil, List.length_cons, List.length_nil, Nat.reduceAdd, Nat.zero_add] at s
      refine ⟨(fun h => nomatch (show true = false from h)), ?_⟩
      refine VA_done (by kernel_rfl) ?_
      refine VS_met (b3) ?_ (by repeat (first | exact Has.nil _ | refine Has.cons rfl ?_)) (by repeat (first | exact Out.refl _ _ | refine Out.upd rfl ?_))
      exact ⟨A14, c14, by exact s.front 1 rfl⟩
  · rintro b3 w j ⟨A14, c14, s⟩
    repeat (refine VS_seq ?_)
    refine VS_region_lit ?_
    refine VL_run (d := 4) (run_assign rfl (by conv => lhs; whnf)) rfl rfl ?_
    refine VL_nil ?_
    repeat (refine VS_block ?_)
    refine VS_loop [4, 16, 17, 18, 19, 20, 21, 22, 23, 24, 25, 26, 27, 28, 29, 30, 31, 32, 33] (fun i : Nat => [(4, .int .i64 i)]) (fun i w => i ≤ t.kids.length ∧ ∃ A c, St ok w0 [.row (.slice A i c) 26 5 (Tr.toDs (t.kids.take i)), .blk b3 [.bool t.dir, .int .i64 t.mode, .string t.data, .slice A14 t.names.length c14, .slice A i c] 26, .row (.slice A14 t.names.length c14) 9 1 (strsD t.names), .blk b2 tr0 26, .blk b1 (trC t A3 c3 A4 c4) 26] [.dat [.slice A3 t.names.length c3] (.sl (strsD t.names)), .dat [.slice A4 t.kids.length c4] (.sl (Tr.toDs t.kids))] w) (fun k => t.kids.length - k) 0 ⟨by omega, none, 0, s.nilrow _ _⟩ ((Has.nil _).cons rfl) ?_
    clear s
    rintro k w j' ⟨hk, A, c, s⟩
    repeat (refine VS_seq ?_)
    refine VS_region_lit ?_
    refine VL_run (d := 16) (run_move rfl (by conv => lhs; whnf)) rfl rfl ?_
    refine VL_run (d := 17) (run_fieldAddr rfl fo26_4 rfl) rfl rfl ?_
    refine VL_run (d := 18) (run_load_own1 s rfl ty24 rfl (i := 4) rfl rfl) rfl rfl ?_
    refine VL_run (d := 19) (run_lenSlice rfl ⟨_, Try.underlying24⟩ rfl) rfl rfl ?_
    refine VL_run (d := 20) (run_ltI rfl rfl rfl) rfl rfl ?_
    refine VL_nil ?_
    refine VS_cond rfl (fun hc => ?_) (fun hc => ?_) <;> (try simp only [decide_eq_true_eq, decide_eq_false_iff_not, Bool.not_eq_true', Bool.not_eq_false', ne_eq, Decidable.not_not, cond_true, cond_false, Bool.and_eq_true, Bool.or_eq_true, Bool.and_eq_false_iff, Bool.or_eq_false_iff, Bool.not_true, Bool.not_false, reduceCtorEq] at hc)
    · repeat (first | refine VS_seq ?_ | refine VS_block ?_ | refine VS_skip ?_)
      have hk' : k < t.kids.length := by omega
      obtain ⟨ad, cs, rfl, s⟩ := s.openE (i := 1) rfl (by decide) (Tr.toDs_wd _) k (by simpa using hk')
      rw [Tr.toDs_get] at s
      obtain ⟨A5, c5, A6, c6, rfl, hl5, hl6, h5, h6⟩ := Tr.opn (s.dat (i := 1) rfl)
      refine VS_drawS 10 s mixed ?_
      clear s; intro s
      refine VA_take 0 (d := 23) rfl (by kernel_rfl) rfl (fun w g => run_fieldAddr rfl fo26_4 rfl) s.see ?_
      refine VA_take 1 (d := 24) rfl (by kernel_rfl) rfl (fun w g => see_own1 g rfl ty24 rfl (i := 1) rfl rfl) s.see ?_
      refine VA_take 2 (d := 25) rfl (by kernel_rfl) rfl (fun w g => run_fieldAddr rfl fo26_4 rfl) s.see ?_
      refine VA_take 3 (d := 26) rfl (by kernel_rfl) rfl (fun w g => see_own1 g rfl ty24 rfl (i := 4) rfl rfl) s.see ?_
      refine VA_take 4 (d := 27) rfl (by kernel_rfl) rfl (fun w g => run_move rfl (by conv => lhs; whnf)) s.see ?_
      refine VA_take 5 (d := 28) rfl (by kernel_rfl) rfl (fun w g => run_indexAddr rfl Try.underlying24 ty26 rfl rfl (by omega) (by omega)) s.see ?_
      refine VA_take 6 (d := 29) rfl (by kernel_rfl) rfl (fun w g => see_atA g rfl ty26 rfl (i := 0) rfl rfl) s.see ?_
      refine VA_one (i := 7) (by kernel_rfl) ?_
      refine VO_does (d := 30) rfl (does_call1 rfl (by kernel_rfl) rfl (ih _ (List.getElem_mem hk') (s.dat (i := 1) rfl) (ht.kid _ (List.getElem_mem hk'))) ?_) rfl rfl
      rintro v30 w1 ⟨cs', rfl, hr, hb⟩
      replace s := s.ret hb hr; clear hb hr
      refine ⟨fun _ => s.sees (by intro b c t h; exact h) (by intro f h; exact .tail _ h), ?_⟩
      refine VA_one (i := 8) (by kernel_rfl) ?_
      refine VO_does (d := 31) rfl (does_slice1 s rfl Try.underlying24 ty26 (by decide) (by decide) rfl rfl (s.dat (i := 0) rfl) (Tr.toD_wd _) ?_) rfl rfl
      clear s; intro g31 w s
      refine ⟨fun _ => s.sees (by intro b c t h; exact .tail _ h) (by intro f h; exact .tail _ h), ?_⟩
      refine VA_one (i := 9) (by kernel_rfl) ?_
      (refine VO_does (d := 32) rfl (does_appendR s rfl Try.underlying24 ty26 (by decide) (by decide) (i := 0) rfl rfl rfl (by simp; omega) (by rw [Tr.toDs_snoc, take_snoc hk']) (show _ = k + 1 by simp; omega) ?_) rfl rfl)
      clear s; intro A32 c32 w s
      try simp only [List.set_cons_zero, List.set_cons_succ, patch, List.take_succ_cons, List.take_zero, List.drop_succ_cons, List.drop_zero, List.drop_nil, List.nil_append, List.cons_append, List.append_nil, List.length_cons, List.length_nil, Nat.reduceAdd, Nat.zero_add] at s
      refine ⟨fun _ => s.sees (by intro b c t h; first | exact h | exact .tail _ h | exact .tail _ (.tail _ h) | exact .tail _ (.tail _ (.tail _ h)) | (simp only [List.mem_cons, List.not_mem_nil, or_false, List.set_cons_zero, List.set_cons_succ, reduceCtorEq, false_or] at h ⊢ <;> exact h)) (by intro f h; exact .tail _ h), ?_⟩
      refine VA_one (i := 10) (by kernel_rfl) ?_
      refine VO_run (d := 33) rfl (run_fieldAddr rfl fo26_4 rfl) rfl rfl ((fun h => nomatch (show true = false from h))) ?_
      refine VA_one (i := 11) (by kernel_rfl) ?_
      (refine VO_doesU rfl (does_store s rfl ty24 rfl rfl (i := 1) rfl rfl rfl (by (intro u hu; simp only [List.mem_cons, List.not_mem_nil, or_false] at hu; subst hu; rfl)) rfl ?_) rfl rfl rfl)
      clear s; intro w s
      try simp only [List.set_cons_zero, List.set_cons_succ, patch, List.take_succ_cons, List.take_zero, List.drop_succ_cons, List.drop_zero, List.drop_nil, List.nil_append, List.cons_append, List.append_nil, List.length_cons, List.length_nil, Nat.reduceAdd, Nat.zero_add] at s
      refine ⟨fun _ => s.sees (by intro b c t h; (simp only [List.mem_cons, List.not_mem_nil, or_false, List.set_cons_zero, List.set_cons_succ, reduceCtorEq, false_or] at h ⊢ <;> simp_all)) (by intro f h; exact .tail _ h), ?_⟩
      refine VA_done (by kernel_rfl) ?_
      repeat (refine VS_nil_block ?_)
      refine VS_region_lit ?_
      refine VL_run (d := 21) (run_move rfl (by conv => lhs; whnf)) rfl rfl ?_
      refine VL_run (d := 22) (run_add rfl rfl rfl (by omega)) rfl rfl ?_
      refine VL_run (d := 4) (run_assign rfl (by conv => lhs; whnf)) rfl rfl ?_
      refine VL_nil ?_
      refine VS_back (k + 1) ?_ (by repeat (first | exact Has.nil _ | refine Has.cons rfl ?_)) (by repeat (first | exact Out.mix _ _ _ | refine Out.upd rfl ?_)) ?_
      · exact ⟨by omega, A32, c32, (s.less (by simp))⟩
      · omega
    · refine VS_exit ?_
      repeat (first | refine blockV_hit ?_ | refine backV_exit ?_)
      repeat (refine VS_seq ?_)
      refine VS_region_lit ?_
      refine VL_run (d := 34) (run_load_ownA (cs := [_, _, _, _, _]) s rfl ty26 rfl (i := 1) rfl rfl rfl) rfl rfl ?_
      (refine VL_doesU (does_store s rfl ty26 rfl rfl (i := 3) rfl rfl rfl (by (intro u hu; simp only [List.mem_cons, List.not_mem_nil, or_false] at hu; rcases hu with rfl | rfl | rfl | rfl | rfl <;> rfl)) rfl ?_) rfl rfl rfl)
      clear s; intro w s
      try simp only [List.set_cons_zero, List.set_cons_succ, patch, List.take_succ_cons, List.take_zero, List.drop_succ_cons, List.drop_zero, List.drop_nil, List.nil_append, List.cons_append, List.append_nil, List.length_cons, List.length_nil, Nat.reduceAdd, Nat.zero_add] at s
      refine VL_nil ?_
      refine VS_ret ?_
      repeat (first | refine blockV_ret ?_ | refine backV_ret ?_ | refine backV2_ret ?_ | refine backV3_ret ?_ | refine thenV_ret ?_ | refine metV2_ret ?_)
      refine fin_one (fn := Try.f69) rfl (res_ownA (cs := [_, _, _, _, _]) s ty26 rfl (i := 3) rfl rfl rfl) ?_
      obtain rfl : k = t.kids.length := by omega
      rw [List.take_length] at s
      have s := (s.freeze (k := 0) rfl).freeze (k := 1) rfl
      exact ⟨_, rfl, s.tell (Tr.shut' (s.dat (i := 0) rfl) (s.dat (i := 1) rfl)), s.below⟩
end Go.Proofs.Ytkefaelmamgjiaa
