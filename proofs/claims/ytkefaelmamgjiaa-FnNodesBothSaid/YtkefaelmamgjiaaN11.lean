/- the law FnNodesBoth. -/
import Derived.Test.YtkefaelmamgjiaaN10
set_option linter.unusedVariables false
set_option linter.unusedSimpArgs false
set_option maxHeartbeats 4000000
namespace Go.Proofs.Ytkefaelmamgjiaa
open Go.RowKit

theorem pathOf_len {n : Nd} {B : Nat} (hn : NdB n B) (id : Int) : ((pathOf n id).getD []).length ≤ B := by
  unfold pathOf
  cases n.ok with
  | false => exact Nat.zero_le _
  | true =>
    rw [cond_true]
    cases h : pathAt n id 0 with
    | none => exact Nat.zero_le _
    | some p =>
      obtain ⟨k, hk, -, rfl⟩ := pathAt_some n id p _ 0 rfl h
      exact hn.plen hk
theorem both_one' {n : Nd} {id : Int} (h : (pathOf n id).isSome = true) : (bif n.ok then idOf n.list ((pathOf n id).getD []) else 0) = id := by
  cases hp : pathOf n id with
  | none => rw [hp] at h; cases h
  | some p => exact both_one hp
theorem FnNodesBoth_ok {ok : Nat → Prop} {w0 : World} {v1 v2 : Value} {l1 l2 : List UInt8} (h1 : Rd ok w0 (.sl (bytesL l1)) [v1]) (h2 : Rd ok w0 (.sl (bytesL l2)) [v2]) :
    Calls Try.prog 4 #[v1, v2] w0 (Ret fun r w' => r = .bool true ∧ Below w0.heap.size w0 w') := by
  obtain ⟨A1, c1, e1, hl1⟩ := Rd_sl1 h1
  obtain ⟨A2, c2, e2, hl2⟩ := Rd_sl1 h2
  rw [bytesL_length] at hl1 e1 hl2 e2
  obtain rfl := List.singleton_inj.1 e1
  obtain rfl := List.singleton_inj.1 e2
  have s := ((St.start ok w0).begin h2).begin h1
  clear h1 h2
  refine calls_enter (n := 89) Try.func4 rfl rfl rfl ?_
  repeat (refine VS_seq ?_)
  refine VS_region_lit ?_
  refine VL_run (d := 4) (run_assign rfl (by conv => lhs; whnf)) rfl rfl ?_
  refine VL_nil ?_
  repeat (refine VS_seq ?_)
  refine VS_meetB s 23 (decide (1048576 < (l1.length : Int)) || decide (1048576 < (l2.length : Int))) [16, 17, 18, 19, 20, 21, 22, 23] ?_ ?_
  · refine VS_region_lit ?_
    refine VL_run (d := 16) (run_move rfl (by conv => lhs; whnf)) rfl rfl ?_
    refine VL_run (d := 17) (run_lenSlice rfl ⟨_, Try.underlying22⟩ rfl) rfl rfl ?_
    refine VL_run (d := 18) (run_gtI rfl rfl rfl) rfl rfl ?_
    refine VL_run (d := 19) (run_move rfl (by conv => lhs; whnf)) rfl rfl ?_
    refine VL_split 19 (by conv => lhs; whnf) (fun h19 => ?_) (fun h19 => ?_) <;> (try simp only [decide_eq_true_eq, decide_eq_false_iff_not, Bool.not_eq_true', Bool.not_eq_false', ne_eq, Decidable.not_not, cond_true, cond_false, Bool.and_eq_true, Bool.or_eq_true, Bool.and_eq_false_iff, Bool.or_eq_false_iff, Bool.not_true, Bool.not_false, reduceCtorEq] at h19)
    · refine VL_not (d := 20) rfl rfl rfl rfl ?_
      refine VL_not (d := 21) rfl rfl rfl rfl ?_
      refine VL_not (d := 22) rfl rfl rfl rfl ?_
      refine VL_run (d := 23) (run_pickT rfl rfl rfl) rfl rfl ?_
      refine VL_nil ?_
      exact VS_endB s (by conv => lhs; whnf) (by (simp_all; done)) (by repeat (first | exact Out.refl _ _ | refine Out.upd rfl ?_))
    · refine VL_run (d := 20) (run_move rfl (by conv => lhs; whnf)) rfl rfl ?_
      refine VL_run (d := 21) (run_lenSlice rfl ⟨_, Try.underlying22⟩ rfl) rfl rfl ?_
      refine VL_run (d := 22) (run_gtI rfl rfl rfl) rfl rfl ?_
      refine VL_run (d := 23) (run_pickF rfl rfl rfl) rfl rfl ?_
      refine VL_nil ?_
      exact VS_endB s (by conv => lhs; whnf) (by (simp_all; omega)) (by repeat (first | exact Out.refl _ _ | refine Out.upd rfl ?_))
  clear s; intro w j23 s
  refine VS_cond rfl (fun c0 => ?_) (fun c0 => ?_) <;> (try simp only [decide_eq_true_eq, decide_eq_false_iff_not, Bool.not_eq_true', Bool.not_eq_false', ne_eq, Decidable.not_not, cond_true, cond_false, Bool.and_eq_true, Bool.or_eq_true, Bool.and_eq_false_iff, Bool.or_eq_false_iff, Bool.not_true, Bool.not_false, reduceCtorEq] at c0)
  · repeat (refine VS_seq ?_)
    refine VS_region_lit ?_
    refine VL_run (d := 4) (run_assign rfl (by conv => lhs; whnf)) rfl rfl ?_
    refine VL_nil ?_
    refine VS_ret ?_
    repeat (first | refine blockV_ret ?_ | refine backV_ret ?_ | refine backV2_ret ?_ | refine backV3_ret ?_ | refine thenV_ret ?_ | refine metV2_ret ?_)
    refine fin_one (fn := Try.f4) rfl (res_tmp (by conv => lhs; whnf)) ?_
    exact ⟨rfl, s.below⟩
  · repeat (first | refine VS_seq ?_ | refine VS_skip ?_)
    refine VS_region_lit ?_
    refine VL_run (d := 25) (run_move rfl (by conv => lhs; whnf)) rfl rfl ?_
    refine VL_does (d := 26) (does_call1 rfl (by kernel_rfl) rfl (DrawNodesPath_ok (s.dat (i := 0) rfl) (by omega)) ?_) rfl rfl
    rintro v26 w26 ⟨A3, z3, n, id, rfl, hnb, hr, hb⟩
    replace s := s.ret hb hr; clear hb hr
    refine VL_run (d := 24) (run_move rfl (by conv => lhs; whnf)) rfl rfl ?_
    refine VL_run (d := 27) (run_extract rfl rfl rfl) rfl rfl ?_
    refine VL_run (d := 28) (run_extract rfl rfl rfl) rfl rfl ?_
    refine VL_does (d := 5) (does_alloc s rfl ty30 rfl ?_) rfl rfl
    clear s; intro b5 w s
    (refine VL_doesU (does_store s rfl ty30 rfl rfl (i := 0) rfl rfl rfl (by (intro u hu; simp only [List.mem_cons, List.not_mem_nil, or_false] at hu; rcases hu with rfl | rfl | rfl | rfl | rfl <;> rfl)) rfl ?_) rfl rfl rfl)
    clear s; intro w s
    try simp only [List.set_cons_zero, List.set_cons_succ, patch, List.take_succ_cons, List.take_zero, List.drop_succ_cons, List.drop_zero, List.drop_nil, List.nil_append, List.cons_append, List.append_nil, List.length_cons, List.length_nil, Nat.reduceAdd, Nat.zero_add] at s
    refine VL_run (d := 6) (run_assign rfl (by conv => lhs; whnf)) rfl rfl ?_
    refine VL_nil ?_
    repeat (refine VS_seq ?_)
    refine VS_region_lit ?_
    refine VL_run (d := 30) (run_load_ownA (cs := [_, _]) s rfl ty30 rfl (i := 0) rfl rfl rfl) rfl rfl ?_
    refine VL_run (d := 31) (run_move rfl (by conv => lhs; whnf)) rfl rfl ?_
    refine VL_does (d := 32) (does_call2 rfl (by kernel_rfl) rfl rfl (implNodesPath_ok n id (s.dat (i := 0) rfl) (hnb.mono (by decide))) ?_) rfl rfl
    rintro v32 w32 ⟨u1, rfl, hr, hb⟩
    replace s := s.ret hb hr; clear hb hr
    refine VL_run (d := 29) (run_move rfl (by conv => lhs; whnf)) rfl rfl ?_
    refine VL_run (d := 33) (run_extract rfl rfl rfl) rfl rfl ?_
    refine VL_run (d := 34) (run_extract rfl rfl rfl) rfl rfl ?_
    refine VL_run (d := 7) (run_assign rfl (by conv => lhs; whnf)) rfl rfl ?_
    refine VL_run (d := 8) (run_assign rfl (by conv => lhs; whnf)) rfl rfl ?_
    refine VL_nil ?_
    repeat (refine VS_seq ?_)
    refine VS_region_lit ?_
    refine VL_run (d := 36) (run_load_ownA (cs := [_, _]) s rfl ty30 rfl (i := 0) rfl rfl rfl) rfl rfl ?_
    refine VL_run (d := 37) (run_move rfl (by conv => lhs; whnf)) rfl rfl ?_
    refine VL_does (d := 38) (does_call2 rfl (by kernel_rfl) rfl rfl (NodesPath_ok n id (s.dat (i := 1) rfl) (hnb.mono (by decide))) ?_) rfl rfl
    rintro v38 w38 ⟨u2, rfl, hr, hb⟩
    replace s := s.ret hb hr; clear hb hr
    refine VL_run (d := 35) (run_move rfl (by conv => lhs; whnf)) rfl rfl ?_
    refine VL_run (d := 39) (run_extract rfl rfl rfl) rfl rfl ?_
    refine VL_run (d := 40) (run_extract rfl rfl rfl) rfl rfl ?_
    refine VL_run (d := 9) (run_assign rfl (by conv => lhs; whnf)) rfl rfl ?_
    refine VL_run (d := 10) (run_assign rfl (by conv => lhs; whnf)) rfl rfl ?_
    refine VL_nil ?_
    repeat (refine VS_seq ?_)
    have hpl := pathOf_len hnb id
    have hb1 := both_one' (n := n) (id := id)
    refine VS_meetB s 59 (false) [41, 42, 43, 44, 45, 46, 47, 48, 49, 50, 51, 52, 53, 54, 55, 56, 57, 58, 59] ?_ ?_
    · refine VS_region_lit ?_
      refine VL_run (d := 41) (run_move rfl (by conv => lhs; whnf)) rfl rfl ?_
      refine VL_run (d := 42) (run_move rfl (by conv => lhs; whnf)) rfl rfl ?_
      refine VL_run (d := 43) (run_neB rfl Try.underlying4 rfl rfl) rfl rfl ?_
      refine VL_run (d := 44) (run_move rfl (by conv => lhs; whnf)) rfl rfl ?_
      refine VL_split 44 (by conv => lhs; whnf) (fun h44 => ?_) (fun h44 => ?_) <;> (try simp only [decide_eq_true_eq, decide_eq_false_iff_not, Bool.not_eq_true', Bool.not_eq_false', ne_eq, Decidable.not_not, cond_true, cond_false, Bool.and_eq_true, Bool.or_eq_true, Bool.and_eq_false_iff, Bool.or_eq_false_iff, Bool.not_true, Bool.not_false, reduceCtorEq] at h44)
      · refine VL_not (d := 45) rfl rfl rfl rfl ?_
        refine VL_not (d := 46) rfl rfl rfl rfl ?_
        refine VL_not (d := 47) rfl rfl rfl rfl ?_
        refine VL_not (d := 48) rfl rfl rfl rfl ?_
        refine VL_run (d := 49) (run_pickT rfl rfl rfl) rfl rfl ?_
        refine VL_run (d := 50) (run_move rfl (by conv => lhs; whnf)) rfl rfl ?_
        refine VL_not (d := 51) rfl rfl rfl rfl ?_
        refine VL_not (d := 52) rfl rfl rfl rfl ?_
        refine VL_not (d := 53) rfl rfl rfl rfl ?_
        refine VL_not (d := 54) rfl rfl rfl rfl ?_
        refine VL_not (d := 55) rfl rfl rfl rfl ?_
        refine VL_not (d := 56) rfl rfl rfl rfl ?_
        refine VL_not (d := 57) rfl rfl rfl rfl ?_
        refine VL_not (d := 58) rfl rfl rfl rfl ?_
        refine VL_run (d := 59) (run_pickT rfl rfl rfl) rfl rfl ?_
        refine VL_nil ?_
        exact VS_endB s (by conv => lhs; whnf) (by clear s; (simp_all; done)) (by repeat (first | exact Out.refl _ _ | refine Out.upd rfl ?_))
      · refine VL_run (d := 45) (run_move rfl (by conv => lhs; whnf)) rfl rfl ?_
        refine VL_run (d := 46) (run_move rfl (by conv => lhs; whnf)) rfl rfl ?_
        refine VL_does (d := 47) (does_call2 rfl (by kernel_rfl) rfl rfl (wtTexts_ok _ _ (s.dat (i := 1) rfl) (s.dat (i := 0) rfl) (by omega) (by omega)) ?_) rfl rfl
        rintro _ w ⟨rfl, hb⟩
        replace s := s.step hb
        clear hb
        refine VL_run (d := 48) (run_not rfl rfl) rfl rfl ?_
        refine VL_run (d := 49) (run_pickF rfl rfl rfl) rfl rfl ?_
        refine VL_run (d := 50) (run_move rfl (by conv => lhs; whnf)) rfl rfl ?_
        refine VL_split 50 (by conv => lhs; whnf) (fun h50 => ?_) (fun h50 => ?_) <;> (try simp only [decide_eq_true_eq, decide_eq_false_iff_not, Bool.not_eq_true', Bool.not_eq_false', ne_eq, Decidable.not_not, cond_true, cond_false, Bool.and_eq_true, Bool.or_eq_true, Bool.and_eq_false_iff, Bool.or_eq_false_iff, Bool.not_true, Bool.not_false, reduceCtorEq] at h50)
        · refine VL_not (d := 51) rfl rfl rfl rfl ?_
          refine VL_not (d := 52) rfl rfl rfl rfl ?_
          refine VL_not (d := 53) rfl rfl rfl rfl ?_
          refine VL_not (d := 54) rfl rfl rfl rfl ?_
          refine VL_not (d := 55) rfl rfl rfl rfl ?_
          refine VL_not (d := 56) rfl rfl rfl rfl ?_
          refine VL_not (d := 57) rfl rfl rfl rfl ?_
          refine VL_not (d := 58) rfl rfl rfl rfl ?_
          refine VL_run (d := 59) (run_pickT rfl rfl rfl) rfl rfl ?_
          refine VL_nil ?_
          exact VS_endB s (by conv => lhs; whnf) (by clear s; (simp_all; done)) (by repeat (first | exact Out.refl _ _ | refine Out.upd rfl ?_))
        · refine VL_run (d := 51) (run_move rfl (by conv => lhs; whnf)) rfl rfl ?_
          refine VL_run (d := 52) (run_move rfl (by conv => lhs; whnf)) rfl rfl ?_
          refine VL_split 52 (by conv => lhs; whnf) (fun h52 => ?_) (fun h52 => ?_) <;> (try simp only [decide_eq_true_eq, decide_eq_false_iff_not, Bool.not_eq_true', Bool.not_eq_false', ne_eq, Decidable.not_not, cond_true, cond_false, Bool.and_eq_true, Bool.or_eq_true, Bool.and_eq_false_iff, Bool.or_eq_false_iff, Bool.not_true, Bool.not_false, reduceCtorEq] at h52)
          · refine VL_run (d := 53) (run_load_ownA (cs := [_, _]) s rfl ty30 rfl (i := 0) rfl rfl rfl) rfl rfl ?_
            refine VL_run (d := 54) (run_move rfl (by conv => lhs; whnf)) rfl rfl ?_
            refine VL_does (d := 55) (does_call2 rfl (by kernel_rfl) rfl rfl (implNodesId_ok n _ (s.dat (i := 2) rfl) (s.dat (i := 1) rfl) (hnb.mono (by decide)) (by omega)) ?_) rfl rfl
            rintro _ w ⟨rfl, hb⟩
            replace s := s.step hb
            clear hb
            refine VL_run (d := 56) (run_move rfl (by conv => lhs; whnf)) rfl rfl ?_
            refine VL_run (d := 57) (run_neI rfl rfl rfl) rfl rfl ?_
            refine VL_run (d := 58) (run_pickT rfl rfl rfl) rfl rfl ?_
            refine VL_run (d := 59) (run_pickF rfl rfl rfl) rfl rfl ?_
            refine VL_nil ?_
            exact VS_endB s (by conv => lhs; whnf) (by clear s; (simp_all; done)) (by repeat (first | exact Out.refl _ _ | refine Out.upd rfl ?_))
          · refine VL_not (d := 53) rfl rfl rfl rfl ?_
            refine VL_not (d := 54) rfl rfl rfl rfl ?_
            refine VL_not (d := 55) rfl rfl rfl rfl ?_
            refine VL_not (d := 56) rfl rfl rfl rfl ?_
            refine VL_not (d := 57) rfl rfl rfl rfl ?_
            refine VL_run (d := 58) (run_pickF rfl rfl rfl) rfl rfl ?_
            refine VL_run (d := 59) (run_pickF rfl rfl rfl) rfl rfl ?_
            refine VL_nil ?_
            exact VS_endB s (by conv => lhs; whnf) (by clear s; (simp_all; done)) (by repeat (first | exact Out.refl _ _ | refine Out.upd rfl ?_))
    clear s; intro w j59 s
    refine VS_cond rfl (fun c1 => ?_) (fun c1 => ?_) <;> (try simp only [decide_eq_true_eq, decide_eq_false_iff_not, Bool.not_eq_true', Bool.not_eq_false', ne_eq, Decidable.not_not, cond_true, cond_false, Bool.and_eq_true, Bool.or_eq_true, Bool.and_eq_false_iff, Bool.or_eq_false_iff, Bool.not_true, Bool.not_false, reduceCtorEq] at c1)
    · repeat (first | refine VS_seq ?_ | refine VS_skip ?_)
      replace s := s.less (F' := [.dat [.slice A2 l2.length c2] (.sl (bytesL l2))]) (by (repeat (first | exact sub_nil | refine sub_cons (by (repeat (first | exact .head _ | refine .tail _ ?_))) ?_)))
      clear hb1 hpl
      refine VS_region_lit ?_
      refine VL_run (d := 61) (run_move rfl (by conv => lhs; whnf)) rfl rfl ?_
      refine VL_does (d := 62) (does_call1 rfl (by kernel_rfl) rfl (DrawNodesId_ok (s.dat (i := 0) rfl) (by omega)) ?_) rfl rfl
      rintro v62 w62 ⟨A4, z4, d, q, u3, rfl, hdb, hq, hr, hr2, hb⟩
      replace s := (s.ret hb hr).know (f := .dat [u3] (.sl (strsD q))) (s.res hb hr2); clear hb hr hr2
      refine VL_run (d := 60) (run_move rfl (by conv => lhs; whnf)) rfl rfl ?_
      refine VL_run (d := 63) (run_extract rfl rfl rfl) rfl rfl ?_
      refine VL_run (d := 64) (run_extract rfl rfl rfl) rfl rfl ?_
      refine VL_does (d := 11) (does_alloc s rfl ty30 rfl ?_) rfl rfl
      clear s; intro b11 w s
      (refine VL_doesU (does_store s rfl ty30 rfl rfl (i := 0) rfl rfl rfl (by (intro u hu; simp only [List.mem_cons, List.not_mem_nil, or_false] at hu; rcases hu with rfl | rfl | rfl | rfl | rfl <;> rfl)) rfl ?_) rfl rfl rfl)
      clear s; intro w s
      try simp only [List.set_cons_zero, List.set_cons_succ, patch, List.take_succ_cons, List.take_zero, List.drop_succ_cons, List.drop_zero, List.drop_nil, List.nil_append, List.cons_append, List.append_nil, List.length_cons, List.length_nil, Nat.reduceAdd, Nat.zero_add] at s
      refine VL_run (d := 12) (run_assign rfl (by conv => lhs; whnf)) rfl rfl ?_
      refine VL_nil ?_
      repeat (refine VS_seq ?_)
      refine VS_region_lit ?_
      refine VL_run (d := 65) (run_load_ownA (cs := [_, _]) s rfl ty30 rfl (i := 0) rfl rfl rfl) rfl rfl ?_
      refine VL_run (d := 66) (run_move rfl (by conv => lhs; whnf)) rfl rfl ?_
      refine VL_does (d := 67) (does_call2 rfl (by kernel_rfl) rfl rfl (implNodesId_ok d q (s.dat (i := 1) rfl) (s.dat (i := 0) rfl) (hdb.mono (by decide)) (by omega)) ?_) rfl rfl
      rintro _ w ⟨rfl, hb⟩
      replace s := s.step hb
      clear hb
      refine VL_run (d := 13) (run_assign rfl (by conv => lhs; whnf)) rfl rfl ?_
      refine VL_nil ?_
      repeat (refine VS_seq ?_)
      refine VS_region_lit ?_
      refine VL_run (d := 68) (run_move rfl (by conv => lhs; whnf)) rfl rfl ?_
      refine VL_run (d := 69) (run_load_ownA (cs := [_, _]) s rfl ty30 rfl (i := 0) rfl rfl rfl) rfl rfl ?_
      refine VL_run (d := 70) (run_move rfl (by conv => lhs; whnf)) rfl rfl ?_
      refine VL_does (d := 71) (does_call2 rfl (by kernel_rfl) rfl rfl (NodesId_ok d q (s.dat (i := 1) rfl) (s.dat (i := 0) rfl) (hdb.mono (by decide)) (by omega)) ?_) rfl rfl
      rintro _ w ⟨rfl, hb⟩
      replace s := s.step hb
      clear hb
      refine VL_run (d := 72) (run_neI rfl rfl rfl) rfl rfl ?_
      refine VL_nil ?_
      refine VS_cond rfl (fun c2 => ?_) (fun c2 => ?_) <;> (try simp only [decide_eq_true_eq, decide_eq_false_iff_not, Bool.not_eq_true', Bool.not_eq_false', ne_eq, Decidable.not_not, cond_true, cond_false, Bool.and_eq_true, Bool.or_eq_true, Bool.and_eq_false_iff, Bool.or_eq_false_iff, Bool.not_true, Bool.not_false, reduceCtorEq] at c2)
      · exact absurd trivial c2
      · repeat (first | refine VS_seq ?_ | refine VS_skip ?_)
        refine VS_region_lit ?_
        refine VL_run (d := 74) (run_load_ownA (cs := [_, _]) s rfl ty30 rfl (i := 0) rfl rfl rfl) rfl rfl ?_
        refine VL_run (d := 75) (run_move rfl (by conv => lhs; whnf)) rfl rfl ?_
        refine VL_does (d := 76) (does_call2 rfl (by kernel_rfl) rfl rfl (implNodesPath_ok d _ (s.dat (i := 1) rfl) (hdb.mono (by decide))) ?_) rfl rfl
        rintro v76 w76 ⟨u4, rfl, hr, hb⟩
        replace s := s.ret hb hr; clear hb hr
        refine VL_run (d := 73) (run_move rfl (by conv => lhs; whnf)) rfl rfl ?_
        refine VL_run (d := 77) (run_extract rfl rfl rfl) rfl rfl ?_
        refine VL_run (d := 78) (run_extract rfl rfl rfl) rfl rfl ?_
        refine VL_run (d := 14) (run_assign rfl (by conv => lhs; whnf)) rfl rfl ?_
        refine VL_run (d := 15) (run_assign rfl (by conv => lhs; whnf)) rfl rfl ?_
        refine VL_nil ?_
        repeat (refine VS_seq ?_)
        have hpl := pathOf_len hdb (bif d.ok then idOf d.list q else 0)
        have hb2 := both_two (n := d) (p := q)
        generalize (bif d.ok then idOf d.list q else 0) = kk at *
        refine VS_meetB s 4 (true) [79, 80, 81, 82, 83, 84, 85, 86, 87, 88, 4] ?_ ?_
        · refine VS_region_lit ?_
          refine VL_run (d := 79) (run_move rfl (by conv => lhs; whnf)) rfl rfl ?_
          refine VL_run (d := 80) (run_eqI rfl rfl rfl) rfl rfl ?_
          refine VL_run (d := 81) (run_move rfl (by conv => lhs; whnf)) rfl rfl ?_
          refine VL_split 81 (by conv => lhs; whnf) (fun h81 => ?_) (fun h81 => ?_) <;> (try simp only [decide_eq_true_eq, decide_eq_false_iff_not, Bool.not_eq_true', Bool.not_eq_false', ne_eq, Decidable.not_not, cond_true, cond_false, Bool.and_eq_true, Bool.or_eq_true, Bool.and_eq_false_iff, Bool.or_eq_false_iff, Bool.not_true, Bool.not_false, reduceCtorEq] at h81)
          · refine VL_not (d := 82) rfl rfl rfl rfl ?_
            refine VL_not (d := 83) rfl rfl rfl rfl ?_
            refine VL_not (d := 84) rfl rfl rfl rfl ?_
            refine VL_not (d := 85) rfl rfl rfl rfl ?_
            refine VL_not (d := 86) rfl rfl rfl rfl ?_
            refine VL_not (d := 87) rfl rfl rfl rfl ?_
            refine VL_run (d := 88) (run_pickT rfl rfl rfl) rfl rfl ?_
            refine VL_run (d := 4) (run_assign rfl (by conv => lhs; whnf)) rfl rfl ?_
            refine VL_nil ?_
            exact VS_endB s (by conv => lhs; whnf) (by clear s; (simp_all; done)) (by repeat (first | exact Out.refl _ _ | refine Out.upd rfl ?_))
          · refine VL_run (d := 82) (run_move rfl (by conv => lhs; whnf)) rfl rfl ?_
            refine VL_run (d := 83) (run_move rfl (by conv => lhs; whnf)) rfl rfl ?_
            refine VL_split 83 (by conv => lhs; whnf) (fun h83 => ?_) (fun h83 => ?_) <;> (try simp only [decide_eq_true_eq, decide_eq_false_iff_not, Bool.not_eq_true', Bool.not_eq_false', ne_eq, Decidable.not_not, cond_true, cond_false, Bool.and_eq_true, Bool.or_eq_true, Bool.and_eq_false_iff, Bool.or_eq_false_iff, Bool.not_true, Bool.not_false, reduceCtorEq] at h83)
            · refine VL_run (d := 84) (run_move rfl (by conv => lhs; whnf)) rfl rfl ?_
              refine VL_run (d := 85) (run_move rfl (by conv => lhs; whnf)) rfl rfl ?_
              refine VL_does (d := 86) (does_call2 rfl (by kernel_rfl) rfl rfl (wtTexts_ok _ _ (s.dat (i := 0) rfl) (s.dat (i := 1) rfl) (by omega) (by omega)) ?_) rfl rfl
              rintro _ w ⟨rfl, hb⟩
              replace s := s.step hb
              clear hb
              refine VL_run (d := 87) (run_pickT rfl rfl rfl) rfl rfl ?_
              refine VL_run (d := 88) (run_pickF rfl rfl rfl) rfl rfl ?_
              refine VL_run (d := 4) (run_assign rfl (by conv => lhs; whnf)) rfl rfl ?_
              refine VL_nil ?_
              exact VS_endB s (by conv => lhs; whnf) (by clear s; (simp_all; done)) (by repeat (first | exact Out.refl _ _ | refine Out.upd rfl ?_))
            · refine VL_not (d := 84) rfl rfl rfl rfl ?_
              refine VL_not (d := 85) rfl rfl rfl rfl ?_
              refine VL_not (d := 86) rfl rfl rfl rfl ?_
              refine VL_run (d := 87) (run_pickF rfl rfl rfl) rfl rfl ?_
              refine VL_run (d := 88) (run_pickF rfl rfl rfl) rfl rfl ?_
              refine VL_run (d := 4) (run_assign rfl (by conv => lhs; whnf)) rfl rfl ?_
              refine VL_nil ?_
              exact VS_endB s (by conv => lhs; whnf) (by clear s; (simp_all; done)) (by repeat (first | exact Out.refl _ _ | refine Out.upd rfl ?_))
        clear s; intro w j4 s
        refine VS_ret ?_
        repeat (first | refine blockV_ret ?_ | refine backV_ret ?_ | refine backV2_ret ?_ | refine backV3_ret ?_ | refine thenV_ret ?_ | refine metV2_ret ?_)
        refine fin_one (fn := Try.f4) rfl (res_tmp (by conv => lhs; whnf)) ?_
        exact ⟨rfl, s.below⟩
end Go.Proofs.Ytkefaelmamgjiaa
