/- spec: l2CallOk, l2File. -/
import Derived.Test.YtkefaelmamgjiaaS6
import Derived.Test.YtkefaelmamgjiaaT2
set_option linter.unusedVariables false
set_option linter.unusedSimpArgs false
set_option maxHeartbeats 4000000
namespace Go.Proofs.Ytkefaelmamgjiaa
open Go.RowKit

def Cl.ok (c : Cl) : Bool :=
  bif decide (c.kind = 1) || decide (c.kind = 6) then pathOk c.path && inI c.off 0 7
  else bif decide (c.kind = 2) || decide (c.kind = 3) then pathOk c.path && inI c.off 0 24
  else bif decide (c.kind = 4) then pathOk c.path
  else bif decide (c.kind = 5) then pathOk c.path && pathOk c.to
  else false
theorem l2CallOk_ok (c : Cl) {ok : Nat → Prop} {w0 : World} {cs : List Value} (h : Rd ok w0 c.toD cs) (hc : c.Fit) :
    Calls Try.prog 86 #[.agg cs.toArray] w0 (Ret fun v w' => v = .bool c.ok ∧ Below w0.heap.size w0 w') := by
  obtain ⟨A1, k1, A2, k2, rfl, hl1, hl2, h1, h2⟩ := Cl.opn h
  have s := ((St.start ok w0).begin h2).begin h1
  refine calls_enter (n := 42) Try.func86 rfl rfl rfl ?_
  repeat (refine VS_seq ?_)
  refine VS_region_lit ?_
  refine VL_does (d := 1) (does_box s rfl rfl rfl ?_) rfl rfl
  clear s; intro b1 w s
  refine VL_run (d := 2) (run_assign rfl (by conv => lhs; whnf)) rfl rfl ?_
  refine VL_nil ?_
  repeat (refine VS_seq ?_)
  refine VS_region_lit ?_
  refine VL_run (d := 3) (run_fieldAddr rfl fo70_0 rfl) rfl rfl ?_
  refine VL_run (d := 4) (run_load_own1 s rfl ty3 rfl (i := 0) rfl rfl) rfl rfl ?_
  refine VL_nil ?_
  repeat (first | refine VS_seq ?_ | refine VS_block ?_)
  refine VS_region_lit ?_
  refine VL_run (d := 6) (run_eqI rfl rfl rfl) rfl rfl ?_
  refine VL_run (d := 5) (run_assign rfl (by conv => lhs; whnf)) rfl rfl ?_
  refine VL_nil ?_
  refine VS_join1 [5, 7] (fun _ : Unit => [(5, .bool (decide (c.kind = 1) || decide (c.kind = 6)))]) (fun _ w => St ok w0 [.blk b1 (clC c A1 k1 A2 k2) 70] [.dat [.slice A1 c.path.length k1] (.sl (strsD c.path)), .dat [.slice A2 c.to.length k2] (.sl (strsD c.to))] w) ?_ ?_
  · refine VS_cond rfl (fun c0 => ?_) (fun c0 => ?_) <;> (try simp only [decide_eq_true_eq, decide_eq_false_iff_not, Bool.not_eq_true', Bool.not_eq_false', ne_eq, Decidable.not_not, cond_true, cond_false, Bool.and_eq_true, Bool.or_eq_true, Bool.and_eq_false_iff, Bool.or_eq_false_iff, Bool.not_true, Bool.not_false, reduceCtorEq] at c0)
    · have e0 : (decide (c.kind = 1) || decide (c.kind = 6)) = decide (c.kind = 1) := by clear s; simp [c0]
      rw [e0]
      repeat (refine VS_skip ?_)
      refine VS_met (()) ?_ (by repeat (first | exact Has.nil _ | refine Has.cons rfl ?_)) (by repeat (exact Out.refl _ _))
      exact s
    · have e0 : (decide (c.kind = 1) || decide (c.kind = 6)) = decide (c.kind = 6) := by clear s; simp [c0]
      rw [e0]
      refine VS_region_lit ?_
      refine VL_run (d := 7) (run_eqI rfl rfl rfl) rfl rfl ?_
      refine VL_run (d := 5) (run_assign rfl (by conv => lhs; whnf)) rfl rfl ?_
      refine VL_nil ?_
      refine VS_met (()) ?_ (by repeat (first | exact Has.nil _ | refine Has.cons rfl ?_)) (by repeat (first | exact Out.refl _ _ | refine Out.upd rfl ?_))
      exact s
  clear s
  rintro _ w j s
  refine VS_cond rfl (fun c1 => ?_) (fun c1 => ?_) <;> (try simp only [decide_eq_true_eq, decide_eq_false_iff_not, Bool.not_eq_true', Bool.not_eq_false', ne_eq, Decidable.not_not, cond_true, cond_false, Bool.and_eq_true, Bool.or_eq_true, Bool.and_eq_false_iff, Bool.or_eq_false_iff, Bool.not_true, Bool.not_false, reduceCtorEq] at c1)
  · repeat (refine VS_seq ?_)
    refine VS_meetB s 2 (pathOk c.path && inI c.off 0 7) [8, 9, 10, 11, 12, 13, 14, 15, 2] ?_ ?_
    · refine VS_region_lit ?_
      refine VL_run (d := 8) (run_fieldAddr rfl fo70_1 rfl) rfl rfl ?_
      refine VL_run (d := 9) (run_load_own1 s rfl ty23 rfl (i := 0) rfl rfl) rfl rfl ?_
      refine VL_does (d := 10) (does_call1 rfl (by kernel_rfl) rfl (l2PathOk_ok _ (s.dat (i := 0) rfl) hc.1) ?_) rfl rfl
      rintro _ w ⟨rfl, hb⟩
      replace s := s.step hb
      clear hb
      refine VL_run (d := 11) (run_move rfl (by conv => lhs; whnf)) rfl rfl ?_
      refine VL_split 11 (by conv => lhs; whnf) (fun h11 => ?_) (fun h11 => ?_) <;> (try simp only [decide_eq_true_eq, decide_eq_false_iff_not, Bool.not_eq_true', Bool.not_eq_false', ne_eq, Decidable.not_not, cond_true, cond_false, Bool.and_eq_true, Bool.or_eq_true, Bool.and_eq_false_iff, Bool.or_eq_false_iff, Bool.not_true, Bool.not_false, reduceCtorEq] at h11)
      · refine VL_run (d := 12) (run_fieldAddr rfl fo70_3 rfl) rfl rfl ?_
        refine VL_run (d := 13) (run_load_own1 s rfl ty3 rfl (i := 0) rfl rfl) rfl rfl ?_
        refine VL_does (d := 14) (does_call3 rfl (by kernel_rfl) rfl rfl rfl (l1In_ok _ _ _) ?_) rfl rfl
        rintro _ w ⟨rfl, hb⟩
        replace s := s.step hb
        clear hb
        refine VL_run (d := 15) (run_pickT rfl rfl rfl) rfl rfl ?_
        refine VL_run (d := 2) (run_assign rfl (by conv => lhs; whnf)) rfl rfl ?_
        refine VL_nil ?_
        exact VS_endB s (by conv => lhs; whnf) (by (simp_all; done)) (by repeat (first | exact Out.refl _ _ | refine Out.upd rfl ?_))
      · refine VL_not (d := 12) rfl rfl rfl rfl ?_
        refine VL_not (d := 13) rfl rfl rfl rfl ?_
        refine VL_not (d := 14) rfl rfl rfl rfl ?_
        refine VL_run (d := 15) (run_pickF rfl rfl rfl) rfl rfl ?_
        refine VL_run (d := 2) (run_assign rfl (by conv => lhs; whnf)) rfl rfl ?_
        refine VL_nil ?_
        exact VS_endB s (by conv => lhs; whnf) (by (simp_all; done)) (by repeat (first | exact Out.refl _ _ | refine Out.upd rfl ?_))
    clear s; intro w j2 s
    refine VS_ret ?_
    repeat (refine blockV_ret ?_)
    refine fin_one (fn := Try.f86) rfl (res_tmp (by conv => lhs; whnf)) ?_
    exact ⟨by clear s; clear h1 h2; simp [Cl.ok, *] <;> grind, s.below⟩
  · repeat (refine VS_seq ?_)
    refine VS_region_lit ?_
    refine VL_run (d := 17) (run_eqI rfl rfl rfl) rfl rfl ?_
    refine VL_run (d := 16) (run_assign rfl (by conv => lhs; whnf)) rfl rfl ?_
    refine VL_nil ?_
    refine VS_join1 [16, 18] (fun _ : Unit => [(16, .bool (decide (c.kind = 2) || decide (c.kind = 3)))]) (fun _ w => St ok w0 [.blk b1 (clC c A1 k1 A2 k2) 70] [.dat [.slice A1 c.path.length k1] (.sl (strsD c.path)), .dat [.slice A2 c.to.length k2] (.sl (strsD c.to))] w) ?_ ?_
    · refine VS_cond rfl (fun c2 => ?_) (fun c2 => ?_) <;> (try simp only [decide_eq_true_eq, decide_eq_false_iff_not, Bool.not_eq_true', Bool.not_eq_false', ne_eq, Decidable.not_not, cond_true, cond_false, Bool.and_eq_true, Bool.or_eq_true, Bool.and_eq_false_iff, Bool.or_eq_false_iff, Bool.not_true, Bool.not_false, reduceCtorEq] at c2)
      · have e0 : (decide (c.kind = 2) || decide (c.kind = 3)) = decide (c.kind = 2) := by clear s; simp [c2]
        rw [e0]
        repeat (refine VS_skip ?_)
        refine VS_met (()) ?_ (by repeat (first | exact Has.nil _ | refine Has.cons rfl ?_)) (by repeat (exact Out.refl _ _))
        exact s
      · have e0 : (decide (c.kind = 2) || decide (c.kind = 3)) = decide (c.kind = 3) := by clear s; simp [c2]
        rw [e0]
        refine VS_region_lit ?_
        refine VL_run (d := 18) (run_eqI rfl rfl rfl) rfl rfl ?_
        refine VL_run (d := 16) (run_assign rfl (by conv => lhs; whnf)) rfl rfl ?_
        refine VL_nil ?_
        refine VS_met (()) ?_ (by repeat (first | exact Has.nil _ | refine Has.cons rfl ?_)) (by repeat (first | exact Out.refl _ _ | refine Out.upd rfl ?_))
        exact s
    clear s
    rintro _ w j s
    refine VS_cond rfl (fun c3 => ?_) (fun c3 => ?_) <;> (try simp only [decide_eq_true_eq, decide_eq_false_iff_not, Bool.not_eq_true', Bool.not_eq_false', ne_eq, Decidable.not_not, cond_true, cond_false, Bool.and_eq_true, Bool.or_eq_true, Bool.and_eq_false_iff, Bool.or_eq_false_iff, Bool.not_true, Bool.not_false, reduceCtorEq] at c3)
    · repeat (refine VS_seq ?_)
      refine VS_meetB s 2 (pathOk c.path && inI c.off 0 24) [19, 20, 21, 22, 23, 24, 25, 26, 2] ?_ ?_
      · refine VS_region_lit ?_
        refine VL_run (d := 19) (run_fieldAddr rfl fo70_1 rfl) rfl rfl ?_
        refine VL_run (d := 20) (run_load_own1 s rfl ty23 rfl (i := 0) rfl rfl) rfl rfl ?_
        refine VL_does (d := 21) (does_call1 rfl (by kernel_rfl) rfl (l2PathOk_ok _ (s.dat (i := 0) rfl) hc.1) ?_) rfl rfl
        rintro _ w ⟨rfl, hb⟩
        replace s := s.step hb
        clear hb
        refine VL_run (d := 22) (run_move rfl (by conv => lhs; whnf)) rfl rfl ?_
        refine VL_split 22 (by conv => lhs; whnf) (fun h22 => ?_) (fun h22 => ?_) <;> (try simp only [decide_eq_true_eq, decide_eq_false_iff_not, Bool.not_eq_true', Bool.not_eq_false', ne_eq, Decidable.not_not, cond_true, cond_false, Bool.and_eq_true, Bool.or_eq_true, Bool.and_eq_false_iff, Bool.or_eq_false_iff, Bool.not_true, Bool.not_false, reduceCtorEq] at h22)
        · refine VL_run (d := 23) (run_fieldAddr rfl fo70_3 rfl) rfl rfl ?_
          refine VL_run (d := 24) (run_load_own1 s rfl ty3 rfl (i := 0) rfl rfl) rfl rfl ?_
          refine VL_does (d := 25) (does_call3 rfl (by kernel_rfl) rfl rfl rfl (l1In_ok _ _ _) ?_) rfl rfl
          rintro _ w ⟨rfl, hb⟩
          replace s := s.step hb
          clear hb
          refine VL_run (d := 26) (run_pickT rfl rfl rfl) rfl rfl ?_
          refine VL_run (d := 2) (run_assign rfl (by conv => lhs; whnf)) rfl rfl ?_
          refine VL_nil ?_
          exact VS_endB s (by conv => lhs; whnf) (by (simp_all; done)) (by repeat (first | exact Out.refl _ _ | refine Out.upd rfl ?_))
        · refine VL_not (d := 23) rfl rfl rfl rfl ?_
          refine VL_not (d := 24) rfl rfl rfl rfl ?_
          refine VL_not (d := 25) rfl rfl rfl rfl ?_
          refine VL_run (d := 26) (run_pickF rfl rfl rfl) rfl rfl ?_
          refine VL_run (d := 2) (run_assign rfl (by conv => lhs; whnf)) rfl rfl ?_
          refine VL_nil ?_
          exact VS_endB s (by conv => lhs; whnf) (by (simp_all; done)) (by repeat (first | exact Out.refl _ _ | refine Out.upd rfl ?_))
      clear s; intro w j2 s
      refine VS_ret ?_
      repeat (refine blockV_ret ?_)
      refine fin_one (fn := Try.f86) rfl (res_tmp (by conv => lhs; whnf)) ?_
      exact ⟨by clear s; clear h1 h2; simp [Cl.ok, *] <;> grind, s.below⟩
    · repeat (refine VS_seq ?_)
      refine VS_region_lit ?_
      refine VL_run (d := 28) (run_eqI rfl rfl rfl) rfl rfl ?_
      refine VL_run (d := 27) (run_assign rfl (by conv => lhs; whnf)) rfl rfl ?_
      refine VL_nil ?_
      refine VS_cond rfl (fun c4 => ?_) (fun c4 => ?_) <;> (try simp only [decide_eq_true_eq, decide_eq_false_iff_not, Bool.not_eq_true', Bool.not_eq_false', ne_eq, Decidable.not_not, cond_true, cond_false, Bool.and_eq_true, Bool.or_eq_true, Bool.and_eq_false_iff, Bool.or_eq_false_iff, Bool.not_true, Bool.not_false, reduceCtorEq] at c4)
      · repeat (refine VS_seq ?_)
        refine VS_region_lit ?_
        refine VL_run (d := 29) (run_fieldAddr rfl fo70_1 rfl) rfl rfl ?_
        refine VL_run (d := 30) (run_load_own1 s rfl ty23 rfl (i := 0) rfl rfl) rfl rfl ?_
        refine VL_does (d := 31) (does_call1 rfl (by kernel_rfl) rfl (l2PathOk_ok _ (s.dat (i := 0) rfl) hc.1) ?_) rfl rfl
        rintro _ w ⟨rfl, hb⟩
        replace s := s.step hb
        clear hb
        refine VL_run (d := 2) (run_assign rfl (by conv => lhs; whnf)) rfl rfl ?_
        refine VL_nil ?_
        refine VS_ret ?_
        repeat (refine blockV_ret ?_)
        refine fin_one (fn := Try.f86) rfl (res_tmp (by conv => lhs; whnf)) ?_
        exact ⟨by clear s; clear h1 h2; simp [Cl.ok, *] <;> grind, s.below⟩
      · repeat (refine VS_seq ?_)
        refine VS_region_lit ?_
        refine VL_run (d := 33) (run_eqI rfl rfl rfl) rfl rfl ?_
        refine VL_run (d := 32) (run_assign rfl (by conv => lhs; whnf)) rfl rfl ?_
        refine VL_nil ?_
        refine VS_cond rfl (fun c5 => ?_) (fun c5 => ?_) <;> (try simp only [decide_eq_true_eq, decide_eq_false_iff_not, Bool.not_eq_true', Bool.not_eq_false', ne_eq, Decidable.not_not, cond_true, cond_false, Bool.and_eq_true, Bool.or_eq_true, Bool.and_eq_false_iff, Bool.or_eq_false_iff, Bool.not_true, Bool.not_false, reduceCtorEq] at c5)
        · repeat (refine VS_seq ?_)
          refine VS_meetB s 2 (pathOk c.path && pathOk c.to) [34, 35, 36, 37, 38, 39, 40, 41, 2] ?_ ?_
          · refine VS_region_lit ?_
            refine VL_run (d := 34) (run_fieldAddr rfl fo70_1 rfl) rfl rfl ?_
            refine VL_run (d := 35) (run_load_own1 s rfl ty23 rfl (i := 0) rfl rfl) rfl rfl ?_
            refine VL_does (d := 36) (does_call1 rfl (by kernel_rfl) rfl (l2PathOk_ok _ (s.dat (i := 0) rfl) hc.1) ?_) rfl rfl
            rintro _ w ⟨rfl, hb⟩
            replace s := s.step hb
            clear hb
            refine VL_run (d := 37) (run_move rfl (by conv => lhs; whnf)) rfl rfl ?_
            refine VL_split 37 (by conv => lhs; whnf) (fun h37 => ?_) (fun h37 => ?_) <;> (try simp only [decide_eq_true_eq, decide_eq_false_iff_not, Bool.not_eq_true', Bool.not_eq_false', ne_eq, Decidable.not_not, cond_true, cond_false, Bool.and_eq_true, Bool.or_eq_true, Bool.and_eq_false_iff, Bool.or_eq_false_iff, Bool.not_true, Bool.not_false, reduceCtorEq] at h37)
            · refine VL_run (d := 38) (run_fieldAddr rfl fo70_2 rfl) rfl rfl ?_
              refine VL_run (d := 39) (run_load_own1 s rfl ty23 rfl (i := 0) rfl rfl) rfl rfl ?_
              refine VL_does (d := 40) (does_call1 rfl (by kernel_rfl) rfl (l2PathOk_ok _ (s.dat (i := 1) rfl) hc.2.1) ?_) rfl rfl
              rintro _ w ⟨rfl, hb⟩
              replace s := s.step hb
              clear hb
              refine VL_run (d := 41) (run_pickT rfl rfl rfl) rfl rfl ?_
              refine VL_run (d := 2) (run_assign rfl (by conv => lhs; whnf)) rfl rfl ?_
              refine VL_nil ?_
              exact VS_endB s (by conv => lhs; whnf) (by (simp_all; done)) (by repeat (first | exact Out.refl _ _ | refine Out.upd rfl ?_))
            · refine VL_not (d := 38) rfl rfl rfl rfl ?_
              refine VL_not (d := 39) rfl rfl rfl rfl ?_
              refine VL_not (d := 40) rfl rfl rfl rfl ?_
              refine VL_run (d := 41) (run_pickF rfl rfl rfl) rfl rfl ?_
              refine VL_run (d := 2) (run_assign rfl (by conv => lhs; whnf)) rfl rfl ?_
              refine VL_nil ?_
              exact VS_endB s (by conv => lhs; whnf) (by (simp_all; done)) (by repeat (first | exact Out.refl _ _ | refine Out.upd rfl ?_))
          clear s; intro w j2 s
          refine VS_ret ?_
          repeat (refine blockV_ret ?_)
          refine fin_one (fn := Try.f86) rfl (res_tmp (by conv => lhs; whnf)) ?_
          exact ⟨by clear s; clear h1 h2; simp [Cl.ok, *] <;> grind, s.below⟩
        · repeat (first | refine VS_seq ?_ | refine VS_skip ?_)
          refine VS_region_lit ?_
          refine VL_run (d := 2) (run_assign rfl (by conv => lhs; whnf)) rfl rfl ?_
          refine VL_nil ?_
          refine VS_ret ?_
          repeat (first | refine blockV_ret ?_ | refine backV_ret ?_ | refine backV2_ret ?_ | refine backV3_ret ?_ | refine thenV_ret ?_ | refine metV2_ret ?_)
          refine fin_one (fn := Try.f86) rfl (res_tmp (by conv => lhs; whnf)) ?_
          exact ⟨by clear s; clear h1 h2; simp [Cl.ok, *] <;> grind, s.below⟩
end Go.Proofs.Ytkefaelmamgjiaa
