/- impl: within, nameOk, namesOk, modeOk. -/
import Derived.Test.YtkefaelmamgjiaaS3
set_option linter.unusedVariables false
set_option linter.unusedSimpArgs false
set_option maxHeartbeats 1000000
namespace Go.Proofs.Ytkefaelmamgjiaa
open Go.RowKit

theorem within_ok {w0 : World} (n lo hi : Int) : Calls Try.prog 98 #[.int .i64 n, .int .i64 lo, .int .i64 hi] w0 (Ret fun v w' => v = .bool (inI n lo hi) ∧ Below w0.heap.size w0 w') := by
  have s := St.start (fun _ => False) w0
  refine calls_enter (n := 15) Try.func98 rfl rfl rfl ?_
  repeat (refine VS_seq ?_)
  refine VS_region_lit ?_
  refine VL_run (d := 6) (run_assign rfl (by conv => lhs; whnf)) rfl rfl ?_
  refine VL_nil ?_
  repeat (refine VS_seq ?_)
  refine VS_meetB s 6 (inI n lo hi) [7, 8, 9, 10, 11, 12, 13, 14, 6] ?_ ?_
  · refine VS_region_lit ?_
    refine VL_run (d := 7) (run_move rfl (by conv => lhs; whnf)) rfl rfl ?_
    refine VL_run (d := 8) (run_move rfl (by conv => lhs; whnf)) rfl rfl ?_
    refine VL_run (d := 9) (run_geI rfl rfl rfl) rfl rfl ?_
    refine VL_run (d := 10) (run_move rfl (by conv => lhs; whnf)) rfl rfl ?_
    refine VL_split 10 (by conv => lhs; whnf) (fun h10 => ?_) (fun h10 => ?_) <;> (try simp only [decide_eq_true_eq, decide_eq_false_iff_not, Bool.not_eq_true', Bool.not_eq_false', ne_eq, Decidable.not_not, cond_true, cond_false, Bool.and_eq_true, Bool.or_eq_true, Bool.and_eq_false_iff, Bool.or_eq_false_iff, Bool.not_true, Bool.not_false, reduceCtorEq] at h10)
    · refine VL_run (d := 11) (run_move rfl (by conv => lhs; whnf)) rfl rfl ?_
      refine VL_run (d := 12) (run_move rfl (by conv => lhs; whnf)) rfl rfl ?_
      refine VL_run (d := 13) (run_leI rfl rfl rfl) rfl rfl ?_
      refine VL_run (d := 14) (run_pickT rfl rfl rfl) rfl rfl ?_
      refine VL_run (d := 6) (run_assign rfl (by conv => lhs; whnf)) rfl rfl ?_
      refine VL_nil ?_
      exact VS_endB s (by conv => lhs; whnf) (by (simp [inI, *]; done)) (by repeat (first | exact Out.refl _ _ | refine Out.upd rfl ?_))
    · refine VL_not (d := 11) rfl rfl rfl rfl ?_
      refine VL_not (d := 12) rfl rfl rfl rfl ?_
      refine VL_not (d := 13) rfl rfl rfl rfl ?_
      refine VL_run (d := 14) (run_pickF rfl rfl rfl) rfl rfl ?_
      refine VL_run (d := 6) (run_assign rfl (by conv => lhs; whnf)) rfl rfl ?_
      refine VL_nil ?_
      exact VS_endB s (by conv => lhs; whnf) (by (simp [inI, *]; done)) (by repeat (first | exact Out.refl _ _ | refine Out.upd rfl ?_))
  clear s; intro w j6 s
  refine VS_ret ?_
  repeat (first | refine blockV_ret ?_ | refine backV_ret ?_ | refine backV2_ret ?_ | refine backV3_ret ?_ | refine thenV_ret ?_ | refine metV2_ret ?_)
  refine fin_one (fn := Try.f98) rfl (res_tmp (by conv => lhs; whnf)) ?_
  exact ⟨rfl, s.below⟩
theorem modeOk_ok {w0 : World} (n : Int) : Calls Try.prog 124 #[.int .i64 n] w0 (Ret fun v w' => v = .bool (inI n 0 7) ∧ Below w0.heap.size w0 w') := by
  have s := St.start (fun _ => False) w0
  refine calls_enter (n := 5) Try.func124 rfl rfl rfl ?_
  repeat (refine VS_seq ?_)
  refine VS_region_lit ?_
  refine VL_run (d := 2) (run_assign rfl (by conv => lhs; whnf)) rfl rfl ?_
  refine VL_nil ?_
  repeat (refine VS_seq ?_)
  refine VS_region_lit ?_
  refine VL_run (d := 3) (run_move rfl (by conv => lhs; whnf)) rfl rfl ?_
  refine VL_does (d := 4) (does_call3 rfl (by kernel_rfl) rfl rfl rfl (within_ok _ _ _) ?_) rfl rfl
  rintro _ w ⟨rfl, hb⟩
  replace s := s.step hb
  clear hb
  refine VL_run (d := 2) (run_assign rfl (by conv => lhs; whnf)) rfl rfl ?_
  refine VL_nil ?_
  refine VS_ret ?_
  repeat (first | refine blockV_ret ?_ | refine backV_ret ?_ | refine backV2_ret ?_ | refine backV3_ret ?_ | refine thenV_ret ?_ | refine metV2_ret ?_)
  refine fin_one (fn := Try.f124) rfl (res_tmp (by conv => lhs; whnf)) ?_
  exact ⟨rfl, s.below⟩
theorem nameOk_ok {w0 : World} (nm : ByteArray) (hn : nm.size ≤ 1000000000000) : Calls Try.prog 125 #[.string nm] w0 (Ret fun v w' => v = .bool (nameFrom nm 0) ∧ Below w0.heap.size w0 w') := by
  have s := St.start (fun _ => False) w0
  refine calls_enter (n := 35) Try.func125 rfl rfl rfl ?_
  repeat (refine VS_seq ?_)
  refine VS_region_lit ?_
  refine VL_run (d := 2) (run_assign rfl (by conv => lhs; whnf)) rfl rfl ?_
  refine VL_nil ?_
  repeat (refine VS_seq ?_)
  refine VS_region_lit ?_
  refine VL_run (d := 4) (run_move rfl (by conv => lhs; whnf)) rfl rfl ?_
  refine VL_run (d := 5) (run_lenStr rfl Try.underlying9 rfl) rfl rfl ?_
  refine VL_run (d := 6) (run_move rfl (by conv => lhs; whnf)) rfl rfl ?_
  refine VL_nil ?_
  repeat (refine VS_block ?_)
  refine VS_loop [2, 3, 6, 7, 8, 9, 10, 11, 12, 13, 14, 15, 16, 17, 18, 19, 20, 21, 22, 23, 24, 25, 26, 27, 28, 29, 30, 31] (fun k : Nat => [(6, .int .i64 k)]) (fun k w => St (fun _ => False) w0 [] [] w ∧ k ≤ nm.size ∧ nameFrom nm 0 = nameFrom nm k) (fun k => nm.size - k) 0 ⟨s, by omega, rfl⟩ (by repeat (first | exact Has.nil _ | refine Has.cons rfl ?_)) ?_
  clear s
  rintro k w j ⟨s, hk, hf⟩
  repeat (refine VS_seq ?_)
  refine VS_region_lit ?_
  refine VL_run (d := 7) (run_ltI rfl rfl rfl) rfl rfl ?_
  refine VL_nil ?_
  repeat (refine VS_seq ?_)
  refine VS_cond rfl (fun c0 => ?_) (fun c0 => ?_) <;> (try simp only [decide_eq_true_eq, decide_eq_false_iff_not, Bool.not_eq_true', Bool.not_eq_false', ne_eq, Decidable.not_not, cond_true, cond_false, Bool.and_eq_true, Bool.or_eq_true, Bool.and_eq_false_iff, Bool.or_eq_false_iff, Bool.not_true, Bool.not_false, reduceCtorEq] at c0)
  · repeat (first | refine VS_seq ?_ | refine VS_block ?_ | refine VS_skip ?_)
    refine VS_region_lit ?_
    refine VL_run (d := 8) (run_move rfl (by conv => lhs; whnf)) rfl rfl ?_
    refine VL_run (d := 3) (run_assign rfl (by conv => lhs; whnf)) rfl rfl ?_
    refine VL_nil ?_
    repeat (refine VS_seq ?_)
    have hk' : k < nm.size := by omega
    have hb : nm[(k : Int).toNat]? = some nm[k] := by simp [hk']
    refine VS_meetB s 30 (!chOk nm[k]) [9, 10, 11, 12, 13, 14, 15, 16, 17, 18, 19, 20, 21, 22, 23, 24, 25, 26, 27, 28, 29, 30] ?_ ?_
    · refine VS_region_lit ?_
      refine VL_run (d := 9) (run_move rfl (by conv => lhs; whnf)) rfl rfl ?_
      refine VL_run (d := 10) (run_move rfl (by conv => lhs; whnf)) rfl rfl ?_
      refine VL_run (d := 11) (run_indexStr rfl Try.underlying9 rfl rfl (by omega) ‹_›) rfl rfl ?_
      refine VL_run (d := 12) (run_ltI rfl rfl rfl) rfl rfl ?_
      refine VL_run (d := 13) (run_move rfl (by conv => lhs; whnf)) rfl rfl ?_
      refine VL_split 13 (by conv => lhs; whnf) (fun h13 => ?_) (fun h13 => ?_) <;> (try simp only [decide_eq_true_eq, decide_eq_false_iff_not, Bool.not_eq_true', Bool.not_eq_false', ne_eq, Decidable.not_not, cond_true, cond_false, Bool.and_eq_true, Bool.or_eq_true, Bool.and_eq_false_iff, Bool.or_eq_false_iff, Bool.not_true, Bool.not_false, reduceCtorEq] at h13)
      · refine VL_not (d := 14) rfl rfl rfl rfl ?_
        refine VL_not (d := 15) rfl rfl rfl rfl ?_
        refine VL_not (d := 16) rfl rfl rfl rfl ?_
        refine VL_not (d := 17) rfl rfl rfl rfl ?_
        refine VL_run (d := 18) (run_pickT rfl rfl rfl) rfl rfl ?_
        refine VL_run (d := 19) (run_move rfl (by conv => lhs; whnf)) rfl rfl ?_
        refine VL_run (d := 20) (run_move rfl (by conv => lhs; whnf)) rfl rfl ?_
        refine VL_run (d := 21) (run_move rfl (by conv => lhs; whnf)) rfl rfl ?_
        refine VL_run (d := 22) (run_indexStr rfl Try.underlying9 rfl rfl (by omega) ‹_›) rfl rfl ?_
        refine VL_run (d := 23) (run_ltI rfl rfl rfl) rfl rfl ?_
        refine VL_run (d := 24) (run_move rfl (by conv => lhs; whnf)) rfl rfl ?_
        refine VL_split 24 (by conv => lhs; whnf) (fun h24 => ?_) (fun h24 => ?_) <;> (try simp only [decide_eq_true_eq, decide_eq_false_iff_not, Bool.not_eq_true', Bool.not_eq_false', ne_eq, Decidable.not_not, cond_true, cond_false, Bool.and_eq_true, Bool.or_eq_true, Bool.and_eq_false_iff, Bool.or_eq_false_iff, Bool.not_true, Bool.not_false, reduceCtorEq] at h24)
        · refine VL_not (d := 25) rfl rfl rfl rfl ?_
          refine VL_not (d := 26) rfl rfl rfl rfl ?_
          refine VL_not (d := 27) rfl rfl rfl rfl ?_
          refine VL_not (d := 28) rfl rfl rfl rfl ?_
          refine VL_run (d := 29) (run_pickT rfl rfl rfl) rfl rfl ?_
          refine VL_run (d := 30) (run_pickT rfl rfl rfl) rfl rfl ?_
          refine VL_nil ?_
          exact VS_endB s (by conv => lhs; whnf) (by clear s; unfold chOk; grind) (by repeat (first | exact Out.refl _ _ | refine Out.upd rfl ?_))
        · refine VL_run (d := 25) (run_move rfl (by conv => lhs; whnf)) rfl rfl ?_
          refine VL_run (d := 26) (run_move rfl (by conv => lhs; whnf)) rfl rfl ?_
          refine VL_run (d := 27) (run_indexStr rfl Try.underlying9 rfl rfl (by omega) ‹_›) rfl rfl ?_
          refine VL_run (d := 28) (run_gtI rfl rfl rfl) rfl rfl ?_
          refine VL_run (d := 29) (run_pickF rfl rfl rfl) rfl rfl ?_
          refine VL_run (d := 30) (run_pickT rfl rfl rfl) rfl rfl ?_
          refine VL_nil ?_
          exact VS_endB s (by conv => lhs; whnf) (by clear s; unfold chOk; grind) (by repeat (first | exact Out.refl _ _ | refine Out.upd rfl ?_))
      · refine VL_run (d := 14) (run_move rfl (by conv => lhs; whnf)) rfl rfl ?_
        refine VL_run (d := 15) (run_move rfl (by conv => lhs; whnf)) rfl rfl ?_
        refine VL_run (d := 16) (run_indexStr rfl Try.underlying9 rfl rfl (by omega) ‹_›) rfl rfl ?_
        refine VL_run (d := 17) (run_gtI rfl rfl rfl) rfl rfl ?_
        refine VL_run (d := 18) (run_pickF rfl rfl rfl) rfl rfl ?_
        refine VL_run (d := 19) (run_move rfl (by conv => lhs; whnf)) rfl rfl ?_
        refine VL_split 19 (by conv => lhs; whnf) (fun h19 => ?_) (fun h19 => ?_) <;> (try simp only [decide_eq_true_eq, decide_eq_false_iff_not, Bool.not_eq_true', Bool.not_eq_false', ne_eq, Decidable.not_not, cond_true, cond_false, Bool.and_eq_true, Bool.or_eq_true, Bool.and_eq_false_iff, Bool.or_eq_false_iff, Bool.not_true, Bool.not_false, reduceCtorEq] at h19)
        · refine VL_run (d := 20) (run_move rfl (by conv => lhs; whnf)) rfl rfl ?_
          refine VL_run (d := 21) (run_move rfl (by conv => lhs; whnf)) rfl rfl ?_
          refine VL_run (d := 22) (run_indexStr rfl Try.underlying9 rfl rfl (by omega) ‹_›) rfl rfl ?_
          refine VL_run (d := 23) (run_ltI rfl rfl rfl) rfl rfl ?_
          refine VL_run (d := 24) (run_move rfl (by conv => lhs; whnf)) rfl rfl ?_
          refine VL_split 24 (by conv => lhs; whnf) (fun h24 => ?_) (fun h24 => ?_) <;> (try simp only [decide_eq_true_eq, decide_eq_false_iff_not, Bool.not_eq_true', Bool.not_eq_false', ne_eq, Decidable.not_not, cond_true, cond_false, Bool.and_eq_true, Bool.or_eq_true, Bool.and_eq_false_iff, Bool.or_eq_false_iff, Bool.not_true, Bool.not_false, reduceCtorEq] at h24)
          · refine VL_not (d := 25) rfl rfl rfl rfl ?_
            refine VL_not (d := 26) rfl rfl rfl rfl ?_
            refine VL_not (d := 27) rfl rfl rfl rfl ?_
            refine VL_not (d := 28) rfl rfl rfl rfl ?_
            refine VL_run (d := 29) (run_pickT rfl rfl rfl) rfl rfl ?_
            refine VL_run (d := 30) (run_pickT rfl rfl rfl) rfl rfl ?_
            refine VL_nil ?_
            exact VS_endB s (by conv => lhs; whnf) (by clear s; unfold chOk; grind) (by repeat (first | exact Out.refl _ _ | refine Out.upd rfl ?_))
          · refine VL_run (d := 25) (run_move rfl (by conv => lhs; whnf)) rfl rfl ?_
            refine VL_run (d := 26) (run_move rfl (by conv => lhs; whnf)) rfl rfl ?_
            refine VL_run (d := 27) (run_indexStr rfl Try.underlying9 rfl rfl (by omega) ‹_›) rfl rfl ?_
            refine VL_run (d := 28) (run_gtI rfl rfl rfl) rfl rfl ?_
            refine VL_run (d := 29) (run_pickF rfl rfl rfl) rfl rfl ?_
            refine VL_run (d := 30) (run_pickT rfl rfl rfl) rfl rfl ?_
            refine VL_nil ?_
            exact VS_endB s (by conv => lhs; whnf) (by clear s; unfold chOk; grind) (by repeat (first | exact Out.refl _ _ | refine Out.upd rfl ?_))
        · refine VL_not (d := 20) rfl rfl rfl rfl ?_
          refine VL_not (d := 21) rfl rfl rfl rfl ?_
          refine VL_not (d := 22) rfl rfl rfl rfl ?_
          refine VL_not (d := 23) rfl rfl rfl rfl ?_
          refine VL_not (d := 24) rfl rfl rfl rfl ?_
          refine VL_not (d := 25) rfl rfl rfl rfl ?_
          refine VL_not (d := 26) rfl rfl rfl rfl ?_
          refine VL_not (d := 27) rfl rfl rfl rfl ?_
          refine VL_not (d := 28) rfl rfl rfl rfl ?_
          refine VL_not (d := 29) rfl rfl rfl rfl ?_
          refine VL_run (d := 30) (run_pickF rfl rfl rfl) rfl rfl ?_
          refine VL_nil ?_
          exact VS_endB s (by conv => lhs; whnf) (by clear s; unfold chOk; grind) (by repeat (first | exact Out.refl _ _ | refine Out.upd rfl ?_))
    clear s; intro w j30 s
    refine VS_cond rfl (fun c1 => ?_) (fun c1 => ?_) <;> (try simp only [decide_eq_true_eq, decide_eq_false_iff_not, Bool.not_eq_true', Bool.not_eq_false', ne_eq, Decidable.not_not, cond_true, cond_false, Bool.and_eq_true, Bool.or_eq_true, Bool.and_eq_false_iff, Bool.or_eq_false_iff, Bool.not_true, Bool.not_false, reduceCtorEq] at c1)
    · repeat (refine VS_seq ?_)
      refine VS_region_lit ?_
      refine VL_run (d := 2) (run_assign rfl (by conv => lhs; whnf)) rfl rfl ?_
      refine VL_nil ?_
      refine VS_ret ?_
      repeat (first | refine blockV_ret ?_ | refine backV_ret ?_)
      refine fin_one (fn := Try.f125) rfl (res_tmp (by conv => lhs; whnf)) ?_
      refine ⟨?_, s.below⟩
      rw [hf, nameFrom, dif_pos hk']
      simp_all
    · repeat (first | refine VS_skip ?_ | refine VS_nil_block ?_)
      refine VS_region_lit ?_
      refine VL_run (d := 31) (run_add rfl rfl rfl (by omega)) rfl rfl ?_
      refine VL_run (d := 6) (run_move rfl (by conv => lhs; whnf)) rfl rfl ?_
      refine VL_nil ?_
      refine VS_back (k + 1) ?_ (by repeat (first | exact Has.nil _ | refine Has.cons rfl ?_)) (by repeat (first | exact Out.mix _ _ _ | refine Out.upd rfl ?_ | refine Out.mix_in rfl ?_)) ?_
      · refine ⟨s, by omega, ?_⟩
        rw [hf, nameFrom, dif_pos hk']
        simp_all
      · omega
  · refine VS_exit ?_
    repeat (first | refine blockV_hit ?_ | refine backV_exit ?_)
    repeat (refine VS_seq ?_)
    refine VS_region_lit ?_
    refine VL_run (d := 32) (run_move rfl (by conv => lhs; whnf)) rfl rfl ?_
    refine VL_run (d := 33) (run_lenStr rfl Try.underlying9 rfl) rfl rfl ?_
    refine VL_does (d := 34) (does_call3 rfl (by kernel_rfl) rfl rfl rfl (within_ok _ _ _) ?_) rfl rfl
    rintro _ w ⟨rfl, hb⟩
    replace s := s.step hb
    clear hb
    refine VL_run (d := 2) (run_assign rfl (by conv => lhs; whnf)) rfl rfl ?_
    refine VL_nil ?_
    refine VS_ret ?_
    repeat (first | refine blockV_ret ?_ | refine backV_ret ?_ | refine backV2_ret ?_ | refine backV3_ret ?_ | refine thenV_ret ?_ | refine metV2_ret ?_)
    refine fin_one (fn := Try.f125) rfl (res_tmp (by conv => lhs; whnf)) ?_
    refine ⟨?_, s.below⟩
    rw [hf, nameFrom, dif_neg (by omega)]
/-- Names, at least so many, at most four. -/
def namesOkB (p : List ByteArray) (least : Int) : Bool := p.all (fun n => nameFrom n 0) && inI p.length least 4
theorem namesOk_ok (p : List ByteArray) (least : Int) {ok : Nat → Prop} {w0 : World} {v1 : Value} (h1 : Rd ok w0 (.sl (strsD p)) [v1]) (hp : PFit p) :
    Calls Try.prog 96 #[v1, .int .i64 least] w0 (Ret fun v w' => v = .bool (namesOkB p least) ∧ Below w0.heap.size w0 w') := by
  obtain ⟨A, c, e1, hl1⟩ := Rd_strs h1
  obtain rfl := List.singleton_inj.1 e1
  have f1 := hp.len
  have f2 := hp.mem
  have s := (St.start ok w0).begin h1
  refine calls_enter (n := 21) Try.func96 rfl rfl rfl ?_
  repeat (refine VS_seq ?_)
  refine VS_region_lit ?_
  refine VL_run (d := 4) (run_assign rfl (by conv => lhs; whnf)) rfl rfl ?_
  refine VL_nil ?_
  repeat (refine VS_seq ?_)
  refine VS_region_lit ?_
  refine VL_run (d := 7) (run_move rfl (by conv => lhs; whnf)) rfl rfl ?_
  refine VL_run (d := 8) (run_lenSlice rfl ⟨_, Try.underlying23⟩ rfl) rfl rfl ?_
  refine VL_run (d := 9) (run_move rfl (by conv => lhs; whnf)) rfl rfl ?_
  refine VL_nil ?_
  repeat (refine VS_block ?_)
  refine VS_loop [4, 6, 9, 10, 11, 12, 13, 14, 15, 16] (fun k : Nat => [(9, .int .i64 k)]) (fun k w => St ok w0 [] [.dat [.slice A p.length c] (.sl (strsD p))] w ∧ k ≤ p.length ∧ p.all (fun n => nameFrom n 0) = (p.drop k).all (fun n => nameFrom n 0)) (fun k => p.length - k) 0 ⟨s, by omega, rfl⟩ (by repeat (first | exact Has.nil _ | refine Has.cons rfl ?_)) ?_
  clear s
  rintro k w j ⟨s, hk, hf⟩
  repeat (refine VS_seq ?_)
  refine VS_region_lit ?_
  refine VL_run (d := 10) (run_ltI rfl rfl rfl) rfl rfl ?_
  refine VL_nil ?_
  repeat (refine VS_seq ?_)
  refine VS_cond rfl (fun c0 => ?_) (fun c0 => ?_) <;> (try simp only [decide_eq_true_eq, decide_eq_false_iff_not, Bool.not_eq_true', Bool.not_eq_false', ne_eq, Decidable.not_not, cond_true, cond_false, Bool.and_eq_true, Bool.or_eq_true, Bool.and_eq_false_iff, Bool.or_eq_false_iff, Bool.not_true, Bool.not_false, reduceCtorEq] at c0)
  · repeat (first | refine VS_seq ?_ | refine VS_block ?_ | refine VS_skip ?_)
    have hk' : k < p.length := by omega
    have hd := List.drop_eq_getElem_cons hk'
    rw [hd, List.all_cons] at hf
    obtain ⟨ad, rfl, s⟩ := s.openS (i := 0) rfl k hk'
    refine VS_region_lit ?_
    refine VL_run (d := 11) (run_indexAddr rfl Try.underlying23 ty9 rfl rfl (by omega) (by omega)) rfl rfl ?_
    refine VL_run (d := 12) (run_load_at0 s rfl ty9 rfl (i := 0) rfl rfl) rfl rfl ?_
    refine VL_run (d := 6) (run_assign rfl (by conv => lhs; whnf)) rfl rfl ?_
    refine VL_nil ?_
    repeat (refine VS_seq ?_)
    refine VS_region_lit ?_
    refine VL_run (d := 13) (run_move rfl (by conv => lhs; whnf)) rfl rfl ?_
    refine VL_does (d := 14) (does_call1 rfl (by kernel_rfl) rfl (nameOk_ok _ (Nat.le_trans (f2 _ (List.getElem_mem hk')) (by decide))) ?_) rfl rfl
    rintro _ w ⟨rfl, hb⟩
    replace s := s.step hb
    clear hb
    refine VL_run (d := 15) (run_not rfl rfl) rfl rfl ?_
    refine VL_nil ?_
    refine VS_cond rfl (fun c1 => ?_) (fun c1 => ?_) <;> (try simp only [decide_eq_true_eq, decide_eq_false_iff_not, Bool.not_eq_true', Bool.not_eq_false', ne_eq, Decidable.not_not, cond_true, cond_false, Bool.and_eq_true, Bool.or_eq_true, Bool.and_eq_false_iff, Bool.or_eq_false_iff, Bool.not_true, Bool.not_false, reduceCtorEq] at c1)
    · repeat (refine VS_seq ?_)
      refine VS_region_lit ?_
      refine VL_run (d := 4) (run_assign rfl (by conv => lhs; whnf)) rfl rfl ?_
      refine VL_nil ?_
      refine VS_ret ?_
      repeat (first | refine blockV_ret ?_ | refine backV_ret ?_)
      refine fin_one (fn := Try.f96) rfl (res_tmp (by conv => lhs; whnf)) ?_
      refine ⟨?_, s.below⟩
      rw [namesOkB, hf, c1]
      rfl
    · repeat (first | refine VS_skip ?_ | refine VS_nil_block ?_)
      refine VS_region_lit ?_
      refine VL_run (d := 16) (run_add rfl rfl rfl (by omega)) rfl rfl ?_
      refine VL_run (d := 9) (run_move rfl (by conv => lhs; whnf)) rfl rfl ?_
      refine VL_nil ?_
      refine VS_back (k + 1) ?_ (by repeat (first | exact Has.nil _ | refine Has.cons rfl ?_)) (by repeat (first | exact Out.mix _ _ _ | refine Out.upd rfl ?_)) ?_
      · refine ⟨s.less (by simp), by omega, ?_⟩
        rw [hf, c1, Bool.true_and]
      · omega
  · refine VS_exit ?_
    repeat (first | refine blockV_hit ?_ | refine backV_exit ?_)
    repeat (refine VS_seq ?_)
    refine VS_region_lit ?_
    refine VL_run (d := 17) (run_move rfl (by conv => lhs; whnf)) rfl rfl ?_
    refine VL_run (d := 18) (run_lenSlice rfl ⟨_, Try.underlying23⟩ rfl) rfl rfl ?_
    refine VL_run (d := 19) (run_move rfl (by conv => lhs; whnf)) rfl rfl ?_
    refine VL_does (d := 20) (does_call3 rfl (by kernel_rfl) rfl rfl rfl (within_ok _ _ _) ?_) rfl rfl
    rintro _ w ⟨rfl, hb⟩
    replace s := s.step hb
    clear hb
    refine VL_run (d := 4) (run_assign rfl (by conv => lhs; whnf)) rfl rfl ?_
    refine VL_nil ?_
    refine VS_ret ?_
    repeat (first | refine blockV_ret ?_ | refine backV_ret ?_ | refine backV2_ret ?_ | refine backV3_ret ?_ | refine thenV_ret ?_ | refine metV2_ret ?_)
    refine fin_one (fn := Try.f96) rfl (res_tmp (by conv => lhs; whnf)) ?_
    refine ⟨?_, s.below⟩
    rw [List.drop_of_length_le (by omega)] at hf
    rw [namesOkB, hf]
    rfl
end Go.Proofs.Ytkefaelmamgjiaa
