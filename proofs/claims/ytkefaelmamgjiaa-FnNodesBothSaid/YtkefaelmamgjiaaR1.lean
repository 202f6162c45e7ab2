/- draws: pick, l1Open, of, l1Many, l4Name, l4Data. -/
import Derived.Test.YtkefaelmamgjiaaRdr
import Derived.Test.YtkefaelmamgjiaaS8
set_option linter.unusedVariables false
set_option linter.unusedSimpArgs false
set_option maxHeartbeats 4000000
namespace Go.Proofs.Ytkefaelmamgjiaa
open Go.RowKit

theorem pick_ok {ok : Nat → Prop} {w0 : World} {b : Nat} {v : Value} {p : Int} {l : List UInt8} (n : Int) (h : Rdr ok w0 b v p l) (hp : p ≤ 1000000000) (hn : n ≤ 1000000000) :
    Calls Try.prog 60 #[.pointer (some ⟨b, 0, none⟩), .int .i64 n] w0 (Ret fun r w' => ∃ x : Int, r = .int .i64 x ∧ 0 ≤ x ∧ (x < n ∨ x = 0) ∧ Aft w0 w' b v p 1) := by
  have s := h.start
  have hlen := h.len
  have hlow := h.low
  obtain ⟨A, c, e1, hl⟩ := Rd_sl1 (s.dat (i := 0) rfl)
  rw [bytesL_length] at hl e1
  obtain rfl := List.singleton_inj.1 e1
  refine calls_enter (n := 99) Try.func60 rfl rfl rfl ?_
  repeat (refine VS_seq ?_)
  refine VS_region_lit ?_
  refine VL_run (d := 4) (run_assign rfl (by conv => lhs; whnf)) rfl rfl ?_
  refine VL_nil ?_
  repeat (refine VS_seq ?_)
  refine VS_region_lit ?_
  refine VL_run (d := 7) (run_move rfl (by conv => lhs; whnf)) rfl rfl ?_
  refine VL_run (d := 8) (run_move rfl (by conv => lhs; whnf)) rfl rfl ?_
  refine VL_run (d := 9) (run_nilCheck rfl rfl) rfl rfl ?_
  refine VL_run (d := 10) (run_fieldAddr rfl fo121_1 rfl) rfl rfl ?_
  refine VL_run (d := 11) (run_load_own1 s rfl ty3 rfl (i := 0) rfl rfl) rfl rfl ?_
  refine VL_run (d := 12) (run_add rfl rfl rfl (by omega)) rfl rfl ?_
  refine VL_run (d := 13) (run_nilCheck rfl rfl) rfl rfl ?_
  refine VL_run (d := 14) (run_fieldAddr rfl fo121_1 rfl) rfl rfl ?_
  (refine VL_doesU (does_store s rfl ty3 rfl rfl (i := 0) rfl rfl rfl (by (intro u hu; simp only [List.mem_cons, List.not_mem_nil, or_false] at hu; subst hu; rfl)) rfl ?_) rfl rfl rfl)
  clear s; intro w s
  try simp only [List.set_cons_zero, List.set_cons_succ, patch, List.take_succ_cons, List.take_zero, List.drop_succ_cons, List.drop_zero, List.drop_nil, List.nil_append, List.cons_append, List.append_nil, List.length_cons, List.length_nil, Nat.reduceAdd, Nat.zero_add] at s
  refine VL_nil ?_
  replace s : St ok ⟨w0, [b]⟩ [.blk b (rdC (.slice A l.length c) (p + 1)) 121] [.dat [.slice A l.length c] (.sl (bytesL l))] w := s
  repeat (refine VS_seq ?_)
  refine VS_meetB s 24 (decide (n < 1) || decide (l.length = 0)) [15, 16, 17, 18, 19, 20, 21, 22, 23, 24] ?_ ?_
  · refine VS_region_lit ?_
    refine VL_run (d := 15) (run_move rfl (by conv => lhs; whnf)) rfl rfl ?_
    refine VL_run (d := 16) (run_ltI rfl rfl rfl) rfl rfl ?_
    refine VL_run (d := 17) (run_move rfl (by conv => lhs; whnf)) rfl rfl ?_
    refine VL_split 17 (by conv => lhs; whnf) (fun h17 => ?_) (fun h17 => ?_) <;> (try simp only [decide_eq_true_eq, decide_eq_false_iff_not, Bool.not_eq_true', Bool.not_eq_false', ne_eq, Decidable.not_not, cond_true, cond_false, Bool.and_eq_true, Bool.or_eq_true, Bool.and_eq_false_iff, Bool.or_eq_false_iff, Bool.not_true, Bool.not_false, reduceCtorEq] at h17)
    · refine VL_not (d := 18) rfl rfl rfl rfl ?_
      refine VL_not (d := 19) rfl rfl rfl rfl ?_
      refine VL_not (d := 20) rfl rfl rfl rfl ?_
      refine VL_not (d := 21) rfl rfl rfl rfl ?_
      refine VL_not (d := 22) rfl rfl rfl rfl ?_
      refine VL_not (d := 23) rfl rfl rfl rfl ?_
      refine VL_run (d := 24) (run_pickT rfl rfl rfl) rfl rfl ?_
      refine VL_nil ?_
      exact VS_endB s (by conv => lhs; whnf) (by (simp_all; done)) (by repeat (first | exact Out.refl _ _ | refine Out.upd rfl ?_))
    · refine VL_run (d := 18) (run_move rfl (by conv => lhs; whnf)) rfl rfl ?_
      refine VL_run (d := 19) (run_nilCheck rfl rfl) rfl rfl ?_
      refine VL_run (d := 20) (run_fieldAddr rfl fo121_0 rfl) rfl rfl ?_
      refine VL_run (d := 21) (run_load_own1 s rfl ty22 rfl (i := 0) rfl rfl) rfl rfl ?_
      refine VL_run (d := 22) (run_lenSlice rfl ⟨_, Try.underlying22⟩ rfl) rfl rfl ?_
      refine VL_run (d := 23) (run_eqI rfl rfl rfl) rfl rfl ?_
      refine VL_run (d := 24) (run_pickF rfl rfl rfl) rfl rfl ?_
      refine VL_nil ?_
      exact VS_endB s (by conv => lhs; whnf) (by (simp_all; omega)) (by repeat (first | exact Out.refl _ _ | refine Out.upd rfl ?_))
  clear s; intro w j24 s
  refine VS_cond rfl (fun c0 => ?_) (fun c0 => ?_) <;> (try simp only [decide_eq_true_eq, decide_eq_false_iff_not, Bool.not_eq_true', Bool.not_eq_false', ne_eq, Decidable.not_not, cond_true, cond_false, Bool.and_eq_true, Bool.or_eq_true, Bool.and_eq_false_iff, Bool.or_eq_false_iff, Bool.not_true, Bool.not_false, reduceCtorEq] at c0)
  · repeat (refine VS_seq ?_)
    refine VS_region_lit ?_
    refine VL_run (d := 4) (run_assign rfl (by conv => lhs; whnf)) rfl rfl ?_
    refine VL_nil ?_
    refine VS_ret ?_
    repeat (first | refine blockV_ret ?_ | refine backV_ret ?_ | refine backV2_ret ?_ | refine backV3_ret ?_ | refine thenV_ret ?_ | refine metV2_ret ?_)
    refine fin_one (fn := Try.f60) rfl (res_tmp (by conv => lhs; whnf)) ?_
    exact ⟨0, rfl, by omega, .inr rfl, s.aftOut (i := 0) rfl (by omega) (by omega)⟩
  · repeat (first | refine VS_seq ?_ | refine VS_skip ?_)
    refine VS_region_lit ?_
    refine VL_run (d := 25) (run_move rfl (by conv => lhs; whnf)) rfl rfl ?_
    refine VL_run (d := 26) (run_nilCheck rfl rfl) rfl rfl ?_
    refine VL_run (d := 27) (run_fieldAddr rfl fo121_1 rfl) rfl rfl ?_
    refine VL_run (d := 28) (run_load_own1 s rfl ty3 rfl (i := 0) rfl rfl) rfl rfl ?_
    refine VL_run (d := 29) (run_sub rfl rfl rfl (by omega)) rfl rfl ?_
    refine VL_run (d := 5) (run_assign rfl (by conv => lhs; whnf)) rfl rfl ?_
    refine VL_nil ?_
    repeat (refine VS_seq ?_)
    refine VS_region_lit ?_
    refine VL_run (d := 30) (run_move rfl (by conv => lhs; whnf)) rfl rfl ?_
    refine VL_run (d := 31) (run_move rfl (by conv => lhs; whnf)) rfl rfl ?_
    refine VL_run (d := 32) (run_nilCheck rfl rfl) rfl rfl ?_
    refine VL_run (d := 33) (run_fieldAddr rfl fo121_0 rfl) rfl rfl ?_
    refine VL_run (d := 34) (run_load_own1 s rfl ty22 rfl (i := 0) rfl rfl) rfl rfl ?_
    refine VL_run (d := 35) (run_lenSlice rfl ⟨_, Try.underlying22⟩ rfl) rfl rfl ?_
    refine VL_run (d := 36) (run_ltI rfl rfl rfl) rfl rfl ?_
    refine VL_nil ?_
    refine VS_cond rfl (fun c1 => ?_) (fun c1 => ?_) <;> (try simp only [decide_eq_true_eq, decide_eq_false_iff_not, Bool.not_eq_true', Bool.not_eq_false', ne_eq, Decidable.not_not, cond_true, cond_false, Bool.and_eq_true, Bool.or_eq_true, Bool.and_eq_false_iff, Bool.or_eq_false_iff, Bool.not_true, Bool.not_false, reduceCtorEq] at c1)
    · obtain ⟨ad, rfl, s⟩ := s.openBy (i := 0) rfl p.toNat (by omega)
      have hb1 : (l[p.toNat].toNat : Int) ≤ 255 := by have := l[p.toNat].toNat_lt; omega
      repeat (refine VS_seq ?_)
      refine VS_region_lit ?_
      refine VL_run (d := 37) (run_move rfl (by conv => lhs; whnf)) rfl rfl ?_
      refine VL_run (d := 38) (run_nilCheck rfl rfl) rfl rfl ?_
      refine VL_run (d := 39) (run_fieldAddr rfl fo121_0 rfl) rfl rfl ?_
      refine VL_run (d := 40) (run_load_own1 s rfl ty22 rfl (i := 0) rfl rfl) rfl rfl ?_
      refine VL_run (d := 41) (run_move rfl (by conv => lhs; whnf)) rfl rfl ?_
      refine VL_run (d := 42) (run_indexAddrN (q := p.toNat) rfl Try.underlying22 ty5 rfl rfl (by omega) (by omega)) rfl rfl ?_
      refine VL_run (d := 43) (run_load_at0 s rfl ty5 rfl (i := 0) rfl rfl) rfl rfl ?_
      refine VL_run (d := 44) (run_convI rfl (by kernel_rfl) Try.underlying3 rfl (by (simp only [IntKind.wrap_i64, IntKind.wrap_u8, IntKind.wrap_u64]; omega))) rfl rfl ?_
      refine VL_run (d := 45) (run_move rfl (by conv => lhs; whnf)) rfl rfl ?_
      refine VL_run (d := 46) (run_rem rfl rfl rfl (by omega) (by omega)) rfl rfl ?_
      refine VL_run (d := 4) (run_assign rfl (by conv => lhs; whnf)) rfl rfl ?_
      refine VL_nil ?_
      refine VS_ret ?_
      repeat (first | refine blockV_ret ?_ | refine backV_ret ?_ | refine backV2_ret ?_ | refine backV3_ret ?_ | refine thenV_ret ?_ | refine metV2_ret ?_)
      refine fin_one (fn := Try.f60) rfl (res_tmp (by conv => lhs; whnf)) ?_
      exact ⟨_, rfl, Int.emod_nonneg _ (by omega), .inl (Int.emod_lt_of_pos _ (by omega)), s.aftOut (i := 0) rfl (by omega) (by omega)⟩
    · repeat (first | refine VS_seq ?_ | refine VS_skip ?_)
      obtain ⟨i1, hi1, hlt1⟩ : ∃ i : Nat, (p + 1 - 1) % (l.length : Int) = i ∧ i < l.length := ⟨((p + 1 - 1) % (l.length : Int)).toNat, (Int.toNat_of_nonneg (Int.emod_nonneg _ (by omega))).symm, by
        have := Int.emod_nonneg (p + 1 - 1) (show (l.length : Int) ≠ 0 by omega)
        have := Int.emod_lt_of_pos (p + 1 - 1) (show (0 : Int) < (l.length : Int) by omega)
        omega⟩
      obtain ⟨i2, hi2, hlt2⟩ : ∃ i : Nat, ((p + 1 - 1) * 7 + 3) % (l.length : Int) = i ∧ i < l.length := ⟨(((p + 1 - 1) * 7 + 3) % (l.length : Int)).toNat, (Int.toNat_of_nonneg (Int.emod_nonneg _ (by omega))).symm, by
        have := Int.emod_nonneg ((p + 1 - 1) * 7 + 3) (show (l.length : Int) ≠ 0 by omega)
        have := Int.emod_lt_of_pos ((p + 1 - 1) * 7 + 3) (show (0 : Int) < (l.length : Int) by omega)
        omega⟩
      obtain ⟨ad, rfl, s⟩ := s.openBy (i := 0) rfl i1 hlt1
      obtain ⟨ad2, e2, s⟩ := s.openBy (i := 1) rfl i2 hlt2
      obtain rfl := Option.some.inj e2
      have hb1 : (l[i1].toNat : Int) ≤ 255 := by have := l[i1].toNat_lt; omega
      have hb2 : (l[i2].toNat : Int) ≤ 255 := by have := l[i2].toNat_lt; omega
      have hq1 : 0 ≤ (p + 1 - 1) / (l.length : Int) := Int.ediv_nonneg (by omega) (by omega)
      have hq2 : (p + 1 - 1) / (l.length : Int) ≤ p + 1 - 1 := Int.ediv_le_self _ (by omega)
      refine VS_drawS 46 s mixed ?_
      clear s; intro s
      refine VA_take 0 (d := 47) rfl (by kernel_rfl) rfl (fun w g => run_move rfl (by conv => lhs; whnf)) s.see ?_
      refine VA_take 1 (d := 48) rfl (by kernel_rfl) rfl (fun w g => run_nilCheck rfl rfl) s.see ?_
      refine VA_take 2 (d := 49) rfl (by kernel_rfl) rfl (fun w g => run_fieldAddr rfl fo121_0 rfl) s.see ?_
      refine VA_take 3 (d := 50) rfl (by kernel_rfl) rfl (fun w g => see_own1 g rfl ty22 rfl (i := 0) rfl rfl) s.see ?_
      refine VA_take 4 (d := 51) rfl (by kernel_rfl) rfl (fun w g => run_move rfl (by conv => lhs; whnf)) s.see ?_
      refine VA_take 5 (d := 52) rfl (by kernel_rfl) rfl (fun w g => run_move rfl (by conv => lhs; whnf)) s.see ?_
      refine VA_take 6 (d := 53) rfl (by kernel_rfl) rfl (fun w g => run_nilCheck rfl rfl) s.see ?_
      refine VA_take 7 (d := 54) rfl (by kernel_rfl) rfl (fun w g => run_fieldAddr rfl fo121_0 rfl) s.see ?_
      refine VA_take 8 (d := 55) rfl (by kernel_rfl) rfl (fun w g => see_own1 g rfl ty22 rfl (i := 0) rfl rfl) s.see ?_
      refine VA_take 9 (d := 56) rfl (by kernel_rfl) rfl (fun w g => run_lenSlice rfl ⟨_, Try.underlying22⟩ rfl) s.see ?_
      refine VA_take 10 (d := 57) rfl (by kernel_rfl) rfl (fun w g => run_rem rfl rfl rfl (by omega) (by omega)) s.see ?_
      refine VA_take 11 (d := 58) rfl (by kernel_rfl) rfl (fun w g => run_indexAddrN (q := i1) rfl Try.underlying22 ty5 rfl rfl (by omega) (by omega)) s.see ?_
      refine VA_take 12 (d := 59) rfl (by kernel_rfl) rfl (fun w g => see_at0 g rfl ty5 rfl (i := 1) rfl rfl) s.see ?_
      refine VA_take 13 (d := 60) rfl (by kernel_rfl) rfl (fun w g => run_convI rfl (by kernel_rfl) Try.underlying3 rfl (by (simp only [IntKind.wrap_i64, IntKind.wrap_u8, IntKind.wrap_u64]; omega))) s.see ?_
      refine VA_take 14 (d := 61) rfl (by kernel_rfl) rfl (fun w g => run_mul rfl rfl rfl (by omega)) s.see ?_
      refine VA_take 15 (d := 62) rfl (by kernel_rfl) rfl (fun w g => run_move rfl (by conv => lhs; whnf)) s.see ?_
      refine VA_take 16 (d := 63) rfl (by kernel_rfl) rfl (fun w g => run_nilCheck rfl rfl) s.see ?_
      refine VA_take 17 (d := 64) rfl (by kernel_rfl) rfl (fun w g => run_fieldAddr rfl fo121_0 rfl) s.see ?_
      refine VA_take 18 (d := 65) rfl (by kernel_rfl) rfl (fun w g => see_own1 g rfl ty22 rfl (i := 0) rfl rfl) s.see ?_
      refine VA_take 19 (d := 66) rfl (by kernel_rfl) rfl (fun w g => run_move rfl (by conv => lhs; whnf)) s.see ?_
      refine VA_take 20 (d := 67) rfl (by kernel_rfl) rfl (fun w g => run_mul rfl rfl rfl (by omega)) s.see ?_
      refine VA_take 21 (d := 68) rfl (by kernel_rfl) rfl (fun w g => run_add rfl rfl rfl (by omega)) s.see ?_
      refine VA_take 22 (d := 69) rfl (by kernel_rfl) rfl (fun w g => run_move rfl (by conv => lhs; whnf)) s.see ?_
      refine VA_take 23 (d := 70) rfl (by kernel_rfl) rfl (fun w g => run_nilCheck rfl rfl) s.see ?_
      refine VA_take 24 (d := 71) rfl (by kernel_rfl) rfl (fun w g => run_fieldAddr rfl fo121_0 rfl) s.see ?_
      refine VA_take 25 (d := 72) rfl (by kernel_rfl) rfl (fun w g => see_own1 g rfl ty22 rfl (i := 0) rfl rfl) s.see ?_
      refine VA_take 26 (d := 73) rfl (by kernel_rfl) rfl (fun w g => run_lenSlice rfl ⟨_, Try.underlying22⟩ rfl) s.see ?_
      refine VA_take 27 (d := 74) rfl (by kernel_rfl) rfl (fun w g => run_rem rfl rfl rfl (by omega) (by omega)) s.see ?_
      refine VA_take 28 (d := 75) rfl (by kernel_rfl) rfl (fun w g => run_indexAddrN (q := i2) rfl Try.underlying22 ty5 rfl rfl (by omega) (by omega)) s.see ?_
      refine VA_take 29 (d := 76) rfl (by kernel_rfl) rfl (fun w g => see_at0 g rfl ty5 rfl (i := 0) rfl rfl) s.see ?_
      refine VA_take 30 (d := 77) rfl (by kernel_rfl) rfl (fun w g => run_convI rfl (by kernel_rfl) Try.underlying3 rfl (by (simp only [IntKind.wrap_i64, IntKind.wrap_u8, IntKind.wrap_u64]; omega))) s.see ?_
      refine VA_take 31 (d := 78) rfl (by kernel_rfl) rfl (fun w g => run_mul rfl rfl rfl (by omega)) s.see ?_
      refine VA_take 32 (d := 79) rfl (by kernel_rfl) rfl (fun w g => run_add rfl rfl rfl (by omega)) s.see ?_
      refine VA_take 33 (d := 80) rfl (by kernel_rfl) rfl (fun w g => run_move rfl (by conv => lhs; whnf)) s.see ?_
      refine VA_take 34 (d := 81) rfl (by kernel_rfl) rfl (fun w g => run_mul rfl rfl rfl (by omega)) s.see ?_
      refine VA_take 35 (d := 82) rfl (by kernel_rfl) rfl (fun w g => run_add rfl rfl rfl (by omega)) s.see ?_
      refine VA_take 36 (d := 83) rfl (by kernel_rfl) rfl (fun w g => run_move rfl (by conv => lhs; whnf)) s.see ?_
      refine VA_take 37 (d := 84) rfl (by kernel_rfl) rfl (fun w g => run_move rfl (by conv => lhs; whnf)) s.see ?_
      refine VA_take 38 (d := 85) rfl (by kernel_rfl) rfl (fun w g => run_nilCheck rfl rfl) s.see ?_
      refine VA_take 39 (d := 86) rfl (by kernel_rfl) rfl (fun w g => run_fieldAddr rfl fo121_0 rfl) s.see ?_
      refine VA_take 40 (d := 87) rfl (by kernel_rfl) rfl (fun w g => see_own1 g rfl ty22 rfl (i := 0) rfl rfl) s.see ?_
      refine VA_take 41 (d := 88) rfl (by kernel_rfl) rfl (fun w g => run_lenSlice rfl ⟨_, Try.underlying22⟩ rfl) s.see ?_
      refine VA_take 42 (d := 89) rfl (by kernel_rfl) rfl (fun w g => run_quo rfl rfl rfl (by omega) (by omega) (by omega)) s.see ?_
      refine VA_take 43 (d := 90) rfl (by kernel_rfl) rfl (fun w g => run_mul rfl rfl rfl (by omega)) s.see ?_
      refine VA_take 44 (d := 91) rfl (by kernel_rfl) rfl (fun w g => run_add rfl rfl rfl (by omega)) s.see ?_
      refine VA_take 45 (d := 6) rfl (by kernel_rfl) rfl (fun w g => run_assign rfl (by conv => lhs; whnf)) s.see ?_
      refine VA_done (by kernel_rfl) ?_
      repeat (refine VS_seq ?_)
      refine VS_region_lit ?_
      refine VL_run (d := 92) (run_move rfl (by conv => lhs; whnf)) rfl rfl ?_
      refine VL_run (d := 93) (run_move rfl (by conv => lhs; whnf)) rfl rfl ?_
      refine VL_run (d := 94) (run_quo rfl rfl rfl (by omega) (by omega) (by omega)) rfl rfl ?_
      refine VL_run (d := 95) (run_xor rfl rfl rfl (by omega) (by omega)) rfl rfl ?_
      refine VL_run (d := 6) (run_assign rfl (by conv => lhs; whnf)) rfl rfl ?_
      refine VL_nil ?_
      repeat (refine VS_seq ?_)
      refine VS_region_lit ?_
      refine VL_run (d := 96) (run_move rfl (by conv => lhs; whnf)) rfl rfl ?_
      refine VL_run (d := 97) (run_move rfl (by conv => lhs; whnf)) rfl rfl ?_
      refine VL_run (d := 98) (run_rem rfl rfl rfl (by omega) (by omega)) rfl rfl ?_
      refine VL_run (d := 4) (run_assign rfl (by conv => lhs; whnf)) rfl rfl ?_
      refine VL_nil ?_
      refine VS_ret ?_
      repeat (first | refine blockV_ret ?_ | refine backV_ret ?_ | refine backV2_ret ?_ | refine backV3_ret ?_ | refine thenV_ret ?_ | refine metV2_ret ?_)
      refine fin_one (fn := Try.f60) rfl (res_tmp (by conv => lhs; whnf)) ?_
      exact ⟨_, rfl, Int.emod_nonneg _ (by omega), .inl (Int.emod_lt_of_pos _ (by omega)), s.aftOut (i := 0) rfl (by omega) (by omega)⟩
theorem of_ok {ok : Nat → Prop} {w0 : World} {b : Nat} {v v2 : Value} {p : Int} {l : List UInt8} (xs : List ByteArray) (h : Rdr ok w0 b v p l) (h2 : Rd ok w0 (.sl (strsD xs)) [v2]) (hp : p ≤ 1000000000) (hne : xs ≠ []) (hn : xs.length ≤ 1000000) :
    Calls Try.prog 117 #[.pointer (some ⟨b, 0, none⟩), v2] w0 (Ret fun r w' => ∃ x : ByteArray, r = .string x ∧ x ∈ xs ∧ Aft w0 w' b v p 1) := by
  obtain ⟨A, c, e1, hl⟩ := Rd_strs h2
  obtain rfl := List.singleton_inj.1 e1
  have hlen := h.len
  have hlow := h.low
  have hx := List.length_pos_iff.2 hne
  have s := h.start.know (f := .dat _ _) (h.rd h2)
  refine calls_enter (n := 12) Try.func117 rfl rfl rfl ?_
  repeat (refine VS_seq ?_)
  refine VS_region_lit ?_
  refine VL_run (d := 4) (run_assign rfl (by conv => lhs; whnf)) rfl rfl ?_
  refine VL_nil ?_
  repeat (refine VS_seq ?_)
  refine VS_region_lit ?_
  refine VL_run (d := 5) (run_move rfl (by conv => lhs; whnf)) rfl rfl ?_
  refine VL_run (d := 6) (run_move rfl (by conv => lhs; whnf)) rfl rfl ?_
  refine VL_run (d := 7) (run_move rfl (by conv => lhs; whnf)) rfl rfl ?_
  refine VL_run (d := 8) (run_lenSlice rfl ⟨_, Try.underlying23⟩ rfl) rfl rfl ?_
  refine VL_does (d := 9) (does_call2 rfl (by kernel_rfl) rfl rfl (pick_ok _ (s.rdr (i := 0) (j := 1) rfl rfl hlen hlow) hp (by omega)) ?_) rfl rfl
  rintro v9 w1 ⟨x, rfl, hx0, hx1, ha⟩
  obtain ⟨p1, hp1, hp2, s⟩ := s.aft (i := 0) rfl ha; obtain ⟨ad, rfl, s⟩ := s.openS (i := 0) rfl x.toNat (by omega)
  refine VL_run (d := 10) (run_indexAddrN (q := x.toNat) rfl Try.underlying23 ty9 rfl rfl (by omega) (by omega)) rfl rfl ?_
  refine VL_run (d := 11) (run_load_at0 s rfl ty9 rfl (i := 0) rfl rfl) rfl rfl ?_
  refine VL_run (d := 4) (run_assign rfl (by conv => lhs; whnf)) rfl rfl ?_
  refine VL_nil ?_
  refine VS_ret ?_
  repeat (first | refine blockV_ret ?_ | refine backV_ret ?_ | refine backV2_ret ?_ | refine backV3_ret ?_ | refine thenV_ret ?_ | refine metV2_ret ?_)
  refine fin_one (fn := Try.f117) rfl (res_tmp (by conv => lhs; whnf)) ?_
  exact ⟨_, rfl, List.getElem_mem _, s.aftOut (i := 0) rfl (by omega) (by omega)⟩
end Go.Proofs.Ytkefaelmamgjiaa
