/- spec: l3Name, l1Dec of a figure, l1Hex, l1Line, l3EntryOk. -/
import Derived.Test.YtkefaelmamgjiaaDoorTxt
import Derived.Test.YtkefaelmamgjiaaDoorS3
set_option linter.unusedVariables false
set_option linter.unusedSimpArgs false
set_option maxHeartbeats 1000000
namespace Go.Proofs.YtkefaelmamgjiaaDoor
open Go.RowKit

theorem l3Name_ok (p : List ByteArray) {ok : Nat → Prop} {w0 : World} {v1 : Value} (h1 : Rd ok w0 (.sl (strsD p)) [v1]) (hp : PFit p) :
    Calls Tryd.prog 12 #[v1] w0 (Ret fun v w' => v = .string (pathT p) ∧ Below w0.heap.size w0 w') := by
  obtain ⟨A, c, e1, hl1⟩ := Rd_strs h1
  obtain rfl := List.singleton_inj.1 e1
  have f1 := hp.len
  have f2 := hp.mem
  have s := (St.start ok w0).begin h1
  refine calls_enter (n := 21) Tryd.func12 rfl rfl rfl ?_
  repeat (first | refine VS_seq ?_ | refine VS_block ?_ | refine VS_skip ?_ | refine VS_nil_block ?_)
  refine VS_region_lit ?_
  refine VL_run (d := 2) (run_assign rfl (by conv => lhs; whnf)) rfl rfl ?_
  refine VL_nil ?_
  repeat (first | refine VS_seq ?_ | refine VS_block ?_ | refine VS_skip ?_ | refine VS_nil_block ?_)
  refine VS_region_lit ?_
  refine VL_run (d := 3) (run_assign rfl (by conv => lhs; whnf)) rfl rfl ?_
  refine VL_nil ?_
  repeat (first | refine VS_seq ?_ | refine VS_block ?_ | refine VS_skip ?_ | refine VS_nil_block ?_)
  refine VS_region_lit ?_
  refine VL_run (d := 4) (run_assign rfl (by conv => lhs; whnf)) rfl rfl ?_
  refine VL_nil ?_
  repeat (first | refine VS_seq ?_ | refine VS_block ?_ | refine VS_skip ?_ | refine VS_nil_block ?_)
  refine VS_loop2 [3, 4, 5, 6, 7, 8, 9, 10, 11, 12, 13, 14, 15, 16, 17] (fun (k : Nat) (t : ByteArray) => [(4, .int .i64 k), (3, .string t)]) (fun k t w => St ok w0 [] [.dat [.slice A p.length c] (.sl (strsD p))] w ∧ k ≤ p.length ∧ t.data.toList = pathL (p.take k) ∧ t.size ≤ 1000000001 * k) (fun k _ => p.length - k) 0 ⟨#[]⟩ ⟨s, by omega, rfl, Nat.zero_le _⟩ (by repeat (first | exact Has.nil _ | refine Has.cons rfl ?_)) ?_
  clear s
  rintro k t w j ⟨s, hk, ht, hs⟩
  repeat (first | refine VS_seq ?_ | refine VS_block ?_ | refine VS_skip ?_ | refine VS_nil_block ?_)
  refine VS_region_lit ?_
  refine VL_run (d := 5) (run_move rfl (by conv => lhs; whnf)) rfl rfl ?_
  refine VL_run (d := 6) (run_move rfl (by conv => lhs; whnf)) rfl rfl ?_
  refine VL_run (d := 7) (run_lenSlice rfl ⟨_, Tryd.underlying37⟩ rfl) rfl rfl ?_
  refine VL_run (d := 8) (run_ltI rfl rfl rfl) rfl rfl ?_
  refine VL_nil ?_
  refine VS_cond rfl (fun c0 => ?_) (fun c0 => ?_) <;> (try simp only [decide_eq_true_eq, decide_eq_false_iff_not, Bool.not_eq_true', Bool.not_eq_false', ne_eq, Decidable.not_not, cond_true, cond_false, Bool.and_eq_true, Bool.or_eq_true, Bool.and_eq_false_iff, Bool.or_eq_false_iff, Bool.not_true, Bool.not_false, reduceCtorEq] at c0)
  · repeat (first | refine VS_seq ?_ | refine VS_block ?_ | refine VS_skip ?_ | refine VS_nil_block ?_)
    have hk' : k < p.length := by omega
    have hx := f2 _ (List.getElem_mem hk')
    have hz : (t ++ ⟨#[47]⟩ : ByteArray).size = t.size + 1 := app_size _ _
    obtain ⟨ad, rfl, s⟩ := s.openS (i := 0) rfl k hk'
    refine VS_region_lit ?_
    refine VL_run (d := 11) (run_move rfl (by conv => lhs; whnf)) rfl rfl ?_
    refine VL_run (d := 12) (run_addS rfl rfl rfl (by first | omega | (show _ + 1 ≤ _; omega))) rfl rfl ?_
    refine VL_run (d := 13) (run_move rfl (by conv => lhs; whnf)) rfl rfl ?_
    refine VL_run (d := 14) (run_move rfl (by conv => lhs; whnf)) rfl rfl ?_
    refine VL_run (d := 15) (run_indexAddr rfl Tryd.underlying37 ty9 rfl rfl (by omega) (by omega)) rfl rfl ?_
    first | (refine VL_run (d := 16) (run_load_own1 s rfl ty9 rfl (i := 0) rfl rfl) rfl rfl ?_) | (refine VL_run (d := 16) (run_load_own1 s rfl ty9 rfl (i := 1) rfl rfl) rfl rfl ?_) | (refine VL_run (d := 16) (run_load_own1 s rfl ty9 rfl (i := 2) rfl rfl) rfl rfl ?_) | (refine VL_run (d := 16) (run_load_own1 s rfl ty9 rfl (i := 3) rfl rfl) rfl rfl ?_) | (refine VL_run (d := 16) (run_load_own1 s rfl ty9 rfl (i := 4) rfl rfl) rfl rfl ?_) | (refine VL_run (d := 16) (run_load_own1 s rfl ty9 rfl (i := 5) rfl rfl) rfl rfl ?_) | (refine VL_run (d := 16) (run_load_own1 s rfl ty9 rfl (i := 6) rfl rfl) rfl rfl ?_) | (refine VL_run (d := 16) (run_load_own1 s rfl ty9 rfl (i := 7) rfl rfl) rfl rfl ?_) | (refine VL_run (d := 16) (run_load_own1 s rfl ty9 rfl (i := 8) rfl rfl) rfl rfl ?_) | (refine VL_run (d := 16) (run_load_at1 s rfl ty9 rfl (i := 0) rfl rfl) rfl rfl ?_) | (refine VL_run (d := 16) (run_load_at1 s rfl ty9 rfl (i := 1) rfl rfl) rfl rfl ?_) | (refine VL_run (d := 16) (run_load_at1 s rfl ty9 rfl (i := 2) rfl rfl) rfl rfl ?_) | (refine VL_run (d := 16) (run_load_at1 s rfl ty9 rfl (i := 3) rfl rfl) rfl rfl ?_) | (refine VL_run (d := 16) (run_load_at1 s rfl ty9 rfl (i := 4) rfl rfl) rfl rfl ?_) | (refine VL_run (d := 16) (run_load_at1 s rfl ty9 rfl (i := 5) rfl rfl) rfl rfl ?_) | (refine VL_run (d := 16) (run_load_at1 s rfl ty9 rfl (i := 6) rfl rfl) rfl rfl ?_) | (refine VL_run (d := 16) (run_load_at1 s rfl ty9 rfl (i := 7) rfl rfl) rfl rfl ?_) | (refine VL_run (d := 16) (run_load_at1 s rfl ty9 rfl (i := 8) rfl rfl) rfl rfl ?_) | (refine VL_run (d := 16) (run_load_at0 s rfl ty9 rfl (i := 0) rfl rfl) rfl rfl ?_) | (refine VL_run (d := 16) (run_load_at0 s rfl ty9 rfl (i := 1) rfl rfl) rfl rfl ?_) | (refine VL_run (d := 16) (run_load_at0 s rfl ty9 rfl (i := 2) rfl rfl) rfl rfl ?_) | (refine VL_run (d := 16) (run_load_at0 s rfl ty9 rfl (i := 3) rfl rfl) rfl rfl ?_) | (refine VL_run (d := 16) (run_load_at0 s rfl ty9 rfl (i := 4) rfl rfl) rfl rfl ?_) | (refine VL_run (d := 16) (run_load_at0 s rfl ty9 rfl (i := 5) rfl rfl) rfl rfl ?_) | (refine VL_run (d := 16) (run_load_at0 s rfl ty9 rfl (i := 6) rfl rfl) rfl rfl ?_) | (refine VL_run (d := 16) (run_load_at0 s rfl ty9 rfl (i := 7) rfl rfl) rfl rfl ?_) | (refine VL_run (d := 16) (run_load_at0 s rfl ty9 rfl (i := 8) rfl rfl) rfl rfl ?_)
    refine VL_run (d := 17) (run_addS rfl rfl rfl (by first | omega | (show _ + 1 ≤ _; omega))) rfl rfl ?_
    refine VL_run (d := 3) (run_assign rfl (by conv => lhs; whnf)) rfl rfl ?_
    refine VL_nil ?_
    repeat (first | refine VS_seq ?_ | refine VS_block ?_ | refine VS_skip ?_ | refine VS_nil_block ?_)
    refine VS_region_lit ?_
    refine VL_run (d := 9) (run_move rfl (by conv => lhs; whnf)) rfl rfl ?_
    refine VL_run (d := 10) (run_add rfl rfl rfl (by omega)) rfl rfl ?_
    refine VL_run (d := 4) (run_assign rfl (by conv => lhs; whnf)) rfl rfl ?_
    refine VL_nil ?_
    refine VS_back2 (k + 1) (_) ?_ (by repeat (first | exact Has.nil _ | refine Has.cons rfl ?_)) (by repeat (first | exact Out.mix _ _ _ | exact Out.refl _ _ | refine Out.upd rfl ?_ | refine Out.mix_in rfl ?_)) ?_
    · refine ⟨s.less (by simp), by omega, ?_, ?_⟩
      · rw [app_list, app_list, ht, ← take_snoc hk', pathL_snoc]
        simp
      · rw [app_size, hz]
        omega
    · omega
  · refine VS_exit ?_
    repeat (first | refine blockV_hit ?_ | refine backV_exit ?_ | refine backV2_exit ?_ | refine backV3_exit ?_ | refine blockV_miss rfl ?_ | refine thenV_exit ?_ | refine metV2_exit ?_)
    obtain rfl : k = p.length := by omega
    rw [List.take_length] at ht
    repeat (first | refine VS_seq ?_ | refine VS_block ?_ | refine VS_skip ?_ | refine VS_nil_block ?_)
    refine VS_region_lit ?_
    refine VL_run (d := 18) (run_move rfl (by conv => lhs; whnf)) rfl rfl ?_
    refine VL_run (d := 19) (run_eqS rfl rfl rfl) rfl rfl ?_
    refine VL_nil ?_
    refine VS_cond rfl (fun c1 => ?_) (fun c1 => ?_) <;> (try simp only [decide_eq_true_eq, decide_eq_false_iff_not, Bool.not_eq_true', Bool.not_eq_false', ne_eq, Decidable.not_not, cond_true, cond_false, Bool.and_eq_true, Bool.or_eq_true, Bool.and_eq_false_iff, Bool.or_eq_false_iff, Bool.not_true, Bool.not_false, reduceCtorEq] at c1)
    · repeat (first | refine VS_seq ?_ | refine VS_block ?_ | refine VS_skip ?_ | refine VS_nil_block ?_)
      refine VS_region_lit ?_
      refine VL_run (d := 2) (run_assign rfl (by conv => lhs; whnf)) rfl rfl ?_
      refine VL_nil ?_
      refine VS_ret ?_
      repeat (first | refine blockV_ret ?_ | refine backV_ret ?_ | refine backV2_ret ?_ | refine backV3_ret ?_ | refine thenV_ret ?_ | refine metV2_ret ?_)
      refine fin_one (fn := Tryd.f12) rfl (res_tmp (by conv => lhs; whnf)) ?_
      refine ⟨?_, s.below⟩
      cases p with
      | nil => rfl
      | cons x p => exact absurd ((eq_empty _).1 c1) (by rw [ht]; simp [pathL])
    · repeat (first | refine VS_seq ?_ | refine VS_block ?_ | refine VS_skip ?_ | refine VS_nil_block ?_)
      refine VS_region_lit ?_
      refine VL_run (d := 20) (run_move rfl (by conv => lhs; whnf)) rfl rfl ?_
      refine VL_run (d := 2) (run_assign rfl (by conv => lhs; whnf)) rfl rfl ?_
      refine VL_nil ?_
      refine VS_ret ?_
      repeat (first | refine blockV_ret ?_ | refine backV_ret ?_ | refine backV2_ret ?_ | refine backV3_ret ?_ | refine thenV_ret ?_ | refine metV2_ret ?_)
      refine fin_one (fn := Tryd.f12) rfl (res_tmp (by conv => lhs; whnf)) ?_
      refine ⟨?_, s.below⟩
      cases p with
      | nil => exact absurd ((eq_empty _).2 ht) c1
      | cons x p => exact congrArg Value.string (ba_ext ht)
theorem fig_nat {n : Nat} (h : n < 10) : ((dig n).toNat : Int) = 48 + n := by
  match n, h with
  | 0, _ | 1, _ | 2, _ | 3, _ | 4, _ | 5, _ | 6, _ | 7, _ | 8, _ | 9, _ => rfl
  | n + 10, h => omega
theorem l1Dec_ok (n : Nat) (hn : n < 10) {w0 : World} :
    Calls Tryd.prog 31 #[.int .i64 n] w0 (Ret fun v w' => v = .string (ba [dig n]) ∧ Below w0.heap.size w0 w') := by
  have s := St.start (fun _ => False) w0
  refine calls_enter (n := 28) Tryd.func31 rfl rfl rfl ?_
  repeat (first | refine VS_seq ?_ | refine VS_block ?_ | refine VS_skip ?_ | refine VS_nil_block ?_)
  refine VS_region_lit ?_
  refine VL_run (d := 2) (run_assign rfl (by conv => lhs; whnf)) rfl rfl ?_
  refine VL_nil ?_
  repeat (first | refine VS_seq ?_ | refine VS_block ?_ | refine VS_skip ?_ | refine VS_nil_block ?_)
  refine VS_region_lit ?_
  refine VL_run (d := 3) (run_move rfl (by conv => lhs; whnf)) rfl rfl ?_
  refine VL_run (d := 4) (run_ltI rfl rfl rfl) rfl rfl ?_
  refine VL_nil ?_
  refine VS_cond rfl (fun c0 => ?_) (fun c0 => ?_) <;> (try simp only [decide_eq_true_eq, decide_eq_false_iff_not, Bool.not_eq_true', Bool.not_eq_false', ne_eq, Decidable.not_not, cond_true, cond_false, Bool.and_eq_true, Bool.or_eq_true, Bool.and_eq_false_iff, Bool.or_eq_false_iff, Bool.not_true, Bool.not_false, reduceCtorEq] at c0)
  · omega
  · repeat (first | refine VS_seq ?_ | refine VS_block ?_ | refine VS_skip ?_ | refine VS_nil_block ?_)
    refine VS_region_lit ?_
    refine VL_run (d := 5) (run_move rfl (by conv => lhs; whnf)) rfl rfl ?_
    refine VL_run (d := 6) (run_ltI rfl rfl rfl) rfl rfl ?_
    refine VL_nil ?_
    refine VS_cond rfl (fun c1 => ?_) (fun c1 => ?_) <;> (try simp only [decide_eq_true_eq, decide_eq_false_iff_not, Bool.not_eq_true', Bool.not_eq_false', ne_eq, Decidable.not_not, cond_true, cond_false, Bool.and_eq_true, Bool.or_eq_true, Bool.and_eq_false_iff, Bool.or_eq_false_iff, Bool.not_true, Bool.not_false, reduceCtorEq] at c1)
    · omega
    · repeat (first | refine VS_seq ?_ | refine VS_block ?_ | refine VS_skip ?_ | refine VS_nil_block ?_)
      refine VS_region_lit ?_
      refine VL_run (d := 11) (run_move rfl (by conv => lhs; whnf)) rfl rfl ?_
      refine VL_run (d := 12) (run_ltI rfl rfl rfl) rfl rfl ?_
      refine VL_nil ?_
      refine VS_cond rfl (fun c2 => ?_) (fun c2 => ?_) <;> (try simp only [decide_eq_true_eq, decide_eq_false_iff_not, Bool.not_eq_true', Bool.not_eq_false', ne_eq, Decidable.not_not, cond_true, cond_false, Bool.and_eq_true, Bool.or_eq_true, Bool.and_eq_false_iff, Bool.or_eq_false_iff, Bool.not_true, Bool.not_false, reduceCtorEq] at c2)
      · repeat (first | refine VS_seq ?_ | refine VS_block ?_ | refine VS_skip ?_ | refine VS_nil_block ?_)
        refine VS_region_lit ?_
        refine VL_run (d := 13) (run_move rfl (by conv => lhs; whnf)) rfl rfl ?_
        refine VL_run (d := 14) (run_add rfl rfl rfl (by omega)) rfl rfl ?_
        refine VL_run (d := 15) (run_convI rfl (by kernel_rfl) Tryd.underlying5 rfl (by first | rfl | (simp only [IntKind.wrap_i64, IntKind.wrap_u8, IntKind.wrap_u64]; omega))) rfl rfl ?_
        refine VL_does (d := 16) (does_slice1 s rfl Tryd.underlying50 ty5 (by decide) (by decide) rfl rfl (show Rd _ _ (.int .u8 ((dig n).toNat : Int)) [.int .u8 (48 + (n : Int))] by rw [fig_nat hn]; rfl) rfl ?_) rfl rfl
        clear s; intro g16 w s
        refine VL_run (d := 17) (run_b2s (l := [dig n]) s rfl Tryd.underlying50 Tryd.underlying9 Tryd.underlying5 (i := 0) rfl rfl) rfl rfl ?_
        refine VL_run (d := 2) (run_assign rfl (by conv => lhs; whnf)) rfl rfl ?_
        refine VL_nil ?_
        refine VS_ret ?_
        repeat (first | refine blockV_ret ?_ | refine backV_ret ?_ | refine backV2_ret ?_ | refine backV3_ret ?_ | refine thenV_ret ?_ | refine metV2_ret ?_)
        refine fin_one (fn := Tryd.f31) rfl (res_tmp (by conv => lhs; whnf)) ?_
        exact ⟨rfl, s.below⟩
      · omega
theorem l1Hex_ok (t : ByteArray) (ht : t.size ≤ 1000000000) {w0 : World} :
    Calls Tryd.prog 32 #[.string t] w0 (Ret fun v w' => v = .string (hexT t) ∧ Below w0.heap.size w0 w') := by
  have s := St.start (fun _ => False) w0
  refine calls_enter (n := 37) Tryd.func32 rfl rfl rfl ?_
  repeat (first | refine VS_seq ?_ | refine VS_block ?_ | refine VS_skip ?_ | refine VS_nil_block ?_)
  refine VS_region_lit ?_
  refine VL_run (d := 2) (run_assign rfl (by conv => lhs; whnf)) rfl rfl ?_
  refine VL_nil ?_
  repeat (first | refine VS_seq ?_ | refine VS_block ?_ | refine VS_skip ?_ | refine VS_nil_block ?_)
  refine VS_region_lit ?_
  refine VL_run (d := 3) (run_assign rfl (by conv => lhs; whnf)) rfl rfl ?_
  refine VL_nil ?_
  repeat (first | refine VS_seq ?_ | refine VS_block ?_ | refine VS_skip ?_ | refine VS_nil_block ?_)
  refine VS_region_lit ?_
  refine VL_run (d := 4) (run_assign rfl (by conv => lhs; whnf)) rfl rfl ?_
  refine VL_nil ?_
  repeat (first | refine VS_seq ?_ | refine VS_block ?_ | refine VS_skip ?_ | refine VS_nil_block ?_)
  refine VS_loop2 [3, 4, 5, 6, 7, 8, 9, 10, 11, 12, 13, 14, 15, 16, 17, 18, 19, 20, 21, 22, 23, 24, 25, 26, 27, 28, 29, 30, 31, 32, 33] (fun (k : Nat) (r : ByteArray) => [(4, .int .i64 k), (3, .string r)]) (fun k r w => St (fun _ => False) w0 [] [] w ∧ k ≤ t.size ∧ r.data.toList = hexL (t.data.toList.take k)) (fun k _ => t.size - k) 0 ⟨#[]⟩ ⟨s, by omega, rfl⟩ (by repeat (first | exact Has.nil _ | refine Has.cons rfl ?_)) ?_
  clear s
  rintro k r w j ⟨s, hk, hr⟩
  repeat (first | refine VS_seq ?_ | refine VS_block ?_ | refine VS_skip ?_ | refine VS_nil_block ?_)
  refine VS_region_lit ?_
  refine VL_run (d := 5) (run_move rfl (by conv => lhs; whnf)) rfl rfl ?_
  refine VL_run (d := 6) (run_move rfl (by conv => lhs; whnf)) rfl rfl ?_
  refine VL_run (d := 7) (run_lenStr rfl Tryd.underlying9 rfl) rfl rfl ?_
  refine VL_run (d := 8) (run_ltI rfl rfl rfl) rfl rfl ?_
  refine VL_nil ?_
  refine VS_cond rfl (fun c0 => ?_) (fun c0 => ?_) <;> (try simp only [decide_eq_true_eq, decide_eq_false_iff_not, Bool.not_eq_true', Bool.not_eq_false', ne_eq, Decidable.not_not, cond_true, cond_false, Bool.and_eq_true, Bool.or_eq_true, Bool.and_eq_false_iff, Bool.or_eq_false_iff, Bool.not_true, Bool.not_false, reduceCtorEq] at c0)
  · repeat (first | refine VS_seq ?_ | refine VS_block ?_ | refine VS_skip ?_ | refine VS_nil_block ?_)
    have hk' : k < t.size := by omega
    have hb : t[(k : Int).toNat]? = some t[k] := by simp [hk']
    have hlt : t[k].toNat < 256 := t[k].toNat_lt
    have hrs : r.size = 2 * k := by
      have h1 := hexL_len (t.data.toList.take k)
      rw [← hr, size_list, List.length_take, size_list] at h1
      omega
    have y1 : ((t[k].toNat : Int) / 16).toNat = t[k].toNat / 16 := by omega
    have y2 : ((t[k].toNat : Int) / 16 + 1).toNat = t[k].toNat / 16 + 1 := by omega
    have y3 : ((t[k].toNat : Int) % 16).toNat = t[k].toNat % 16 := by omega
    have y4 : ((t[k].toNat : Int) % 16 + 1).toNat = t[k].toNat % 16 + 1 := by omega
    have z1 : (digT.extract (t[k].toNat / 16) (t[k].toNat / 16 + 1)).size = 1 := by
      have := congrArg List.length (dig_cut (t[k].toNat / 16) (by omega))
      rw [size_list] at this
      exact this
    have z2 : (digT.extract (t[k].toNat % 16) (t[k].toNat % 16 + 1)).size = 1 := by
      have := congrArg List.length (dig_cut (t[k].toNat % 16) (by omega))
      rw [size_list] at this
      exact this
    have z3 : digT.size = 16 := rfl
    have z4 := app_size r (digT.extract (t[k].toNat / 16) (t[k].toNat / 16 + 1))
    unfold digT at z1 z2 z3 z4
    rw [← y2, ← y1] at z1 z4
    rw [← y4, ← y3] at z2
    refine VS_drawS 24 s mixed ?_
    clear s; intro s
    refine VA_take 0 (d := 11) rfl (by kernel_rfl) rfl (fun w g => run_move rfl (by conv => lhs; whnf)) s.see ?_
    refine VA_take 1 (d := 12) rfl (by kernel_rfl) rfl (fun w g => run_move rfl (by conv => lhs; whnf)) s.see ?_
    refine VA_take 2 (d := 13) rfl (by kernel_rfl) rfl (fun w g => run_move rfl (by conv => lhs; whnf)) s.see ?_
    refine VA_take 3 (d := 14) rfl (by kernel_rfl) rfl (fun w g => run_indexStr rfl Tryd.underlying9 rfl rfl (by omega) ‹_›) s.see ?_
    refine VA_take 4 (d := 15) rfl (by kernel_rfl) rfl (fun w g => run_quo8 rfl rfl rfl (by omega) (by omega) (by omega)) s.see ?_
    refine VA_take 5 (d := 16) rfl (by kernel_rfl) rfl (fun w g => run_move rfl (by conv => lhs; whnf)) s.see ?_
    refine VA_take 6 (d := 17) rfl (by kernel_rfl) rfl (fun w g => run_move rfl (by conv => lhs; whnf)) s.see ?_
    refine VA_take 7 (d := 18) rfl (by kernel_rfl) rfl (fun w g => run_indexStr rfl Tryd.underlying9 rfl rfl (by omega) ‹_›) s.see ?_
    refine VA_take 8 (d := 19) rfl (by kernel_rfl) rfl (fun w g => run_quo8 rfl rfl rfl (by omega) (by omega) (by omega)) s.see ?_
    refine VA_take 9 (d := 20) rfl (by kernel_rfl) rfl (fun w g => run_addu8 rfl rfl rfl (by omega)) s.see ?_
    refine VA_take 10 (d := 21) rfl (by kernel_rfl) rfl (fun w g => run_sliceStrI rfl Tryd.underlying9 rfl rfl rfl (by omega) (by omega) (by omega)) s.see ?_
    refine VA_take 11 (d := 22) rfl (by kernel_rfl) rfl (fun w g => run_addS rfl rfl rfl (by omega)) s.see ?_
    refine VA_take 12 (d := 23) rfl (by kernel_rfl) rfl (fun w g => run_move rfl (by conv => lhs; whnf)) s.see ?_
    refine VA_take 13 (d := 24) rfl (by kernel_rfl) rfl (fun w g => run_move rfl (by conv => lhs; whnf)) s.see ?_
    refine VA_take 14 (d := 25) rfl (by kernel_rfl) rfl (fun w g => run_indexStr rfl Tryd.underlying9 rfl rfl (by omega) ‹_›) s.see ?_
    refine VA_take 15 (d := 26) rfl (by kernel_rfl) rfl (fun w g => run_rem rfl rfl rfl (by omega) (by omega)) s.see ?_
    refine VA_take 16 (d := 27) rfl (by kernel_rfl) rfl (fun w g => run_move rfl (by conv => lhs; whnf)) s.see ?_
    refine VA_take 17 (d := 28) rfl (by kernel_rfl) rfl (fun w g => run_move rfl (by conv => lhs; whnf)) s.see ?_
    refine VA_take 18 (d := 29) rfl (by kernel_rfl) rfl (fun w g => run_indexStr rfl Tryd.underlying9 rfl rfl (by omega) ‹_›) s.see ?_
    refine VA_take 19 (d := 30) rfl (by kernel_rfl) rfl (fun w g => run_rem rfl rfl rfl (by omega) (by omega)) s.see ?_
    refine VA_take 20 (d := 31) rfl (by kernel_rfl) rfl (fun w g => run_addu8 rfl rfl rfl (by omega)) s.see ?_
    refine VA_take 21 (d := 32) rfl (by kernel_rfl) rfl (fun w g => run_sliceStrI rfl Tryd.underlying9 rfl rfl rfl (by omega) (by omega) (by omega)) s.see ?_
    refine VA_take 22 (d := 33) rfl (by kernel_rfl) rfl (fun w g => run_addS rfl rfl rfl (by omega)) s.see ?_
    refine VA_take 23 (d := 3) rfl (by kernel_rfl) rfl (fun w g => run_assign rfl (by conv => lhs; whnf)) s.see ?_
    refine VA_done (by kernel_rfl) ?_
    repeat (first | refine VS_seq ?_ | refine VS_block ?_ | refine VS_skip ?_ | refine VS_nil_block ?_)
    refine VS_region_lit ?_
    refine VL_run (d := 9) (run_move rfl (by conv => lhs; whnf)) rfl rfl ?_
    refine VL_run (d := 10) (run_add rfl rfl rfl (by omega)) rfl rfl ?_
    refine VL_run (d := 4) (run_assign rfl (by conv => lhs; whnf)) rfl rfl ?_
    refine VL_nil ?_
    refine VS_back2 (k + 1) (_) ?_ (by repeat (first | exact Has.nil _ | refine Has.cons rfl ?_)) (by repeat (first | exact Out.mix _ _ _ | exact Out.refl _ _ | refine Out.upd rfl ?_ | refine Out.mix_in rfl ?_)) ?_
    · refine ⟨s, by omega, ?_⟩
      have e1 := dig_cut (t[k].toNat / 16) (by omega)
      have e2 := dig_cut (t[k].toNat % 16) (by omega)
      unfold digT at e1 e2
      rw [app_list, app_list, y1, y2, y3, y4, e1, e2, hr, ← take_snoc (l := t.data.toList) (k := k) (by rw [size_list]; exact hk'), hexL_snoc]
      exact List.append_assoc _ _ _
    · omega
  · refine VS_exit ?_
    repeat (first | refine blockV_hit ?_ | refine backV_exit ?_ | refine backV2_exit ?_ | refine backV3_exit ?_ | refine blockV_miss rfl ?_ | refine thenV_exit ?_ | refine metV2_exit ?_)
    obtain rfl : k = t.size := by omega
    rw [← size_list, List.take_length] at hr
    repeat (first | refine VS_seq ?_ | refine VS_block ?_ | refine VS_skip ?_ | refine VS_nil_block ?_)
    refine VS_region_lit ?_
    refine VL_run (d := 34) (run_move rfl (by conv => lhs; whnf)) rfl rfl ?_
    refine VL_run (d := 35) (run_eqS rfl rfl rfl) rfl rfl ?_
    refine VL_nil ?_
    refine VS_cond rfl (fun c1 => ?_) (fun c1 => ?_) <;> (try simp only [decide_eq_true_eq, decide_eq_false_iff_not, Bool.not_eq_true', Bool.not_eq_false', ne_eq, Decidable.not_not, cond_true, cond_false, Bool.and_eq_true, Bool.or_eq_true, Bool.and_eq_false_iff, Bool.or_eq_false_iff, Bool.not_true, Bool.not_false, reduceCtorEq] at c1)
    · repeat (first | refine VS_seq ?_ | refine VS_block ?_ | refine VS_skip ?_ | refine VS_nil_block ?_)
      refine VS_region_lit ?_
      refine VL_run (d := 2) (run_assign rfl (by conv => lhs; whnf)) rfl rfl ?_
      refine VL_nil ?_
      refine VS_ret ?_
      repeat (first | refine blockV_ret ?_ | refine backV_ret ?_ | refine backV2_ret ?_ | refine backV3_ret ?_ | refine thenV_ret ?_ | refine metV2_ret ?_)
      refine fin_one (fn := Tryd.f32) rfl (res_tmp (by conv => lhs; whnf)) ?_
      refine ⟨?_, s.below⟩
      have h0 : t = ⟨#[]⟩ := by
        rw [c1] at hr
        have h2 : (hexL t.data.toList).length = 0 := by rw [← hr]; rfl
        rw [hexL_len] at h2
        exact (eq_empty _).2 (List.eq_nil_of_length_eq_zero (by omega))
      simp [hexT, h0]
      rfl
    · repeat (first | refine VS_seq ?_ | refine VS_block ?_ | refine VS_skip ?_ | refine VS_nil_block ?_)
      refine VS_region_lit ?_
      refine VL_run (d := 36) (run_move rfl (by conv => lhs; whnf)) rfl rfl ?_
      refine VL_run (d := 2) (run_assign rfl (by conv => lhs; whnf)) rfl rfl ?_
      refine VL_nil ?_
      refine VS_ret ?_
      repeat (first | refine blockV_ret ?_ | refine backV_ret ?_ | refine backV2_ret ?_ | refine backV3_ret ?_ | refine thenV_ret ?_ | refine metV2_ret ?_)
      refine fin_one (fn := Tryd.f32) rfl (res_tmp (by conv => lhs; whnf)) ?_
      refine ⟨?_, s.below⟩
      have h0 : t ≠ ⟨#[]⟩ := fun h0 => c1 ((eq_empty _).2 (by rw [hr, h0]; rfl))
      simp only [hexT, h0, decide_false, cond_false]
      exact congrArg Value.string (ba_ext hr)
/-- What an entry must have. -/
def enOk (e : En) : Bool :=
  (e.path.isEmpty || pathOk e.path) && inI e.mode 0 7 && decide (e.data.size ≤ 24) &&
    (bif decide (e.what = 1) then !e.path.isEmpty && !e.dir && decide (e.mode = 0) && decide (e.data = ⟨#[]⟩)
    else bif decide (e.what = 2) then !e.path.isEmpty && (!e.dir || decide (e.data = ⟨#[]⟩))
    else bif decide (e.what = 3) then !e.dir && decide (e.data = ⟨#[]⟩)
    else bif decide (e.what = 4) then !e.path.isEmpty && !e.dir && decide (e.mode = 0) else false)
theorem empty_len {α : Type} (l : List α) : l.isEmpty = decide (l.length = 0) := by cases l <;> simp
theorem l3EntryOk_ok (e : En) {ok : Nat → Prop} {w0 : World} {cs : List Value} (h1 : Rd ok w0 e.toD cs) (hp : e.wt ≤ 1000000000) :
    Calls Tryd.prog 13 #[.agg cs.toArray] w0 (Ret fun v w' => v = .bool (enOk e) ∧ Below w0.heap.size w0 w') := by
  obtain ⟨A, c, rfl, hl, hpa⟩ := En.opn h1
  have hw : e.wt = namesWt e.path + e.data.size := rfl
  have hpe : (e.path.isEmpty = true) ↔ e.path.length = 0 := by rw [empty_len]; simp
  clear h1
  have s := (St.start ok w0).begin hpa
  refine calls_enter (n := 90) Tryd.func13 rfl rfl rfl ?_
  repeat (first | refine VS_seq ?_ | refine VS_block ?_ | refine VS_skip ?_ | refine VS_nil_block ?_)
  refine VS_region_lit ?_
  refine VL_does (d := 1) (does_box s rfl rfl rfl ?_) rfl rfl
  clear s; intro b1 w s
  refine VL_run (d := 2) (run_assign rfl (by conv => lhs; whnf)) rfl rfl ?_
  refine VL_nil ?_
  repeat (first | refine VS_seq ?_ | refine VS_block ?_ | refine VS_skip ?_ | refine VS_nil_block ?_)
  refine VS_meetB s 24 (!((e.path.isEmpty || pathOk e.path) && inI e.mode 0 7 && decide (e.data.size ≤ 24))) [3, 4, 5, 6, 7, 8, 9, 10, 11, 12, 13, 14, 15, 16, 17, 18, 19, 20, 21, 22, 23, 24] ?_ ?_
  · refine VS_region_lit ?_
    refine VL_run (d := 3) (run_fieldAddr rfl fo40_0 rfl) rfl rfl ?_
    first | (refine VL_run (d := 4) (run_load_own1 s rfl ty37 rfl (i := 0) rfl rfl) rfl rfl ?_) | (refine VL_run (d := 4) (run_load_own1 s rfl ty37 rfl (i := 1) rfl rfl) rfl rfl ?_) | (refine VL_run (d := 4) (run_load_own1 s rfl ty37 rfl (i := 2) rfl rfl) rfl rfl ?_) | (refine VL_run (d := 4) (run_load_own1 s rfl ty37 rfl (i := 3) rfl rfl) rfl rfl ?_) | (refine VL_run (d := 4) (run_load_own1 s rfl ty37 rfl (i := 4) rfl rfl) rfl rfl ?_) | (refine VL_run (d := 4) (run_load_own1 s rfl ty37 rfl (i := 5) rfl rfl) rfl rfl ?_) | (refine VL_run (d := 4) (run_load_own1 s rfl ty37 rfl (i := 6) rfl rfl) rfl rfl ?_) | (refine VL_run (d := 4) (run_load_own1 s rfl ty37 rfl (i := 7) rfl rfl) rfl rfl ?_) | (refine VL_run (d := 4) (run_load_own1 s rfl ty37 rfl (i := 8) rfl rfl) rfl rfl ?_) | (refine VL_run (d := 4) (run_load_at1 s rfl ty37 rfl (i := 0) rfl rfl) rfl rfl ?_) | (refine VL_run (d := 4) (run_load_at1 s rfl ty37 rfl (i := 1) rfl rfl) rfl rfl ?_) | (refine VL_run (d := 4) (run_load_at1 s rfl ty37 rfl (i := 2) rfl rfl) rfl rfl ?_) | (refine VL_run (d := 4) (run_load_at1 s rfl ty37 rfl (i := 3) rfl rfl) rfl rfl ?_) | (refine VL_run (d := 4) (run_load_at1 s rfl ty37 rfl (i := 4) rfl rfl) rfl rfl ?_) | (refine VL_run (d := 4) (run_load_at1 s rfl ty37 rfl (i := 5) rfl rfl) rfl rfl ?_) | (refine VL_run (d := 4) (run_load_at1 s rfl ty37 rfl (i := 6) rfl rfl) rfl rfl ?_) | (refine VL_run (d := 4) (run_load_at1 s rfl ty37 rfl (i := 7) rfl rfl) rfl rfl ?_) | (refine VL_run (d := 4) (run_load_at1 s rfl ty37 rfl (i := 8) rfl rfl) rfl rfl ?_) | (refine VL_run (d := 4) (run_load_at0 s rfl ty37 rfl (i := 0) rfl rfl) rfl rfl ?_) | (refine VL_run (d := 4) (run_load_at0 s rfl ty37 rfl (i := 1) rfl rfl) rfl rfl ?_) | (refine VL_run (d := 4) (run_load_at0 s rfl ty37 rfl (i := 2) rfl rfl) rfl rfl ?_) | (refine VL_run (d := 4) (run_load_at0 s rfl ty37 rfl (i := 3) rfl rfl) rfl rfl ?_) | (refine VL_run (d := 4) (run_load_at0 s rfl ty37 rfl (i := 4) rfl rfl) rfl rfl ?_) | (refine VL_run (d := 4) (run_load_at0 s rfl ty37 rfl (i := 5) rfl rfl) rfl rfl ?_) | (refine VL_run (d := 4) (run_load_at0 s rfl ty37 rfl (i := 6) rfl rfl) rfl rfl ?_) | (refine VL_run (d := 4) (run_load_at0 s rfl ty37 rfl (i := 7) rfl rfl) rfl rfl ?_) | (refine VL_run (d := 4) (run_load_at0 s rfl ty37 rfl (i := 8) rfl rfl) rfl rfl ?_)
    refine VL_run (d := 5) (run_lenSlice rfl ⟨_, Tryd.underlying37⟩ rfl) rfl rfl ?_
    refine VL_run (d := 6) (run_gtI rfl rfl rfl) rfl rfl ?_
    refine VL_run (d := 7) (run_move rfl (by conv => lhs; whnf)) rfl rfl ?_
    refine VL_split 7 (by conv => lhs; whnf) (fun h7 => ?_) (fun h7 => ?_) <;> (try simp only [decide_eq_true_eq, decide_eq_false_iff_not, Bool.not_eq_true', Bool.not_eq_false', ne_eq, Decidable.not_not, cond_true, cond_false, Bool.and_eq_true, Bool.or_eq_true, Bool.and_eq_false_iff, Bool.or_eq_false_iff, Bool.not_true, Bool.not_false, reduceCtorEq] at h7)
    · refine VL_run (d := 8) (run_fieldAddr rfl fo40_0 rfl) rfl rfl ?_
      first | (refine VL_run (d := 9) (run_load_own1 s rfl ty37 rfl (i := 0) rfl rfl) rfl rfl ?_) | (refine VL_run (d := 9) (run_load_own1 s rfl ty37 rfl (i := 1) rfl rfl) rfl rfl ?_) | (refine VL_run (d := 9) (run_load_own1 s rfl ty37 rfl (i := 2) rfl rfl) rfl rfl ?_) | (refine VL_run (d := 9) (run_load_own1 s rfl ty37 rfl (i := 3) rfl rfl) rfl rfl ?_) | (refine VL_run (d := 9) (run_load_own1 s rfl ty37 rfl (i := 4) rfl rfl) rfl rfl ?_) | (refine VL_run (d := 9) (run_load_own1 s rfl ty37 rfl (i := 5) rfl rfl) rfl rfl ?_) | (refine VL_run (d := 9) (run_load_own1 s rfl ty37 rfl (i := 6) rfl rfl) rfl rfl ?_) | (refine VL_run (d := 9) (run_load_own1 s rfl ty37 rfl (i := 7) rfl rfl) rfl rfl ?_) | (refine VL_run (d := 9) (run_load_own1 s rfl ty37 rfl (i := 8) rfl rfl) rfl rfl ?_) | (refine VL_run (d := 9) (run_load_at1 s rfl ty37 rfl (i := 0) rfl rfl) rfl rfl ?_) | (refine VL_run (d := 9) (run_load_at1 s rfl ty37 rfl (i := 1) rfl rfl) rfl rfl ?_) | (refine VL_run (d := 9) (run_load_at1 s rfl ty37 rfl (i := 2) rfl rfl) rfl rfl ?_) | (refine VL_run (d := 9) (run_load_at1 s rfl ty37 rfl (i := 3) rfl rfl) rfl rfl ?_) | (refine VL_run (d := 9) (run_load_at1 s rfl ty37 rfl (i := 4) rfl rfl) rfl rfl ?_) | (refine VL_run (d := 9) (run_load_at1 s rfl ty37 rfl (i := 5) rfl rfl) rfl rfl ?_) | (refine VL_run (d := 9) (run_load_at1 s rfl ty37 rfl (i := 6) rfl rfl) rfl rfl ?_) | (refine VL_run (d := 9) (run_load_at1 s rfl ty37 rfl (i := 7) rfl rfl) rfl rfl ?_) | (refine VL_run (d := 9) (run_load_at1 s rfl ty37 rfl (i := 8) rfl rfl) rfl rfl ?_) | (refine VL_run (d := 9) (run_load_at0 s rfl ty37 rfl (i := 0) rfl rfl) rfl rfl ?_) | (refine VL_run (d := 9) (run_load_at0 s rfl ty37 rfl (i := 1) rfl rfl) rfl rfl ?_) | (refine VL_run (d := 9) (run_load_at0 s rfl ty37 rfl (i := 2) rfl rfl) rfl rfl ?_) | (refine VL_run (d := 9) (run_load_at0 s rfl ty37 rfl (i := 3) rfl rfl) rfl rfl ?_) | (refine VL_run (d := 9) (run_load_at0 s rfl ty37 rfl (i := 4) rfl rfl) rfl rfl ?_) | (refine VL_run (d := 9) (run_load_at0 s rfl ty37 rfl (i := 5) rfl rfl) rfl rfl ?_) | (refine VL_run (d := 9) (run_load_at0 s rfl ty37 rfl (i := 6) rfl rfl) rfl rfl ?_) | (refine VL_run (d := 9) (run_load_at0 s rfl ty37 rfl (i := 7) rfl rfl) rfl rfl ?_) | (refine VL_run (d := 9) (run_load_at0 s rfl ty37 rfl (i := 8) rfl rfl) rfl rfl ?_)
      refine VL_does (d := 10) (does_call1 rfl (by kernel_rfl) rfl (l2PathOk_ok _ (s.dat (i := 0) rfl) (by unfold PFit; omega)) ?_) rfl rfl
      rintro _ w ⟨rfl, hb⟩
      replace s := s.step hb
      clear hb
      refine VL_run (d := 11) (run_not rfl rfl) rfl rfl ?_
      first | (refine VL_run (d := 12) (run_pickT rfl rfl rfl) rfl rfl ?_) | (refine VL_run (d := 12) (run_pickF rfl rfl rfl) rfl rfl ?_) | (refine VL_run (d := 12) (run_pick rfl rfl (fun _ => rfl) (fun _ => rfl)) rfl rfl ?_)
      refine VL_run (d := 13) (run_move rfl (by conv => lhs; whnf)) rfl rfl ?_
      refine VL_split 13 (by conv => lhs; whnf) (fun h13 => ?_) (fun h13 => ?_) <;> (try simp only [decide_eq_true_eq, decide_eq_false_iff_not, Bool.not_eq_true', Bool.not_eq_false', ne_eq, Decidable.not_not, cond_true, cond_false, Bool.and_eq_true, Bool.or_eq_true, Bool.and_eq_false_iff, Bool.or_eq_false_iff, Bool.not_true, Bool.not_false, reduceCtorEq] at h13)
      · refine VL_not (d := 14) rfl rfl rfl rfl ?_
        refine VL_not (d := 15) rfl rfl rfl rfl ?_
        refine VL_not (d := 16) rfl rfl rfl rfl ?_
        refine VL_not (d := 17) rfl rfl rfl rfl ?_
        first | (refine VL_run (d := 18) (run_pickT rfl rfl rfl) rfl rfl ?_) | (refine VL_run (d := 18) (run_pickF rfl rfl rfl) rfl rfl ?_) | (refine VL_run (d := 18) (run_pick rfl rfl (fun _ => rfl) (fun _ => rfl)) rfl rfl ?_)
        refine VL_run (d := 19) (run_move rfl (by conv => lhs; whnf)) rfl rfl ?_
        refine VL_not (d := 20) rfl rfl rfl rfl ?_
        refine VL_not (d := 21) rfl rfl rfl rfl ?_
        refine VL_not (d := 22) rfl rfl rfl rfl ?_
        refine VL_not (d := 23) rfl rfl rfl rfl ?_
        first | (refine VL_run (d := 24) (run_pickT rfl rfl rfl) rfl rfl ?_) | (refine VL_run (d := 24) (run_pickF rfl rfl rfl) rfl rfl ?_) | (refine VL_run (d := 24) (run_pick rfl rfl (fun _ => rfl) (fun _ => rfl)) rfl rfl ?_)
        refine VL_nil ?_
        exact VS_endB s (by conv => lhs; whnf) (by clear s; rw [empty_len]; grind) (by repeat (first | exact Out.mix _ _ _ | exact Out.refl _ _ | refine Out.upd rfl ?_ | refine Out.mix_in rfl ?_))
      · refine VL_run (d := 14) (run_fieldAddr rfl fo40_3 rfl) rfl rfl ?_
        first | (refine VL_run (d := 15) (run_load_own1 s rfl ty3 rfl (i := 0) rfl rfl) rfl rfl ?_) | (refine VL_run (d := 15) (run_load_own1 s rfl ty3 rfl (i := 1) rfl rfl) rfl rfl ?_) | (refine VL_run (d := 15) (run_load_own1 s rfl ty3 rfl (i := 2) rfl rfl) rfl rfl ?_) | (refine VL_run (d := 15) (run_load_own1 s rfl ty3 rfl (i := 3) rfl rfl) rfl rfl ?_) | (refine VL_run (d := 15) (run_load_own1 s rfl ty3 rfl (i := 4) rfl rfl) rfl rfl ?_) | (refine VL_run (d := 15) (run_load_own1 s rfl ty3 rfl (i := 5) rfl rfl) rfl rfl ?_) | (refine VL_run (d := 15) (run_load_own1 s rfl ty3 rfl (i := 6) rfl rfl) rfl rfl ?_) | (refine VL_run (d := 15) (run_load_own1 s rfl ty3 rfl (i := 7) rfl rfl) rfl rfl ?_) | (refine VL_run (d := 15) (run_load_own1 s rfl ty3 rfl (i := 8) rfl rfl) rfl rfl ?_) | (refine VL_run (d := 15) (run_load_at1 s rfl ty3 rfl (i := 0) rfl rfl) rfl rfl ?_) | (refine VL_run (d := 15) (run_load_at1 s rfl ty3 rfl (i := 1) rfl rfl) rfl rfl ?_) | (refine VL_run (d := 15) (run_load_at1 s rfl ty3 rfl (i := 2) rfl rfl) rfl rfl ?_) | (refine VL_run (d := 15) (run_load_at1 s rfl ty3 rfl (i := 3) rfl rfl) rfl rfl ?_) | (refine VL_run (d := 15) (run_load_at1 s rfl ty3 rfl (i := 4) rfl rfl) rfl rfl ?_) | (refine VL_run (d := 15) (run_load_at1 s rfl ty3 rfl (i := 5) rfl rfl) rfl rfl ?_) | (refine VL_run (d := 15) (run_load_at1 s rfl ty3 rfl (i := 6) rfl rfl) rfl rfl ?_) | (refine VL_run (d := 15) (run_load_at1 s rfl ty3 rfl (i := 7) rfl rfl) rfl rfl ?_) | (refine VL_run (d := 15) (run_load_at1 s rfl ty3 rfl (i := 8) rfl rfl) rfl rfl ?_) | (refine VL_run (d := 15) (run_load_at0 s rfl ty3 rfl (i := 0) rfl rfl) rfl rfl ?_) | (refine VL_run (d := 15) (run_load_at0 s rfl ty3 rfl (i := 1) rfl rfl) rfl rfl ?_) | (refine VL_run (d := 15) (run_load_at0 s rfl ty3 rfl (i := 2) rfl rfl) rfl rfl ?_) | (refine VL_run (d := 15) (run_load_at0 s rfl ty3 rfl (i := 3) rfl rfl) rfl rfl ?_) | (refine VL_run (d := 15) (run_load_at0 s rfl ty3 rfl (i := 4) rfl rfl) rfl rfl ?_) | (refine VL_run (d := 15) (run_load_at0 s rfl ty3 rfl (i := 5) rfl rfl) rfl rfl ?_) | (refine VL_run (d := 15) (run_load_at0 s rfl ty3 rfl (i := 6) rfl rfl) rfl rfl ?_) | (refine VL_run (d := 15) (run_load_at0 s rfl ty3 rfl (i := 7) rfl rfl) rfl rfl ?_) | (refine VL_run (d := 15) (run_load_at0 s rfl ty3 rfl (i := 8) rfl rfl) rfl rfl ?_)
        refine VL_does (d := 16) (does_call3 rfl (by kernel_rfl) rfl rfl rfl (l1In_ok _ _ _) ?_) rfl rfl
        rintro _ w ⟨rfl, hb⟩
        replace s := s.step hb
        clear hb
        refine VL_run (d := 17) (run_not rfl rfl) rfl rfl ?_
        first | (refine VL_run (d := 18) (run_pickT rfl rfl rfl) rfl rfl ?_) | (refine VL_run (d := 18) (run_pickF rfl rfl rfl) rfl rfl ?_) | (refine VL_run (d := 18) (run_pick rfl rfl (fun _ => rfl) (fun _ => rfl)) rfl rfl ?_)
        refine VL_run (d := 19) (run_move rfl (by conv => lhs; whnf)) rfl rfl ?_
        refine VL_split 19 (by conv => lhs; whnf) (fun h19 => ?_) (fun h19 => ?_) <;> (try simp only [decide_eq_true_eq, decide_eq_false_iff_not, Bool.not_eq_true', Bool.not_eq_false', ne_eq, Decidable.not_not, cond_true, cond_false, Bool.and_eq_true, Bool.or_eq_true, Bool.and_eq_false_iff, Bool.or_eq_false_iff, Bool.not_true, Bool.not_false, reduceCtorEq] at h19)
        · refine VL_not (d := 20) rfl rfl rfl rfl ?_
          refine VL_not (d := 21) rfl rfl rfl rfl ?_
          refine VL_not (d := 22) rfl rfl rfl rfl ?_
          refine VL_not (d := 23) rfl rfl rfl rfl ?_
          first | (refine VL_run (d := 24) (run_pickT rfl rfl rfl) rfl rfl ?_) | (refine VL_run (d := 24) (run_pickF rfl rfl rfl) rfl rfl ?_) | (refine VL_run (d := 24) (run_pick rfl rfl (fun _ => rfl) (fun _ => rfl)) rfl rfl ?_)
          refine VL_nil ?_
          exact VS_endB s (by conv => lhs; whnf) (by clear s; rw [empty_len]; grind) (by repeat (first | exact Out.mix _ _ _ | exact Out.refl _ _ | refine Out.upd rfl ?_ | refine Out.mix_in rfl ?_))
        · refine VL_run (d := 20) (run_fieldAddr rfl fo40_4 rfl) rfl rfl ?_
          first | (refine VL_run (d := 21) (run_load_own1 s rfl ty9 rfl (i := 0) rfl rfl) rfl rfl ?_) | (refine VL_run (d := 21) (run_load_own1 s rfl ty9 rfl (i := 1) rfl rfl) rfl rfl ?_) | (refine VL_run (d := 21) (run_load_own1 s rfl ty9 rfl (i := 2) rfl rfl) rfl rfl ?_) | (refine VL_run (d := 21) (run_load_own1 s rfl ty9 rfl (i := 3) rfl rfl) rfl rfl ?_) | (refine VL_run (d := 21) (run_load_own1 s rfl ty9 rfl (i := 4) rfl rfl) rfl rfl ?_) | (refine VL_run (d := 21) (run_load_own1 s rfl ty9 rfl (i := 5) rfl rfl) rfl rfl ?_) | (refine VL_run (d := 21) (run_load_own1 s rfl ty9 rfl (i := 6) rfl rfl) rfl rfl ?_) | (refine VL_run (d := 21) (run_load_own1 s rfl ty9 rfl (i := 7) rfl rfl) rfl rfl ?_) | (refine VL_run (d := 21) (run_load_own1 s rfl ty9 rfl (i := 8) rfl rfl) rfl rfl ?_) | (refine VL_run (d := 21) (run_load_at1 s rfl ty9 rfl (i := 0) rfl rfl) rfl rfl ?_) | (refine VL_run (d := 21) (run_load_at1 s rfl ty9 rfl (i := 1) rfl rfl) rfl rfl ?_) | (refine VL_run (d := 21) (run_load_at1 s rfl ty9 rfl (i := 2) rfl rfl) rfl rfl ?_) | (refine VL_run (d := 21) (run_load_at1 s rfl ty9 rfl (i := 3) rfl rfl) rfl rfl ?_) | (refine VL_run (d := 21) (run_load_at1 s rfl ty9 rfl (i := 4) rfl rfl) rfl rfl ?_) | (refine VL_run (d := 21) (run_load_at1 s rfl ty9 rfl (i := 5) rfl rfl) rfl rfl ?_) | (refine VL_run (d := 21) (run_load_at1 s rfl ty9 rfl (i := 6) rfl rfl) rfl rfl ?_) | (refine VL_run (d := 21) (run_load_at1 s rfl ty9 rfl (i := 7) rfl rfl) rfl rfl ?_) | (refine VL_run (d := 21) (run_load_at1 s rfl ty9 rfl (i := 8) rfl rfl) rfl rfl ?_) | (refine VL_run (d := 21) (run_load_at0 s rfl ty9 rfl (i := 0) rfl rfl) rfl rfl ?_) | (refine VL_run (d := 21) (run_load_at0 s rfl ty9 rfl (i := 1) rfl rfl) rfl rfl ?_) | (refine VL_run (d := 21) (run_load_at0 s rfl ty9 rfl (i := 2) rfl rfl) rfl rfl ?_) | (refine VL_run (d := 21) (run_load_at0 s rfl ty9 rfl (i := 3) rfl rfl) rfl rfl ?_) | (refine VL_run (d := 21) (run_load_at0 s rfl ty9 rfl (i := 4) rfl rfl) rfl rfl ?_) | (refine VL_run (d := 21) (run_load_at0 s rfl ty9 rfl (i := 5) rfl rfl) rfl rfl ?_) | (refine VL_run (d := 21) (run_load_at0 s rfl ty9 rfl (i := 6) rfl rfl) rfl rfl ?_) | (refine VL_run (d := 21) (run_load_at0 s rfl ty9 rfl (i := 7) rfl rfl) rfl rfl ?_) | (refine VL_run (d := 21) (run_load_at0 s rfl ty9 rfl (i := 8) rfl rfl) rfl rfl ?_)
          refine VL_run (d := 22) (run_lenStr rfl Tryd.underlying9 rfl) rfl rfl ?_
          refine VL_run (d := 23) (run_gtI rfl rfl rfl) rfl rfl ?_
          first | (refine VL_run (d := 24) (run_pickT rfl rfl rfl) rfl rfl ?_) | (refine VL_run (d := 24) (run_pickF rfl rfl rfl) rfl rfl ?_) | (refine VL_run (d := 24) (run_pick rfl rfl (fun _ => rfl) (fun _ => rfl)) rfl rfl ?_)
          refine VL_nil ?_
          exact VS_endB s (by conv => lhs; whnf) (by clear s; rw [empty_len]; grind) (by repeat (first | exact Out.mix _ _ _ | exact Out.refl _ _ | refine Out.upd rfl ?_ | refine Out.mix_in rfl ?_))
    · refine VL_not (d := 8) rfl rfl rfl rfl ?_
      refine VL_not (d := 9) rfl rfl rfl rfl ?_
      refine VL_not (d := 10) rfl rfl rfl rfl ?_
      refine VL_not (d := 11) rfl rfl rfl rfl ?_
      first | (refine VL_run (d := 12) (run_pickT rfl rfl rfl) rfl rfl ?_) | (refine VL_run (d := 12) (run_pickF rfl rfl rfl) rfl rfl ?_) | (refine VL_run (d := 12) (run_pick rfl rfl (fun _ => rfl) (fun _ => rfl)) rfl rfl ?_)
      refine VL_run (d := 13) (run_move rfl (by conv => lhs; whnf)) rfl rfl ?_
      refine VL_run (d := 14) (run_fieldAddr rfl fo40_3 rfl) rfl rfl ?_
      first | (refine VL_run (d := 15) (run_load_own1 s rfl ty3 rfl (i := 0) rfl rfl) rfl rfl ?_) | (refine VL_run (d := 15) (run_load_own1 s rfl ty3 rfl (i := 1) rfl rfl) rfl rfl ?_) | (refine VL_run (d := 15) (run_load_own1 s rfl ty3 rfl (i := 2) rfl rfl) rfl rfl ?_) | (refine VL_run (d := 15) (run_load_own1 s rfl ty3 rfl (i := 3) rfl rfl) rfl rfl ?_) | (refine VL_run (d := 15) (run_load_own1 s rfl ty3 rfl (i := 4) rfl rfl) rfl rfl ?_) | (refine VL_run (d := 15) (run_load_own1 s rfl ty3 rfl (i := 5) rfl rfl) rfl rfl ?_) | (refine VL_run (d := 15) (run_load_own1 s rfl ty3 rfl (i := 6) rfl rfl) rfl rfl ?_) | (refine VL_run (d := 15) (run_load_own1 s rfl ty3 rfl (i := 7) rfl rfl) rfl rfl ?_) | (refine VL_run (d := 15) (run_load_own1 s rfl ty3 rfl (i := 8) rfl rfl) rfl rfl ?_) | (refine VL_run (d := 15) (run_load_at1 s rfl ty3 rfl (i := 0) rfl rfl) rfl rfl ?_) | (refine VL_run (d := 15) (run_load_at1 s rfl ty3 rfl (i := 1) rfl rfl) rfl rfl ?_) | (refine VL_run (d := 15) (run_load_at1 s rfl ty3 rfl (i := 2) rfl rfl) rfl rfl ?_) | (refine VL_run (d := 15) (run_load_at1 s rfl ty3 rfl (i := 3) rfl rfl) rfl rfl ?_) | (refine VL_run (d := 15) (run_load_at1 s rfl ty3 rfl (i := 4) rfl rfl) rfl rfl ?_) | (refine VL_run (d := 15) (run_load_at1 s rfl ty3 rfl (i := 5) rfl rfl) rfl rfl ?_) | (refine VL_run (d := 15) (run_load_at1 s rfl ty3 rfl (i := 6) rfl rfl) rfl rfl ?_) | (refine VL_run (d := 15) (run_load_at1 s rfl ty3 rfl (i := 7) rfl rfl) rfl rfl ?_) | (refine VL_run (d := 15) (run_load_at1 s rfl ty3 rfl (i := 8) rfl rfl) rfl rfl ?_) | (refine VL_run (d := 15) (run_load_at0 s rfl ty3 rfl (i := 0) rfl rfl) rfl rfl ?_) | (refine VL_run (d := 15) (run_load_at0 s rfl ty3 rfl (i := 1) rfl rfl) rfl rfl ?_) | (refine VL_run (d := 15) (run_load_at0 s rfl ty3 rfl (i := 2) rfl rfl) rfl rfl ?_) | (refine VL_run (d := 15) (run_load_at0 s rfl ty3 rfl (i := 3) rfl rfl) rfl rfl ?_) | (refine VL_run (d := 15) (run_load_at0 s rfl ty3 rfl (i := 4) rfl rfl) rfl rfl ?_) | (refine VL_run (d := 15) (run_load_at0 s rfl ty3 rfl (i := 5) rfl rfl) rfl rfl ?_) | (refine VL_run (d := 15) (run_load_at0 s rfl ty3 rfl (i := 6) rfl rfl) rfl rfl ?_) | (refine VL_run (d := 15) (run_load_at0 s rfl ty3 rfl (i := 7) rfl rfl) rfl rfl ?_) | (refine VL_run (d := 15) (run_load_at0 s rfl ty3 rfl (i := 8) rfl rfl) rfl rfl ?_)
      refine VL_does (d := 16) (does_call3 rfl (by kernel_rfl) rfl rfl rfl (l1In_ok _ _ _) ?_) rfl rfl
      rintro _ w ⟨rfl, hb⟩
      replace s := s.step hb
      clear hb
      refine VL_run (d := 17) (run_not rfl rfl) rfl rfl ?_
      first | (refine VL_run (d := 18) (run_pickT rfl rfl rfl) rfl rfl ?_) | (refine VL_run (d := 18) (run_pickF rfl rfl rfl) rfl rfl ?_) | (refine VL_run (d := 18) (run_pick rfl rfl (fun _ => rfl) (fun _ => rfl)) rfl rfl ?_)
      refine VL_run (d := 19) (run_move rfl (by conv => lhs; whnf)) rfl rfl ?_
      refine VL_split 19 (by conv => lhs; whnf) (fun h19 => ?_) (fun h19 => ?_) <;> (try simp only [decide_eq_true_eq, decide_eq_false_iff_not, Bool.not_eq_true', Bool.not_eq_false', ne_eq, Decidable.not_not, cond_true, cond_false, Bool.and_eq_true, Bool.or_eq_true, Bool.and_eq_false_iff, Bool.or_eq_false_iff, Bool.not_true, Bool.not_false, reduceCtorEq] at h19)
      · refine VL_not (d := 20) rfl rfl rfl rfl ?_
        refine VL_not (d := 21) rfl rfl rfl rfl ?_
        refine VL_not (d := 22) rfl rfl rfl rfl ?_
        refine VL_not (d := 23) rfl rfl rfl rfl ?_
        first | (refine VL_run (d := 24) (run_pickT rfl rfl rfl) rfl rfl ?_) | (refine VL_run (d := 24) (run_pickF rfl rfl rfl) rfl rfl ?_) | (refine VL_run (d := 24) (run_pick rfl rfl (fun _ => rfl) (fun _ => rfl)) rfl rfl ?_)
        refine VL_nil ?_
        exact VS_endB s (by conv => lhs; whnf) (by clear s; rw [empty_len]; grind) (by repeat (first | exact Out.mix _ _ _ | exact Out.refl _ _ | refine Out.upd rfl ?_ | refine Out.mix_in rfl ?_))
      · refine VL_run (d := 20) (run_fieldAddr rfl fo40_4 rfl) rfl rfl ?_
        first | (refine VL_run (d := 21) (run_load_own1 s rfl ty9 rfl (i := 0) rfl rfl) rfl rfl ?_) | (refine VL_run (d := 21) (run_load_own1 s rfl ty9 rfl (i := 1) rfl rfl) rfl rfl ?_) | (refine VL_run (d := 21) (run_load_own1 s rfl ty9 rfl (i := 2) rfl rfl) rfl rfl ?_) | (refine VL_run (d := 21) (run_load_own1 s rfl ty9 rfl (i := 3) rfl rfl) rfl rfl ?_) | (refine VL_run (d := 21) (run_load_own1 s rfl ty9 rfl (i := 4) rfl rfl) rfl rfl ?_) | (refine VL_run (d := 21) (run_load_own1 s rfl ty9 rfl (i := 5) rfl rfl) rfl rfl ?_) | (refine VL_run (d := 21) (run_load_own1 s rfl ty9 rfl (i := 6) rfl rfl) rfl rfl ?_) | (refine VL_run (d := 21) (run_load_own1 s rfl ty9 rfl (i := 7) rfl rfl) rfl rfl ?_) | (refine VL_run (d := 21) (run_load_own1 s rfl ty9 rfl (i := 8) rfl rfl) rfl rfl ?_) | (refine VL_run (d := 21) (run_load_at1 s rfl ty9 rfl (i := 0) rfl rfl) rfl rfl ?_) | (refine VL_run (d := 21) (run_load_at1 s rfl ty9 rfl (i := 1) rfl rfl) rfl rfl ?_) | (refine VL_run (d := 21) (run_load_at1 s rfl ty9 rfl (i := 2) rfl rfl) rfl rfl ?_) | (refine VL_run (d := 21) (run_load_at1 s rfl ty9 rfl (i := 3) rfl rfl) rfl rfl ?_) | (refine VL_run (d := 21) (run_load_at1 s rfl ty9 rfl (i := 4) rfl rfl) rfl rfl ?_) | (refine VL_run (d := 21) (run_load_at1 s rfl ty9 rfl (i := 5) rfl rfl) rfl rfl ?_) | (refine VL_run (d := 21) (run_load_at1 s rfl ty9 rfl (i := 6) rfl rfl) rfl rfl ?_) | (refine VL_run (d := 21) (run_load_at1 s rfl ty9 rfl (i := 7) rfl rfl) rfl rfl ?_) | (refine VL_run (d := 21) (run_load_at1 s rfl ty9 rfl (i := 8) rfl rfl) rfl rfl ?_) | (refine VL_run (d := 21) (run_load_at0 s rfl ty9 rfl (i := 0) rfl rfl) rfl rfl ?_) | (refine VL_run (d := 21) (run_load_at0 s rfl ty9 rfl (i := 1) rfl rfl) rfl rfl ?_) | (refine VL_run (d := 21) (run_load_at0 s rfl ty9 rfl (i := 2) rfl rfl) rfl rfl ?_) | (refine VL_run (d := 21) (run_load_at0 s rfl ty9 rfl (i := 3) rfl rfl) rfl rfl ?_) | (refine VL_run (d := 21) (run_load_at0 s rfl ty9 rfl (i := 4) rfl rfl) rfl rfl ?_) | (refine VL_run (d := 21) (run_load_at0 s rfl ty9 rfl (i := 5) rfl rfl) rfl rfl ?_) | (refine VL_run (d := 21) (run_load_at0 s rfl ty9 rfl (i := 6) rfl rfl) rfl rfl ?_) | (refine VL_run (d := 21) (run_load_at0 s rfl ty9 rfl (i := 7) rfl rfl) rfl rfl ?_) | (refine VL_run (d := 21) (run_load_at0 s rfl ty9 rfl (i := 8) rfl rfl) rfl rfl ?_)
        refine VL_run (d := 22) (run_lenStr rfl Tryd.underlying9 rfl) rfl rfl ?_
        refine VL_run (d := 23) (run_gtI rfl rfl rfl) rfl rfl ?_
        first | (refine VL_run (d := 24) (run_pickT rfl rfl rfl) rfl rfl ?_) | (refine VL_run (d := 24) (run_pickF rfl rfl rfl) rfl rfl ?_) | (refine VL_run (d := 24) (run_pick rfl rfl (fun _ => rfl) (fun _ => rfl)) rfl rfl ?_)
        refine VL_nil ?_
        exact VS_endB s (by conv => lhs; whnf) (by clear s; rw [empty_len]; grind) (by repeat (first | exact Out.mix _ _ _ | exact Out.refl _ _ | refine Out.upd rfl ?_ | refine Out.mix_in rfl ?_))
  clear s; intro w j24 s
  refine VS_cond rfl (fun c0 => ?_) (fun c0 => ?_) <;> (try simp only [decide_eq_true_eq, decide_eq_false_iff_not, Bool.not_eq_true', Bool.not_eq_false', ne_eq, Decidable.not_not, cond_true, cond_false, Bool.and_eq_true, Bool.or_eq_true, Bool.and_eq_false_iff, Bool.or_eq_false_iff, Bool.not_true, Bool.not_false, reduceCtorEq] at c0)
  · repeat (first | refine VS_seq ?_ | refine VS_block ?_ | refine VS_skip ?_ | refine VS_nil_block ?_)
    refine VS_region_lit ?_
    refine VL_run (d := 2) (run_assign rfl (by conv => lhs; whnf)) rfl rfl ?_
    refine VL_nil ?_
    refine VS_ret ?_
    repeat (first | refine blockV_ret ?_ | refine backV_ret ?_ | refine backV2_ret ?_ | refine backV3_ret ?_ | refine thenV_ret ?_ | refine metV2_ret ?_)
    refine fin_one (fn := Tryd.f13) rfl (res_tmp (by conv => lhs; whnf)) ?_
    exact ⟨by clear s; unfold enOk; grind, s.below⟩
  · repeat (first | refine VS_seq ?_ | refine VS_block ?_ | refine VS_skip ?_ | refine VS_nil_block ?_)
    refine VS_region_lit ?_
    refine VL_run (d := 25) (run_fieldAddr rfl fo40_1 rfl) rfl rfl ?_
    first | (refine VL_run (d := 26) (run_load_own1 s rfl ty3 rfl (i := 0) rfl rfl) rfl rfl ?_) | (refine VL_run (d := 26) (run_load_own1 s rfl ty3 rfl (i := 1) rfl rfl) rfl rfl ?_) | (refine VL_run (d := 26) (run_load_own1 s rfl ty3 rfl (i := 2) rfl rfl) rfl rfl ?_) | (refine VL_run (d := 26) (run_load_own1 s rfl ty3 rfl (i := 3) rfl rfl) rfl rfl ?_) | (refine VL_run (d := 26) (run_load_own1 s rfl ty3 rfl (i := 4) rfl rfl) rfl rfl ?_) | (refine VL_run (d := 26) (run_load_own1 s rfl ty3 rfl (i := 5) rfl rfl) rfl rfl ?_) | (refine VL_run (d := 26) (run_load_own1 s rfl ty3 rfl (i := 6) rfl rfl) rfl rfl ?_) | (refine VL_run (d := 26) (run_load_own1 s rfl ty3 rfl (i := 7) rfl rfl) rfl rfl ?_) | (refine VL_run (d := 26) (run_load_own1 s rfl ty3 rfl (i := 8) rfl rfl) rfl rfl ?_) | (refine VL_run (d := 26) (run_load_at1 s rfl ty3 rfl (i := 0) rfl rfl) rfl rfl ?_) | (refine VL_run (d := 26) (run_load_at1 s rfl ty3 rfl (i := 1) rfl rfl) rfl rfl ?_) | (refine VL_run (d := 26) (run_load_at1 s rfl ty3 rfl (i := 2) rfl rfl) rfl rfl ?_) | (refine VL_run (d := 26) (run_load_at1 s rfl ty3 rfl (i := 3) rfl rfl) rfl rfl ?_) | (refine VL_run (d := 26) (run_load_at1 s rfl ty3 rfl (i := 4) rfl rfl) rfl rfl ?_) | (refine VL_run (d := 26) (run_load_at1 s rfl ty3 rfl (i := 5) rfl rfl) rfl rfl ?_) | (refine VL_run (d := 26) (run_load_at1 s rfl ty3 rfl (i := 6) rfl rfl) rfl rfl ?_) | (refine VL_run (d := 26) (run_load_at1 s rfl ty3 rfl (i := 7) rfl rfl) rfl rfl ?_) | (refine VL_run (d := 26) (run_load_at1 s rfl ty3 rfl (i := 8) rfl rfl) rfl rfl ?_) | (refine VL_run (d := 26) (run_load_at0 s rfl ty3 rfl (i := 0) rfl rfl) rfl rfl ?_) | (refine VL_run (d := 26) (run_load_at0 s rfl ty3 rfl (i := 1) rfl rfl) rfl rfl ?_) | (refine VL_run (d := 26) (run_load_at0 s rfl ty3 rfl (i := 2) rfl rfl) rfl rfl ?_) | (refine VL_run (d := 26) (run_load_at0 s rfl ty3 rfl (i := 3) rfl rfl) rfl rfl ?_) | (refine VL_run (d := 26) (run_load_at0 s rfl ty3 rfl (i := 4) rfl rfl) rfl rfl ?_) | (refine VL_run (d := 26) (run_load_at0 s rfl ty3 rfl (i := 5) rfl rfl) rfl rfl ?_) | (refine VL_run (d := 26) (run_load_at0 s rfl ty3 rfl (i := 6) rfl rfl) rfl rfl ?_) | (refine VL_run (d := 26) (run_load_at0 s rfl ty3 rfl (i := 7) rfl rfl) rfl rfl ?_) | (refine VL_run (d := 26) (run_load_at0 s rfl ty3 rfl (i := 8) rfl rfl) rfl rfl ?_)
    refine VL_nil ?_
    repeat (first | refine VS_seq ?_ | refine VS_block ?_ | refine VS_skip ?_ | refine VS_nil_block ?_)
    refine VS_region_lit ?_
    refine VL_run (d := 28) (run_eqI rfl rfl rfl) rfl rfl ?_
    refine VL_run (d := 27) (run_assign rfl (by conv => lhs; whnf)) rfl rfl ?_
    refine VL_nil ?_
    refine VS_cond rfl (fun c1 => ?_) (fun c1 => ?_) <;> (try simp only [decide_eq_true_eq, decide_eq_false_iff_not, Bool.not_eq_true', Bool.not_eq_false', ne_eq, Decidable.not_not, cond_true, cond_false, Bool.and_eq_true, Bool.or_eq_true, Bool.and_eq_false_iff, Bool.or_eq_false_iff, Bool.not_true, Bool.not_false, reduceCtorEq] at c1)
    · repeat (first | refine VS_seq ?_ | refine VS_block ?_ | refine VS_skip ?_ | refine VS_nil_block ?_)
      refine VS_meetB s 2 (!e.path.isEmpty && !e.dir && decide (e.mode = 0) && decide (e.data = ⟨#[]⟩)) [29, 30, 31, 32, 33, 34, 35, 36, 37, 38, 39, 40, 41, 42, 43, 44, 45, 46, 47, 2] ?_ ?_
      · refine VS_region_lit ?_
        refine VL_run (d := 29) (run_fieldAddr rfl fo40_0 rfl) rfl rfl ?_
        first | (refine VL_run (d := 30) (run_load_own1 s rfl ty37 rfl (i := 0) rfl rfl) rfl rfl ?_) | (refine VL_run (d := 30) (run_load_own1 s rfl ty37 rfl (i := 1) rfl rfl) rfl rfl ?_) | (refine VL_run (d := 30) (run_load_own1 s rfl ty37 rfl (i := 2) rfl rfl) rfl rfl ?_) | (refine VL_run (d := 30) (run_load_own1 s rfl ty37 rfl (i := 3) rfl rfl) rfl rfl ?_) | (refine VL_run (d := 30) (run_load_own1 s rfl ty37 rfl (i := 4) rfl rfl) rfl rfl ?_) | (refine VL_run (d := 30) (run_load_own1 s rfl ty37 rfl (i := 5) rfl rfl) rfl rfl ?_) | (refine VL_run (d := 30) (run_load_own1 s rfl ty37 rfl (i := 6) rfl rfl) rfl rfl ?_) | (refine VL_run (d := 30) (run_load_own1 s rfl ty37 rfl (i := 7) rfl rfl) rfl rfl ?_) | (refine VL_run (d := 30) (run_load_own1 s rfl ty37 rfl (i := 8) rfl rfl) rfl rfl ?_) | (refine VL_run (d := 30) (run_load_at1 s rfl ty37 rfl (i := 0) rfl rfl) rfl rfl ?_) | (refine VL_run (d := 30) (run_load_at1 s rfl ty37 rfl (i := 1) rfl rfl) rfl rfl ?_) | (refine VL_run (d := 30) (run_load_at1 s rfl ty37 rfl (i := 2) rfl rfl) rfl rfl ?_) | (refine VL_run (d := 30) (run_load_at1 s rfl ty37 rfl (i := 3) rfl rfl) rfl rfl ?_) | (refine VL_run (d := 30) (run_load_at1 s rfl ty37 rfl (i := 4) rfl rfl) rfl rfl ?_) | (refine VL_run (d := 30) (run_load_at1 s rfl ty37 rfl (i := 5) rfl rfl) rfl rfl ?_) | (refine VL_run (d := 30) (run_load_at1 s rfl ty37 rfl (i := 6) rfl rfl) rfl rfl ?_) | (refine VL_run (d := 30) (run_load_at1 s rfl ty37 rfl (i := 7) rfl rfl) rfl rfl ?_) | (refine VL_run (d := 30) (run_load_at1 s rfl ty37 rfl (i := 8) rfl rfl) rfl rfl ?_) | (refine VL_run (d := 30) (run_load_at0 s rfl ty37 rfl (i := 0) rfl rfl) rfl rfl ?_) | (refine VL_run (d := 30) (run_load_at0 s rfl ty37 rfl (i := 1) rfl rfl) rfl rfl ?_) | (refine VL_run (d := 30) (run_load_at0 s rfl ty37 rfl (i := 2) rfl rfl) rfl rfl ?_) | (refine VL_run (d := 30) (run_load_at0 s rfl ty37 rfl (i := 3) rfl rfl) rfl rfl ?_) | (refine VL_run (d := 30) (run_load_at0 s rfl ty37 rfl (i := 4) rfl rfl) rfl rfl ?_) | (refine VL_run (d := 30) (run_load_at0 s rfl ty37 rfl (i := 5) rfl rfl) rfl rfl ?_) | (refine VL_run (d := 30) (run_load_at0 s rfl ty37 rfl (i := 6) rfl rfl) rfl rfl ?_) | (refine VL_run (d := 30) (run_load_at0 s rfl ty37 rfl (i := 7) rfl rfl) rfl rfl ?_) | (refine VL_run (d := 30) (run_load_at0 s rfl ty37 rfl (i := 8) rfl rfl) rfl rfl ?_)
        refine VL_run (d := 31) (run_lenSlice rfl ⟨_, Tryd.underlying37⟩ rfl) rfl rfl ?_
        refine VL_run (d := 32) (run_gtI rfl rfl rfl) rfl rfl ?_
        refine VL_run (d := 33) (run_move rfl (by conv => lhs; whnf)) rfl rfl ?_
        refine VL_split 33 (by conv => lhs; whnf) (fun h33 => ?_) (fun h33 => ?_) <;> (try simp only [decide_eq_true_eq, decide_eq_false_iff_not, Bool.not_eq_true', Bool.not_eq_false', ne_eq, Decidable.not_not, cond_true, cond_false, Bool.and_eq_true, Bool.or_eq_true, Bool.and_eq_false_iff, Bool.or_eq_false_iff, Bool.not_true, Bool.not_false, reduceCtorEq] at h33)
        · refine VL_run (d := 34) (run_fieldAddr rfl fo40_2 rfl) rfl rfl ?_
          first | (refine VL_run (d := 35) (run_load_own1 s rfl ty4 rfl (i := 0) rfl rfl) rfl rfl ?_) | (refine VL_run (d := 35) (run_load_own1 s rfl ty4 rfl (i := 1) rfl rfl) rfl rfl ?_) | (refine VL_run (d := 35) (run_load_own1 s rfl ty4 rfl (i := 2) rfl rfl) rfl rfl ?_) | (refine VL_run (d := 35) (run_load_own1 s rfl ty4 rfl (i := 3) rfl rfl) rfl rfl ?_) | (refine VL_run (d := 35) (run_load_own1 s rfl ty4 rfl (i := 4) rfl rfl) rfl rfl ?_) | (refine VL_run (d := 35) (run_load_own1 s rfl ty4 rfl (i := 5) rfl rfl) rfl rfl ?_) | (refine VL_run (d := 35) (run_load_own1 s rfl ty4 rfl (i := 6) rfl rfl) rfl rfl ?_) | (refine VL_run (d := 35) (run_load_own1 s rfl ty4 rfl (i := 7) rfl rfl) rfl rfl ?_) | (refine VL_run (d := 35) (run_load_own1 s rfl ty4 rfl (i := 8) rfl rfl) rfl rfl ?_) | (refine VL_run (d := 35) (run_load_at1 s rfl ty4 rfl (i := 0) rfl rfl) rfl rfl ?_) | (refine VL_run (d := 35) (run_load_at1 s rfl ty4 rfl (i := 1) rfl rfl) rfl rfl ?_) | (refine VL_run (d := 35) (run_load_at1 s rfl ty4 rfl (i := 2) rfl rfl) rfl rfl ?_) | (refine VL_run (d := 35) (run_load_at1 s rfl ty4 rfl (i := 3) rfl rfl) rfl rfl ?_) | (refine VL_run (d := 35) (run_load_at1 s rfl ty4 rfl (i := 4) rfl rfl) rfl rfl ?_) | (refine VL_run (d := 35) (run_load_at1 s rfl ty4 rfl (i := 5) rfl rfl) rfl rfl ?_) | (refine VL_run (d := 35) (run_load_at1 s rfl ty4 rfl (i := 6) rfl rfl) rfl rfl ?_) | (refine VL_run (d := 35) (run_load_at1 s rfl ty4 rfl (i := 7) rfl rfl) rfl rfl ?_) | (refine VL_run (d := 35) (run_load_at1 s rfl ty4 rfl (i := 8) rfl rfl) rfl rfl ?_) | (refine VL_run (d := 35) (run_load_at0 s rfl ty4 rfl (i := 0) rfl rfl) rfl rfl ?_) | (refine VL_run (d := 35) (run_load_at0 s rfl ty4 rfl (i := 1) rfl rfl) rfl rfl ?_) | (refine VL_run (d := 35) (run_load_at0 s rfl ty4 rfl (i := 2) rfl rfl) rfl rfl ?_) | (refine VL_run (d := 35) (run_load_at0 s rfl ty4 rfl (i := 3) rfl rfl) rfl rfl ?_) | (refine VL_run (d := 35) (run_load_at0 s rfl ty4 rfl (i := 4) rfl rfl) rfl rfl ?_) | (refine VL_run (d := 35) (run_load_at0 s rfl ty4 rfl (i := 5) rfl rfl) rfl rfl ?_) | (refine VL_run (d := 35) (run_load_at0 s rfl ty4 rfl (i := 6) rfl rfl) rfl rfl ?_) | (refine VL_run (d := 35) (run_load_at0 s rfl ty4 rfl (i := 7) rfl rfl) rfl rfl ?_) | (refine VL_run (d := 35) (run_load_at0 s rfl ty4 rfl (i := 8) rfl rfl) rfl rfl ?_)
          refine VL_run (d := 36) (run_not rfl rfl) rfl rfl ?_
          first | (refine VL_run (d := 37) (run_pickT rfl rfl rfl) rfl rfl ?_) | (refine VL_run (d := 37) (run_pickF rfl rfl rfl) rfl rfl ?_) | (refine VL_run (d := 37) (run_pick rfl rfl (fun _ => rfl) (fun _ => rfl)) rfl rfl ?_)
          refine VL_run (d := 38) (run_move rfl (by conv => lhs; whnf)) rfl rfl ?_
          refine VL_split 38 (by conv => lhs; whnf) (fun h38 => ?_) (fun h38 => ?_) <;> (try simp only [decide_eq_true_eq, decide_eq_false_iff_not, Bool.not_eq_true', Bool.not_eq_false', ne_eq, Decidable.not_not, cond_true, cond_false, Bool.and_eq_true, Bool.or_eq_true, Bool.and_eq_false_iff, Bool.or_eq_false_iff, Bool.not_true, Bool.not_false, reduceCtorEq] at h38)
          · refine VL_run (d := 39) (run_fieldAddr rfl fo40_3 rfl) rfl rfl ?_
            first | (refine VL_run (d := 40) (run_load_own1 s rfl ty3 rfl (i := 0) rfl rfl) rfl rfl ?_) | (refine VL_run (d := 40) (run_load_own1 s rfl ty3 rfl (i := 1) rfl rfl) rfl rfl ?_) | (refine VL_run (d := 40) (run_load_own1 s rfl ty3 rfl (i := 2) rfl rfl) rfl rfl ?_) | (refine VL_run (d := 40) (run_load_own1 s rfl ty3 rfl (i := 3) rfl rfl) rfl rfl ?_) | (refine VL_run (d := 40) (run_load_own1 s rfl ty3 rfl (i := 4) rfl rfl) rfl rfl ?_) | (refine VL_run (d := 40) (run_load_own1 s rfl ty3 rfl (i := 5) rfl rfl) rfl rfl ?_) | (refine VL_run (d := 40) (run_load_own1 s rfl ty3 rfl (i := 6) rfl rfl) rfl rfl ?_) | (refine VL_run (d := 40) (run_load_own1 s rfl ty3 rfl (i := 7) rfl rfl) rfl rfl ?_) | (refine VL_run (d := 40) (run_load_own1 s rfl ty3 rfl (i := 8) rfl rfl) rfl rfl ?_) | (refine VL_run (d := 40) (run_load_at1 s rfl ty3 rfl (i := 0) rfl rfl) rfl rfl ?_) | (refine VL_run (d := 40) (run_load_at1 s rfl ty3 rfl (i := 1) rfl rfl) rfl rfl ?_) | (refine VL_run (d := 40) (run_load_at1 s rfl ty3 rfl (i := 2) rfl rfl) rfl rfl ?_) | (refine VL_run (d := 40) (run_load_at1 s rfl ty3 rfl (i := 3) rfl rfl) rfl rfl ?_) | (refine VL_run (d := 40) (run_load_at1 s rfl ty3 rfl (i := 4) rfl rfl) rfl rfl ?_) | (refine VL_run (d := 40) (run_load_at1 s rfl ty3 rfl (i := 5) rfl rfl) rfl rfl ?_) | (refine VL_run (d := 40) (run_load_at1 s rfl ty3 rfl (i := 6) rfl rfl) rfl rfl ?_) | (refine VL_run (d := 40) (run_load_at1 s rfl ty3 rfl (i := 7) rfl rfl) rfl rfl ?_) | (refine VL_run (d := 40) (run_load_at1 s rfl ty3 rfl (i := 8) rfl rfl) rfl rfl ?_) | (refine VL_run (d := 40) (run_load_at0 s rfl ty3 rfl (i := 0) rfl rfl) rfl rfl ?_) | (refine VL_run (d := 40) (run_load_at0 s rfl ty3 rfl (i := 1) rfl rfl) rfl rfl ?_) | (refine VL_run (d := 40) (run_load_at0 s rfl ty3 rfl (i := 2) rfl rfl) rfl rfl ?_) | (refine VL_run (d := 40) (run_load_at0 s rfl ty3 rfl (i := 3) rfl rfl) rfl rfl ?_) | (refine VL_run (d := 40) (run_load_at0 s rfl ty3 rfl (i := 4) rfl rfl) rfl rfl ?_) | (refine VL_run (d := 40) (run_load_at0 s rfl ty3 rfl (i := 5) rfl rfl) rfl rfl ?_) | (refine VL_run (d := 40) (run_load_at0 s rfl ty3 rfl (i := 6) rfl rfl) rfl rfl ?_) | (refine VL_run (d := 40) (run_load_at0 s rfl ty3 rfl (i := 7) rfl rfl) rfl rfl ?_) | (refine VL_run (d := 40) (run_load_at0 s rfl ty3 rfl (i := 8) rfl rfl) rfl rfl ?_)
            refine VL_run (d := 41) (run_eqI rfl rfl rfl) rfl rfl ?_
            first | (refine VL_run (d := 42) (run_pickT rfl rfl rfl) rfl rfl ?_) | (refine VL_run (d := 42) (run_pickF rfl rfl rfl) rfl rfl ?_) | (refine VL_run (d := 42) (run_pick rfl rfl (fun _ => rfl) (fun _ => rfl)) rfl rfl ?_)
            refine VL_run (d := 43) (run_move rfl (by conv => lhs; whnf)) rfl rfl ?_
            refine VL_split 43 (by conv => lhs; whnf) (fun h43 => ?_) (fun h43 => ?_) <;> (try simp only [decide_eq_true_eq, decide_eq_false_iff_not, Bool.not_eq_true', Bool.not_eq_false', ne_eq, Decidable.not_not, cond_true, cond_false, Bool.and_eq_true, Bool.or_eq_true, Bool.and_eq_false_iff, Bool.or_eq_false_iff, Bool.not_true, Bool.not_false, reduceCtorEq] at h43)
            · refine VL_run (d := 44) (run_fieldAddr rfl fo40_4 rfl) rfl rfl ?_
              first | (refine VL_run (d := 45) (run_load_own1 s rfl ty9 rfl (i := 0) rfl rfl) rfl rfl ?_) | (refine VL_run (d := 45) (run_load_own1 s rfl ty9 rfl (i := 1) rfl rfl) rfl rfl ?_) | (refine VL_run (d := 45) (run_load_own1 s rfl ty9 rfl (i := 2) rfl rfl) rfl rfl ?_) | (refine VL_run (d := 45) (run_load_own1 s rfl ty9 rfl (i := 3) rfl rfl) rfl rfl ?_) | (refine VL_run (d := 45) (run_load_own1 s rfl ty9 rfl (i := 4) rfl rfl) rfl rfl ?_) | (refine VL_run (d := 45) (run_load_own1 s rfl ty9 rfl (i := 5) rfl rfl) rfl rfl ?_) | (refine VL_run (d := 45) (run_load_own1 s rfl ty9 rfl (i := 6) rfl rfl) rfl rfl ?_) | (refine VL_run (d := 45) (run_load_own1 s rfl ty9 rfl (i := 7) rfl rfl) rfl rfl ?_) | (refine VL_run (d := 45) (run_load_own1 s rfl ty9 rfl (i := 8) rfl rfl) rfl rfl ?_) | (refine VL_run (d := 45) (run_load_at1 s rfl ty9 rfl (i := 0) rfl rfl) rfl rfl ?_) | (refine VL_run (d := 45) (run_load_at1 s rfl ty9 rfl (i := 1) rfl rfl) rfl rfl ?_) | (refine VL_run (d := 45) (run_load_at1 s rfl ty9 rfl (i := 2) rfl rfl) rfl rfl ?_) | (refine VL_run (d := 45) (run_load_at1 s rfl ty9 rfl (i := 3) rfl rfl) rfl rfl ?_) | (refine VL_run (d := 45) (run_load_at1 s rfl ty9 rfl (i := 4) rfl rfl) rfl rfl ?_) | (refine VL_run (d := 45) (run_load_at1 s rfl ty9 rfl (i := 5) rfl rfl) rfl rfl ?_) | (refine VL_run (d := 45) (run_load_at1 s rfl ty9 rfl (i := 6) rfl rfl) rfl rfl ?_) | (refine VL_run (d := 45) (run_load_at1 s rfl ty9 rfl (i := 7) rfl rfl) rfl rfl ?_) | (refine VL_run (d := 45) (run_load_at1 s rfl ty9 rfl (i := 8) rfl rfl) rfl rfl ?_) | (refine VL_run (d := 45) (run_load_at0 s rfl ty9 rfl (i := 0) rfl rfl) rfl rfl ?_) | (refine VL_run (d := 45) (run_load_at0 s rfl ty9 rfl (i := 1) rfl rfl) rfl rfl ?_) | (refine VL_run (d := 45) (run_load_at0 s rfl ty9 rfl (i := 2) rfl rfl) rfl rfl ?_) | (refine VL_run (d := 45) (run_load_at0 s rfl ty9 rfl (i := 3) rfl rfl) rfl rfl ?_) | (refine VL_run (d := 45) (run_load_at0 s rfl ty9 rfl (i := 4) rfl rfl) rfl rfl ?_) | (refine VL_run (d := 45) (run_load_at0 s rfl ty9 rfl (i := 5) rfl rfl) rfl rfl ?_) | (refine VL_run (d := 45) (run_load_at0 s rfl ty9 rfl (i := 6) rfl rfl) rfl rfl ?_) | (refine VL_run (d := 45) (run_load_at0 s rfl ty9 rfl (i := 7) rfl rfl) rfl rfl ?_) | (refine VL_run (d := 45) (run_load_at0 s rfl ty9 rfl (i := 8) rfl rfl) rfl rfl ?_)
              refine VL_run (d := 46) (run_eqS rfl rfl rfl) rfl rfl ?_
              first | (refine VL_run (d := 47) (run_pickT rfl rfl rfl) rfl rfl ?_) | (refine VL_run (d := 47) (run_pickF rfl rfl rfl) rfl rfl ?_) | (refine VL_run (d := 47) (run_pick rfl rfl (fun _ => rfl) (fun _ => rfl)) rfl rfl ?_)
              refine VL_run (d := 2) (run_assign rfl (by conv => lhs; whnf)) rfl rfl ?_
              refine VL_nil ?_
              exact VS_endB s (by conv => lhs; whnf) (by clear s; rw [empty_len]; grind) (by repeat (first | exact Out.mix _ _ _ | exact Out.refl _ _ | refine Out.upd rfl ?_ | refine Out.mix_in rfl ?_))
            · refine VL_not (d := 44) rfl rfl rfl rfl ?_
              refine VL_not (d := 45) rfl rfl rfl rfl ?_
              refine VL_not (d := 46) rfl rfl rfl rfl ?_
              first | (refine VL_run (d := 47) (run_pickT rfl rfl rfl) rfl rfl ?_) | (refine VL_run (d := 47) (run_pickF rfl rfl rfl) rfl rfl ?_) | (refine VL_run (d := 47) (run_pick rfl rfl (fun _ => rfl) (fun _ => rfl)) rfl rfl ?_)
              refine VL_run (d := 2) (run_assign rfl (by conv => lhs; whnf)) rfl rfl ?_
              refine VL_nil ?_
              exact VS_endB s (by conv => lhs; whnf) (by clear s; rw [empty_len]; grind) (by repeat (first | exact Out.mix _ _ _ | exact Out.refl _ _ | refine Out.upd rfl ?_ | refine Out.mix_in rfl ?_))
          · refine VL_not (d := 39) rfl rfl rfl rfl ?_
            refine VL_not (d := 40) rfl rfl rfl rfl ?_
            refine VL_not (d := 41) rfl rfl rfl rfl ?_
            first | (refine VL_run (d := 42) (run_pickT rfl rfl rfl) rfl rfl ?_) | (refine VL_run (d := 42) (run_pickF rfl rfl rfl) rfl rfl ?_) | (refine VL_run (d := 42) (run_pick rfl rfl (fun _ => rfl) (fun _ => rfl)) rfl rfl ?_)
            refine VL_run (d := 43) (run_move rfl (by conv => lhs; whnf)) rfl rfl ?_
            refine VL_not (d := 44) rfl rfl rfl rfl ?_
            refine VL_not (d := 45) rfl rfl rfl rfl ?_
            refine VL_not (d := 46) rfl rfl rfl rfl ?_
            first | (refine VL_run (d := 47) (run_pickT rfl rfl rfl) rfl rfl ?_) | (refine VL_run (d := 47) (run_pickF rfl rfl rfl) rfl rfl ?_) | (refine VL_run (d := 47) (run_pick rfl rfl (fun _ => rfl) (fun _ => rfl)) rfl rfl ?_)
            refine VL_run (d := 2) (run_assign rfl (by conv => lhs; whnf)) rfl rfl ?_
            refine VL_nil ?_
            exact VS_endB s (by conv => lhs; whnf) (by clear s; rw [empty_len]; grind) (by repeat (first | exact Out.mix _ _ _ | exact Out.refl _ _ | refine Out.upd rfl ?_ | refine Out.mix_in rfl ?_))
        · refine VL_not (d := 34) rfl rfl rfl rfl ?_
          refine VL_not (d := 35) rfl rfl rfl rfl ?_
          refine VL_not (d := 36) rfl rfl rfl rfl ?_
          first | (refine VL_run (d := 37) (run_pickT rfl rfl rfl) rfl rfl ?_) | (refine VL_run (d := 37) (run_pickF rfl rfl rfl) rfl rfl ?_) | (refine VL_run (d := 37) (run_pick rfl rfl (fun _ => rfl) (fun _ => rfl)) rfl rfl ?_)
          refine VL_run (d := 38) (run_move rfl (by conv => lhs; whnf)) rfl rfl ?_
          refine VL_not (d := 39) rfl rfl rfl rfl ?_
          refine VL_not (d := 40) rfl rfl rfl rfl ?_
          refine VL_not (d := 41) rfl rfl rfl rfl ?_
          first | (refine VL_run (d := 42) (run_pickT rfl rfl rfl) rfl rfl ?_) | (refine VL_run (d := 42) (run_pickF rfl rfl rfl) rfl rfl ?_) | (refine VL_run (d := 42) (run_pick rfl rfl (fun _ => rfl) (fun _ => rfl)) rfl rfl ?_)
          refine VL_run (d := 43) (run_move rfl (by conv => lhs; whnf)) rfl rfl ?_
          refine VL_not (d := 44) rfl rfl rfl rfl ?_
          refine VL_not (d := 45) rfl rfl rfl rfl ?_
          refine VL_not (d := 46) rfl rfl rfl rfl ?_
          first | (refine VL_run (d := 47) (run_pickT rfl rfl rfl) rfl rfl ?_) | (refine VL_run (d := 47) (run_pickF rfl rfl rfl) rfl rfl ?_) | (refine VL_run (d := 47) (run_pick rfl rfl (fun _ => rfl) (fun _ => rfl)) rfl rfl ?_)
          refine VL_run (d := 2) (run_assign rfl (by conv => lhs; whnf)) rfl rfl ?_
          refine VL_nil ?_
          exact VS_endB s (by conv => lhs; whnf) (by clear s; rw [empty_len]; grind) (by repeat (first | exact Out.mix _ _ _ | exact Out.refl _ _ | refine Out.upd rfl ?_ | refine Out.mix_in rfl ?_))
      clear s; intro w j2 s
      refine VS_ret ?_
      repeat (first | refine blockV_ret ?_ | refine backV_ret ?_ | refine backV2_ret ?_ | refine backV3_ret ?_ | refine thenV_ret ?_ | refine metV2_ret ?_)
      refine fin_one (fn := Tryd.f13) rfl (res_tmp (by conv => lhs; whnf)) ?_
      exact ⟨by clear s; unfold enOk; grind, s.below⟩
    · repeat (first | refine VS_seq ?_ | refine VS_block ?_ | refine VS_skip ?_ | refine VS_nil_block ?_)
      refine VS_region_lit ?_
      refine VL_run (d := 49) (run_eqI rfl rfl rfl) rfl rfl ?_
      refine VL_run (d := 48) (run_assign rfl (by conv => lhs; whnf)) rfl rfl ?_
      refine VL_nil ?_
      refine VS_cond rfl (fun c2 => ?_) (fun c2 => ?_) <;> (try simp only [decide_eq_true_eq, decide_eq_false_iff_not, Bool.not_eq_true', Bool.not_eq_false', ne_eq, Decidable.not_not, cond_true, cond_false, Bool.and_eq_true, Bool.or_eq_true, Bool.and_eq_false_iff, Bool.or_eq_false_iff, Bool.not_true, Bool.not_false, reduceCtorEq] at c2)
      · repeat (first | refine VS_seq ?_ | refine VS_block ?_ | refine VS_skip ?_ | refine VS_nil_block ?_)
        refine VS_meetB s 2 (!e.path.isEmpty && (!e.dir || decide (e.data = ⟨#[]⟩))) [50, 51, 52, 53, 54, 55, 56, 57, 58, 59, 60, 61, 62, 63, 2] ?_ ?_
        · refine VS_region_lit ?_
          refine VL_run (d := 50) (run_fieldAddr rfl fo40_0 rfl) rfl rfl ?_
          first | (refine VL_run (d := 51) (run_load_own1 s rfl ty37 rfl (i := 0) rfl rfl) rfl rfl ?_) | (refine VL_run (d := 51) (run_load_own1 s rfl ty37 rfl (i := 1) rfl rfl) rfl rfl ?_) | (refine VL_run (d := 51) (run_load_own1 s rfl ty37 rfl (i := 2) rfl rfl) rfl rfl ?_) | (refine VL_run (d := 51) (run_load_own1 s rfl ty37 rfl (i := 3) rfl rfl) rfl rfl ?_) | (refine VL_run (d := 51) (run_load_own1 s rfl ty37 rfl (i := 4) rfl rfl) rfl rfl ?_) | (refine VL_run (d := 51) (run_load_own1 s rfl ty37 rfl (i := 5) rfl rfl) rfl rfl ?_) | (refine VL_run (d := 51) (run_load_own1 s rfl ty37 rfl (i := 6) rfl rfl) rfl rfl ?_) | (refine VL_run (d := 51) (run_load_own1 s rfl ty37 rfl (i := 7) rfl rfl) rfl rfl ?_) | (refine VL_run (d := 51) (run_load_own1 s rfl ty37 rfl (i := 8) rfl rfl) rfl rfl ?_) | (refine VL_run (d := 51) (run_load_at1 s rfl ty37 rfl (i := 0) rfl rfl) rfl rfl ?_) | (refine VL_run (d := 51) (run_load_at1 s rfl ty37 rfl (i := 1) rfl rfl) rfl rfl ?_) | (refine VL_run (d := 51) (run_load_at1 s rfl ty37 rfl (i := 2) rfl rfl) rfl rfl ?_) | (refine VL_run (d := 51) (run_load_at1 s rfl ty37 rfl (i := 3) rfl rfl) rfl rfl ?_) | (refine VL_run (d := 51) (run_load_at1 s rfl ty37 rfl (i := 4) rfl rfl) rfl rfl ?_) | (refine VL_run (d := 51) (run_load_at1 s rfl ty37 rfl (i := 5) rfl rfl) rfl rfl ?_) | (refine VL_run (d := 51) (run_load_at1 s rfl ty37 rfl (i := 6) rfl rfl) rfl rfl ?_) | (refine VL_run (d := 51) (run_load_at1 s rfl ty37 rfl (i := 7) rfl rfl) rfl rfl ?_) | (refine VL_run (d := 51) (run_load_at1 s rfl ty37 rfl (i := 8) rfl rfl) rfl rfl ?_) | (refine VL_run (d := 51) (run_load_at0 s rfl ty37 rfl (i := 0) rfl rfl) rfl rfl ?_) | (refine VL_run (d := 51) (run_load_at0 s rfl ty37 rfl (i := 1) rfl rfl) rfl rfl ?_) | (refine VL_run (d := 51) (run_load_at0 s rfl ty37 rfl (i := 2) rfl rfl) rfl rfl ?_) | (refine VL_run (d := 51) (run_load_at0 s rfl ty37 rfl (i := 3) rfl rfl) rfl rfl ?_) | (refine VL_run (d := 51) (run_load_at0 s rfl ty37 rfl (i := 4) rfl rfl) rfl rfl ?_) | (refine VL_run (d := 51) (run_load_at0 s rfl ty37 rfl (i := 5) rfl rfl) rfl rfl ?_) | (refine VL_run (d := 51) (run_load_at0 s rfl ty37 rfl (i := 6) rfl rfl) rfl rfl ?_) | (refine VL_run (d := 51) (run_load_at0 s rfl ty37 rfl (i := 7) rfl rfl) rfl rfl ?_) | (refine VL_run (d := 51) (run_load_at0 s rfl ty37 rfl (i := 8) rfl rfl) rfl rfl ?_)
          refine VL_run (d := 52) (run_lenSlice rfl ⟨_, Tryd.underlying37⟩ rfl) rfl rfl ?_
          refine VL_run (d := 53) (run_gtI rfl rfl rfl) rfl rfl ?_
          refine VL_run (d := 54) (run_move rfl (by conv => lhs; whnf)) rfl rfl ?_
          refine VL_split 54 (by conv => lhs; whnf) (fun h54 => ?_) (fun h54 => ?_) <;> (try simp only [decide_eq_true_eq, decide_eq_false_iff_not, Bool.not_eq_true', Bool.not_eq_false', ne_eq, Decidable.not_not, cond_true, cond_false, Bool.and_eq_true, Bool.or_eq_true, Bool.and_eq_false_iff, Bool.or_eq_false_iff, Bool.not_true, Bool.not_false, reduceCtorEq] at h54)
          · refine VL_run (d := 55) (run_fieldAddr rfl fo40_2 rfl) rfl rfl ?_
            first | (refine VL_run (d := 56) (run_load_own1 s rfl ty4 rfl (i := 0) rfl rfl) rfl rfl ?_) | (refine VL_run (d := 56) (run_load_own1 s rfl ty4 rfl (i := 1) rfl rfl) rfl rfl ?_) | (refine VL_run (d := 56) (run_load_own1 s rfl ty4 rfl (i := 2) rfl rfl) rfl rfl ?_) | (refine VL_run (d := 56) (run_load_own1 s rfl ty4 rfl (i := 3) rfl rfl) rfl rfl ?_) | (refine VL_run (d := 56) (run_load_own1 s rfl ty4 rfl (i := 4) rfl rfl) rfl rfl ?_) | (refine VL_run (d := 56) (run_load_own1 s rfl ty4 rfl (i := 5) rfl rfl) rfl rfl ?_) | (refine VL_run (d := 56) (run_load_own1 s rfl ty4 rfl (i := 6) rfl rfl) rfl rfl ?_) | (refine VL_run (d := 56) (run_load_own1 s rfl ty4 rfl (i := 7) rfl rfl) rfl rfl ?_) | (refine VL_run (d := 56) (run_load_own1 s rfl ty4 rfl (i := 8) rfl rfl) rfl rfl ?_) | (refine VL_run (d := 56) (run_load_at1 s rfl ty4 rfl (i := 0) rfl rfl) rfl rfl ?_) | (refine VL_run (d := 56) (run_load_at1 s rfl ty4 rfl (i := 1) rfl rfl) rfl rfl ?_) | (refine VL_run (d := 56) (run_load_at1 s rfl ty4 rfl (i := 2) rfl rfl) rfl rfl ?_) | (refine VL_run (d := 56) (run_load_at1 s rfl ty4 rfl (i := 3) rfl rfl) rfl rfl ?_) | (refine VL_run (d := 56) (run_load_at1 s rfl ty4 rfl (i := 4) rfl rfl) rfl rfl ?_) | (refine VL_run (d := 56) (run_load_at1 s rfl ty4 rfl (i := 5) rfl rfl) rfl rfl ?_) | (refine VL_run (d := 56) (run_load_at1 s rfl ty4 rfl (i := 6) rfl rfl) rfl rfl ?_) | (refine VL_run (d := 56) (run_load_at1 s rfl ty4 rfl (i := 7) rfl rfl) rfl rfl ?_) | (refine VL_run (d := 56) (run_load_at1 s rfl ty4 rfl (i := 8) rfl rfl) rfl rfl ?_) | (refine VL_run (d := 56) (run_load_at0 s rfl ty4 rfl (i := 0) rfl rfl) rfl rfl ?_) | (refine VL_run (d := 56) (run_load_at0 s rfl ty4 rfl (i := 1) rfl rfl) rfl rfl ?_) | (refine VL_run (d := 56) (run_load_at0 s rfl ty4 rfl (i := 2) rfl rfl) rfl rfl ?_) | (refine VL_run (d := 56) (run_load_at0 s rfl ty4 rfl (i := 3) rfl rfl) rfl rfl ?_) | (refine VL_run (d := 56) (run_load_at0 s rfl ty4 rfl (i := 4) rfl rfl) rfl rfl ?_) | (refine VL_run (d := 56) (run_load_at0 s rfl ty4 rfl (i := 5) rfl rfl) rfl rfl ?_) | (refine VL_run (d := 56) (run_load_at0 s rfl ty4 rfl (i := 6) rfl rfl) rfl rfl ?_) | (refine VL_run (d := 56) (run_load_at0 s rfl ty4 rfl (i := 7) rfl rfl) rfl rfl ?_) | (refine VL_run (d := 56) (run_load_at0 s rfl ty4 rfl (i := 8) rfl rfl) rfl rfl ?_)
            refine VL_run (d := 57) (run_not rfl rfl) rfl rfl ?_
            refine VL_run (d := 58) (run_move rfl (by conv => lhs; whnf)) rfl rfl ?_
            refine VL_split 58 (by conv => lhs; whnf) (fun h58 => ?_) (fun h58 => ?_) <;> (try simp only [decide_eq_true_eq, decide_eq_false_iff_not, Bool.not_eq_true', Bool.not_eq_false', ne_eq, Decidable.not_not, cond_true, cond_false, Bool.and_eq_true, Bool.or_eq_true, Bool.and_eq_false_iff, Bool.or_eq_false_iff, Bool.not_true, Bool.not_false, reduceCtorEq] at h58)
            · refine VL_not (d := 59) rfl rfl rfl rfl ?_
              refine VL_not (d := 60) rfl rfl rfl rfl ?_
              refine VL_not (d := 61) rfl rfl rfl rfl ?_
              first | (refine VL_run (d := 62) (run_pickT rfl rfl rfl) rfl rfl ?_) | (refine VL_run (d := 62) (run_pickF rfl rfl rfl) rfl rfl ?_) | (refine VL_run (d := 62) (run_pick rfl rfl (fun _ => rfl) (fun _ => rfl)) rfl rfl ?_)
              first | (refine VL_run (d := 63) (run_pickT rfl rfl rfl) rfl rfl ?_) | (refine VL_run (d := 63) (run_pickF rfl rfl rfl) rfl rfl ?_) | (refine VL_run (d := 63) (run_pick rfl rfl (fun _ => rfl) (fun _ => rfl)) rfl rfl ?_)
              refine VL_run (d := 2) (run_assign rfl (by conv => lhs; whnf)) rfl rfl ?_
              refine VL_nil ?_
              exact VS_endB s (by conv => lhs; whnf) (by clear s; rw [empty_len]; grind) (by repeat (first | exact Out.mix _ _ _ | exact Out.refl _ _ | refine Out.upd rfl ?_ | refine Out.mix_in rfl ?_))
            · refine VL_run (d := 59) (run_fieldAddr rfl fo40_4 rfl) rfl rfl ?_
              first | (refine VL_run (d := 60) (run_load_own1 s rfl ty9 rfl (i := 0) rfl rfl) rfl rfl ?_) | (refine VL_run (d := 60) (run_load_own1 s rfl ty9 rfl (i := 1) rfl rfl) rfl rfl ?_) | (refine VL_run (d := 60) (run_load_own1 s rfl ty9 rfl (i := 2) rfl rfl) rfl rfl ?_) | (refine VL_run (d := 60) (run_load_own1 s rfl ty9 rfl (i := 3) rfl rfl) rfl rfl ?_) | (refine VL_run (d := 60) (run_load_own1 s rfl ty9 rfl (i := 4) rfl rfl) rfl rfl ?_) | (refine VL_run (d := 60) (run_load_own1 s rfl ty9 rfl (i := 5) rfl rfl) rfl rfl ?_) | (refine VL_run (d := 60) (run_load_own1 s rfl ty9 rfl (i := 6) rfl rfl) rfl rfl ?_) | (refine VL_run (d := 60) (run_load_own1 s rfl ty9 rfl (i := 7) rfl rfl) rfl rfl ?_) | (refine VL_run (d := 60) (run_load_own1 s rfl ty9 rfl (i := 8) rfl rfl) rfl rfl ?_) | (refine VL_run (d := 60) (run_load_at1 s rfl ty9 rfl (i := 0) rfl rfl) rfl rfl ?_) | (refine VL_run (d := 60) (run_load_at1 s rfl ty9 rfl (i := 1) rfl rfl) rfl rfl ?_) | (refine VL_run (d := 60) (run_load_at1 s rfl ty9 rfl (i := 2) rfl rfl) rfl rfl ?_) | (refine VL_run (d := 60) (run_load_at1 s rfl ty9 rfl (i := 3) rfl rfl) rfl rfl ?_) | (refine VL_run (d := 60) (run_load_at1 s rfl ty9 rfl (i := 4) rfl rfl) rfl rfl ?_) | (refine VL_run (d := 60) (run_load_at1 s rfl ty9 rfl (i := 5) rfl rfl) rfl rfl ?_) | (refine VL_run (d := 60) (run_load_at1 s rfl ty9 rfl (i := 6) rfl rfl) rfl rfl ?_) | (refine VL_run (d := 60) (run_load_at1 s rfl ty9 rfl (i := 7) rfl rfl) rfl rfl ?_) | (refine VL_run (d := 60) (run_load_at1 s rfl ty9 rfl (i := 8) rfl rfl) rfl rfl ?_) | (refine VL_run (d := 60) (run_load_at0 s rfl ty9 rfl (i := 0) rfl rfl) rfl rfl ?_) | (refine VL_run (d := 60) (run_load_at0 s rfl ty9 rfl (i := 1) rfl rfl) rfl rfl ?_) | (refine VL_run (d := 60) (run_load_at0 s rfl ty9 rfl (i := 2) rfl rfl) rfl rfl ?_) | (refine VL_run (d := 60) (run_load_at0 s rfl ty9 rfl (i := 3) rfl rfl) rfl rfl ?_) | (refine VL_run (d := 60) (run_load_at0 s rfl ty9 rfl (i := 4) rfl rfl) rfl rfl ?_) | (refine VL_run (d := 60) (run_load_at0 s rfl ty9 rfl (i := 5) rfl rfl) rfl rfl ?_) | (refine VL_run (d := 60) (run_load_at0 s rfl ty9 rfl (i := 6) rfl rfl) rfl rfl ?_) | (refine VL_run (d := 60) (run_load_at0 s rfl ty9 rfl (i := 7) rfl rfl) rfl rfl ?_) | (refine VL_run (d := 60) (run_load_at0 s rfl ty9 rfl (i := 8) rfl rfl) rfl rfl ?_)
              refine VL_run (d := 61) (run_eqS rfl rfl rfl) rfl rfl ?_
              first | (refine VL_run (d := 62) (run_pickT rfl rfl rfl) rfl rfl ?_) | (refine VL_run (d := 62) (run_pickF rfl rfl rfl) rfl rfl ?_) | (refine VL_run (d := 62) (run_pick rfl rfl (fun _ => rfl) (fun _ => rfl)) rfl rfl ?_)
              first | (refine VL_run (d := 63) (run_pickT rfl rfl rfl) rfl rfl ?_) | (refine VL_run (d := 63) (run_pickF rfl rfl rfl) rfl rfl ?_) | (refine VL_run (d := 63) (run_pick rfl rfl (fun _ => rfl) (fun _ => rfl)) rfl rfl ?_)
              refine VL_run (d := 2) (run_assign rfl (by conv => lhs; whnf)) rfl rfl ?_
              refine VL_nil ?_
              exact VS_endB s (by conv => lhs; whnf) (by clear s; rw [empty_len]; grind) (by repeat (first | exact Out.mix _ _ _ | exact Out.refl _ _ | refine Out.upd rfl ?_ | refine Out.mix_in rfl ?_))
          · refine VL_not (d := 55) rfl rfl rfl rfl ?_
            refine VL_not (d := 56) rfl rfl rfl rfl ?_
            refine VL_not (d := 57) rfl rfl rfl rfl ?_
            refine VL_not (d := 58) rfl rfl rfl rfl ?_
            refine VL_not (d := 59) rfl rfl rfl rfl ?_
            refine VL_not (d := 60) rfl rfl rfl rfl ?_
            refine VL_not (d := 61) rfl rfl rfl rfl ?_
            refine VL_not (d := 62) rfl rfl rfl rfl ?_
            first | (refine VL_run (d := 63) (run_pickT rfl rfl rfl) rfl rfl ?_) | (refine VL_run (d := 63) (run_pickF rfl rfl rfl) rfl rfl ?_) | (refine VL_run (d := 63) (run_pick rfl rfl (fun _ => rfl) (fun _ => rfl)) rfl rfl ?_)
            refine VL_run (d := 2) (run_assign rfl (by conv => lhs; whnf)) rfl rfl ?_
            refine VL_nil ?_
            exact VS_endB s (by conv => lhs; whnf) (by clear s; rw [empty_len]; grind) (by repeat (first | exact Out.mix _ _ _ | exact Out.refl _ _ | refine Out.upd rfl ?_ | refine Out.mix_in rfl ?_))
        clear s; intro w j2 s
        refine VS_ret ?_
        repeat (first | refine blockV_ret ?_ | refine backV_ret ?_ | refine backV2_ret ?_ | refine backV3_ret ?_ | refine thenV_ret ?_ | refine metV2_ret ?_)
        refine fin_one (fn := Tryd.f13) rfl (res_tmp (by conv => lhs; whnf)) ?_
        exact ⟨by clear s; unfold enOk; grind, s.below⟩
      · repeat (first | refine VS_seq ?_ | refine VS_block ?_ | refine VS_skip ?_ | refine VS_nil_block ?_)
        refine VS_region_lit ?_
        refine VL_run (d := 65) (run_eqI rfl rfl rfl) rfl rfl ?_
        refine VL_run (d := 64) (run_assign rfl (by conv => lhs; whnf)) rfl rfl ?_
        refine VL_nil ?_
        refine VS_cond rfl (fun c3 => ?_) (fun c3 => ?_) <;> (try simp only [decide_eq_true_eq, decide_eq_false_iff_not, Bool.not_eq_true', Bool.not_eq_false', ne_eq, Decidable.not_not, cond_true, cond_false, Bool.and_eq_true, Bool.or_eq_true, Bool.and_eq_false_iff, Bool.or_eq_false_iff, Bool.not_true, Bool.not_false, reduceCtorEq] at c3)
        · repeat (first | refine VS_seq ?_ | refine VS_block ?_ | refine VS_skip ?_ | refine VS_nil_block ?_)
          refine VS_meetB s 2 (!e.dir && decide (e.data = ⟨#[]⟩)) [66, 67, 68, 69, 70, 71, 72, 73, 2] ?_ ?_
          · refine VS_region_lit ?_
            refine VL_run (d := 66) (run_fieldAddr rfl fo40_2 rfl) rfl rfl ?_
            first | (refine VL_run (d := 67) (run_load_own1 s rfl ty4 rfl (i := 0) rfl rfl) rfl rfl ?_) | (refine VL_run (d := 67) (run_load_own1 s rfl ty4 rfl (i := 1) rfl rfl) rfl rfl ?_) | (refine VL_run (d := 67) (run_load_own1 s rfl ty4 rfl (i := 2) rfl rfl) rfl rfl ?_) | (refine VL_run (d := 67) (run_load_own1 s rfl ty4 rfl (i := 3) rfl rfl) rfl rfl ?_) | (refine VL_run (d := 67) (run_load_own1 s rfl ty4 rfl (i := 4) rfl rfl) rfl rfl ?_) | (refine VL_run (d := 67) (run_load_own1 s rfl ty4 rfl (i := 5) rfl rfl) rfl rfl ?_) | (refine VL_run (d := 67) (run_load_own1 s rfl ty4 rfl (i := 6) rfl rfl) rfl rfl ?_) | (refine VL_run (d := 67) (run_load_own1 s rfl ty4 rfl (i := 7) rfl rfl) rfl rfl ?_) | (refine VL_run (d := 67) (run_load_own1 s rfl ty4 rfl (i := 8) rfl rfl) rfl rfl ?_) | (refine VL_run (d := 67) (run_load_at1 s rfl ty4 rfl (i := 0) rfl rfl) rfl rfl ?_) | (refine VL_run (d := 67) (run_load_at1 s rfl ty4 rfl (i := 1) rfl rfl) rfl rfl ?_) | (refine VL_run (d := 67) (run_load_at1 s rfl ty4 rfl (i := 2) rfl rfl) rfl rfl ?_) | (refine VL_run (d := 67) (run_load_at1 s rfl ty4 rfl (i := 3) rfl rfl) rfl rfl ?_) | (refine VL_run (d := 67) (run_load_at1 s rfl ty4 rfl (i := 4) rfl rfl) rfl rfl ?_) | (refine VL_run (d := 67) (run_load_at1 s rfl ty4 rfl (i := 5) rfl rfl) rfl rfl ?_) | (refine VL_run (d := 67) (run_load_at1 s rfl ty4 rfl (i := 6) rfl rfl) rfl rfl ?_) | (refine VL_run (d := 67) (run_load_at1 s rfl ty4 rfl (i := 7) rfl rfl) rfl rfl ?_) | (refine VL_run (d := 67) (run_load_at1 s rfl ty4 rfl (i := 8) rfl rfl) rfl rfl ?_) | (refine VL_run (d := 67) (run_load_at0 s rfl ty4 rfl (i := 0) rfl rfl) rfl rfl ?_) | (refine VL_run (d := 67) (run_load_at0 s rfl ty4 rfl (i := 1) rfl rfl) rfl rfl ?_) | (refine VL_run (d := 67) (run_load_at0 s rfl ty4 rfl (i := 2) rfl rfl) rfl rfl ?_) | (refine VL_run (d := 67) (run_load_at0 s rfl ty4 rfl (i := 3) rfl rfl) rfl rfl ?_) | (refine VL_run (d := 67) (run_load_at0 s rfl ty4 rfl (i := 4) rfl rfl) rfl rfl ?_) | (refine VL_run (d := 67) (run_load_at0 s rfl ty4 rfl (i := 5) rfl rfl) rfl rfl ?_) | (refine VL_run (d := 67) (run_load_at0 s rfl ty4 rfl (i := 6) rfl rfl) rfl rfl ?_) | (refine VL_run (d := 67) (run_load_at0 s rfl ty4 rfl (i := 7) rfl rfl) rfl rfl ?_) | (refine VL_run (d := 67) (run_load_at0 s rfl ty4 rfl (i := 8) rfl rfl) rfl rfl ?_)
            refine VL_run (d := 68) (run_not rfl rfl) rfl rfl ?_
            refine VL_run (d := 69) (run_move rfl (by conv => lhs; whnf)) rfl rfl ?_
            refine VL_split 69 (by conv => lhs; whnf) (fun h69 => ?_) (fun h69 => ?_) <;> (try simp only [decide_eq_true_eq, decide_eq_false_iff_not, Bool.not_eq_true', Bool.not_eq_false', ne_eq, Decidable.not_not, cond_true, cond_false, Bool.and_eq_true, Bool.or_eq_true, Bool.and_eq_false_iff, Bool.or_eq_false_iff, Bool.not_true, Bool.not_false, reduceCtorEq] at h69)
            · refine VL_run (d := 70) (run_fieldAddr rfl fo40_4 rfl) rfl rfl ?_
              first | (refine VL_run (d := 71) (run_load_own1 s rfl ty9 rfl (i := 0) rfl rfl) rfl rfl ?_) | (refine VL_run (d := 71) (run_load_own1 s rfl ty9 rfl (i := 1) rfl rfl) rfl rfl ?_) | (refine VL_run (d := 71) (run_load_own1 s rfl ty9 rfl (i := 2) rfl rfl) rfl rfl ?_) | (refine VL_run (d := 71) (run_load_own1 s rfl ty9 rfl (i := 3) rfl rfl) rfl rfl ?_) | (refine VL_run (d := 71) (run_load_own1 s rfl ty9 rfl (i := 4) rfl rfl) rfl rfl ?_) | (refine VL_run (d := 71) (run_load_own1 s rfl ty9 rfl (i := 5) rfl rfl) rfl rfl ?_) | (refine VL_run (d := 71) (run_load_own1 s rfl ty9 rfl (i := 6) rfl rfl) rfl rfl ?_) | (refine VL_run (d := 71) (run_load_own1 s rfl ty9 rfl (i := 7) rfl rfl) rfl rfl ?_) | (refine VL_run (d := 71) (run_load_own1 s rfl ty9 rfl (i := 8) rfl rfl) rfl rfl ?_) | (refine VL_run (d := 71) (run_load_at1 s rfl ty9 rfl (i := 0) rfl rfl) rfl rfl ?_) | (refine VL_run (d := 71) (run_load_at1 s rfl ty9 rfl (i := 1) rfl rfl) rfl rfl ?_) | (refine VL_run (d := 71) (run_load_at1 s rfl ty9 rfl (i := 2) rfl rfl) rfl rfl ?_) | (refine VL_run (d := 71) (run_load_at1 s rfl ty9 rfl (i := 3) rfl rfl) rfl rfl ?_) | (refine VL_run (d := 71) (run_load_at1 s rfl ty9 rfl (i := 4) rfl rfl) rfl rfl ?_) | (refine VL_run (d := 71) (run_load_at1 s rfl ty9 rfl (i := 5) rfl rfl) rfl rfl ?_) | (refine VL_run (d := 71) (run_load_at1 s rfl ty9 rfl (i := 6) rfl rfl) rfl rfl ?_) | (refine VL_run (d := 71) (run_load_at1 s rfl ty9 rfl (i := 7) rfl rfl) rfl rfl ?_) | (refine VL_run (d := 71) (run_load_at1 s rfl ty9 rfl (i := 8) rfl rfl) rfl rfl ?_) | (refine VL_run (d := 71) (run_load_at0 s rfl ty9 rfl (i := 0) rfl rfl) rfl rfl ?_) | (refine VL_run (d := 71) (run_load_at0 s rfl ty9 rfl (i := 1) rfl rfl) rfl rfl ?_) | (refine VL_run (d := 71) (run_load_at0 s rfl ty9 rfl (i := 2) rfl rfl) rfl rfl ?_) | (refine VL_run (d := 71) (run_load_at0 s rfl ty9 rfl (i := 3) rfl rfl) rfl rfl ?_) | (refine VL_run (d := 71) (run_load_at0 s rfl ty9 rfl (i := 4) rfl rfl) rfl rfl ?_) | (refine VL_run (d := 71) (run_load_at0 s rfl ty9 rfl (i := 5) rfl rfl) rfl rfl ?_) | (refine VL_run (d := 71) (run_load_at0 s rfl ty9 rfl (i := 6) rfl rfl) rfl rfl ?_) | (refine VL_run (d := 71) (run_load_at0 s rfl ty9 rfl (i := 7) rfl rfl) rfl rfl ?_) | (refine VL_run (d := 71) (run_load_at0 s rfl ty9 rfl (i := 8) rfl rfl) rfl rfl ?_)
              refine VL_run (d := 72) (run_eqS rfl rfl rfl) rfl rfl ?_
              first | (refine VL_run (d := 73) (run_pickT rfl rfl rfl) rfl rfl ?_) | (refine VL_run (d := 73) (run_pickF rfl rfl rfl) rfl rfl ?_) | (refine VL_run (d := 73) (run_pick rfl rfl (fun _ => rfl) (fun _ => rfl)) rfl rfl ?_)
              refine VL_run (d := 2) (run_assign rfl (by conv => lhs; whnf)) rfl rfl ?_
              refine VL_nil ?_
              exact VS_endB s (by conv => lhs; whnf) (by clear s; grind) (by repeat (first | exact Out.mix _ _ _ | exact Out.refl _ _ | refine Out.upd rfl ?_ | refine Out.mix_in rfl ?_))
            · refine VL_not (d := 70) rfl rfl rfl rfl ?_
              refine VL_not (d := 71) rfl rfl rfl rfl ?_
              refine VL_not (d := 72) rfl rfl rfl rfl ?_
              first | (refine VL_run (d := 73) (run_pickT rfl rfl rfl) rfl rfl ?_) | (refine VL_run (d := 73) (run_pickF rfl rfl rfl) rfl rfl ?_) | (refine VL_run (d := 73) (run_pick rfl rfl (fun _ => rfl) (fun _ => rfl)) rfl rfl ?_)
              refine VL_run (d := 2) (run_assign rfl (by conv => lhs; whnf)) rfl rfl ?_
              refine VL_nil ?_
              exact VS_endB s (by conv => lhs; whnf) (by clear s; grind) (by repeat (first | exact Out.mix _ _ _ | exact Out.refl _ _ | refine Out.upd rfl ?_ | refine Out.mix_in rfl ?_))
          clear s; intro w j2 s
          refine VS_ret ?_
          repeat (first | refine blockV_ret ?_ | refine backV_ret ?_ | refine backV2_ret ?_ | refine backV3_ret ?_ | refine thenV_ret ?_ | refine metV2_ret ?_)
          refine fin_one (fn := Tryd.f13) rfl (res_tmp (by conv => lhs; whnf)) ?_
          exact ⟨by clear s; unfold enOk; grind, s.below⟩
        · repeat (first | refine VS_seq ?_ | refine VS_block ?_ | refine VS_skip ?_ | refine VS_nil_block ?_)
          refine VS_region_lit ?_
          refine VL_run (d := 75) (run_eqI rfl rfl rfl) rfl rfl ?_
          refine VL_run (d := 74) (run_assign rfl (by conv => lhs; whnf)) rfl rfl ?_
          refine VL_nil ?_
          refine VS_cond rfl (fun c4 => ?_) (fun c4 => ?_) <;> (try simp only [decide_eq_true_eq, decide_eq_false_iff_not, Bool.not_eq_true', Bool.not_eq_false', ne_eq, Decidable.not_not, cond_true, cond_false, Bool.and_eq_true, Bool.or_eq_true, Bool.and_eq_false_iff, Bool.or_eq_false_iff, Bool.not_true, Bool.not_false, reduceCtorEq] at c4)
          · repeat (first | refine VS_seq ?_ | refine VS_block ?_ | refine VS_skip ?_ | refine VS_nil_block ?_)
            refine VS_meetB s 2 (!e.path.isEmpty && !e.dir && decide (e.mode = 0)) [76, 77, 78, 79, 80, 81, 82, 83, 84, 85, 86, 87, 88, 89, 2] ?_ ?_
            · refine VS_region_lit ?_
              refine VL_run (d := 76) (run_fieldAddr rfl fo40_0 rfl) rfl rfl ?_
              first | (refine VL_run (d := 77) (run_load_own1 s rfl ty37 rfl (i := 0) rfl rfl) rfl rfl ?_) | (refine VL_run (d := 77) (run_load_own1 s rfl ty37 rfl (i := 1) rfl rfl) rfl rfl ?_) | (refine VL_run (d := 77) (run_load_own1 s rfl ty37 rfl (i := 2) rfl rfl) rfl rfl ?_) | (refine VL_run (d := 77) (run_load_own1 s rfl ty37 rfl (i := 3) rfl rfl) rfl rfl ?_) | (refine VL_run (d := 77) (run_load_own1 s rfl ty37 rfl (i := 4) rfl rfl) rfl rfl ?_) | (refine VL_run (d := 77) (run_load_own1 s rfl ty37 rfl (i := 5) rfl rfl) rfl rfl ?_) | (refine VL_run (d := 77) (run_load_own1 s rfl ty37 rfl (i := 6) rfl rfl) rfl rfl ?_) | (refine VL_run (d := 77) (run_load_own1 s rfl ty37 rfl (i := 7) rfl rfl) rfl rfl ?_) | (refine VL_run (d := 77) (run_load_own1 s rfl ty37 rfl (i := 8) rfl rfl) rfl rfl ?_) | (refine VL_run (d := 77) (run_load_at1 s rfl ty37 rfl (i := 0) rfl rfl) rfl rfl ?_) | (refine VL_run (d := 77) (run_load_at1 s rfl ty37 rfl (i := 1) rfl rfl) rfl rfl ?_) | (refine VL_run (d := 77) (run_load_at1 s rfl ty37 rfl (i := 2) rfl rfl) rfl rfl ?_) | (refine VL_run (d := 77) (run_load_at1 s rfl ty37 rfl (i := 3) rfl rfl) rfl rfl ?_) | (refine VL_run (d := 77) (run_load_at1 s rfl ty37 rfl (i := 4) rfl rfl) rfl rfl ?_) | (refine VL_run (d := 77) (run_load_at1 s rfl ty37 rfl (i := 5) rfl rfl) rfl rfl ?_) | (refine VL_run (d := 77) (run_load_at1 s rfl ty37 rfl (i := 6) rfl rfl) rfl rfl ?_) | (refine VL_run (d := 77) (run_load_at1 s rfl ty37 rfl (i := 7) rfl rfl) rfl rfl ?_) | (refine VL_run (d := 77) (run_load_at1 s rfl ty37 rfl (i := 8) rfl rfl) rfl rfl ?_) | (refine VL_run (d := 77) (run_load_at0 s rfl ty37 rfl (i := 0) rfl rfl) rfl rfl ?_) | (refine VL_run (d := 77) (run_load_at0 s rfl ty37 rfl (i := 1) rfl rfl) rfl rfl ?_) | (refine VL_run (d := 77) (run_load_at0 s rfl ty37 rfl (i := 2) rfl rfl) rfl rfl ?_) | (refine VL_run (d := 77) (run_load_at0 s rfl ty37 rfl (i := 3) rfl rfl) rfl rfl ?_) | (refine VL_run (d := 77) (run_load_at0 s rfl ty37 rfl (i := 4) rfl rfl) rfl rfl ?_) | (refine VL_run (d := 77) (run_load_at0 s rfl ty37 rfl (i := 5) rfl rfl) rfl rfl ?_) | (refine VL_run (d := 77) (run_load_at0 s rfl ty37 rfl (i := 6) rfl rfl) rfl rfl ?_) | (refine VL_run (d := 77) (run_load_at0 s rfl ty37 rfl (i := 7) rfl rfl) rfl rfl ?_) | (refine VL_run (d := 77) (run_load_at0 s rfl ty37 rfl (i := 8) rfl rfl) rfl rfl ?_)
              refine VL_run (d := 78) (run_lenSlice rfl ⟨_, Tryd.underlying37⟩ rfl) rfl rfl ?_
              refine VL_run (d := 79) (run_gtI rfl rfl rfl) rfl rfl ?_
              refine VL_run (d := 80) (run_move rfl (by conv => lhs; whnf)) rfl rfl ?_
              refine VL_split 80 (by conv => lhs; whnf) (fun h80 => ?_) (fun h80 => ?_) <;> (try simp only [decide_eq_true_eq, decide_eq_false_iff_not, Bool.not_eq_true', Bool.not_eq_false', ne_eq, Decidable.not_not, cond_true, cond_false, Bool.and_eq_true, Bool.or_eq_true, Bool.and_eq_false_iff, Bool.or_eq_false_iff, Bool.not_true, Bool.not_false, reduceCtorEq] at h80)
              · refine VL_run (d := 81) (run_fieldAddr rfl fo40_2 rfl) rfl rfl ?_
                first | (refine VL_run (d := 82) (run_load_own1 s rfl ty4 rfl (i := 0) rfl rfl) rfl rfl ?_) | (refine VL_run (d := 82) (run_load_own1 s rfl ty4 rfl (i := 1) rfl rfl) rfl rfl ?_) | (refine VL_run (d := 82) (run_load_own1 s rfl ty4 rfl (i := 2) rfl rfl) rfl rfl ?_) | (refine VL_run (d := 82) (run_load_own1 s rfl ty4 rfl (i := 3) rfl rfl) rfl rfl ?_) | (refine VL_run (d := 82) (run_load_own1 s rfl ty4 rfl (i := 4) rfl rfl) rfl rfl ?_) | (refine VL_run (d := 82) (run_load_own1 s rfl ty4 rfl (i := 5) rfl rfl) rfl rfl ?_) | (refine VL_run (d := 82) (run_load_own1 s rfl ty4 rfl (i := 6) rfl rfl) rfl rfl ?_) | (refine VL_run (d := 82) (run_load_own1 s rfl ty4 rfl (i := 7) rfl rfl) rfl rfl ?_) | (refine VL_run (d := 82) (run_load_own1 s rfl ty4 rfl (i := 8) rfl rfl) rfl rfl ?_) | (refine VL_run (d := 82) (run_load_at1 s rfl ty4 rfl (i := 0) rfl rfl) rfl rfl ?_) | (refine VL_run (d := 82) (run_load_at1 s rfl ty4 rfl (i := 1) rfl rfl) rfl rfl ?_) | (refine VL_run (d := 82) (run_load_at1 s rfl ty4 rfl (i := 2) rfl rfl) rfl rfl ?_) | (refine VL_run (d := 82) (run_load_at1 s rfl ty4 rfl (i := 3) rfl rfl) rfl rfl ?_) | (refine VL_run (d := 82) (run_load_at1 s rfl ty4 rfl (i := 4) rfl rfl) rfl rfl ?_) | (refine VL_run (d := 82) (run_load_at1 s rfl ty4 rfl (i := 5) rfl rfl) rfl rfl ?_) | (refine VL_run (d := 82) (run_load_at1 s rfl ty4 rfl (i := 6) rfl rfl) rfl rfl ?_) | (refine VL_run (d := 82) (run_load_at1 s rfl ty4 rfl (i := 7) rfl rfl) rfl rfl ?_) | (refine VL_run (d := 82) (run_load_at1 s rfl ty4 rfl (i := 8) rfl rfl) rfl rfl ?_) | (refine VL_run (d := 82) (run_load_at0 s rfl ty4 rfl (i := 0) rfl rfl) rfl rfl ?_) | (refine VL_run (d := 82) (run_load_at0 s rfl ty4 rfl (i := 1) rfl rfl) rfl rfl ?_) | (refine VL_run (d := 82) (run_load_at0 s rfl ty4 rfl (i := 2) rfl rfl) rfl rfl ?_) | (refine VL_run (d := 82) (run_load_at0 s rfl ty4 rfl (i := 3) rfl rfl) rfl rfl ?_) | (refine VL_run (d := 82) (run_load_at0 s rfl ty4 rfl (i := 4) rfl rfl) rfl rfl ?_) | (refine VL_run (d := 82) (run_load_at0 s rfl ty4 rfl (i := 5) rfl rfl) rfl rfl ?_) | (refine VL_run (d := 82) (run_load_at0 s rfl ty4 rfl (i := 6) rfl rfl) rfl rfl ?_) | (refine VL_run (d := 82) (run_load_at0 s rfl ty4 rfl (i := 7) rfl rfl) rfl rfl ?_) | (refine VL_run (d := 82) (run_load_at0 s rfl ty4 rfl (i := 8) rfl rfl) rfl rfl ?_)
                refine VL_run (d := 83) (run_not rfl rfl) rfl rfl ?_
                first | (refine VL_run (d := 84) (run_pickT rfl rfl rfl) rfl rfl ?_) | (refine VL_run (d := 84) (run_pickF rfl rfl rfl) rfl rfl ?_) | (refine VL_run (d := 84) (run_pick rfl rfl (fun _ => rfl) (fun _ => rfl)) rfl rfl ?_)
                refine VL_run (d := 85) (run_move rfl (by conv => lhs; whnf)) rfl rfl ?_
                refine VL_split 85 (by conv => lhs; whnf) (fun h85 => ?_) (fun h85 => ?_) <;> (try simp only [decide_eq_true_eq, decide_eq_false_iff_not, Bool.not_eq_true', Bool.not_eq_false', ne_eq, Decidable.not_not, cond_true, cond_false, Bool.and_eq_true, Bool.or_eq_true, Bool.and_eq_false_iff, Bool.or_eq_false_iff, Bool.not_true, Bool.not_false, reduceCtorEq] at h85)
                · refine VL_run (d := 86) (run_fieldAddr rfl fo40_3 rfl) rfl rfl ?_
                  first | (refine VL_run (d := 87) (run_load_own1 s rfl ty3 rfl (i := 0) rfl rfl) rfl rfl ?_) | (refine VL_run (d := 87) (run_load_own1 s rfl ty3 rfl (i := 1) rfl rfl) rfl rfl ?_) | (refine VL_run (d := 87) (run_load_own1 s rfl ty3 rfl (i := 2) rfl rfl) rfl rfl ?_) | (refine VL_run (d := 87) (run_load_own1 s rfl ty3 rfl (i := 3) rfl rfl) rfl rfl ?_) | (refine VL_run (d := 87) (run_load_own1 s rfl ty3 rfl (i := 4) rfl rfl) rfl rfl ?_) | (refine VL_run (d := 87) (run_load_own1 s rfl ty3 rfl (i := 5) rfl rfl) rfl rfl ?_) | (refine VL_run (d := 87) (run_load_own1 s rfl ty3 rfl (i := 6) rfl rfl) rfl rfl ?_) | (refine VL_run (d := 87) (run_load_own1 s rfl ty3 rfl (i := 7) rfl rfl) rfl rfl ?_) | (refine VL_run (d := 87) (run_load_own1 s rfl ty3 rfl (i := 8) rfl rfl) rfl rfl ?_) | (refine VL_run (d := 87) (run_load_at1 s rfl ty3 rfl (i := 0) rfl rfl) rfl rfl ?_) | (refine VL_run (d := 87) (run_load_at1 s rfl ty3 rfl (i := 1) rfl rfl) rfl rfl ?_) | (refine VL_run (d := 87) (run_load_at1 s rfl ty3 rfl (i := 2) rfl rfl) rfl rfl ?_) | (refine VL_run (d := 87) (run_load_at1 s rfl ty3 rfl (i := 3) rfl rfl) rfl rfl ?_) | (refine VL_run (d := 87) (run_load_at1 s rfl ty3 rfl (i := 4) rfl rfl) rfl rfl ?_) | (refine VL_run (d := 87) (run_load_at1 s rfl ty3 rfl (i := 5) rfl rfl) rfl rfl ?_) | (refine VL_run (d := 87) (run_load_at1 s rfl ty3 rfl (i := 6) rfl rfl) rfl rfl ?_) | (refine VL_run (d := 87) (run_load_at1 s rfl ty3 rfl (i := 7) rfl rfl) rfl rfl ?_) | (refine VL_run (d := 87) (run_load_at1 s rfl ty3 rfl (i := 8) rfl rfl) rfl rfl ?_) | (refine VL_run (d := 87) (run_load_at0 s rfl ty3 rfl (i := 0) rfl rfl) rfl rfl ?_) | (refine VL_run (d := 87) (run_load_at0 s rfl ty3 rfl (i := 1) rfl rfl) rfl rfl ?_) | (refine VL_run (d := 87) (run_load_at0 s rfl ty3 rfl (i := 2) rfl rfl) rfl rfl ?_) | (refine VL_run (d := 87) (run_load_at0 s rfl ty3 rfl (i := 3) rfl rfl) rfl rfl ?_) | (refine VL_run (d := 87) (run_load_at0 s rfl ty3 rfl (i := 4) rfl rfl) rfl rfl ?_) | (refine VL_run (d := 87) (run_load_at0 s rfl ty3 rfl (i := 5) rfl rfl) rfl rfl ?_) | (refine VL_run (d := 87) (run_load_at0 s rfl ty3 rfl (i := 6) rfl rfl) rfl rfl ?_) | (refine VL_run (d := 87) (run_load_at0 s rfl ty3 rfl (i := 7) rfl rfl) rfl rfl ?_) | (refine VL_run (d := 87) (run_load_at0 s rfl ty3 rfl (i := 8) rfl rfl) rfl rfl ?_)
                  refine VL_run (d := 88) (run_eqI rfl rfl rfl) rfl rfl ?_
                  first | (refine VL_run (d := 89) (run_pickT rfl rfl rfl) rfl rfl ?_) | (refine VL_run (d := 89) (run_pickF rfl rfl rfl) rfl rfl ?_) | (refine VL_run (d := 89) (run_pick rfl rfl (fun _ => rfl) (fun _ => rfl)) rfl rfl ?_)
                  refine VL_run (d := 2) (run_assign rfl (by conv => lhs; whnf)) rfl rfl ?_
                  refine VL_nil ?_
                  exact VS_endB s (by conv => lhs; whnf) (by clear s; rw [empty_len]; grind) (by repeat (first | exact Out.mix _ _ _ | exact Out.refl _ _ | refine Out.upd rfl ?_ | refine Out.mix_in rfl ?_))
                · refine VL_not (d := 86) rfl rfl rfl rfl ?_
                  refine VL_not (d := 87) rfl rfl rfl rfl ?_
                  refine VL_not (d := 88) rfl rfl rfl rfl ?_
                  first | (refine VL_run (d := 89) (run_pickT rfl rfl rfl) rfl rfl ?_) | (refine VL_run (d := 89) (run_pickF rfl rfl rfl) rfl rfl ?_) | (refine VL_run (d := 89) (run_pick rfl rfl (fun _ => rfl) (fun _ => rfl)) rfl rfl ?_)
                  refine VL_run (d := 2) (run_assign rfl (by conv => lhs; whnf)) rfl rfl ?_
                  refine VL_nil ?_
                  exact VS_endB s (by conv => lhs; whnf) (by clear s; rw [empty_len]; grind) (by repeat (first | exact Out.mix _ _ _ | exact Out.refl _ _ | refine Out.upd rfl ?_ | refine Out.mix_in rfl ?_))
              · refine VL_not (d := 81) rfl rfl rfl rfl ?_
                refine VL_not (d := 82) rfl rfl rfl rfl ?_
                refine VL_not (d := 83) rfl rfl rfl rfl ?_
                first | (refine VL_run (d := 84) (run_pickT rfl rfl rfl) rfl rfl ?_) | (refine VL_run (d := 84) (run_pickF rfl rfl rfl) rfl rfl ?_) | (refine VL_run (d := 84) (run_pick rfl rfl (fun _ => rfl) (fun _ => rfl)) rfl rfl ?_)
                refine VL_run (d := 85) (run_move rfl (by conv => lhs; whnf)) rfl rfl ?_
                refine VL_not (d := 86) rfl rfl rfl rfl ?_
                refine VL_not (d := 87) rfl rfl rfl rfl ?_
                refine VL_not (d := 88) rfl rfl rfl rfl ?_
                first | (refine VL_run (d := 89) (run_pickT rfl rfl rfl) rfl rfl ?_) | (refine VL_run (d := 89) (run_pickF rfl rfl rfl) rfl rfl ?_) | (refine VL_run (d := 89) (run_pick rfl rfl (fun _ => rfl) (fun _ => rfl)) rfl rfl ?_)
                refine VL_run (d := 2) (run_assign rfl (by conv => lhs; whnf)) rfl rfl ?_
                refine VL_nil ?_
                exact VS_endB s (by conv => lhs; whnf) (by clear s; rw [empty_len]; grind) (by repeat (first | exact Out.mix _ _ _ | exact Out.refl _ _ | refine Out.upd rfl ?_ | refine Out.mix_in rfl ?_))
            clear s; intro w j2 s
            refine VS_ret ?_
            repeat (first | refine blockV_ret ?_ | refine backV_ret ?_ | refine backV2_ret ?_ | refine backV3_ret ?_ | refine thenV_ret ?_ | refine metV2_ret ?_)
            refine fin_one (fn := Tryd.f13) rfl (res_tmp (by conv => lhs; whnf)) ?_
            exact ⟨by clear s; unfold enOk; grind, s.below⟩
          · repeat (first | refine VS_seq ?_ | refine VS_block ?_ | refine VS_skip ?_ | refine VS_nil_block ?_)
            refine VS_region_lit ?_
            refine VL_run (d := 2) (run_assign rfl (by conv => lhs; whnf)) rfl rfl ?_
            refine VL_nil ?_
            refine VS_ret ?_
            repeat (first | refine blockV_ret ?_ | refine backV_ret ?_ | refine backV2_ret ?_ | refine backV3_ret ?_ | refine thenV_ret ?_ | refine metV2_ret ?_)
            refine fin_one (fn := Tryd.f13) rfl (res_tmp (by conv => lhs; whnf)) ?_
            exact ⟨by clear s; unfold enOk; grind, s.below⟩
end Go.Proofs.YtkefaelmamgjiaaDoor
