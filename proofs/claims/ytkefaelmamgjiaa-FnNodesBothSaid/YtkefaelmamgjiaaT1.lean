/- spec.l1Find. -/
import Derived.Test.YtkefaelmamgjiaaDat
import Derived.Test.YtkefaelmamgjiaaTys
import Derived.Test.YtkefaelmamgjiaaChecked
set_option linter.unusedVariables false
set_option linter.unusedSimpArgs false
namespace Go.Proofs.Ytkefaelmamgjiaa
open Go.RowKit

def findFrom (ns : List ByteArray) (n : ByteArray) (i : Nat) : Int :=
  if h : i < ns.length then (if ns[i] = n then i else findFrom ns n (i + 1)) else -1
termination_by ns.length - i

set_option maxHeartbeats 1000000 in
theorem l1Find_ok {ok : Nat → Prop} {w0 : World} {cs : List Value} (t : Tr) (nm : ByteArray) (h : Rd ok w0 t.toD cs) (hn : t.names.length ≤ 1000000000) :
    Calls Try.prog 105 #[.agg cs.toArray, .string nm] w0 (Ret fun v w' => v = .int .i64 (findFrom t.names nm 0) ∧ Below w0.heap.size w0 w') := by
  obtain ⟨A3, c3, A4, c4, rfl, hl3, hl4, h3, h4⟩ := Tr.opn h
  have s := (St.start ok w0).know (f := .dat [.slice A3 t.names.length c3] (.sl (strsD t.names))) (Rd.keep (Keeps.refl _ _) (fun b _ hb => ⟨.inl hb, fun x hx => (List.not_mem_nil hx).elim⟩) _ _ h3)
  refine calls_enter (n := 21) Try.func105 rfl rfl rfl ?_
  repeat (refine VS_seq ?_)
  refine VS_region_lit ?_
  refine VL_does (d := 2) (does_box s rfl rfl rfl ?_) rfl rfl
  clear s; intro b2 w s
  refine VL_run (d := 4) (run_assign rfl (by conv => lhs; whnf)) rfl rfl ?_
  refine VL_nil ?_
  repeat (refine VS_seq ?_)
  refine VS_region_lit ?_
  refine VL_run (d := 5) (run_assign rfl (by conv => lhs; whnf)) rfl rfl ?_
  refine VL_nil ?_
  repeat (refine VS_block ?_)
  refine VS_loop [4, 5, 6, 7, 8, 9, 10, 11, 12, 13, 14, 15, 16, 17, 18, 19, 20] (fun k : Nat => [(5, .int .i64 k)]) (fun k w => St ok w0 [.blk b2 _ _] [.dat [.slice A3 t.names.length c3] (.sl (strsD t.names))] w ∧ k ≤ t.names.length ∧ findFrom t.names nm 0 = findFrom t.names nm k) (fun k => t.names.length - k) 0 ⟨s, by omega, rfl⟩ ((Has.nil _).cons rfl) ?_
  clear s
  rintro k w j ⟨s, hk, hf⟩
  repeat (refine VS_seq ?_)
  refine VS_region_lit ?_
  refine VL_run (d := 6) (run_move rfl (by conv => lhs; whnf)) rfl rfl ?_
  refine VL_run (d := 7) (run_fieldAddr rfl fo26_3 rfl) rfl rfl ?_
  refine VL_run (d := 8) (run_load_own1 s rfl ty23 rfl (i := 0) rfl rfl) rfl rfl ?_
  refine VL_run (d := 9) (run_lenSlice rfl ⟨_, Try.underlying23⟩ rfl) rfl rfl ?_
  refine VL_run (d := 10) (run_ltI rfl rfl rfl) rfl rfl ?_
  refine VL_nil ?_
  refine VS_cond rfl (fun hc => ?_) (fun hc => ?_) <;> (try simp only [decide_eq_true_eq, decide_eq_false_iff_not, Bool.not_eq_true', Bool.not_eq_false', ne_eq, Decidable.not_not, cond_true, cond_false, Bool.and_eq_true, Bool.or_eq_true, Bool.and_eq_false_iff, Bool.or_eq_false_iff, Bool.not_true, Bool.not_false, reduceCtorEq] at hc)
  · repeat (first | refine VS_seq ?_ | refine VS_block ?_ | refine VS_skip ?_)
    obtain ⟨ad, cs, rfl, s⟩ := s.openE (i := 0) rfl (by decide) (strsD_wd _) k (by simpa using hc)
    obtain rfl := Rd_str (by have := s.dat (i := 1) rfl; rw [strsD_get] at this; exact this)
    refine VS_region_lit ?_
    refine VL_run (d := 13) (run_fieldAddr rfl fo26_3 rfl) rfl rfl ?_
    refine VL_run (d := 14) (run_load_own1 s rfl ty23 rfl (i := 0) rfl rfl) rfl rfl ?_
    refine VL_run (d := 15) (run_move rfl (by conv => lhs; whnf)) rfl rfl ?_
    refine VL_run (d := 16) (run_indexAddr rfl Try.underlying23 ty9 rfl rfl (by omega) (by omega)) rfl rfl ?_
    refine VL_run (d := 17) (run_load_at0 s rfl ty9 rfl (i := 0) rfl rfl) rfl rfl ?_
    refine VL_run (d := 18) (run_move rfl (by conv => lhs; whnf)) rfl rfl ?_
    refine VL_run (d := 19) (run_eqS rfl rfl rfl) rfl rfl ?_
    refine VL_nil ?_
    repeat (first | refine VS_seq ?_ | refine VS_block ?_ | refine VS_skip ?_ | refine VS_nil_block ?_)
    refine VS_cond rfl (fun h2 => ?_) (fun h2 => ?_) <;> (try simp only [decide_eq_true_eq, decide_eq_false_iff_not, Bool.not_eq_true', Bool.not_eq_false', ne_eq, Decidable.not_not, cond_true, cond_false, Bool.and_eq_true, Bool.or_eq_true, Bool.and_eq_false_iff, Bool.or_eq_false_iff, Bool.not_true, Bool.not_false, reduceCtorEq] at h2)
    · repeat (refine VS_seq ?_)
      refine VS_region_lit ?_
      refine VL_run (d := 20) (run_move rfl (by conv => lhs; whnf)) rfl rfl ?_
      refine VL_run (d := 4) (run_assign rfl (by conv => lhs; whnf)) rfl rfl ?_
      refine VL_nil ?_
      refine VS_ret ?_
      repeat (first | refine blockV_ret ?_ | refine backV_ret ?_)
      refine fin_one (fn := Try.f105) rfl (res_tmp (by conv => lhs; whnf)) ?_
      refine ⟨?_, s.below⟩
      rw [hf, findFrom, dif_pos (by omega), if_pos h2]
    · repeat (first | refine VS_skip ?_ | refine VS_nil_block ?_)
      refine VS_region_lit ?_
      refine VL_run (d := 11) (run_move rfl (by conv => lhs; whnf)) rfl rfl ?_
      refine VL_run (d := 12) (run_add rfl rfl rfl (by omega)) rfl rfl ?_
      refine VL_run (d := 5) (run_assign rfl (by conv => lhs; whnf)) rfl rfl ?_
      refine VL_nil ?_
      refine VS_back (k + 1) ?_ (by repeat (first | exact Has.nil _ | refine Has.cons rfl ?_)) (by repeat (first | exact Out.mix _ _ _ | refine Out.upd rfl ?_)) ?_
      · refine ⟨s.less (by simp), by omega, ?_⟩
        rw [hf, findFrom, dif_pos (by omega), if_neg h2]
      · omega
  · refine VS_exit ?_
    repeat (first | refine blockV_hit ?_ | refine backV_exit ?_)
    repeat (refine VS_seq ?_)
    refine VS_region_lit ?_
    refine VL_run (d := 4) (run_assign rfl (by conv => lhs; whnf)) rfl rfl ?_
    refine VL_nil ?_
    refine VS_ret ?_
    repeat (first | refine blockV_ret ?_ | refine backV_ret ?_ | refine backV2_ret ?_ | refine backV3_ret ?_ | refine thenV_ret ?_ | refine metV2_ret ?_)
    refine fin_one (fn := Try.f105) rfl (res_tmp (by conv => lhs; whnf)) ?_
    refine ⟨?_, s.below⟩
    rw [hf, findFrom, dif_neg (by omega)]
end Go.Proofs.Ytkefaelmamgjiaa
