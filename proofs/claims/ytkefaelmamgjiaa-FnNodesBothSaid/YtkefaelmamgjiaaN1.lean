/- nodes (spec): l33Id, l33Ok, NodesId, NodesPath. -/
import Derived.Test.YtkefaelmamgjiaaS8
import Derived.Test.YtkefaelmamgjiaaRdr
set_option linter.unusedVariables false
set_option linter.unusedSimpArgs false
set_option maxHeartbeats 4000000
namespace Go.Proofs.Ytkefaelmamgjiaa
open Go.RowKit

/-- How big nodes are. -/
def NdB (n : Nd) (B : Nat) : Prop := 0 ≤ n.next ∧ n.next ≤ B ∧ n.list.length ≤ B ∧ ∀ x ∈ n.list, namesWt x.2 ≤ B
theorem NdB.path {n : Nd} {B : Nat} (h : NdB n B) {k : Nat} (hk : k < n.list.length) : namesWt n.list[k].2 ≤ B := h.2.2.2 _ (List.getElem_mem hk)
theorem NdB.plen {n : Nd} {B : Nat} (h : NdB n B) {k : Nat} (hk : k < n.list.length) : n.list[k].2.length ≤ B := Nat.le_trans (namesWt_len _) (h.path hk)
theorem NdB.mono {n : Nd} {A B : Nat} (h : NdB n A) (hb : A ≤ B) : NdB n B := ⟨h.1, by have := h.2.1; omega, by have := h.2.2.1; omega, fun x hx => Nat.le_trans (h.2.2.2 x hx) hb⟩
def idOf : List (Int × List ByteArray) → List ByteArray → Int
  | [], _ => 0
  | x :: r, q => if x.2 = q then x.1 else idOf r q
theorem l33Id_ok (n : Nd) (q : List ByteArray) {ok : Nat → Prop} {w0 : World} {cs : List Value} {v2 : Value} (h : Rd ok w0 n.toD cs) (h2 : Rd ok w0 (.sl (strsD q)) [v2]) (hn : NdB n 1000000000) (hq : q.length ≤ 1000000000000) :
    Calls Try.prog 63 #[.agg cs.toArray, v2] w0 (Ret fun v w' => v = .int .i64 (idOf n.list q) ∧ Below w0.heap.size w0 w') := by
  obtain ⟨A, c, rfl, hl, h3⟩ := Nd.opn h
  have hlen := hn.2.2.1
  have s := ((St.start ok w0).begin h2).begin h3
  refine calls_enter (n := 27) Try.func63 rfl rfl rfl ?_
  repeat (refine VS_seq ?_)
  refine VS_region_lit ?_
  refine VL_does (d := 2) (does_box s rfl rfl rfl ?_) rfl rfl
  clear s; intro b2 w s
  refine VL_run (d := 4) (run_assign rfl (by conv => lhs; whnf)) rfl rfl ?_
  refine VL_nil ?_
  repeat (refine VS_seq ?_)
  refine VS_region_lit ?_
  refine VL_run (d := 5) (run_assign rfl (by conv => lhs; whnf)) rfl rfl ?_
  refine VL_nil ?_
  repeat (refine VS_block ?_)
  refine VS_loop [4, 5, 6, 7, 8, 9, 10, 11, 12, 13, 14, 15, 16, 17, 18, 19, 20, 21, 22, 23, 24, 25, 26] (fun k : Nat => [(5, .int .i64 k)]) (fun k w => St ok w0 [.blk b2 [.int .i64 n.next, .slice A n.list.length c] 30] [.dat [.slice A n.list.length c] (.sl (nodeDs n.list)), .dat [v2] (.sl (strsD q))] w ∧ k ≤ n.list.length ∧ idOf (n.list.drop k) q = idOf n.list q) (fun k => n.list.length - k) 0 ⟨s, by omega, rfl⟩ (by repeat (first | exact Has.nil _ | refine Has.cons rfl ?_)) ?_
  clear s
  rintro k w j ⟨s, hk, hf⟩
  repeat (refine VS_seq ?_)
  refine VS_region_lit ?_
  refine VL_run (d := 6) (run_move rfl (by conv => lhs; whnf)) rfl rfl ?_
  refine VL_run (d := 7) (run_fieldAddr rfl fo30_1 rfl) rfl rfl ?_
  refine VL_run (d := 8) (run_load_own1 s rfl ty28 rfl (i := 0) rfl rfl) rfl rfl ?_
  refine VL_run (d := 9) (run_lenSlice rfl ⟨_, Try.underlying28⟩ rfl) rfl rfl ?_
  refine VL_run (d := 10) (run_ltI rfl rfl rfl) rfl rfl ?_
  refine VL_nil ?_
  refine VS_cond rfl (fun c0 => ?_) (fun c0 => ?_) <;> (try simp only [decide_eq_true_eq, decide_eq_false_iff_not, Bool.not_eq_true', Bool.not_eq_false', ne_eq, Decidable.not_not, cond_true, cond_false, Bool.and_eq_true, Bool.or_eq_true, Bool.and_eq_false_iff, Bool.or_eq_false_iff, Bool.not_true, Bool.not_false, reduceCtorEq] at c0)
  · repeat (first | refine VS_seq ?_ | refine VS_block ?_ | refine VS_skip ?_)
    have hk' : k < n.list.length := by omega
    have hp := hn.plen hk'
    rw [List.drop_eq_getElem_cons hk', idOf] at hf
    obtain ⟨ad, A5, c5, rfl, -, s⟩ := s.openN (i := 0) rfl k hk'
    refine VS_region_lit ?_
    refine VL_run (d := 13) (run_fieldAddr rfl fo30_1 rfl) rfl rfl ?_
    refine VL_run (d := 14) (run_load_own1 s rfl ty28 rfl (i := 0) rfl rfl) rfl rfl ?_
    refine VL_run (d := 15) (run_move rfl (by conv => lhs; whnf)) rfl rfl ?_
    refine VL_run (d := 16) (run_indexAddr rfl Try.underlying28 ty37 rfl rfl (by omega) (by omega)) rfl rfl ?_
    refine VL_run (d := 17) (run_fieldAddr rfl fo37_1 rfl) rfl rfl ?_
    refine VL_run (d := 18) (run_load_at1 s rfl ty23 rfl (i := 0) rfl rfl) rfl rfl ?_
    refine VL_run (d := 19) (run_move rfl (by conv => lhs; whnf)) rfl rfl ?_
    refine VL_does (d := 20) (does_call2 rfl (by kernel_rfl) rfl rfl (l11Same_ok _ q (s.dat (i := 1) rfl) (s.dat (i := 3) rfl) (by omega) hq) ?_) rfl rfl
    rintro _ w ⟨rfl, hb⟩
    replace s := s.step hb
    clear hb
    refine VL_nil ?_
    refine VS_cond rfl (fun c1 => ?_) (fun c1 => ?_) <;> (try simp only [decide_eq_true_eq, decide_eq_false_iff_not, Bool.not_eq_true', Bool.not_eq_false', ne_eq, Decidable.not_not, cond_true, cond_false, Bool.and_eq_true, Bool.or_eq_true, Bool.and_eq_false_iff, Bool.or_eq_false_iff, Bool.not_true, Bool.not_false, reduceCtorEq] at c1)
    · repeat (refine VS_seq ?_)
      refine VS_region_lit ?_
      refine VL_run (d := 21) (run_fieldAddr rfl fo30_1 rfl) rfl rfl ?_
      refine VL_run (d := 22) (run_load_own1 s rfl ty28 rfl (i := 0) rfl rfl) rfl rfl ?_
      refine VL_run (d := 23) (run_move rfl (by conv => lhs; whnf)) rfl rfl ?_
      refine VL_run (d := 24) (run_indexAddr rfl Try.underlying28 ty37 rfl rfl (by omega) (by omega)) rfl rfl ?_
      refine VL_run (d := 25) (run_fieldAddr rfl fo37_0 rfl) rfl rfl ?_
      refine VL_run (d := 26) (run_load_at1 s rfl ty3 rfl (i := 0) rfl rfl) rfl rfl ?_
      refine VL_run (d := 4) (run_assign rfl (by conv => lhs; whnf)) rfl rfl ?_
      refine VL_nil ?_
      refine VS_ret ?_
      repeat (first | refine blockV_ret ?_ | refine backV_ret ?_)
      refine fin_one (fn := Try.f63) rfl (res_tmp (by conv => lhs; whnf)) ?_
      rw [if_pos c1] at hf
      exact ⟨by rw [← hf], s.below⟩
    · repeat (first | refine VS_skip ?_ | refine VS_nil_block ?_)
      refine VS_region_lit ?_
      refine VL_run (d := 11) (run_move rfl (by conv => lhs; whnf)) rfl rfl ?_
      refine VL_run (d := 12) (run_add rfl rfl rfl (by omega)) rfl rfl ?_
      refine VL_run (d := 5) (run_assign rfl (by conv => lhs; whnf)) rfl rfl ?_
      refine VL_nil ?_
      refine VS_back (k + 1) ?_ (by repeat (first | exact Has.nil _ | refine Has.cons rfl ?_)) (by repeat (first | exact Out.mix _ _ _ | refine Out.upd rfl ?_)) ?_
      · rw [if_neg c1] at hf
        exact ⟨s.less (by (repeat (first | exact sub_nil | refine sub_cons (by (repeat (first | exact .head _ | refine .tail _ ?_))) ?_))), by omega, hf⟩
      · omega
  · refine VS_exit ?_
    repeat (first | refine blockV_hit ?_ | refine backV_exit ?_)
    repeat (refine VS_seq ?_)
    refine VS_region_lit ?_
    refine VL_run (d := 4) (run_assign rfl (by conv => lhs; whnf)) rfl rfl ?_
    refine VL_nil ?_
    refine VS_ret ?_
    repeat (first | refine blockV_ret ?_ | refine backV_ret ?_ | refine backV2_ret ?_ | refine backV3_ret ?_ | refine thenV_ret ?_ | refine metV2_ret ?_)
    refine fin_one (fn := Try.f63) rfl (res_tmp (by conv => lhs; whnf)) ?_
    rw [List.drop_of_length_le (by omega)] at hf
    exact ⟨by rw [← hf]; rfl, s.below⟩
def Nd.okAt (n : Nd) (i : Nat) (h : i < n.list.length) : Bool :=
  inI n.list[i].1 1 (n.next - 1) && pathOk n.list[i].2 && (decide (i = 0) || pathLt (n.list[i - 1]'(by omega)).2 n.list[i].2) && (n.list.take i).all (fun y => decide (y.1 ≠ n.list[i].1))
def Nd.okFrom (n : Nd) (i : Nat) : Bool := if h : i < n.list.length then n.okAt i h && n.okFrom (i + 1) else true
termination_by n.list.length - i
def Nd.ok (n : Nd) : Bool := inI n.next 1 10000 && decide (n.list.length ≤ 30) && n.okFrom 0
theorem l33Ok_ok (n : Nd) {ok : Nat → Prop} {w0 : World} {cs : List Value} (h : Rd ok w0 n.toD cs) (hn : NdB n 1000000000) :
    Calls Try.prog 61 #[.agg cs.toArray] w0 (Ret fun v w' => v = .bool n.ok ∧ Below w0.heap.size w0 w') := by
  obtain ⟨A, c, rfl, hl, h3⟩ := Nd.opn h
  have hlen := hn.2.2.1
  have hnx := hn.1
  have hnx2 := hn.2.1
  have s := (St.start ok w0).begin h3
  refine calls_enter (n := 72) Try.func61 rfl rfl rfl ?_
  repeat (refine VS_seq ?_)
  refine VS_region_lit ?_
  refine VL_does (d := 1) (does_box s rfl rfl rfl ?_) rfl rfl
  clear s; intro b1 w s
  refine VL_run (d := 2) (run_assign rfl (by conv => lhs; whnf)) rfl rfl ?_
  refine VL_nil ?_
  repeat (refine VS_seq ?_)
  refine VS_meetB s 15 (!(inI n.next 1 10000) || decide (30 < (n.list.length : Int))) [6, 7, 8, 9, 10, 11, 12, 13, 14, 15] ?_ ?_
  · refine VS_region_lit ?_
    refine VL_run (d := 6) (run_fieldAddr rfl fo30_0 rfl) rfl rfl ?_
    refine VL_run (d := 7) (run_load_own1 s rfl ty3 rfl (i := 0) rfl rfl) rfl rfl ?_
    refine VL_does (d := 8) (does_call3 rfl (by kernel_rfl) rfl rfl rfl (l1In_ok _ _ _) ?_) rfl rfl
    rintro _ w ⟨rfl, hb⟩
    replace s := s.step hb
    clear hb
    refine VL_run (d := 9) (run_not rfl rfl) rfl rfl ?_
    refine VL_run (d := 10) (run_move rfl (by conv => lhs; whnf)) rfl rfl ?_
    refine VL_split 10 (by conv => lhs; whnf) (fun h10 => ?_) (fun h10 => ?_) <;> (try simp only [decide_eq_true_eq, decide_eq_false_iff_not, Bool.not_eq_true', Bool.not_eq_false', ne_eq, Decidable.not_not, cond_true, cond_false, Bool.and_eq_true, Bool.or_eq_true, Bool.and_eq_false_iff, Bool.or_eq_false_iff, Bool.not_true, Bool.not_false, reduceCtorEq] at h10)
    · refine VL_not (d := 11) rfl rfl rfl rfl ?_
      refine VL_not (d := 12) rfl rfl rfl rfl ?_
      refine VL_not (d := 13) rfl rfl rfl rfl ?_
      refine VL_not (d := 14) rfl rfl rfl rfl ?_
      refine VL_run (d := 15) (run_pickT rfl rfl rfl) rfl rfl ?_
      refine VL_nil ?_
      exact VS_endB s (by conv => lhs; whnf) (by (simp_all; done)) (by repeat (first | exact Out.refl _ _ | refine Out.upd rfl ?_))
    · refine VL_run (d := 11) (run_fieldAddr rfl fo30_1 rfl) rfl rfl ?_
      refine VL_run (d := 12) (run_load_own1 s rfl ty28 rfl (i := 0) rfl rfl) rfl rfl ?_
      refine VL_run (d := 13) (run_lenSlice rfl ⟨_, Try.underlying28⟩ rfl) rfl rfl ?_
      refine VL_run (d := 14) (run_gtI rfl rfl rfl) rfl rfl ?_
      refine VL_run (d := 15) (run_pickF rfl rfl rfl) rfl rfl ?_
      refine VL_nil ?_
      exact VS_endB s (by conv => lhs; whnf) (by (simp_all; done)) (by repeat (first | exact Out.refl _ _ | refine Out.upd rfl ?_))
  clear s; intro w j15 s
  refine VS_cond rfl (fun c0 => ?_) (fun c0 => ?_) <;> (try simp only [decide_eq_true_eq, decide_eq_false_iff_not, Bool.not_eq_true', Bool.not_eq_false', ne_eq, Decidable.not_not, cond_true, cond_false, Bool.and_eq_true, Bool.or_eq_true, Bool.and_eq_false_iff, Bool.or_eq_false_iff, Bool.not_true, Bool.not_false, reduceCtorEq] at c0)
  · repeat (refine VS_seq ?_)
    refine VS_region_lit ?_
    refine VL_run (d := 2) (run_assign rfl (by conv => lhs; whnf)) rfl rfl ?_
    refine VL_nil ?_
    refine VS_ret ?_
    repeat (first | refine blockV_ret ?_ | refine backV_ret ?_ | refine backV2_ret ?_ | refine backV3_ret ?_ | refine thenV_ret ?_ | refine metV2_ret ?_)
    refine fin_one (fn := Try.f61) rfl (res_tmp (by conv => lhs; whnf)) ?_
    refine ⟨?_, s.below⟩
    clear s
    unfold Nd.ok
    rcases c0 with h | h
    · simp [h]
    · simp [show ¬ n.list.length ≤ 30 by omega]
  · repeat (first | refine VS_seq ?_ | refine VS_skip ?_)
    refine VS_region_lit ?_
    refine VL_run (d := 3) (run_assign rfl (by conv => lhs; whnf)) rfl rfl ?_
    refine VL_nil ?_
    repeat (refine VS_block ?_)
    refine VS_loop [2, 3, 4, 5, 16, 17, 18, 19, 20, 21, 22, 23, 24, 25, 26, 27, 28, 29, 30, 31, 32, 33, 34, 35, 36, 37, 38, 39, 40, 41, 42, 43, 44, 45, 46, 47, 48, 49, 50, 51, 52, 53, 54, 55, 56, 57, 58, 59, 60, 61, 62, 63, 64, 65, 66, 67, 68, 69, 70, 71] (fun k : Nat => [(3, .int .i64 k)]) (fun k w => St ok w0 [.blk b1 [.int .i64 n.next, .slice A n.list.length c] 30] [.dat [.slice A n.list.length c] (.sl (nodeDs n.list))] w ∧ k ≤ n.list.length ∧ n.ok = n.okFrom k) (fun k => n.list.length - k) 0 ⟨s, by omega, by clear s; unfold Nd.ok; simp [c0.1, show n.list.length ≤ 30 by omega]⟩ (by repeat (first | exact Has.nil _ | refine Has.cons rfl ?_)) ?_
    clear s
    rintro k w j ⟨s, hk, hf⟩
    repeat (refine VS_seq ?_)
    refine VS_region_lit ?_
    refine VL_run (d := 16) (run_move rfl (by conv => lhs; whnf)) rfl rfl ?_
    refine VL_run (d := 17) (run_fieldAddr rfl fo30_1 rfl) rfl rfl ?_
    refine VL_run (d := 18) (run_load_own1 s rfl ty28 rfl (i := 0) rfl rfl) rfl rfl ?_
    refine VL_run (d := 19) (run_lenSlice rfl ⟨_, Try.underlying28⟩ rfl) rfl rfl ?_
    refine VL_run (d := 20) (run_ltI rfl rfl rfl) rfl rfl ?_
    refine VL_nil ?_
    refine VS_cond rfl (fun c1 => ?_) (fun c1 => ?_) <;> (try simp only [decide_eq_true_eq, decide_eq_false_iff_not, Bool.not_eq_true', Bool.not_eq_false', ne_eq, Decidable.not_not, cond_true, cond_false, Bool.and_eq_true, Bool.or_eq_true, Bool.and_eq_false_iff, Bool.or_eq_false_iff, Bool.not_true, Bool.not_false, reduceCtorEq] at c1)
    · repeat (first | refine VS_seq ?_ | refine VS_block ?_ | refine VS_skip ?_)
      have hk' : k < n.list.length := by omega
      have hp := hn.plen hk'
      have hp1 := hn.path hk'
      have hp2 := hn.plen (show k - 1 < n.list.length by omega)
      rw [Nd.okFrom, dif_pos hk'] at hf
      obtain ⟨ad2, A6, c6, rfl, -, s⟩ := s.openN (i := 0) rfl (k - 1) (by omega)
      obtain ⟨ad, A5, c5, e5, -, s⟩ := s.openN (i := 2) rfl k hk'
      obtain rfl := Option.some.inj e5
      refine VS_region_lit ?_
      refine VL_run (d := 23) (run_fieldAddr rfl fo30_1 rfl) rfl rfl ?_
      refine VL_run (d := 24) (run_load_own1 s rfl ty28 rfl (i := 0) rfl rfl) rfl rfl ?_
      refine VL_run (d := 25) (run_move rfl (by conv => lhs; whnf)) rfl rfl ?_
      refine VL_run (d := 26) (run_indexAddr rfl Try.underlying28 ty37 rfl rfl (by omega) (by omega)) rfl rfl ?_
      refine VL_run (d := 27) (run_load_atA s rfl ty37 rfl (i := 0) rfl rfl) rfl rfl ?_
      refine VL_does (d := 4) (does_alloc s rfl ty37 rfl ?_) rfl rfl
      clear s; intro b4 w s
      (refine VL_doesU (does_store s rfl ty37 rfl rfl (i := 0) rfl rfl rfl (by (intro u hu; simp only [List.mem_cons, List.not_mem_nil, or_false] at hu; rcases hu with rfl | rfl | rfl | rfl | rfl <;> rfl)) rfl ?_) rfl rfl rfl)
      clear s; intro w s
      try simp only [List.set_cons_zero, List.set_cons_succ, patch, List.take_succ_cons, List.take_zero, List.drop_succ_cons, List.drop_zero, List.drop_nil, List.nil_append, List.cons_append, List.append_nil, List.length_cons, List.length_nil, Nat.reduceAdd, Nat.zero_add] at s
      refine VL_nil ?_
      repeat (refine VS_seq ?_)
      refine VS_meetB s 57 (!(inI n.list[k].1 1 (n.next - 1) && pathOk n.list[k].2 && (decide (k = 0) || pathLt (n.list[k - 1]'(by omega)).2 n.list[k].2))) [28, 29, 30, 31, 32, 33, 34, 35, 36, 37, 38, 39, 40, 41, 42, 43, 44, 45, 46, 47, 48, 49, 50, 51, 52, 53, 54, 55, 56, 57] ?_ ?_
      · refine VS_drawS 30 s mixed ?_
        clear s; intro s
        refine VA_take 0 (d := 28) rfl (by kernel_rfl) rfl (fun w g => run_fieldAddr rfl fo37_0 rfl) s.see ?_
        refine VA_take 1 (d := 29) rfl (by kernel_rfl) rfl (fun w g => see_own1 g rfl ty3 rfl (i := 0) rfl rfl) s.see ?_
        refine VA_take 2 (d := 30) rfl (by kernel_rfl) rfl (fun w g => run_fieldAddr rfl fo30_0 rfl) s.see ?_
        refine VA_take 3 (d := 31) rfl (by kernel_rfl) rfl (fun w g => see_own1 g rfl ty3 rfl (i := 1) rfl rfl) s.see ?_
        refine VA_take 4 (d := 32) rfl (by kernel_rfl) rfl (fun w g => run_sub rfl rfl rfl (by omega)) s.see ?_
        refine VA_one (i := 5) (by kernel_rfl) ?_
        refine VO_does (d := 33) rfl (does_call3 rfl (by kernel_rfl) rfl rfl rfl (l1In_ok _ _ _) ?_) rfl rfl
        rintro _ w ⟨rfl, hb⟩
        replace s := s.step hb
        clear hb
        refine ⟨fun _ => s.sees (by intro b c t h; exact h) (by intro f h; exact h), ?_⟩
        refine VA_take 6 (d := 34) rfl (by kernel_rfl) rfl (fun w g => run_not rfl rfl) (by exact s.see) ?_
        refine VA_take 7 (d := 35) rfl (by kernel_rfl) rfl (fun w g => run_move rfl (by conv => lhs; whnf)) (by exact s.see) ?_
        refine VA_split 35 (by conv => lhs; whnf) (fun h35 => ?_) (fun h35 => ?_) <;> (try simp only [decide_eq_true_eq, decide_eq_false_iff_not, Bool.not_eq_true', Bool.not_eq_false', ne_eq, Decidable.not_not, cond_true, cond_false, Bool.and_eq_true, Bool.or_eq_true, Bool.and_eq_false_iff, Bool.or_eq_false_iff, Bool.not_true, Bool.not_false, reduceCtorEq] at h35)
        · refine VA_not 8 (d := 36) rfl (by kernel_rfl) rfl (by exact s.see) ?_
          refine VA_not 9 (d := 37) rfl (by kernel_rfl) rfl (by exact s.see) ?_
          refine VA_not 10 (d := 38) rfl (by kernel_rfl) rfl (by exact s.see) ?_
          refine VA_not 11 (d := 39) rfl (by kernel_rfl) rfl (by exact s.see) ?_
          refine VA_take 12 (d := 40) rfl (by kernel_rfl) rfl (fun w g => run_pickT rfl rfl rfl) (by exact s.see) ?_
          refine VA_take 13 (d := 41) rfl (by kernel_rfl) rfl (fun w g => run_move rfl (by conv => lhs; whnf)) (by exact s.see) ?_
          refine VA_not 14 (d := 42) rfl (by kernel_rfl) rfl (by exact s.see) ?_
          refine VA_not 15 (d := 43) rfl (by kernel_rfl) rfl (by exact s.see) ?_
          refine VA_not 16 (d := 44) rfl (by kernel_rfl) rfl (by exact s.see) ?_
          refine VA_not 17 (d := 45) rfl (by kernel_rfl) rfl (by exact s.see) ?_
          refine VA_not 18 (d := 46) rfl (by kernel_rfl) rfl (by exact s.see) ?_
          refine VA_not 19 (d := 47) rfl (by kernel_rfl) rfl (by exact s.see) ?_
          refine VA_not 20 (d := 48) rfl (by kernel_rfl) rfl (by exact s.see) ?_
          refine VA_not 21 (d := 49) rfl (by kernel_rfl) rfl (by exact s.see) ?_
          refine VA_not 22 (d := 50) rfl (by kernel_rfl) rfl (by exact s.see) ?_
          refine VA_not 23 (d := 51) rfl (by kernel_rfl) rfl (by exact s.see) ?_
          refine VA_not 24 (d := 52) rfl (by kernel_rfl) rfl (by exact s.see) ?_
          refine VA_not 25 (d := 53) rfl (by kernel_rfl) rfl (by exact s.see) ?_
          refine VA_not 26 (d := 54) rfl (by kernel_rfl) rfl (by exact s.see) ?_
          refine VA_not 27 (d := 55) rfl (by kernel_rfl) rfl (by exact s.see) ?_
          refine VA_not 28 (d := 56) rfl (by kernel_rfl) rfl (by exact s.see) ?_
          refine VA_take 29 (d := 57) rfl (by kernel_rfl) rfl (fun w g => run_pickT rfl rfl rfl) (by exact s.see) ?_
          refine VA_done (by kernel_rfl) ?_
          exact VS_endB s (by conv => lhs; whnf) (by clear s; grind) (by repeat (first | exact Out.refl _ _ | refine Out.upd rfl ?_))
        · refine VA_take 8 (d := 36) rfl (by kernel_rfl) rfl (fun w g => run_fieldAddr rfl fo37_1 rfl) (by exact s.see) ?_
          refine VA_take 9 (d := 37) rfl (by kernel_rfl) rfl (fun w g => see_own1 g rfl ty23 rfl (i := 0) rfl rfl) (by exact s.see) ?_
          refine VA_one (i := 10) (by kernel_rfl) ?_
          refine VO_does (d := 38) rfl (does_call1 rfl (by kernel_rfl) rfl (l2PathOk_ok _ (s.dat (i := 1) rfl) hp1) ?_) rfl rfl
          rintro _ w ⟨rfl, hb⟩
          replace s := s.step hb
          clear hb
          refine ⟨fun _ => s.sees (by intro b c t h; exact h) (by intro f h; exact h), ?_⟩
          refine VA_take 11 (d := 39) rfl (by kernel_rfl) rfl (fun w g => run_not rfl rfl) (by exact s.see) ?_
          refine VA_take 12 (d := 40) rfl (by kernel_rfl) rfl (fun w g => run_pickF rfl rfl rfl) (by exact s.see) ?_
          refine VA_take 13 (d := 41) rfl (by kernel_rfl) rfl (fun w g => run_move rfl (by conv => lhs; whnf)) (by exact s.see) ?_
          refine VA_split 41 (by conv => lhs; whnf) (fun h41 => ?_) (fun h41 => ?_) <;> (try simp only [decide_eq_true_eq, decide_eq_false_iff_not, Bool.not_eq_true', Bool.not_eq_false', ne_eq, Decidable.not_not, cond_true, cond_false, Bool.and_eq_true, Bool.or_eq_true, Bool.and_eq_false_iff, Bool.or_eq_false_iff, Bool.not_true, Bool.not_false, reduceCtorEq] at h41)
          · refine VA_not 14 (d := 42) rfl (by kernel_rfl) rfl (by exact s.see) ?_
            refine VA_not 15 (d := 43) rfl (by kernel_rfl) rfl (by exact s.see) ?_
            refine VA_not 16 (d := 44) rfl (by kernel_rfl) rfl (by exact s.see) ?_
            refine VA_not 17 (d := 45) rfl (by kernel_rfl) rfl (by exact s.see) ?_
            refine VA_not 18 (d := 46) rfl (by kernel_rfl) rfl (by exact s.see) ?_
            refine VA_not 19 (d := 47) rfl (by kernel_rfl) rfl (by exact s.see) ?_
            refine VA_not 20 (d := 48) rfl (by kernel_rfl) rfl (by exact s.see) ?_
            refine VA_not 21 (d := 49) rfl (by kernel_rfl) rfl (by exact s.see) ?_
            refine VA_not 22 (d := 50) rfl (by kernel_rfl) rfl (by exact s.see) ?_
            refine VA_not 23 (d := 51) rfl (by kernel_rfl) rfl (by exact s.see) ?_
            refine VA_not 24 (d := 52) rfl (by kernel_rfl) rfl (by exact s.see) ?_
            refine VA_not 25 (d := 53) rfl (by kernel_rfl) rfl (by exact s.see) ?_
            refine VA_not 26 (d := 54) rfl (by kernel_rfl) rfl (by exact s.see) ?_
            refine VA_not 27 (d := 55) rfl (by kernel_rfl) rfl (by exact s.see) ?_
            refine VA_not 28 (d := 56) rfl (by kernel_rfl) rfl (by exact s.see) ?_
            refine VA_take 29 (d := 57) rfl (by kernel_rfl) rfl (fun w g => run_pickT rfl rfl rfl) (by exact s.see) ?_
            refine VA_done (by kernel_rfl) ?_
            exact VS_endB s (by conv => lhs; whnf) (by clear s; grind) (by repeat (first | exact Out.refl _ _ | refine Out.upd rfl ?_))
          · refine VA_take 14 (d := 42) rfl (by kernel_rfl) rfl (fun w g => run_move rfl (by conv => lhs; whnf)) (by exact s.see) ?_
            refine VA_take 15 (d := 43) rfl (by kernel_rfl) rfl (fun w g => run_gtI rfl rfl rfl) (by exact s.see) ?_
            refine VA_take 16 (d := 44) rfl (by kernel_rfl) rfl (fun w g => run_move rfl (by conv => lhs; whnf)) (by exact s.see) ?_
            refine VA_split 44 (by conv => lhs; whnf) (fun h44 => ?_) (fun h44 => ?_) <;> (try simp only [decide_eq_true_eq, decide_eq_false_iff_not, Bool.not_eq_true', Bool.not_eq_false', ne_eq, Decidable.not_not, cond_true, cond_false, Bool.and_eq_true, Bool.or_eq_true, Bool.and_eq_false_iff, Bool.or_eq_false_iff, Bool.not_true, Bool.not_false, reduceCtorEq] at h44)
            · refine VA_take 17 (d := 45) rfl (by kernel_rfl) rfl (fun w g => run_fieldAddr rfl fo30_1 rfl) (by exact s.see) ?_
              refine VA_take 18 (d := 46) rfl (by kernel_rfl) rfl (fun w g => see_own1 g rfl ty28 rfl (i := 1) rfl rfl) (by exact s.see) ?_
              refine VA_take 19 (d := 47) rfl (by kernel_rfl) rfl (fun w g => run_move rfl (by conv => lhs; whnf)) (by exact s.see) ?_
              refine VA_take 20 (d := 48) rfl (by kernel_rfl) rfl (fun w g => run_sub rfl rfl rfl (by omega)) (by exact s.see) ?_
              refine VA_take 21 (d := 49) rfl (by kernel_rfl) rfl (fun w g => run_indexAddrN (q := (k - 1)) rfl Try.underlying28 ty37 rfl rfl (by omega) (by omega)) (by exact s.see) ?_
              refine VA_take 22 (d := 50) rfl (by kernel_rfl) rfl (fun w g => run_fieldAddr rfl fo37_1 rfl) (by exact s.see) ?_
              refine VA_take 23 (d := 51) rfl (by kernel_rfl) rfl (fun w g => see_at1 g rfl ty23 rfl (i := 2) rfl rfl) (by exact s.see) ?_
              refine VA_take 24 (d := 52) rfl (by kernel_rfl) rfl (fun w g => run_fieldAddr rfl fo37_1 rfl) (by exact s.see) ?_
              refine VA_take 25 (d := 53) rfl (by kernel_rfl) rfl (fun w g => see_own1 g rfl ty23 rfl (i := 0) rfl rfl) (by exact s.see) ?_
              refine VA_one (i := 26) (by kernel_rfl) ?_
              refine VO_does (d := 54) rfl (does_call2 rfl (by kernel_rfl) rfl rfl (l11Less_ok _ _ (s.dat (i := 3) rfl) (s.dat (i := 1) rfl) (by omega) (by omega)) ?_) rfl rfl
              rintro _ w ⟨rfl, hb⟩
              replace s := s.step hb
              clear hb
              refine ⟨fun _ => s.sees (by intro b c t h; exact h) (by intro f h; exact h), ?_⟩
              refine VA_take 27 (d := 55) rfl (by kernel_rfl) rfl (fun w g => run_not rfl rfl) (by exact s.see) ?_
              refine VA_take 28 (d := 56) rfl (by kernel_rfl) rfl (fun w g => run_pickT rfl rfl rfl) (by exact s.see) ?_
              refine VA_take 29 (d := 57) rfl (by kernel_rfl) rfl (fun w g => run_pickF rfl rfl rfl) (by exact s.see) ?_
              refine VA_done (by kernel_rfl) ?_
              exact VS_endB s (by conv => lhs; whnf) (by clear s; grind) (by repeat (first | exact Out.refl _ _ | refine Out.upd rfl ?_))
            · refine VA_not 17 (d := 45) rfl (by kernel_rfl) rfl (by exact s.see) ?_
              refine VA_not 18 (d := 46) rfl (by kernel_rfl) rfl (by exact s.see) ?_
              refine VA_not 19 (d := 47) rfl (by kernel_rfl) rfl (by exact s.see) ?_
              refine VA_not 20 (d := 48) rfl (by kernel_rfl) rfl (by exact s.see) ?_
              refine VA_not 21 (d := 49) rfl (by kernel_rfl) rfl (by exact s.see) ?_
              refine VA_not 22 (d := 50) rfl (by kernel_rfl) rfl (by exact s.see) ?_
              refine VA_not 23 (d := 51) rfl (by kernel_rfl) rfl (by exact s.see) ?_
              refine VA_not 24 (d := 52) rfl (by kernel_rfl) rfl (by exact s.see) ?_
              refine VA_not 25 (d := 53) rfl (by kernel_rfl) rfl (by exact s.see) ?_
              refine VA_not 26 (d := 54) rfl (by kernel_rfl) rfl (by exact s.see) ?_
              refine VA_not 27 (d := 55) rfl (by kernel_rfl) rfl (by exact s.see) ?_
              refine VA_take 28 (d := 56) rfl (by kernel_rfl) rfl (fun w g => run_pickF rfl rfl rfl) (by exact s.see) ?_
              refine VA_take 29 (d := 57) rfl (by kernel_rfl) rfl (fun w g => run_pickF rfl rfl rfl) (by exact s.see) ?_
              refine VA_done (by kernel_rfl) ?_
              exact VS_endB s (by conv => lhs; whnf) (by clear s; grind) (by repeat (first | exact Out.refl _ _ | refine Out.upd rfl ?_))
      clear s; intro w j57 s
      refine VS_cond rfl (fun c2 => ?_) (fun c2 => ?_) <;> (try simp only [decide_eq_true_eq, decide_eq_false_iff_not, Bool.not_eq_true', Bool.not_eq_false', ne_eq, Decidable.not_not, cond_true, cond_false, Bool.and_eq_true, Bool.or_eq_true, Bool.and_eq_false_iff, Bool.or_eq_false_iff, Bool.not_true, Bool.not_false, reduceCtorEq] at c2)
      · repeat (refine VS_seq ?_)
        refine VS_region_lit ?_
        refine VL_run (d := 2) (run_assign rfl (by conv => lhs; whnf)) rfl rfl ?_
        refine VL_nil ?_
        refine VS_ret ?_
        repeat (first | refine blockV_ret ?_ | refine backV_ret ?_)
        refine fin_one (fn := Try.f61) rfl (res_tmp (by conv => lhs; whnf)) ?_
        refine ⟨?_, s.below⟩
        clear s
        rw [hf, Nd.okAt]
        rcases c2 with (h | h) | ⟨h, h'⟩
        · simp [h]
        · simp [h]
        · simp [h, h']
      · repeat (first | refine VS_seq ?_ | refine VS_skip ?_)
        refine VS_region_lit ?_
        refine VL_run (d := 5) (run_assign rfl (by conv => lhs; whnf)) rfl rfl ?_
        refine VL_nil ?_
        repeat (refine VS_block ?_)
        refine VS_loop [2, 5, 58, 59, 60, 61, 62, 63, 64, 65, 66, 67, 68, 69, 70, 71] (fun i : Nat => [(5, .int .i64 i)]) (fun i w => St ok w0 [.blk b4 [.int .i64 n.list[k].1, .slice A5 n.list[k].2.length c5] 37, .blk b1 [.int .i64 n.next, .slice (some ad2) n.list.length c] 30] [.dat [.slice (some ad2) n.list.length c] (.sl (nodeDs n.list))] w ∧ i ≤ k ∧ (n.list.take i).all (fun y => decide (y.1 ≠ n.list[k].1)) = true) (fun i => k - i) 0 ⟨s.less (by (repeat (first | exact sub_nil | refine sub_cons (by (repeat (first | exact .head _ | refine .tail _ ?_))) ?_))), by omega, by simp⟩ (by repeat (first | exact Has.nil _ | refine Has.cons rfl ?_)) ?_
        clear s
        rintro i w j ⟨s, hi, hall⟩
        repeat (refine VS_seq ?_)
        refine VS_region_lit ?_
        refine VL_run (d := 58) (run_move rfl (by conv => lhs; whnf)) rfl rfl ?_
        refine VL_run (d := 59) (run_move rfl (by conv => lhs; whnf)) rfl rfl ?_
        refine VL_run (d := 60) (run_ltI rfl rfl rfl) rfl rfl ?_
        refine VL_nil ?_
        refine VS_cond rfl (fun c3 => ?_) (fun c3 => ?_) <;> (try simp only [decide_eq_true_eq, decide_eq_false_iff_not, Bool.not_eq_true', Bool.not_eq_false', ne_eq, Decidable.not_not, cond_true, cond_false, Bool.and_eq_true, Bool.or_eq_true, Bool.and_eq_false_iff, Bool.or_eq_false_iff, Bool.not_true, Bool.not_false, reduceCtorEq] at c3)
        · repeat (first | refine VS_seq ?_ | refine VS_block ?_ | refine VS_skip ?_)
          have hi' : i < n.list.length := by omega
          obtain ⟨ad3, A7, c7, e7, -, s⟩ := s.openN (i := 0) rfl i hi'
          obtain rfl := Option.some.inj e7
          refine VS_drawS 9 s mixed ?_
          clear s; intro s
          refine VA_take 0 (d := 63) rfl (by kernel_rfl) rfl (fun w g => run_fieldAddr rfl fo30_1 rfl) s.see ?_
          refine VA_take 1 (d := 64) rfl (by kernel_rfl) rfl (fun w g => see_own1 g rfl ty28 rfl (i := 1) rfl rfl) s.see ?_
          refine VA_take 2 (d := 65) rfl (by kernel_rfl) rfl (fun w g => run_move rfl (by conv => lhs; whnf)) s.see ?_
          refine VA_take 3 (d := 66) rfl (by kernel_rfl) rfl (fun w g => run_indexAddr rfl Try.underlying28 ty37 rfl rfl (by omega) (by omega)) s.see ?_
          refine VA_take 4 (d := 67) rfl (by kernel_rfl) rfl (fun w g => run_fieldAddr rfl fo37_0 rfl) s.see ?_
          refine VA_take 5 (d := 68) rfl (by kernel_rfl) rfl (fun w g => see_at1 g rfl ty3 rfl (i := 0) rfl rfl) s.see ?_
          refine VA_take 6 (d := 69) rfl (by kernel_rfl) rfl (fun w g => run_fieldAddr rfl fo37_0 rfl) s.see ?_
          refine VA_take 7 (d := 70) rfl (by kernel_rfl) rfl (fun w g => see_own1 g rfl ty3 rfl (i := 0) rfl rfl) s.see ?_
          refine VA_take 8 (d := 71) rfl (by kernel_rfl) rfl (fun w g => run_eqI rfl rfl rfl) s.see ?_
          refine VA_done (by kernel_rfl) ?_
          refine VS_cond rfl (fun c4 => ?_) (fun c4 => ?_) <;> (try simp only [decide_eq_true_eq, decide_eq_false_iff_not, Bool.not_eq_true', Bool.not_eq_false', ne_eq, Decidable.not_not, cond_true, cond_false, Bool.and_eq_true, Bool.or_eq_true, Bool.and_eq_false_iff, Bool.or_eq_false_iff, Bool.not_true, Bool.not_false, reduceCtorEq] at c4)
          · repeat (refine VS_seq ?_)
            refine VS_region_lit ?_
            refine VL_run (d := 2) (run_assign rfl (by conv => lhs; whnf)) rfl rfl ?_
            refine VL_nil ?_
            refine VS_ret ?_
            repeat (first | refine blockV_ret ?_ | refine backV_ret ?_)
            refine fin_one (fn := Try.f61) rfl (res_tmp (by conv => lhs; whnf)) ?_
            refine ⟨?_, s.below⟩
            clear s
            have hno : (n.list.take k).all (fun y => decide (y.1 ≠ n.list[k].1)) = false := by
              rw [List.all_eq_false]
              exact ⟨n.list[i], List.mem_take_iff_getElem.2 ⟨i, by omega, rfl⟩, by simp [c4]⟩
            rw [hf, Nd.okAt, hno]
            simp
          · repeat (first | refine VS_skip ?_ | refine VS_nil_block ?_)
            refine VS_region_lit ?_
            refine VL_run (d := 61) (run_move rfl (by conv => lhs; whnf)) rfl rfl ?_
            refine VL_run (d := 62) (run_add rfl rfl rfl (by omega)) rfl rfl ?_
            refine VL_run (d := 5) (run_assign rfl (by conv => lhs; whnf)) rfl rfl ?_
            refine VL_nil ?_
            refine VS_back (i + 1) ?_ (by repeat (first | exact Has.nil _ | refine Has.cons rfl ?_)) (by repeat (first | exact Out.mix _ _ _ | refine Out.upd rfl ?_)) ?_
            · exact ⟨s.less (by (repeat (first | exact sub_nil | refine sub_cons (by (repeat (first | exact .head _ | refine .tail _ ?_))) ?_))), by omega, by rw [List.take_succ_eq_append_getElem hi', List.all_append, hall]; simp [c4]⟩
            · omega
        · refine VS_exit ?_
          repeat (first | refine blockV_hit ?_ | refine backV_exit ?_)
          repeat (refine VS_nil_block ?_)
          refine VS_region_lit ?_
          refine VL_run (d := 21) (run_move rfl (by conv => lhs; whnf)) rfl rfl ?_
          refine VL_run (d := 22) (run_add rfl rfl rfl (by omega)) rfl rfl ?_
          refine VL_run (d := 3) (run_assign rfl (by conv => lhs; whnf)) rfl rfl ?_
          refine VL_nil ?_
          refine VS_back (k + 1) ?_ (by repeat (first | exact Has.nil _ | refine Has.cons rfl ?_)) (by repeat (first | exact Out.mix _ _ _ | refine Out.upd rfl ?_ | refine Out.mix_in rfl ?_)) ?_
          · obtain rfl : i = k := by omega
            refine ⟨(s.drop 0).less (by (repeat (first | exact sub_nil | refine sub_cons (by (repeat (exact .head _))) ?_))), by omega, ?_⟩
            clear s
            have hd : (decide (i = 0) || pathLt (n.list[i - 1]'(by omega)).2 n.list[i].2) = true := by
              rcases c2.2 with h | h
              · simp [h]
              · simp only [h, Bool.or_true]
            rw [hf, Nd.okAt, hall, c2.1.1, c2.1.2, hd]
            rfl
          · omega
    · refine VS_exit ?_
      repeat (first | refine blockV_hit ?_ | refine backV_exit ?_)
      repeat (refine VS_seq ?_)
      refine VS_region_lit ?_
      refine VL_run (d := 2) (run_assign rfl (by conv => lhs; whnf)) rfl rfl ?_
      refine VL_nil ?_
      refine VS_ret ?_
      repeat (first | refine blockV_ret ?_ | refine backV_ret ?_ | refine backV2_ret ?_ | refine backV3_ret ?_ | refine thenV_ret ?_ | refine metV2_ret ?_)
      refine fin_one (fn := Try.f61) rfl (res_tmp (by conv => lhs; whnf)) ?_
      rw [Nd.okFrom, dif_neg (by omega)] at hf
      exact ⟨by rw [hf], s.below⟩
theorem NodesId_ok (n : Nd) (q : List ByteArray) {ok : Nat → Prop} {w0 : World} {cs : List Value} {v2 : Value} (h : Rd ok w0 n.toD cs) (h2 : Rd ok w0 (.sl (strsD q)) [v2]) (hn : NdB n 1000000000) (hq : q.length ≤ 1000000000000) :
    Calls Try.prog 22 #[.agg cs.toArray, v2] w0 (Ret fun v w' => v = .int .i64 (bif n.ok then idOf n.list q else 0) ∧ Below w0.heap.size w0 w') := by
  obtain ⟨A, c, rfl, hl, h3⟩ := Nd.opn h
  have s := ((St.start ok w0).begin h2).begin h
  clear h h3
  refine calls_enter (n := 11) Try.func22 rfl rfl rfl ?_
  repeat (refine VS_seq ?_)
  refine VS_region_lit ?_
  refine VL_does (d := 2) (does_box s rfl rfl rfl ?_) rfl rfl
  clear s; intro b2 w s
  refine VL_run (d := 4) (run_assign rfl (by conv => lhs; whnf)) rfl rfl ?_
  refine VL_nil ?_
  repeat (refine VS_seq ?_)
  refine VS_region_lit ?_
  refine VL_run (d := 5) (run_load_ownA (cs := [_, _]) s rfl ty30 rfl (i := 0) rfl rfl rfl) rfl rfl ?_
  refine VL_does (d := 6) (does_call1 rfl (by kernel_rfl) rfl (l33Ok_ok n (s.dat (i := 0) rfl) hn) ?_) rfl rfl
  rintro _ w ⟨rfl, hb⟩
  replace s := s.step hb
  clear hb
  refine VL_run (d := 7) (run_not rfl rfl) rfl rfl ?_
  refine VL_nil ?_
  refine VS_cond rfl (fun c0 => ?_) (fun c0 => ?_) <;> (try simp only [decide_eq_true_eq, decide_eq_false_iff_not, Bool.not_eq_true', Bool.not_eq_false', ne_eq, Decidable.not_not, cond_true, cond_false, Bool.and_eq_true, Bool.or_eq_true, Bool.and_eq_false_iff, Bool.or_eq_false_iff, Bool.not_true, Bool.not_false, reduceCtorEq] at c0)
  · repeat (refine VS_seq ?_)
    refine VS_region_lit ?_
    refine VL_run (d := 4) (run_assign rfl (by conv => lhs; whnf)) rfl rfl ?_
    refine VL_nil ?_
    refine VS_ret ?_
    repeat (first | refine blockV_ret ?_ | refine backV_ret ?_ | refine backV2_ret ?_ | refine backV3_ret ?_ | refine thenV_ret ?_ | refine metV2_ret ?_)
    refine fin_one (fn := Try.f22) rfl (res_tmp (by conv => lhs; whnf)) ?_
    exact ⟨by rw [c0]; rfl, s.below⟩
  · repeat (first | refine VS_seq ?_ | refine VS_skip ?_)
    refine VS_region_lit ?_
    refine VL_run (d := 8) (run_load_ownA (cs := [_, _]) s rfl ty30 rfl (i := 0) rfl rfl rfl) rfl rfl ?_
    refine VL_run (d := 9) (run_move rfl (by conv => lhs; whnf)) rfl rfl ?_
    refine VL_does (d := 10) (does_call2 rfl (by kernel_rfl) rfl rfl (l33Id_ok n q (s.dat (i := 0) rfl) (s.dat (i := 1) rfl) hn hq) ?_) rfl rfl
    rintro _ w ⟨rfl, hb⟩
    replace s := s.step hb
    clear hb
    refine VL_run (d := 4) (run_assign rfl (by conv => lhs; whnf)) rfl rfl ?_
    refine VL_nil ?_
    refine VS_ret ?_
    repeat (first | refine blockV_ret ?_ | refine backV_ret ?_ | refine backV2_ret ?_ | refine backV3_ret ?_ | refine thenV_ret ?_ | refine metV2_ret ?_)
    refine fin_one (fn := Try.f22) rfl (res_tmp (by conv => lhs; whnf)) ?_
    exact ⟨by rw [c0]; rfl, s.below⟩
def pathAt (n : Nd) (id : Int) (i : Nat) : Option (List ByteArray) := if h : i < n.list.length then (if n.list[i].1 = id then some n.list[i].2 else pathAt n id (i + 1)) else none
termination_by n.list.length - i
def pathOf (n : Nd) (id : Int) : Option (List ByteArray) := bif n.ok then pathAt n id 0 else none
theorem NodesPath_ok (n : Nd) (id : Int) {ok : Nat → Prop} {w0 : World} {cs : List Value} (h : Rd ok w0 n.toD cs) (hn : NdB n 1000000000) :
    Calls Try.prog 18 #[.agg cs.toArray, .int .i64 id] w0 (Ret fun v w' => ∃ u, v = .tuple #[u, .bool (pathOf n id).isSome] ∧ Rd (okR ok w0) w' (.sl (strsD ((pathOf n id).getD []))) [u] ∧ Below w0.heap.size w0 w') := by
  obtain ⟨A, c, rfl, hl, h3⟩ := Nd.opn h
  have hlen := hn.2.2.1
  have s := ((St.start ok w0).begin h3).begin h
  clear h h3
  refine calls_enter (n := 35) Try.func18 rfl rfl rfl ?_
  repeat (refine VS_seq ?_)
  refine VS_region_lit ?_
  refine VL_does (d := 2) (does_box s rfl rfl rfl ?_) rfl rfl
  clear s; intro b2 w s
  refine VL_run (d := 4) (run_assign rfl (by conv => lhs; whnf)) rfl rfl ?_
  refine VL_run (d := 5) (run_assign rfl (by conv => lhs; whnf)) rfl rfl ?_
  refine VL_nil ?_
  repeat (refine VS_seq ?_)
  refine VS_region_lit ?_
  refine VL_run (d := 6) (run_assign rfl (by conv => lhs; whnf)) rfl rfl ?_
  refine VL_nil ?_
  repeat (refine VS_block ?_)
  refine VS_loop [4, 5, 6, 7, 8, 9, 10, 11, 12, 13, 14, 15, 16, 17, 18, 19, 20, 21, 22, 23, 24, 25, 26, 27, 28, 29, 30, 31, 32, 33] (fun k : Nat => [(6, .int .i64 k)]) (fun k w => St ok w0 [.blk b2 [.int .i64 n.next, .slice A n.list.length c] 30] [.dat [.int .i64 n.next, .slice A n.list.length c] n.toD, .dat [.slice A n.list.length c] (.sl (nodeDs n.list))] w ∧ k ≤ n.list.length ∧ (0 < k → n.ok = true) ∧ (n.ok = true → pathAt n id 0 = pathAt n id k)) (fun k => n.list.length - k) 0 ⟨s, by omega, fun h => absurd h (by omega), fun _ => rfl⟩ (by repeat (first | exact Has.nil _ | refine Has.cons rfl ?_)) ?_
  clear s
  rintro k w j ⟨s, hk, hok, hf⟩
  repeat (refine VS_seq ?_)
  refine VS_meetB s 15 (decide (k < n.list.length) && n.ok) [7, 8, 9, 10, 11, 12, 13, 14, 15] ?_ ?_
  · refine VS_region_lit ?_
    refine VL_run (d := 7) (run_move rfl (by conv => lhs; whnf)) rfl rfl ?_
    refine VL_run (d := 8) (run_fieldAddr rfl fo30_1 rfl) rfl rfl ?_
    refine VL_run (d := 9) (run_load_own1 s rfl ty28 rfl (i := 0) rfl rfl) rfl rfl ?_
    refine VL_run (d := 10) (run_lenSlice rfl ⟨_, Try.underlying28⟩ rfl) rfl rfl ?_
    refine VL_run (d := 11) (run_ltI rfl rfl rfl) rfl rfl ?_
    refine VL_run (d := 12) (run_move rfl (by conv => lhs; whnf)) rfl rfl ?_
    refine VL_split 12 (by conv => lhs; whnf) (fun h12 => ?_) (fun h12 => ?_) <;> (try simp only [decide_eq_true_eq, decide_eq_false_iff_not, Bool.not_eq_true', Bool.not_eq_false', ne_eq, Decidable.not_not, cond_true, cond_false, Bool.and_eq_true, Bool.or_eq_true, Bool.and_eq_false_iff, Bool.or_eq_false_iff, Bool.not_true, Bool.not_false, reduceCtorEq] at h12)
    · refine VL_run (d := 13) (run_load_ownA (cs := [_, _]) s rfl ty30 rfl (i := 0) rfl rfl rfl) rfl rfl ?_
      refine VL_does (d := 14) (does_call1 rfl (by kernel_rfl) rfl (l33Ok_ok n (s.dat (i := 0) rfl) hn) ?_) rfl rfl
      rintro _ w ⟨rfl, hb⟩
      replace s := s.step hb
      clear hb
      refine VL_run (d := 15) (run_pickT rfl rfl rfl) rfl rfl ?_
      refine VL_nil ?_
      exact VS_endB s (by conv => lhs; whnf) (by (simp_all; done)) (by repeat (first | exact Out.refl _ _ | refine Out.upd rfl ?_))
    · refine VL_not (d := 13) rfl rfl rfl rfl ?_
      refine VL_not (d := 14) rfl rfl rfl rfl ?_
      refine VL_run (d := 15) (run_pickF rfl rfl rfl) rfl rfl ?_
      refine VL_nil ?_
      exact VS_endB s (by conv => lhs; whnf) (by (simp_all; omega)) (by repeat (first | exact Out.refl _ _ | refine Out.upd rfl ?_))
  clear s; intro w j15 s
  refine VS_cond rfl (fun c0 => ?_) (fun c0 => ?_) <;> (try simp only [decide_eq_true_eq, decide_eq_false_iff_not, Bool.not_eq_true', Bool.not_eq_false', ne_eq, Decidable.not_not, cond_true, cond_false, Bool.and_eq_true, Bool.or_eq_true, Bool.and_eq_false_iff, Bool.or_eq_false_iff, Bool.not_true, Bool.not_false, reduceCtorEq] at c0)
  · have hk' : k < n.list.length := c0.1
    have hp := hn.plen hk'
    have hf2 := hf c0.2
    rw [pathAt.eq_def n id k, dif_pos hk'] at hf2
    obtain ⟨ad, A5, c5, rfl, -, s⟩ := s.openN (i := 1) rfl k hk'
    repeat (first | refine VS_seq ?_ | refine VS_block ?_ | refine VS_skip ?_)
    refine VS_region_lit ?_
    refine VL_run (d := 18) (run_fieldAddr rfl fo30_1 rfl) rfl rfl ?_
    refine VL_run (d := 19) (run_load_own1 s rfl ty28 rfl (i := 0) rfl rfl) rfl rfl ?_
    refine VL_run (d := 20) (run_move rfl (by conv => lhs; whnf)) rfl rfl ?_
    refine VL_run (d := 21) (run_indexAddr rfl Try.underlying28 ty37 rfl rfl (by omega) (by omega)) rfl rfl ?_
    refine VL_run (d := 22) (run_fieldAddr rfl fo37_0 rfl) rfl rfl ?_
    refine VL_run (d := 23) (run_load_at1 s rfl ty3 rfl (i := 0) rfl rfl) rfl rfl ?_
    refine VL_run (d := 24) (run_move rfl (by conv => lhs; whnf)) rfl rfl ?_
    refine VL_run (d := 25) (run_eqI rfl rfl rfl) rfl rfl ?_
    refine VL_nil ?_
    refine VS_cond rfl (fun c1 => ?_) (fun c1 => ?_) <;> (try simp only [decide_eq_true_eq, decide_eq_false_iff_not, Bool.not_eq_true', Bool.not_eq_false', ne_eq, Decidable.not_not, cond_true, cond_false, Bool.and_eq_true, Bool.or_eq_true, Bool.and_eq_false_iff, Bool.or_eq_false_iff, Bool.not_true, Bool.not_false, reduceCtorEq] at c1)
    · repeat (refine VS_seq ?_)
      refine VS_region_lit ?_
      refine VL_does (d := 26) (does_slice0 s rfl Try.underlying23 ty9 ?_) rfl rfl
      clear s; intro g26 w s
      refine VL_run (d := 27) (run_fieldAddr rfl fo30_1 rfl) rfl rfl ?_
      refine VL_run (d := 28) (run_load_own1 s rfl ty28 rfl (i := 1) rfl rfl) rfl rfl ?_
      refine VL_run (d := 29) (run_move rfl (by conv => lhs; whnf)) rfl rfl ?_
      refine VL_run (d := 30) (run_indexAddr rfl Try.underlying28 ty37 rfl rfl (by omega) (by omega)) rfl rfl ?_
      refine VL_run (d := 31) (run_fieldAddr rfl fo37_1 rfl) rfl rfl ?_
      refine VL_run (d := 32) (run_load_at1 s rfl ty23 rfl (i := 0) rfl rfl) rfl rfl ?_
      (refine VL_does (d := 33) (does_appendD s rfl Try.underlying23 ty9 (by decide) (by decide) (i := 0) rfl rfl rfl (s.dat (i := 1) rfl) (strsD_wd _) (by simp <;> omega) (by (simp only [List.nil_append]; exact rfl)) (show _ = n.list[k].2.length by simp) ?_) rfl rfl)
      clear s; intro A33 c33 w s
      try simp only [List.set_cons_zero, List.set_cons_succ, patch, List.take_succ_cons, List.take_zero, List.drop_succ_cons, List.drop_zero, List.drop_nil, List.nil_append, List.cons_append, List.append_nil, List.length_cons, List.length_nil, Nat.reduceAdd, Nat.zero_add] at s
      refine VL_run (d := 4) (run_assign rfl (by conv => lhs; whnf)) rfl rfl ?_
      refine VL_run (d := 5) (run_assign rfl (by conv => lhs; whnf)) rfl rfl ?_
      refine VL_nil ?_
      refine VS_ret ?_
      repeat (first | refine blockV_ret ?_ | refine backV_ret ?_)
      refine fin_two (fn := Try.f18) rfl (res_tmp (by conv => lhs; whnf)) (res_tmp (by conv => lhs; whnf)) ?_
      rw [if_pos c1] at hf2
      have s := s.freeze (k := 0) rfl
      rw [show pathOf n id = some n.list[k].2 by rw [pathOf, c0.2, ← hf2]; rfl]
      exact ⟨_, rfl, s.tell (s.dat (i := 0) rfl), s.below⟩
    · repeat (first | refine VS_skip ?_ | refine VS_nil_block ?_)
      refine VS_region_lit ?_
      refine VL_run (d := 16) (run_move rfl (by conv => lhs; whnf)) rfl rfl ?_
      refine VL_run (d := 17) (run_add rfl rfl rfl (by omega)) rfl rfl ?_
      refine VL_run (d := 6) (run_assign rfl (by conv => lhs; whnf)) rfl rfl ?_
      refine VL_nil ?_
      refine VS_back (k + 1) ?_ (by repeat (first | exact Has.nil _ | refine Has.cons rfl ?_)) (by repeat (first | exact Out.mix _ _ _ | refine Out.upd rfl ?_ | refine Out.mix_in rfl ?_)) ?_
      · rw [if_neg c1] at hf2
        exact ⟨s.less (by (repeat (first | exact sub_nil | refine sub_cons (by (repeat (first | exact .head _ | refine .tail _ ?_))) ?_))), by omega, fun _ => c0.2, fun _ => hf2⟩
      · omega
  · refine VS_exit ?_
    repeat (first | refine blockV_hit ?_ | refine backV_exit ?_)
    repeat (refine VS_seq ?_)
    refine VS_region_lit ?_
    refine VL_does (d := 34) (does_slice0 s rfl Try.underlying23 ty9 ?_) rfl rfl
    clear s; intro g34 w s
    refine VL_run (d := 4) (run_assign rfl (by conv => lhs; whnf)) rfl rfl ?_
    refine VL_run (d := 5) (run_assign rfl (by conv => lhs; whnf)) rfl rfl ?_
    refine VL_nil ?_
    refine VS_ret ?_
    repeat (first | refine blockV_ret ?_ | refine backV_ret ?_ | refine backV2_ret ?_ | refine backV3_ret ?_ | refine thenV_ret ?_ | refine metV2_ret ?_)
    refine fin_two (fn := Try.f18) rfl (res_tmp (by conv => lhs; whnf)) (res_tmp (by conv => lhs; whnf)) ?_
    have s := s.freeze (k := 0) rfl
    have hno : pathOf n id = none := by
      clear s
      rw [pathOf]
      cases hx : n.ok with
      | false => rfl
      | true =>
        have : ¬ k < n.list.length := by rcases c0 with h | h; exact h; rw [hx] at h; cases h
        rw [cond_true, hf hx, pathAt, dif_neg this]
    rw [hno]
    exact ⟨_, rfl, s.tell (s.dat (i := 0) rfl), s.below⟩
end Go.Proofs.Ytkefaelmamgjiaa
