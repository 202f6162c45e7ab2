/- spec: l1Parts, l1Count, TreeOk, l2Within, l11Same, l11Less, l2PathOk, l3Path. -/
import Derived.Test.YtkefaelmamgjiaaS1
set_option linter.unusedVariables false
set_option linter.unusedSimpArgs false
set_option maxHeartbeats 1000000
namespace Go.Proofs.Ytkefaelmamgjiaa
open Go.RowKit

mutual
def Tr.partsOk : Tr → Nat → Bool
  | .mk d m s ns ks, dep => (Tr.mk d m s ns ks).plainOk && decide (dep ≤ 4) && Tr.partsOks ks (dep + 1)
def Tr.partsOks : List Tr → Nat → Bool
  | [], _ => true
  | t :: ts, dep => t.partsOk dep && Tr.partsOks ts dep
end
theorem Tr.partsOk_eq (t : Tr) (dep : Nat) : t.partsOk dep = (t.plainOk && decide (dep ≤ 4) && Tr.partsOks t.kids (dep + 1)) := by cases t; simp only [Tr.partsOk, Tr.kids]
theorem partsOks_drop {ts : List Tr} {k : Nat} (h : k < ts.length) (dep : Nat) : Tr.partsOks (ts.drop k) dep = (ts[k].partsOk dep && Tr.partsOks (ts.drop (k + 1)) dep) := by
  rw [List.drop_eq_getElem_cons h, Tr.partsOks]
theorem l1Parts_ok (t : Tr) : ∀ {ok : Nat → Prop} {w0 : World} {cs : List Value} (dep : Nat) (hdep : dep ≤ 1000000) (h : Rd ok w0 t.toD cs) (ht : t.Fit),
    Calls Try.prog 52 #[.agg cs.toArray, .int .i64 dep] w0 (Ret fun v w' => v = .bool (t.partsOk dep) ∧ Below w0.heap.size w0 w') := by
  induction t using Tr.ind with
  | h t ih =>
  intro ok w0 cs dep hdep h ht
  obtain ⟨A3, c3, A4, c4, rfl, hl3, hl4, h3, h4⟩ := Tr.opn h
  have f1 := ht.names
  have f2 := ht.kids
  clear h
  have s := ((St.start ok w0).begin h4).begin h3
  refine calls_enter (n := 29) Try.func52 rfl rfl rfl ?_
  repeat (refine VS_seq ?_)
  refine VS_region_lit ?_
  refine VL_does (d := 2) (does_box s rfl rfl rfl ?_) rfl rfl
  clear s; intro b2 w s
  refine VL_run (d := 4) (run_assign rfl (by conv => lhs; whnf)) rfl rfl ?_
  refine VL_nil ?_
  repeat (refine VS_seq ?_)
  refine VS_meetB s 12 (!(t.plainOk && decide (dep ≤ 4))) [6, 7, 8, 9, 10, 11, 12] ?_ ?_
  · refine VS_region_lit ?_
    refine VL_run (d := 6) (run_load_ownA (cs := [_, _, _, _, _]) s rfl ty26 rfl (i := 0) rfl rfl rfl) rfl rfl ?_
    refine VL_does (d := 7) (does_call1 rfl (by kernel_rfl) rfl (l1Plain_ok t (Tr.shut' (s.dat (i := 0) rfl) (s.dat (i := 1) rfl)) ht) ?_) rfl rfl
    rintro _ w ⟨rfl, hb⟩
    replace s := s.step hb
    clear hb
    refine VL_run (d := 8) (run_not rfl rfl) rfl rfl ?_
    refine VL_run (d := 9) (run_move rfl (by conv => lhs; whnf)) rfl rfl ?_
    refine VL_split 9 (by conv => lhs; whnf) (fun h9 => ?_) (fun h9 => ?_) <;> (try simp only [decide_eq_true_eq, decide_eq_false_iff_not, Bool.not_eq_true', Bool.not_eq_false', ne_eq, Decidable.not_not, cond_true, cond_false, Bool.and_eq_true, Bool.or_eq_true, Bool.and_eq_false_iff, Bool.or_eq_false_iff, Bool.not_true, Bool.not_false, reduceCtorEq] at h9)
    · refine VL_not (d := 10) rfl rfl rfl rfl ?_
      refine VL_not (d := 11) rfl rfl rfl rfl ?_
      refine VL_run (d := 12) (run_pickT rfl rfl rfl) rfl rfl ?_
      refine VL_nil ?_
      exact VS_endB s (by conv => lhs; whnf) (by (simp_all; done)) (by repeat (first | exact Out.refl _ _ | refine Out.upd rfl ?_))
    · refine VL_run (d := 10) (run_move rfl (by conv => lhs; whnf)) rfl rfl ?_
      refine VL_run (d := 11) (run_gtI rfl rfl rfl) rfl rfl ?_
      refine VL_run (d := 12) (run_pickF rfl rfl rfl) rfl rfl ?_
      refine VL_nil ?_
      exact VS_endB s (by conv => lhs; whnf) (by (clear s; grind)) (by repeat (first | exact Out.refl _ _ | refine Out.upd rfl ?_))
  clear s; intro w j12 s
  refine VS_cond rfl (fun c0 => ?_) (fun c0 => ?_) <;> (try simp only [decide_eq_true_eq, decide_eq_false_iff_not, Bool.not_eq_true', Bool.not_eq_false', ne_eq, Decidable.not_not, cond_true, cond_false, Bool.and_eq_true, Bool.or_eq_true, Bool.and_eq_false_iff, Bool.or_eq_false_iff, Bool.not_true, Bool.not_false, reduceCtorEq] at c0)
  · repeat (refine VS_seq ?_)
    refine VS_region_lit ?_
    refine VL_run (d := 4) (run_assign rfl (by conv => lhs; whnf)) rfl rfl ?_
    refine VL_nil ?_
    refine VS_ret ?_
    repeat (first | refine blockV_ret ?_ | refine backV_ret ?_ | refine backV2_ret ?_ | refine backV3_ret ?_ | refine thenV_ret ?_ | refine metV2_ret ?_)
    refine fin_one (fn := Try.f52) rfl (res_tmp (by conv => lhs; whnf)) ?_
    exact ⟨by clear s; rw [Tr.partsOk_eq]; grind, s.below⟩
  · repeat (first | refine VS_seq ?_ | refine VS_skip ?_)
    refine VS_region_lit ?_
    refine VL_run (d := 5) (run_assign rfl (by conv => lhs; whnf)) rfl rfl ?_
    refine VL_nil ?_
    repeat (refine VS_block ?_)
    refine VS_loop [4, 5, 13, 14, 15, 16, 17, 18, 19, 20, 21, 22, 23, 24, 25, 26, 27, 28] (fun k : Nat => [(5, .int .i64 k)]) (fun k w => St ok w0 [.blk b2 _ _] [.dat [.slice A3 t.names.length c3] (.sl (strsD t.names)), .dat [.slice A4 t.kids.length c4] (.sl (Tr.toDs t.kids))] w ∧ k ≤ t.kids.length ∧ Tr.partsOks t.kids (dep + 1) = Tr.partsOks (t.kids.drop k) (dep + 1)) (fun k => t.kids.length - k) 0 ⟨s, by omega, rfl⟩ (by repeat (first | exact Has.nil _ | refine Has.cons rfl ?_)) ?_
    clear s
    rintro k w j ⟨s, hk, hf⟩
    repeat (refine VS_seq ?_)
    refine VS_region_lit ?_
    refine VL_run (d := 13) (run_move rfl (by conv => lhs; whnf)) rfl rfl ?_
    refine VL_run (d := 14) (run_fieldAddr rfl fo26_4 rfl) rfl rfl ?_
    refine VL_run (d := 15) (run_load_own1 s rfl ty24 rfl (i := 0) rfl rfl) rfl rfl ?_
    refine VL_run (d := 16) (run_lenSlice rfl ⟨_, Try.underlying24⟩ rfl) rfl rfl ?_
    refine VL_run (d := 17) (run_ltI rfl rfl rfl) rfl rfl ?_
    refine VL_nil ?_
    refine VS_cond rfl (fun c1 => ?_) (fun c1 => ?_) <;> (try simp only [decide_eq_true_eq, decide_eq_false_iff_not, Bool.not_eq_true', Bool.not_eq_false', ne_eq, Decidable.not_not, cond_true, cond_false, Bool.and_eq_true, Bool.or_eq_true, Bool.and_eq_false_iff, Bool.or_eq_false_iff, Bool.not_true, Bool.not_false, reduceCtorEq] at c1)
    · repeat (first | refine VS_seq ?_ | refine VS_block ?_ | refine VS_skip ?_)
      have hk' : k < t.kids.length := by omega
      obtain ⟨ad, A5, c5, A6, c6, rfl, hl5, hl6, s⟩ := s.openT (i := 1) rfl k hk'
      refine VS_region_lit ?_
      refine VL_run (d := 20) (run_fieldAddr rfl fo26_4 rfl) rfl rfl ?_
      refine VL_run (d := 21) (run_load_own1 s rfl ty24 rfl (i := 0) rfl rfl) rfl rfl ?_
      refine VL_run (d := 22) (run_move rfl (by conv => lhs; whnf)) rfl rfl ?_
      refine VL_run (d := 23) (run_indexAddr rfl Try.underlying24 ty26 rfl rfl (by omega) (by omega)) rfl rfl ?_
      refine VL_run (d := 24) (run_load_atA s rfl ty26 rfl (i := 0) rfl rfl) rfl rfl ?_
      refine VL_run (d := 25) (run_move rfl (by conv => lhs; whnf)) rfl rfl ?_
      refine VL_run (d := 26) (run_add rfl rfl rfl (by omega)) rfl rfl ?_
      refine VL_does (d := 27) (does_call2 rfl (by kernel_rfl) rfl rfl (ih _ (List.getElem_mem hk') (dep + 1) (by grind) (s.dat (i := 1) rfl) (ht.kid _ (List.getElem_mem hk'))) ?_) rfl rfl
      rintro _ w ⟨rfl, hb⟩
      replace s := s.step hb
      clear hb
      refine VL_run (d := 28) (run_not rfl rfl) rfl rfl ?_
      refine VL_nil ?_
      refine VS_cond rfl (fun c2 => ?_) (fun c2 => ?_) <;> (try simp only [decide_eq_true_eq, decide_eq_false_iff_not, Bool.not_eq_true', Bool.not_eq_false', ne_eq, Decidable.not_not, cond_true, cond_false, Bool.and_eq_true, Bool.or_eq_true, Bool.and_eq_false_iff, Bool.or_eq_false_iff, Bool.not_true, Bool.not_false, reduceCtorEq] at c2)
      · repeat (refine VS_seq ?_)
        refine VS_region_lit ?_
        refine VL_run (d := 4) (run_assign rfl (by conv => lhs; whnf)) rfl rfl ?_
        refine VL_nil ?_
        refine VS_ret ?_
        repeat (first | refine blockV_ret ?_ | refine backV_ret ?_)
        refine fin_one (fn := Try.f52) rfl (res_tmp (by conv => lhs; whnf)) ?_
        exact ⟨by clear s; rw [Tr.partsOk_eq, hf, partsOks_drop hk']; grind, s.below⟩
      · repeat (first | refine VS_skip ?_ | refine VS_nil_block ?_)
        refine VS_region_lit ?_
        refine VL_run (d := 18) (run_move rfl (by conv => lhs; whnf)) rfl rfl ?_
        refine VL_run (d := 19) (run_add rfl rfl rfl (by omega)) rfl rfl ?_
        refine VL_run (d := 5) (run_assign rfl (by conv => lhs; whnf)) rfl rfl ?_
        refine VL_nil ?_
        refine VS_back (k + 1) ?_ (by repeat (first | exact Has.nil _ | refine Has.cons rfl ?_)) (by repeat (first | exact Out.mix _ _ _ | refine Out.upd rfl ?_)) ?_
        · refine ⟨s.less (by simp), by omega, ?_⟩
          clear s
          rw [hf, partsOks_drop hk']
          grind
        · omega
    · refine VS_exit ?_
      repeat (first | refine blockV_hit ?_ | refine backV_exit ?_)
      repeat (refine VS_seq ?_)
      refine VS_region_lit ?_
      refine VL_run (d := 4) (run_assign rfl (by conv => lhs; whnf)) rfl rfl ?_
      refine VL_nil ?_
      refine VS_ret ?_
      repeat (first | refine blockV_ret ?_ | refine backV_ret ?_ | refine backV2_ret ?_ | refine backV3_ret ?_ | refine thenV_ret ?_ | refine metV2_ret ?_)
      refine fin_one (fn := Try.f52) rfl (res_tmp (by conv => lhs; whnf)) ?_
      refine ⟨?_, s.below⟩
      clear s
      rw [Tr.partsOk_eq, hf, List.drop_of_length_le (by omega), Tr.partsOks]
      grind
mutual
/-- How many parts there are below. -/
def Tr.count : Tr → Nat
  | .mk _ _ _ _ ks => ks.length + Tr.counts ks
def Tr.counts : List Tr → Nat
  | [] => 0
  | t :: ts => t.count + Tr.counts ts
end
theorem Tr.count_eq (t : Tr) : t.count = t.kids.length + Tr.counts t.kids := by cases t; simp only [Tr.count, Tr.kids]
mutual
theorem Tr.count_wt : ∀ t : Tr, t.count + 1 ≤ t.wt
  | .mk d m s ns ks => by have := Tr.counts_wt ks; simp only [Tr.count, Tr.wt]; omega
theorem Tr.counts_wt : ∀ ts : List Tr, Tr.counts ts + ts.length ≤ Tr.wts ts
  | [] => by simp [Tr.counts, Tr.wts]
  | t :: ts => by have := Tr.count_wt t; have := Tr.counts_wt ts; simp only [Tr.counts, Tr.wts, List.length_cons]; omega
end
theorem counts_drop {ts : List Tr} {k : Nat} (h : k < ts.length) : Tr.counts (ts.drop k) = ts[k].count + Tr.counts (ts.drop (k + 1)) := by
  rw [List.drop_eq_getElem_cons h, Tr.counts]
theorem l1Count_ok (t : Tr) : ∀ {ok : Nat → Prop} {w0 : World} {cs : List Value} (h : Rd ok w0 t.toD cs) (ht : t.Fit),
    Calls Try.prog 53 #[.agg cs.toArray] w0 (Ret fun v w' => v = .int .i64 t.count ∧ Below w0.heap.size w0 w') := by
  induction t using Tr.ind with
  | h t ih =>
  intro ok w0 cs h ht
  obtain ⟨A3, c3, A4, c4, rfl, hl3, hl4, h3, h4⟩ := Tr.opn h
  have f1 := ht.names
  have f2 := ht.kids
  have f5 := t.count_wt
  unfold Tr.Fit at ht
  clear h
  have s := ((St.start ok w0).begin h4).begin h3
  refine calls_enter (n := 24) Try.func53 rfl rfl rfl ?_
  repeat (refine VS_seq ?_)
  refine VS_region_lit ?_
  refine VL_does (d := 1) (does_box s rfl rfl rfl ?_) rfl rfl
  clear s; intro b1 w s
  refine VL_run (d := 2) (run_assign rfl (by conv => lhs; whnf)) rfl rfl ?_
  refine VL_nil ?_
  repeat (refine VS_seq ?_)
  refine VS_region_lit ?_
  refine VL_run (d := 5) (run_fieldAddr rfl fo26_4 rfl) rfl rfl ?_
  refine VL_run (d := 6) (run_load_own1 s rfl ty24 rfl (i := 0) rfl rfl) rfl rfl ?_
  refine VL_run (d := 7) (run_lenSlice rfl ⟨_, Try.underlying24⟩ rfl) rfl rfl ?_
  refine VL_run (d := 3) (run_assign rfl (by conv => lhs; whnf)) rfl rfl ?_
  refine VL_nil ?_
  repeat (refine VS_seq ?_)
  refine VS_region_lit ?_
  refine VL_run (d := 4) (run_assign rfl (by conv => lhs; whnf)) rfl rfl ?_
  refine VL_nil ?_
  repeat (refine VS_block ?_)
  refine VS_loop2 [3, 4, 8, 9, 10, 11, 12, 13, 14, 15, 16, 17, 18, 19, 20, 21, 22] (fun k n : Nat => [(4, .int .i64 k), (3, .int .i64 n)]) (fun k n w => St ok w0 [.blk b1 _ _] [.dat [.slice A3 t.names.length c3] (.sl (strsD t.names)), .dat [.slice A4 t.kids.length c4] (.sl (Tr.toDs t.kids))] w ∧ k ≤ t.kids.length ∧ n + Tr.counts (t.kids.drop k) = t.count) (fun k _ => t.kids.length - k) 0 t.kids.length ⟨s, Nat.zero_le _, t.count_eq.symm⟩ (by repeat (first | exact Has.nil _ | refine Has.cons rfl ?_)) ?_
  clear s
  rintro k n w j ⟨s, hk, hf⟩
  repeat (refine VS_seq ?_)
  refine VS_region_lit ?_
  refine VL_run (d := 8) (run_move rfl (by conv => lhs; whnf)) rfl rfl ?_
  refine VL_run (d := 9) (run_fieldAddr rfl fo26_4 rfl) rfl rfl ?_
  refine VL_run (d := 10) (run_load_own1 s rfl ty24 rfl (i := 0) rfl rfl) rfl rfl ?_
  refine VL_run (d := 11) (run_lenSlice rfl ⟨_, Try.underlying24⟩ rfl) rfl rfl ?_
  refine VL_run (d := 12) (run_ltI rfl rfl rfl) rfl rfl ?_
  refine VL_nil ?_
  refine VS_cond rfl (fun c0 => ?_) (fun c0 => ?_) <;> (try simp only [decide_eq_true_eq, decide_eq_false_iff_not, Bool.not_eq_true', Bool.not_eq_false', ne_eq, Decidable.not_not, cond_true, cond_false, Bool.and_eq_true, Bool.or_eq_true, Bool.and_eq_false_iff, Bool.or_eq_false_iff, Bool.not_true, Bool.not_false, reduceCtorEq] at c0)
  · repeat (first | refine VS_seq ?_ | refine VS_block ?_ | refine VS_skip ?_)
    have hk' : k < t.kids.length := by omega
    have hd := counts_drop hk'
    obtain ⟨ad, A5, c5, A6, c6, rfl, hl5, hl6, s⟩ := s.openT (i := 1) rfl k hk'
    refine VS_region_lit ?_
    refine VL_run (d := 15) (run_move rfl (by conv => lhs; whnf)) rfl rfl ?_
    refine VL_run (d := 16) (run_fieldAddr rfl fo26_4 rfl) rfl rfl ?_
    refine VL_run (d := 17) (run_load_own1 s rfl ty24 rfl (i := 0) rfl rfl) rfl rfl ?_
    refine VL_run (d := 18) (run_move rfl (by conv => lhs; whnf)) rfl rfl ?_
    refine VL_run (d := 19) (run_indexAddr rfl Try.underlying24 ty26 rfl rfl (by omega) (by omega)) rfl rfl ?_
    refine VL_run (d := 20) (run_load_atA s rfl ty26 rfl (i := 0) rfl rfl) rfl rfl ?_
    refine VL_does (d := 21) (does_call1 rfl (by kernel_rfl) rfl (ih _ (List.getElem_mem hk') (s.dat (i := 1) rfl) (Tr.Fit.kid (show t.Fit from ht) _ (List.getElem_mem hk'))) ?_) rfl rfl
    rintro _ w ⟨rfl, hb⟩
    replace s := s.step hb
    clear hb
    refine VL_run (d := 22) (run_add rfl rfl rfl (by omega)) rfl rfl ?_
    refine VL_run (d := 3) (run_assign rfl (by conv => lhs; whnf)) rfl rfl ?_
    refine VL_nil ?_
    repeat (refine VS_nil_block ?_)
    refine VS_region_lit ?_
    refine VL_run (d := 13) (run_move rfl (by conv => lhs; whnf)) rfl rfl ?_
    refine VL_run (d := 14) (run_add rfl rfl rfl (by omega)) rfl rfl ?_
    refine VL_run (d := 4) (run_assign rfl (by conv => lhs; whnf)) rfl rfl ?_
    refine VL_nil ?_
    refine VS_back2 (k + 1) (n + t.kids[k].count) ?_ (by repeat (first | exact Has.nil _ | refine Has.cons rfl ?_)) (by repeat (first | exact Out.mix _ _ _ | refine Out.upd rfl ?_)) ?_
    · exact ⟨s.less (by simp), by omega, by omega⟩
    · omega
  · refine VS_exit ?_
    repeat (first | refine blockV_hit ?_ | refine backV_exit ?_)
    repeat (refine VS_seq ?_)
    refine VS_region_lit ?_
    refine VL_run (d := 23) (run_move rfl (by conv => lhs; whnf)) rfl rfl ?_
    refine VL_run (d := 2) (run_assign rfl (by conv => lhs; whnf)) rfl rfl ?_
    refine VL_nil ?_
    refine VS_ret ?_
    repeat (first | refine blockV_ret ?_ | refine backV_ret ?_ | refine backV2_ret ?_ | refine backV3_ret ?_ | refine thenV_ret ?_ | refine metV2_ret ?_)
    refine fin_one (fn := Try.f53) rfl (res_tmp (by conv => lhs; whnf)) ?_
    refine ⟨?_, s.below⟩
    rw [List.drop_of_length_le (by omega)] at hf
    simp only [Tr.counts] at hf
    rw [← hf]
    rfl
def Tr.ok (t : Tr) : Bool := t.dir && t.partsOk 0 && decide (t.count ≤ 30)
theorem TreeOk_ok (t : Tr) {ok : Nat → Prop} {w0 : World} {cs : List Value} (h : Rd ok w0 t.toD cs) (ht : t.Fit) :
    Calls Try.prog 13 #[.agg cs.toArray] w0 (Ret fun v w' => v = .bool t.ok ∧ Below w0.heap.size w0 w') := by
  obtain ⟨A3, c3, A4, c4, rfl, hl3, hl4, h3, h4⟩ := Tr.opn h
  clear h
  have s := ((St.start ok w0).begin h4).begin h3
  refine calls_enter (n := 14) Try.func13 rfl rfl rfl ?_
  repeat (refine VS_seq ?_)
  refine VS_region_lit ?_
  refine VL_does (d := 1) (does_box s rfl rfl rfl ?_) rfl rfl
  clear s; intro b1 w s
  refine VL_run (d := 2) (run_assign rfl (by conv => lhs; whnf)) rfl rfl ?_
  refine VL_nil ?_
  repeat (refine VS_seq ?_)
  refine VS_meetB s 2 (t.ok) [3, 4, 5, 6, 7, 8, 9, 10, 11, 12, 13, 2] ?_ ?_
  · refine VS_region_lit ?_
    refine VL_run (d := 3) (run_fieldAddr rfl fo26_0 rfl) rfl rfl ?_
    refine VL_run (d := 4) (run_load_own1 s rfl ty4 rfl (i := 0) rfl rfl) rfl rfl ?_
    refine VL_run (d := 5) (run_move rfl (by conv => lhs; whnf)) rfl rfl ?_
    refine VL_split 5 (by conv => lhs; whnf) (fun h5 => ?_) (fun h5 => ?_) <;> (try simp only [decide_eq_true_eq, decide_eq_false_iff_not, Bool.not_eq_true', Bool.not_eq_false', ne_eq, Decidable.not_not, cond_true, cond_false, Bool.and_eq_true, Bool.or_eq_true, Bool.and_eq_false_iff, Bool.or_eq_false_iff, Bool.not_true, Bool.not_false, reduceCtorEq] at h5)
    · refine VL_run (d := 6) (run_load_ownA (cs := [_, _, _, _, _]) s rfl ty26 rfl (i := 0) rfl rfl rfl) rfl rfl ?_
      refine VL_does (d := 7) (does_call2 rfl (by kernel_rfl) rfl rfl (l1Parts_ok t 0 (by decide) (Tr.shut' (s.dat (i := 0) rfl) (s.dat (i := 1) rfl)) ht) ?_) rfl rfl
      rintro _ w ⟨rfl, hb⟩
      replace s := s.step hb
      clear hb
      refine VL_run (d := 8) (run_pickT rfl rfl rfl) rfl rfl ?_
      refine VL_run (d := 9) (run_move rfl (by conv => lhs; whnf)) rfl rfl ?_
      refine VL_split 9 (by conv => lhs; whnf) (fun h9 => ?_) (fun h9 => ?_) <;> (try simp only [decide_eq_true_eq, decide_eq_false_iff_not, Bool.not_eq_true', Bool.not_eq_false', ne_eq, Decidable.not_not, cond_true, cond_false, Bool.and_eq_true, Bool.or_eq_true, Bool.and_eq_false_iff, Bool.or_eq_false_iff, Bool.not_true, Bool.not_false, reduceCtorEq] at h9)
      · refine VL_run (d := 10) (run_load_ownA (cs := [_, _, _, _, _]) s rfl ty26 rfl (i := 0) rfl rfl rfl) rfl rfl ?_
        refine VL_does (d := 11) (does_call1 rfl (by kernel_rfl) rfl (l1Count_ok t (Tr.shut' (s.dat (i := 0) rfl) (s.dat (i := 1) rfl)) ht) ?_) rfl rfl
        rintro _ w ⟨rfl, hb⟩
        replace s := s.step hb
        clear hb
        refine VL_run (d := 12) (run_leI rfl rfl rfl) rfl rfl ?_
        refine VL_run (d := 13) (run_pickT rfl rfl rfl) rfl rfl ?_
        refine VL_run (d := 2) (run_assign rfl (by conv => lhs; whnf)) rfl rfl ?_
        refine VL_nil ?_
        exact VS_endB s (by conv => lhs; whnf) (by clear s; unfold Tr.ok; grind) (by repeat (first | exact Out.refl _ _ | refine Out.upd rfl ?_))
      · refine VL_not (d := 10) rfl rfl rfl rfl ?_
        refine VL_not (d := 11) rfl rfl rfl rfl ?_
        refine VL_not (d := 12) rfl rfl rfl rfl ?_
        refine VL_run (d := 13) (run_pickF rfl rfl rfl) rfl rfl ?_
        refine VL_run (d := 2) (run_assign rfl (by conv => lhs; whnf)) rfl rfl ?_
        refine VL_nil ?_
        exact VS_endB s (by conv => lhs; whnf) (by clear s; unfold Tr.ok; grind) (by repeat (first | exact Out.refl _ _ | refine Out.upd rfl ?_))
    · refine VL_not (d := 6) rfl rfl rfl rfl ?_
      refine VL_not (d := 7) rfl rfl rfl rfl ?_
      refine VL_run (d := 8) (run_pickF rfl rfl rfl) rfl rfl ?_
      refine VL_run (d := 9) (run_move rfl (by conv => lhs; whnf)) rfl rfl ?_
      refine VL_not (d := 10) rfl rfl rfl rfl ?_
      refine VL_not (d := 11) rfl rfl rfl rfl ?_
      refine VL_not (d := 12) rfl rfl rfl rfl ?_
      refine VL_run (d := 13) (run_pickF rfl rfl rfl) rfl rfl ?_
      refine VL_run (d := 2) (run_assign rfl (by conv => lhs; whnf)) rfl rfl ?_
      refine VL_nil ?_
      exact VS_endB s (by conv => lhs; whnf) (by clear s; unfold Tr.ok; grind) (by repeat (first | exact Out.refl _ _ | refine Out.upd rfl ?_))
  clear s; intro w j2 s
  refine VS_ret ?_
  repeat (first | refine blockV_ret ?_ | refine backV_ret ?_ | refine backV2_ret ?_ | refine backV3_ret ?_ | refine thenV_ret ?_ | refine metV2_ret ?_)
  refine fin_one (fn := Try.f13) rfl (res_tmp (by conv => lhs; whnf)) ?_
  exact ⟨rfl, s.below⟩
theorem l2Within_ok (p q : List ByteArray) {ok : Nat → Prop} {w0 : World} {v1 v2 : Value} (h1 : Rd ok w0 (.sl (strsD p)) [v1]) (h2 : Rd ok w0 (.sl (strsD q)) [v2]) (hp : p.length ≤ 1000000000000) (hq : q.length ≤ 1000000000000) :
    Calls Try.prog 132 #[v1, v2] w0 (Ret fun v w' => v = .bool (decide (q <+: p)) ∧ Below w0.heap.size w0 w') := by
  obtain ⟨A, c, e1, hl1⟩ := Rd_strs h1
  obtain ⟨B, d, e2, hl2⟩ := Rd_strs h2
  obtain rfl := List.singleton_inj.1 e1
  obtain rfl := List.singleton_inj.1 e2
  have s := ((St.start ok w0).begin h2).begin h1
  refine calls_enter (n := 26) Try.func132 rfl rfl rfl ?_
  repeat (refine VS_seq ?_)
  refine VS_region_lit ?_
  refine VL_run (d := 4) (run_assign rfl (by conv => lhs; whnf)) rfl rfl ?_
  refine VL_nil ?_
  repeat (refine VS_seq ?_)
  refine VS_region_lit ?_
  refine VL_run (d := 6) (run_move rfl (by conv => lhs; whnf)) rfl rfl ?_
  refine VL_run (d := 7) (run_lenSlice rfl ⟨_, Try.underlying23⟩ rfl) rfl rfl ?_
  refine VL_run (d := 8) (run_move rfl (by conv => lhs; whnf)) rfl rfl ?_
  refine VL_run (d := 9) (run_lenSlice rfl ⟨_, Try.underlying23⟩ rfl) rfl rfl ?_
  refine VL_run (d := 10) (run_ltI rfl rfl rfl) rfl rfl ?_
  refine VL_nil ?_
  refine VS_cond rfl (fun c0 => ?_) (fun c0 => ?_) <;> (try simp only [decide_eq_true_eq, decide_eq_false_iff_not, Bool.not_eq_true', Bool.not_eq_false', ne_eq, Decidable.not_not, cond_true, cond_false, Bool.and_eq_true, Bool.or_eq_true, Bool.and_eq_false_iff, Bool.or_eq_false_iff, Bool.not_true, Bool.not_false, reduceCtorEq] at c0)
  · repeat (refine VS_seq ?_)
    refine VS_region_lit ?_
    refine VL_run (d := 4) (run_assign rfl (by conv => lhs; whnf)) rfl rfl ?_
    refine VL_nil ?_
    refine VS_ret ?_
    repeat (first | refine blockV_ret ?_ | refine backV_ret ?_ | refine backV2_ret ?_ | refine backV3_ret ?_ | refine thenV_ret ?_ | refine metV2_ret ?_)
    refine fin_one (fn := Try.f132) rfl (res_tmp (by conv => lhs; whnf)) ?_
    refine ⟨?_, s.below⟩
    have : ¬ q <+: p := fun h => by have := h.length_le; omega
    simp [this]
  · repeat (first | refine VS_seq ?_ | refine VS_skip ?_)
    refine VS_region_lit ?_
    refine VL_run (d := 5) (run_assign rfl (by conv => lhs; whnf)) rfl rfl ?_
    refine VL_nil ?_
    repeat (refine VS_block ?_)
    refine VS_loop [4, 5, 11, 12, 13, 14, 15, 16, 17, 18, 19, 20, 21, 22, 23, 24, 25] (fun k : Nat => [(5, .int .i64 k)]) (fun k w => St ok w0 [] [.dat [.slice A p.length c] (.sl (strsD p)), .dat [.slice B q.length d] (.sl (strsD q))] w ∧ k ≤ q.length ∧ q.take k = p.take k) (fun k => q.length - k) 0 ⟨s, by omega, rfl⟩ (by repeat (first | exact Has.nil _ | refine Has.cons rfl ?_)) ?_
    clear s
    rintro k w j ⟨s, hk, hf⟩
    repeat (refine VS_seq ?_)
    refine VS_region_lit ?_
    refine VL_run (d := 11) (run_move rfl (by conv => lhs; whnf)) rfl rfl ?_
    refine VL_run (d := 12) (run_move rfl (by conv => lhs; whnf)) rfl rfl ?_
    refine VL_run (d := 13) (run_lenSlice rfl ⟨_, Try.underlying23⟩ rfl) rfl rfl ?_
    refine VL_run (d := 14) (run_ltI rfl rfl rfl) rfl rfl ?_
    refine VL_nil ?_
    refine VS_cond rfl (fun c1 => ?_) (fun c1 => ?_) <;> (try simp only [decide_eq_true_eq, decide_eq_false_iff_not, Bool.not_eq_true', Bool.not_eq_false', ne_eq, Decidable.not_not, cond_true, cond_false, Bool.and_eq_true, Bool.or_eq_true, Bool.and_eq_false_iff, Bool.or_eq_false_iff, Bool.not_true, Bool.not_false, reduceCtorEq] at c1)
    · repeat (first | refine VS_seq ?_ | refine VS_block ?_ | refine VS_skip ?_)
      have hk' : k < q.length := by omega
      have hk2 : k < p.length := by omega
      obtain ⟨ad, rfl, s⟩ := s.openS (i := 0) rfl k hk2
      obtain ⟨ad2, rfl, s⟩ := s.openS (i := 2) rfl k hk'
      refine VS_drawS 9 s mixed ?_
      clear s; intro s
      refine VA_take 0 (d := 17) rfl (by kernel_rfl) rfl (fun w g => run_move rfl (by conv => lhs; whnf)) s.see ?_
      refine VA_take 1 (d := 18) rfl (by kernel_rfl) rfl (fun w g => run_move rfl (by conv => lhs; whnf)) s.see ?_
      refine VA_take 2 (d := 19) rfl (by kernel_rfl) rfl (fun w g => run_indexAddr rfl Try.underlying23 ty9 rfl rfl (by omega) (by omega)) s.see ?_
      refine VA_take 3 (d := 20) rfl (by kernel_rfl) rfl (fun w g => see_at0 g rfl ty9 rfl (i := 1) rfl rfl) s.see ?_
      refine VA_take 4 (d := 21) rfl (by kernel_rfl) rfl (fun w g => run_move rfl (by conv => lhs; whnf)) s.see ?_
      refine VA_take 5 (d := 22) rfl (by kernel_rfl) rfl (fun w g => run_move rfl (by conv => lhs; whnf)) s.see ?_
      refine VA_take 6 (d := 23) rfl (by kernel_rfl) rfl (fun w g => run_indexAddr rfl Try.underlying23 ty9 rfl rfl (by omega) (by omega)) s.see ?_
      refine VA_take 7 (d := 24) rfl (by kernel_rfl) rfl (fun w g => see_at0 g rfl ty9 rfl (i := 0) rfl rfl) s.see ?_
      refine VA_take 8 (d := 25) rfl (by kernel_rfl) rfl (fun w g => run_neS rfl rfl rfl) s.see ?_
      refine VA_done (by kernel_rfl) ?_
      refine VS_cond rfl (fun c2 => ?_) (fun c2 => ?_) <;> (try simp only [decide_eq_true_eq, decide_eq_false_iff_not, Bool.not_eq_true', Bool.not_eq_false', ne_eq, Decidable.not_not, cond_true, cond_false, Bool.and_eq_true, Bool.or_eq_true, Bool.and_eq_false_iff, Bool.or_eq_false_iff, Bool.not_true, Bool.not_false, reduceCtorEq] at c2)
      · repeat (refine VS_seq ?_)
        refine VS_region_lit ?_
        refine VL_run (d := 4) (run_assign rfl (by conv => lhs; whnf)) rfl rfl ?_
        refine VL_nil ?_
        refine VS_ret ?_
        repeat (first | refine blockV_ret ?_ | refine backV_ret ?_)
        refine fin_one (fn := Try.f132) rfl (res_tmp (by conv => lhs; whnf)) ?_
        refine ⟨?_, s.below⟩
        have : ¬ q <+: p := fun h => c2 (by rw [List.prefix_iff_eq_take] at h; have := congrArg (fun l => l[k]?) h; simp [List.getElem?_take, hk', hk2] at this; exact this.symm)
        simp [this]
      · repeat (first | refine VS_skip ?_ | refine VS_nil_block ?_)
        refine VS_region_lit ?_
        refine VL_run (d := 15) (run_move rfl (by conv => lhs; whnf)) rfl rfl ?_
        refine VL_run (d := 16) (run_add rfl rfl rfl (by omega)) rfl rfl ?_
        refine VL_run (d := 5) (run_assign rfl (by conv => lhs; whnf)) rfl rfl ?_
        refine VL_nil ?_
        refine VS_back (k + 1) ?_ (by repeat (first | exact Has.nil _ | refine Has.cons rfl ?_)) (by repeat (first | exact Out.mix _ _ _ | refine Out.upd rfl ?_)) ?_
        · refine ⟨s.less (by simp), by omega, ?_⟩
          rw [← take_snoc hk', ← take_snoc hk2, hf, c2]
        · omega
    · refine VS_exit ?_
      repeat (first | refine blockV_hit ?_ | refine backV_exit ?_)
      repeat (refine VS_seq ?_)
      refine VS_region_lit ?_
      refine VL_run (d := 4) (run_assign rfl (by conv => lhs; whnf)) rfl rfl ?_
      refine VL_nil ?_
      refine VS_ret ?_
      repeat (first | refine blockV_ret ?_ | refine backV_ret ?_ | refine backV2_ret ?_ | refine backV3_ret ?_ | refine thenV_ret ?_ | refine metV2_ret ?_)
      refine fin_one (fn := Try.f132) rfl (res_tmp (by conv => lhs; whnf)) ?_
      refine ⟨?_, s.below⟩
      obtain rfl : k = q.length := by omega
      rw [List.take_length] at hf
      have : q <+: p := by rw [List.prefix_iff_eq_take]; exact hf
      simp [this]
theorem l11Same_ok (p q : List ByteArray) {ok : Nat → Prop} {w0 : World} {v1 v2 : Value} (h1 : Rd ok w0 (.sl (strsD p)) [v1]) (h2 : Rd ok w0 (.sl (strsD q)) [v2]) (hp : p.length ≤ 1000000000000) (hq : q.length ≤ 1000000000000) :
    Calls Try.prog 106 #[v1, v2] w0 (Ret fun v w' => v = .bool (decide (p = q)) ∧ Below w0.heap.size w0 w') := by
  obtain ⟨A, c, e1, hl1⟩ := Rd_strs h1
  obtain ⟨B, d, e2, hl2⟩ := Rd_strs h2
  obtain rfl := List.singleton_inj.1 e1
  obtain rfl := List.singleton_inj.1 e2
  have s := ((St.start ok w0).begin h2).begin h1
  refine calls_enter (n := 15) Try.func106 rfl rfl rfl ?_
  repeat (refine VS_seq ?_)
  refine VS_region_lit ?_
  refine VL_run (d := 4) (run_assign rfl (by conv => lhs; whnf)) rfl rfl ?_
  refine VL_nil ?_
  repeat (refine VS_seq ?_)
  refine VS_meetB s 4 (decide (p = q)) [5, 6, 7, 8, 9, 10, 11, 12, 13, 14, 4] ?_ ?_
  · refine VS_region_lit ?_
    refine VL_run (d := 5) (run_move rfl (by conv => lhs; whnf)) rfl rfl ?_
    refine VL_run (d := 6) (run_lenSlice rfl ⟨_, Try.underlying23⟩ rfl) rfl rfl ?_
    refine VL_run (d := 7) (run_move rfl (by conv => lhs; whnf)) rfl rfl ?_
    refine VL_run (d := 8) (run_lenSlice rfl ⟨_, Try.underlying23⟩ rfl) rfl rfl ?_
    refine VL_run (d := 9) (run_eqI rfl rfl rfl) rfl rfl ?_
    refine VL_run (d := 10) (run_move rfl (by conv => lhs; whnf)) rfl rfl ?_
    refine VL_split 10 (by conv => lhs; whnf) (fun h10 => ?_) (fun h10 => ?_) <;> (try simp only [decide_eq_true_eq, decide_eq_false_iff_not, Bool.not_eq_true', Bool.not_eq_false', ne_eq, Decidable.not_not, cond_true, cond_false, Bool.and_eq_true, Bool.or_eq_true, Bool.and_eq_false_iff, Bool.or_eq_false_iff, Bool.not_true, Bool.not_false, reduceCtorEq] at h10)
    · refine VL_run (d := 11) (run_move rfl (by conv => lhs; whnf)) rfl rfl ?_
      refine VL_run (d := 12) (run_move rfl (by conv => lhs; whnf)) rfl rfl ?_
      refine VL_does (d := 13) (does_call2 rfl (by kernel_rfl) rfl rfl (l2Within_ok p q (s.dat (i := 0) rfl) (s.dat (i := 1) rfl) hp hq) ?_) rfl rfl
      rintro _ w ⟨rfl, hb⟩
      replace s := s.step hb
      clear hb
      refine VL_run (d := 14) (run_pickT rfl rfl rfl) rfl rfl ?_
      refine VL_run (d := 4) (run_assign rfl (by conv => lhs; whnf)) rfl rfl ?_
      refine VL_nil ?_
      exact VS_endB s (by conv => lhs; whnf) (by (have : p = q ↔ q <+: p := ⟨fun h => h ▸ List.prefix_refl _, fun h => (List.IsPrefix.eq_of_length h (by omega)).symm⟩; simp [this]; done)) (by repeat (first | exact Out.refl _ _ | refine Out.upd rfl ?_))
    · refine VL_not (d := 11) rfl rfl rfl rfl ?_
      refine VL_not (d := 12) rfl rfl rfl rfl ?_
      refine VL_not (d := 13) rfl rfl rfl rfl ?_
      refine VL_run (d := 14) (run_pickF rfl rfl rfl) rfl rfl ?_
      refine VL_run (d := 4) (run_assign rfl (by conv => lhs; whnf)) rfl rfl ?_
      refine VL_nil ?_
      exact VS_endB s (by conv => lhs; whnf) (by (have : ¬ p = q := fun h => h10 (by rw [h]); simp [this]; done)) (by repeat (first | exact Out.refl _ _ | refine Out.upd rfl ?_))
  clear s; intro w j4 s
  refine VS_ret ?_
  repeat (first | refine blockV_ret ?_ | refine backV_ret ?_ | refine backV2_ret ?_ | refine backV3_ret ?_ | refine thenV_ret ?_ | refine metV2_ret ?_)
  refine fin_one (fn := Try.f106) rfl (res_tmp (by conv => lhs; whnf)) ?_
  exact ⟨rfl, s.below⟩
end Go.Proofs.Ytkefaelmamgjiaa
