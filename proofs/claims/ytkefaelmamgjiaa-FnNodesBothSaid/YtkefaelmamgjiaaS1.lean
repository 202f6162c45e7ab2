/- spec: l1In, l1NameOk, l1Plain, l1Parts, l1Count, TreeOk. -/
import Derived.Test.YtkefaelmamgjiaaDat
import Derived.Test.YtkefaelmamgjiaaTys
import Derived.Test.YtkefaelmamgjiaaChecked
set_option linter.unusedVariables false
set_option linter.unusedSimpArgs false
set_option maxHeartbeats 1000000
namespace Go.Proofs.Ytkefaelmamgjiaa
open Go.RowKit

def inI (n lo hi : Int) : Bool := decide (lo ≤ n) && decide (n ≤ hi)
theorem l1In_ok {w0 : World} (n lo hi : Int) : Calls Try.prog 101 #[.int .i64 n, .int .i64 lo, .int .i64 hi] w0 (Ret fun v w' => v = .bool (inI n lo hi) ∧ Below w0.heap.size w0 w') := by
  have s := St.start (fun _ => False) w0
  refine calls_enter (n := 15) Try.func101 rfl rfl rfl ?_
  repeat (refine VS_seq ?_)
  refine VS_region_lit ?_
  refine VL_run (d := 6) (run_assign rfl (by conv => lhs; whnf)) rfl rfl ?_
  refine VL_nil ?_
  repeat (refine VS_seq ?_)
  refine VS_meetB s 6 (inI n lo hi) [7, 8, 9, 10, 11, 12, 13, 14, 6] ?_ ?_
  · refine VS_region_lit ?_
    refine VL_run (d := 7) (run_move rfl (by conv => lhs; whnf)) rfl rfl ?_
    refine VL_run (d := 8) (run_move rfl (by conv => lhs; whnf)) rfl rfl ?_
    refine VL_run (d := 9) (run_geI rfl rfl rfl) rfl rfl ?_
    refine VL_run (d := 10) (run_move rfl (by conv => lhs; whnf)) rfl rfl ?_
    refine VL_split 10 (by conv => lhs; whnf) (fun h10 => ?_) (fun h10 => ?_) <;> (try simp only [decide_eq_true_eq, decide_eq_false_iff_not, Bool.not_eq_true', Bool.not_eq_false', ne_eq, Decidable.not_not, cond_true, cond_false, Bool.and_eq_true, Bool.or_eq_true, Bool.and_eq_false_iff, Bool.or_eq_false_iff, Bool.not_true, Bool.not_false, reduceCtorEq] at h10)
    · refine VL_run (d := 11) (run_move rfl (by conv => lhs; whnf)) rfl rfl ?_
      refine VL_run (d := 12) (run_move rfl (by conv => lhs; whnf)) rfl rfl ?_
      refine VL_run (d := 13) (run_leI rfl rfl rfl) rfl rfl ?_
      refine VL_run (d := 14) (run_pickT rfl rfl rfl) rfl rfl ?_
      refine VL_run (d := 6) (run_assign rfl (by conv => lhs; whnf)) rfl rfl ?_
      refine VL_nil ?_
      exact VS_endB s (by conv => lhs; whnf) (by (simp [inI, *]; done)) (by repeat (first | exact Out.refl _ _ | refine Out.upd rfl ?_))
    · refine VL_not (d := 11) rfl rfl rfl rfl ?_
      refine VL_not (d := 12) rfl rfl rfl rfl ?_
      refine VL_not (d := 13) rfl rfl rfl rfl ?_
      refine VL_run (d := 14) (run_pickF rfl rfl rfl) rfl rfl ?_
      refine VL_run (d := 6) (run_assign rfl (by conv => lhs; whnf)) rfl rfl ?_
      refine VL_nil ?_
      exact VS_endB s (by conv => lhs; whnf) (by (simp [inI, *]; done)) (by repeat (first | exact Out.refl _ _ | refine Out.upd rfl ?_))
  clear s; intro w j6 s
  refine VS_ret ?_
  repeat (first | refine blockV_ret ?_ | refine backV_ret ?_ | refine backV2_ret ?_ | refine backV3_ret ?_ | refine thenV_ret ?_ | refine metV2_ret ?_)
  refine fin_one (fn := Try.f101) rfl (res_tmp (by conv => lhs; whnf)) ?_
  exact ⟨rfl, s.below⟩
def chOk (b : UInt8) : Bool := decide ((97 : Int) ≤ b.toNat) && decide ((b.toNat : Int) ≤ 122) || decide ((48 : Int) ≤ b.toNat) && decide ((b.toNat : Int) ≤ 57)
def nameFrom (s : ByteArray) (i : Nat) : Bool :=
  if h : i < s.size then (chOk s[i] && nameFrom s (i + 1)) else inI s.size 1 5
termination_by s.size - i
theorem l1NameOk_ok {w0 : World} (nm : ByteArray) (hn : nm.size ≤ 1000000000000) : Calls Try.prog 128 #[.string nm] w0 (Ret fun v w' => v = .bool (nameFrom nm 0) ∧ Below w0.heap.size w0 w') := by
  have s := St.start (fun _ => False) w0
  refine calls_enter (n := 36) Try.func128 rfl rfl rfl ?_
  repeat (refine VS_seq ?_)
  refine VS_region_lit ?_
  refine VL_run (d := 2) (run_assign rfl (by conv => lhs; whnf)) rfl rfl ?_
  refine VL_nil ?_
  repeat (refine VS_seq ?_)
  refine VS_region_lit ?_
  refine VL_run (d := 3) (run_assign rfl (by conv => lhs; whnf)) rfl rfl ?_
  refine VL_nil ?_
  repeat (refine VS_block ?_)
  refine VS_loop [2, 3, 4, 5, 6, 7, 8, 9, 10, 11, 12, 13, 14, 15, 16, 17, 18, 19, 20, 21, 22, 23, 24, 25, 26, 27, 28, 29, 30, 31, 32] (fun k : Nat => [(3, .int .i64 k)]) (fun k w => St (fun _ => False) w0 [] [] w ∧ k ≤ nm.size ∧ nameFrom nm 0 = nameFrom nm k) (fun k => nm.size - k) 0 ⟨s, by omega, rfl⟩ ((Has.nil _).cons rfl) ?_
  clear s
  rintro k w j ⟨s, hk, hf⟩
  repeat (refine VS_seq ?_)
  refine VS_region_lit ?_
  refine VL_run (d := 4) (run_move rfl (by conv => lhs; whnf)) rfl rfl ?_
  refine VL_run (d := 5) (run_move rfl (by conv => lhs; whnf)) rfl rfl ?_
  refine VL_run (d := 6) (run_lenStr rfl Try.underlying9 rfl) rfl rfl ?_
  refine VL_run (d := 7) (run_ltI rfl rfl rfl) rfl rfl ?_
  refine VL_nil ?_
  refine VS_cond rfl (fun c0 => ?_) (fun c0 => ?_) <;> (try simp only [decide_eq_true_eq, decide_eq_false_iff_not, Bool.not_eq_true', Bool.not_eq_false', ne_eq, Decidable.not_not, cond_true, cond_false, Bool.and_eq_true, Bool.or_eq_true, Bool.and_eq_false_iff, Bool.or_eq_false_iff, Bool.not_true, Bool.not_false, reduceCtorEq] at c0)
  · repeat (first | refine VS_seq ?_ | refine VS_block ?_ | refine VS_skip ?_)
    have hk' : k < nm.size := by omega
    have hb : nm[(k : Int).toNat]? = some nm[k] := by simp [hk']
    refine VS_meetB s 32 (!chOk nm[k]) [10, 11, 12, 13, 14, 15, 16, 17, 18, 19, 20, 21, 22, 23, 24, 25, 26, 27, 28, 29, 30, 31, 32] ?_ ?_
    · refine VS_region_lit ?_
      refine VL_run (d := 10) (run_move rfl (by conv => lhs; whnf)) rfl rfl ?_
      refine VL_run (d := 11) (run_move rfl (by conv => lhs; whnf)) rfl rfl ?_
      refine VL_run (d := 12) (run_indexStr rfl Try.underlying9 rfl rfl (by omega) ‹_›) rfl rfl ?_
      refine VL_run (d := 13) (run_geI rfl rfl rfl) rfl rfl ?_
      refine VL_run (d := 14) (run_move rfl (by conv => lhs; whnf)) rfl rfl ?_
      refine VL_split 14 (by conv => lhs; whnf) (fun h14 => ?_) (fun h14 => ?_) <;> (try simp only [decide_eq_true_eq, decide_eq_false_iff_not, Bool.not_eq_true', Bool.not_eq_false', ne_eq, Decidable.not_not, cond_true, cond_false, Bool.and_eq_true, Bool.or_eq_true, Bool.and_eq_false_iff, Bool.or_eq_false_iff, Bool.not_true, Bool.not_false, reduceCtorEq] at h14)
      · refine VL_run (d := 15) (run_move rfl (by conv => lhs; whnf)) rfl rfl ?_
        refine VL_run (d := 16) (run_move rfl (by conv => lhs; whnf)) rfl rfl ?_
        refine VL_run (d := 17) (run_indexStr rfl Try.underlying9 rfl rfl (by omega) ‹_›) rfl rfl ?_
        refine VL_run (d := 18) (run_leI rfl rfl rfl) rfl rfl ?_
        refine VL_run (d := 19) (run_pickT rfl rfl rfl) rfl rfl ?_
        refine VL_run (d := 20) (run_move rfl (by conv => lhs; whnf)) rfl rfl ?_
        refine VL_split 20 (by conv => lhs; whnf) (fun h20 => ?_) (fun h20 => ?_) <;> (try simp only [decide_eq_true_eq, decide_eq_false_iff_not, Bool.not_eq_true', Bool.not_eq_false', ne_eq, Decidable.not_not, cond_true, cond_false, Bool.and_eq_true, Bool.or_eq_true, Bool.and_eq_false_iff, Bool.or_eq_false_iff, Bool.not_true, Bool.not_false, reduceCtorEq] at h20)
        · refine VL_not (d := 21) rfl rfl rfl rfl ?_
          refine VL_not (d := 22) rfl rfl rfl rfl ?_
          refine VL_not (d := 23) rfl rfl rfl rfl ?_
          refine VL_not (d := 24) rfl rfl rfl rfl ?_
          refine VL_not (d := 25) rfl rfl rfl rfl ?_
          refine VL_not (d := 26) rfl rfl rfl rfl ?_
          refine VL_not (d := 27) rfl rfl rfl rfl ?_
          refine VL_not (d := 28) rfl rfl rfl rfl ?_
          refine VL_not (d := 29) rfl rfl rfl rfl ?_
          refine VL_not (d := 30) rfl rfl rfl rfl ?_
          refine VL_run (d := 31) (run_pickT rfl rfl rfl) rfl rfl ?_
          refine VL_run (d := 32) (run_not rfl rfl) rfl rfl ?_
          refine VL_nil ?_
          exact VS_endB s (by conv => lhs; whnf) (by (simp [chOk, *]; done)) (by repeat (first | exact Out.refl _ _ | refine Out.upd rfl ?_))
        · refine VL_run (d := 21) (run_move rfl (by conv => lhs; whnf)) rfl rfl ?_
          refine VL_run (d := 22) (run_move rfl (by conv => lhs; whnf)) rfl rfl ?_
          refine VL_run (d := 23) (run_indexStr rfl Try.underlying9 rfl rfl (by omega) ‹_›) rfl rfl ?_
          refine VL_run (d := 24) (run_geI rfl rfl rfl) rfl rfl ?_
          refine VL_run (d := 25) (run_move rfl (by conv => lhs; whnf)) rfl rfl ?_
          refine VL_split 25 (by conv => lhs; whnf) (fun h25 => ?_) (fun h25 => ?_) <;> (try simp only [decide_eq_true_eq, decide_eq_false_iff_not, Bool.not_eq_true', Bool.not_eq_false', ne_eq, Decidable.not_not, cond_true, cond_false, Bool.and_eq_true, Bool.or_eq_true, Bool.and_eq_false_iff, Bool.or_eq_false_iff, Bool.not_true, Bool.not_false, reduceCtorEq] at h25)
          · refine VL_run (d := 26) (run_move rfl (by conv => lhs; whnf)) rfl rfl ?_
            refine VL_run (d := 27) (run_move rfl (by conv => lhs; whnf)) rfl rfl ?_
            refine VL_run (d := 28) (run_indexStr rfl Try.underlying9 rfl rfl (by omega) ‹_›) rfl rfl ?_
            refine VL_run (d := 29) (run_leI rfl rfl rfl) rfl rfl ?_
            refine VL_run (d := 30) (run_pickT rfl rfl rfl) rfl rfl ?_
            refine VL_run (d := 31) (run_pickF rfl rfl rfl) rfl rfl ?_
            refine VL_run (d := 32) (run_not rfl rfl) rfl rfl ?_
            refine VL_nil ?_
            exact VS_endB s (by conv => lhs; whnf) (by (simp [chOk, *]; done)) (by repeat (first | exact Out.refl _ _ | refine Out.upd rfl ?_))
          · refine VL_not (d := 26) rfl rfl rfl rfl ?_
            refine VL_not (d := 27) rfl rfl rfl rfl ?_
            refine VL_not (d := 28) rfl rfl rfl rfl ?_
            refine VL_not (d := 29) rfl rfl rfl rfl ?_
            refine VL_run (d := 30) (run_pickF rfl rfl rfl) rfl rfl ?_
            refine VL_run (d := 31) (run_pickF rfl rfl rfl) rfl rfl ?_
            refine VL_run (d := 32) (run_not rfl rfl) rfl rfl ?_
            refine VL_nil ?_
            exact VS_endB s (by conv => lhs; whnf) (by (simp [chOk, *]; done)) (by repeat (first | exact Out.refl _ _ | refine Out.upd rfl ?_))
      · refine VL_not (d := 15) rfl rfl rfl rfl ?_
        refine VL_not (d := 16) rfl rfl rfl rfl ?_
        refine VL_not (d := 17) rfl rfl rfl rfl ?_
        refine VL_not (d := 18) rfl rfl rfl rfl ?_
        refine VL_run (d := 19) (run_pickF rfl rfl rfl) rfl rfl ?_
        refine VL_run (d := 20) (run_move rfl (by conv => lhs; whnf)) rfl rfl ?_
        refine VL_run (d := 21) (run_move rfl (by conv => lhs; whnf)) rfl rfl ?_
        refine VL_run (d := 22) (run_move rfl (by conv => lhs; whnf)) rfl rfl ?_
        refine VL_run (d := 23) (run_indexStr rfl Try.underlying9 rfl rfl (by omega) ‹_›) rfl rfl ?_
        refine VL_run (d := 24) (run_geI rfl rfl rfl) rfl rfl ?_
        refine VL_run (d := 25) (run_move rfl (by conv => lhs; whnf)) rfl rfl ?_
        refine VL_split 25 (by conv => lhs; whnf) (fun h25 => ?_) (fun h25 => ?_) <;> (try simp only [decide_eq_true_eq, decide_eq_false_iff_not, Bool.not_eq_true', Bool.not_eq_false', ne_eq, Decidable.not_not, cond_true, cond_false, Bool.and_eq_true, Bool.or_eq_true, Bool.and_eq_false_iff, Bool.or_eq_false_iff, Bool.not_true, Bool.not_false, reduceCtorEq] at h25)
        · refine VL_run (d := 26) (run_move rfl (by conv => lhs; whnf)) rfl rfl ?_
          refine VL_run (d := 27) (run_move rfl (by conv => lhs; whnf)) rfl rfl ?_
          refine VL_run (d := 28) (run_indexStr rfl Try.underlying9 rfl rfl (by omega) ‹_›) rfl rfl ?_
          refine VL_run (d := 29) (run_leI rfl rfl rfl) rfl rfl ?_
          refine VL_run (d := 30) (run_pickT rfl rfl rfl) rfl rfl ?_
          refine VL_run (d := 31) (run_pickF rfl rfl rfl) rfl rfl ?_
          refine VL_run (d := 32) (run_not rfl rfl) rfl rfl ?_
          refine VL_nil ?_
          exact VS_endB s (by conv => lhs; whnf) (by (simp [chOk, *]; done)) (by repeat (first | exact Out.refl _ _ | refine Out.upd rfl ?_))
        · refine VL_not (d := 26) rfl rfl rfl rfl ?_
          refine VL_not (d := 27) rfl rfl rfl rfl ?_
          refine VL_not (d := 28) rfl rfl rfl rfl ?_
          refine VL_not (d := 29) rfl rfl rfl rfl ?_
          refine VL_run (d := 30) (run_pickF rfl rfl rfl) rfl rfl ?_
          refine VL_run (d := 31) (run_pickF rfl rfl rfl) rfl rfl ?_
          refine VL_run (d := 32) (run_not rfl rfl) rfl rfl ?_
          refine VL_nil ?_
          exact VS_endB s (by conv => lhs; whnf) (by (simp [chOk, *]; done)) (by repeat (first | exact Out.refl _ _ | refine Out.upd rfl ?_))
    clear s; intro w j32 s
    refine VS_cond rfl (fun c1 => ?_) (fun c1 => ?_) <;> (try simp only [decide_eq_true_eq, decide_eq_false_iff_not, Bool.not_eq_true', Bool.not_eq_false', ne_eq, Decidable.not_not, cond_true, cond_false, Bool.and_eq_true, Bool.or_eq_true, Bool.and_eq_false_iff, Bool.or_eq_false_iff, Bool.not_true, Bool.not_false, reduceCtorEq] at c1)
    · repeat (refine VS_seq ?_)
      refine VS_region_lit ?_
      refine VL_run (d := 2) (run_assign rfl (by conv => lhs; whnf)) rfl rfl ?_
      refine VL_nil ?_
      refine VS_ret ?_
      repeat (first | refine blockV_ret ?_ | refine backV_ret ?_)
      refine fin_one (fn := Try.f128) rfl (res_tmp (by conv => lhs; whnf)) ?_
      refine ⟨?_, s.below⟩
      rw [hf, nameFrom, dif_pos hk']
      simp_all
    · repeat (first | refine VS_skip ?_ | refine VS_nil_block ?_)
      refine VS_region_lit ?_
      refine VL_run (d := 8) (run_move rfl (by conv => lhs; whnf)) rfl rfl ?_
      refine VL_run (d := 9) (run_add rfl rfl rfl (by omega)) rfl rfl ?_
      refine VL_run (d := 3) (run_assign rfl (by conv => lhs; whnf)) rfl rfl ?_
      refine VL_nil ?_
      refine VS_back (k + 1) ?_ (by repeat (first | exact Has.nil _ | refine Has.cons rfl ?_)) (by repeat (first | exact Out.mix _ _ _ | refine Out.upd rfl ?_ | refine Out.mix_in rfl ?_)) ?_
      · refine ⟨s, by omega, ?_⟩
        rw [hf, nameFrom, dif_pos hk']
        simp_all
      · omega
  · refine VS_exit ?_
    repeat (first | refine blockV_hit ?_ | refine backV_exit ?_)
    repeat (refine VS_seq ?_)
    refine VS_region_lit ?_
    refine VL_run (d := 33) (run_move rfl (by conv => lhs; whnf)) rfl rfl ?_
    refine VL_run (d := 34) (run_lenStr rfl Try.underlying9 rfl) rfl rfl ?_
    refine VL_does (d := 35) (does_call3 rfl (by kernel_rfl) rfl rfl rfl (l1In_ok _ _ _) ?_) rfl rfl
    rintro _ w ⟨rfl, hb⟩
    replace s := s.step hb
    clear hb
    refine VL_run (d := 2) (run_assign rfl (by conv => lhs; whnf)) rfl rfl ?_
    refine VL_nil ?_
    refine VS_ret ?_
    repeat (first | refine blockV_ret ?_ | refine backV_ret ?_ | refine backV2_ret ?_ | refine backV3_ret ?_ | refine thenV_ret ?_ | refine metV2_ret ?_)
    refine fin_one (fn := Try.f128) rfl (res_tmp (by conv => lhs; whnf)) ?_
    refine ⟨?_, s.below⟩
    rw [hf, nameFrom, dif_neg (by omega)]
/-- Names from place 'i' on are names, in order. -/
def namesUp (ns : List ByteArray) (i : Nat) : Bool :=
  if h : i < ns.length then nameFrom ns[i] 0 && (decide (i = 0) || bl (ns[i - 1]'(by omega)) ns[i]) && namesUp ns (i + 1) else true
termination_by ns.length - i
def Tr.plainOk (t : Tr) : Bool :=
  inI t.mode 0 7 && decide (t.names.length = t.kids.length) && (bif t.dir then namesUp t.names 0 && decide (t.data = ⟨#[]⟩) else decide (t.data.size ≤ 24) && decide (t.names.length = 0))
theorem l1Plain_ok (t : Tr) {ok : Nat → Prop} {w0 : World} {cs : List Value} (h : Rd ok w0 t.toD cs) (ht : t.Fit) :
    Calls Try.prog 95 #[.agg cs.toArray] w0 (Ret fun v w' => v = .bool t.plainOk ∧ Below w0.heap.size w0 w') := by
  obtain ⟨A3, c3, A4, c4, rfl, hl3, hl4, h3, h4⟩ := Tr.opn h
  have f1 := ht.names
  have f2 := ht.kids
  have f3 := ht.data
  have f4 := ht.name
  clear h
  have s := ((St.start ok w0).begin h4).begin h3
  refine calls_enter (n := 65) Try.func95 rfl rfl rfl ?_
  repeat (refine VS_seq ?_)
  refine VS_region_lit ?_
  refine VL_does (d := 1) (does_box s rfl rfl rfl ?_) rfl rfl
  clear s; intro b1 w s
  refine VL_run (d := 2) (run_assign rfl (by conv => lhs; whnf)) rfl rfl ?_
  refine VL_nil ?_
  repeat (refine VS_seq ?_)
  refine VS_meetB s 16 (!(inI t.mode 0 7 && decide (t.names.length = t.kids.length))) [4, 5, 6, 7, 8, 9, 10, 11, 12, 13, 14, 15, 16] ?_ ?_
  · refine VS_region_lit ?_
    refine VL_run (d := 4) (run_fieldAddr rfl fo26_1 rfl) rfl rfl ?_
    refine VL_run (d := 5) (run_load_own1 s rfl ty3 rfl (i := 0) rfl rfl) rfl rfl ?_
    refine VL_does (d := 6) (does_call3 rfl (by kernel_rfl) rfl rfl rfl (l1In_ok _ _ _) ?_) rfl rfl
    rintro _ w ⟨rfl, hb⟩
    replace s := s.step hb
    clear hb
    refine VL_run (d := 7) (run_not rfl rfl) rfl rfl ?_
    refine VL_run (d := 8) (run_move rfl (by conv => lhs; whnf)) rfl rfl ?_
    refine VL_split 8 (by conv => lhs; whnf) (fun h8 => ?_) (fun h8 => ?_) <;> (try simp only [decide_eq_true_eq, decide_eq_false_iff_not, Bool.not_eq_true', Bool.not_eq_false', ne_eq, Decidable.not_not, cond_true, cond_false, Bool.and_eq_true, Bool.or_eq_true, Bool.and_eq_false_iff, Bool.or_eq_false_iff, Bool.not_true, Bool.not_false, reduceCtorEq] at h8)
    · refine VL_not (d := 9) rfl rfl rfl rfl ?_
      refine VL_not (d := 10) rfl rfl rfl rfl ?_
      refine VL_not (d := 11) rfl rfl rfl rfl ?_
      refine VL_not (d := 12) rfl rfl rfl rfl ?_
      refine VL_not (d := 13) rfl rfl rfl rfl ?_
      refine VL_not (d := 14) rfl rfl rfl rfl ?_
      refine VL_not (d := 15) rfl rfl rfl rfl ?_
      refine VL_run (d := 16) (run_pickT rfl rfl rfl) rfl rfl ?_
      refine VL_nil ?_
      exact VS_endB s (by conv => lhs; whnf) (by (simp_all; done)) (by repeat (first | exact Out.refl _ _ | refine Out.upd rfl ?_))
    · refine VL_run (d := 9) (run_fieldAddr rfl fo26_3 rfl) rfl rfl ?_
      refine VL_run (d := 10) (run_load_own1 s rfl ty23 rfl (i := 0) rfl rfl) rfl rfl ?_
      refine VL_run (d := 11) (run_lenSlice rfl ⟨_, Try.underlying23⟩ rfl) rfl rfl ?_
      refine VL_run (d := 12) (run_fieldAddr rfl fo26_4 rfl) rfl rfl ?_
      refine VL_run (d := 13) (run_load_own1 s rfl ty24 rfl (i := 0) rfl rfl) rfl rfl ?_
      refine VL_run (d := 14) (run_lenSlice rfl ⟨_, Try.underlying24⟩ rfl) rfl rfl ?_
      refine VL_run (d := 15) (run_neI rfl rfl rfl) rfl rfl ?_
      refine VL_run (d := 16) (run_pickF rfl rfl rfl) rfl rfl ?_
      refine VL_nil ?_
      exact VS_endB s (by conv => lhs; whnf) (by (simp_all; omega)) (by repeat (first | exact Out.refl _ _ | refine Out.upd rfl ?_))
  clear s; intro w j16 s
  refine VS_cond rfl (fun c0 => ?_) (fun c0 => ?_) <;> (try simp only [decide_eq_true_eq, decide_eq_false_iff_not, Bool.not_eq_true', Bool.not_eq_false', ne_eq, Decidable.not_not, cond_true, cond_false, Bool.and_eq_true, Bool.or_eq_true, Bool.and_eq_false_iff, Bool.or_eq_false_iff, Bool.not_true, Bool.not_false, reduceCtorEq] at c0)
  · repeat (refine VS_seq ?_)
    refine VS_region_lit ?_
    refine VL_run (d := 2) (run_assign rfl (by conv => lhs; whnf)) rfl rfl ?_
    refine VL_nil ?_
    refine VS_ret ?_
    repeat (first | refine blockV_ret ?_ | refine backV_ret ?_ | refine backV2_ret ?_ | refine backV3_ret ?_ | refine thenV_ret ?_ | refine metV2_ret ?_)
    refine fin_one (fn := Try.f95) rfl (res_tmp (by conv => lhs; whnf)) ?_
    exact ⟨by clear s; grind [Tr.plainOk], s.below⟩
  · repeat (first | refine VS_seq ?_ | refine VS_skip ?_)
    refine VS_region_lit ?_
    refine VL_run (d := 17) (run_fieldAddr rfl fo26_0 rfl) rfl rfl ?_
    refine VL_run (d := 18) (run_load_own1 s rfl ty4 rfl (i := 0) rfl rfl) rfl rfl ?_
    refine VL_run (d := 19) (run_not rfl rfl) rfl rfl ?_
    refine VL_nil ?_
    refine VS_cond rfl (fun c1 => ?_) (fun c1 => ?_) <;> (try simp only [decide_eq_true_eq, decide_eq_false_iff_not, Bool.not_eq_true', Bool.not_eq_false', ne_eq, Decidable.not_not, cond_true, cond_false, Bool.and_eq_true, Bool.or_eq_true, Bool.and_eq_false_iff, Bool.or_eq_false_iff, Bool.not_true, Bool.not_false, reduceCtorEq] at c1)
    · repeat (refine VS_seq ?_)
      refine VS_meetB s 2 (decide (t.data.size ≤ 24) && decide (t.names.length = 0)) [20, 21, 22, 23, 24, 25, 26, 27, 28, 29, 2] ?_ ?_
      · refine VS_region_lit ?_
        refine VL_run (d := 20) (run_fieldAddr rfl fo26_2 rfl) rfl rfl ?_
        refine VL_run (d := 21) (run_load_own1 s rfl ty9 rfl (i := 0) rfl rfl) rfl rfl ?_
        refine VL_run (d := 22) (run_lenStr rfl Try.underlying9 rfl) rfl rfl ?_
        refine VL_run (d := 23) (run_leI rfl rfl rfl) rfl rfl ?_
        refine VL_run (d := 24) (run_move rfl (by conv => lhs; whnf)) rfl rfl ?_
        refine VL_split 24 (by conv => lhs; whnf) (fun h24 => ?_) (fun h24 => ?_) <;> (try simp only [decide_eq_true_eq, decide_eq_false_iff_not, Bool.not_eq_true', Bool.not_eq_false', ne_eq, Decidable.not_not, cond_true, cond_false, Bool.and_eq_true, Bool.or_eq_true, Bool.and_eq_false_iff, Bool.or_eq_false_iff, Bool.not_true, Bool.not_false, reduceCtorEq] at h24)
        · refine VL_run (d := 25) (run_fieldAddr rfl fo26_3 rfl) rfl rfl ?_
          refine VL_run (d := 26) (run_load_own1 s rfl ty23 rfl (i := 0) rfl rfl) rfl rfl ?_
          refine VL_run (d := 27) (run_lenSlice rfl ⟨_, Try.underlying23⟩ rfl) rfl rfl ?_
          refine VL_run (d := 28) (run_eqI rfl rfl rfl) rfl rfl ?_
          refine VL_run (d := 29) (run_pickT rfl rfl rfl) rfl rfl ?_
          refine VL_run (d := 2) (run_assign rfl (by conv => lhs; whnf)) rfl rfl ?_
          refine VL_nil ?_
          exact VS_endB s (by conv => lhs; whnf) (by (simp_all; omega)) (by repeat (first | exact Out.refl _ _ | refine Out.upd rfl ?_))
        · refine VL_not (d := 25) rfl rfl rfl rfl ?_
          refine VL_not (d := 26) rfl rfl rfl rfl ?_
          refine VL_not (d := 27) rfl rfl rfl rfl ?_
          refine VL_not (d := 28) rfl rfl rfl rfl ?_
          refine VL_run (d := 29) (run_pickF rfl rfl rfl) rfl rfl ?_
          refine VL_run (d := 2) (run_assign rfl (by conv => lhs; whnf)) rfl rfl ?_
          refine VL_nil ?_
          exact VS_endB s (by conv => lhs; whnf) (by (simp_all; omega)) (by repeat (first | exact Out.refl _ _ | refine Out.upd rfl ?_))
      clear s; intro w j2 s
      refine VS_ret ?_
      repeat (first | refine blockV_ret ?_ | refine backV_ret ?_ | refine backV2_ret ?_ | refine backV3_ret ?_ | refine thenV_ret ?_ | refine metV2_ret ?_)
      refine fin_one (fn := Try.f95) rfl (res_tmp (by conv => lhs; whnf)) ?_
      exact ⟨by simp_all [Tr.plainOk], s.below⟩
    · repeat (first | refine VS_seq ?_ | refine VS_skip ?_)
      refine VS_region_lit ?_
      refine VL_run (d := 3) (run_assign rfl (by conv => lhs; whnf)) rfl rfl ?_
      refine VL_nil ?_
      repeat (refine VS_block ?_)
      refine VS_loop [2, 3, 30, 31, 32, 33, 34, 35, 36, 37, 38, 39, 40, 41, 42, 43, 44, 45, 46, 47, 48, 49, 50, 51, 52, 53, 54, 55, 56, 57, 58, 59, 60, 61] (fun k : Nat => [(3, .int .i64 k)]) (fun k w => St ok w0 [.blk b1 _ _] [.dat [.slice A3 t.names.length c3] (.sl (strsD t.names)), .dat [.slice A4 t.kids.length c4] (.sl (Tr.toDs t.kids))] w ∧ k ≤ t.names.length ∧ namesUp t.names 0 = namesUp t.names k) (fun k => t.names.length - k) 0 ⟨s, by omega, rfl⟩ ((Has.nil _).cons rfl) ?_
      clear s
      rintro k w j ⟨s, hk, hf⟩
      repeat (refine VS_seq ?_)
      refine VS_region_lit ?_
      refine VL_run (d := 30) (run_move rfl (by conv => lhs; whnf)) rfl rfl ?_
      refine VL_run (d := 31) (run_fieldAddr rfl fo26_3 rfl) rfl rfl ?_
      refine VL_run (d := 32) (run_load_own1 s rfl ty23 rfl (i := 0) rfl rfl) rfl rfl ?_
      refine VL_run (d := 33) (run_lenSlice rfl ⟨_, Try.underlying23⟩ rfl) rfl rfl ?_
      refine VL_run (d := 34) (run_ltI rfl rfl rfl) rfl rfl ?_
      refine VL_nil ?_
      refine VS_cond rfl (fun c2 => ?_) (fun c2 => ?_) <;> (try simp only [decide_eq_true_eq, decide_eq_false_iff_not, Bool.not_eq_true', Bool.not_eq_false', ne_eq, Decidable.not_not, cond_true, cond_false, Bool.and_eq_true, Bool.or_eq_true, Bool.and_eq_false_iff, Bool.or_eq_false_iff, Bool.not_true, Bool.not_false, reduceCtorEq] at c2)
      · repeat (first | refine VS_seq ?_ | refine VS_block ?_ | refine VS_skip ?_)
        have hk' : k < t.names.length := by omega
        obtain ⟨ad, cs1, rfl, s⟩ := s.openE (i := 0) rfl (by decide) (strsD_wd _) k (by simpa using hk')
        obtain rfl := Rd_str (by have := s.dat (i := 1) rfl; rw [strsD_get] at this; exact this)
        obtain ⟨ad', cs2, hsome, s⟩ := s.openE (i := 2) rfl (by decide) (strsD_wd _) (k - 1) (by simp; omega)
        obtain rfl := Option.some.inj hsome
        obtain rfl := Rd_str (by have := s.dat (i := 1) rfl; rw [strsD_get] at this; exact this)
        refine VS_meetB s 61 (!(nameFrom t.names[k] 0 && (decide (k = 0) || bl t.names[k - 1] t.names[k]))) [37, 38, 39, 40, 41, 42, 43, 44, 45, 46, 47, 48, 49, 50, 51, 52, 53, 54, 55, 56, 57, 58, 59, 60, 61] ?_ ?_
        · refine VS_drawS 25 s mixed ?_
          clear s; intro s
          refine VA_take 0 (d := 37) rfl (by kernel_rfl) rfl (fun w g => run_fieldAddr rfl fo26_3 rfl) s.see ?_
          refine VA_take 1 (d := 38) rfl (by kernel_rfl) rfl (fun w g => see_own1 g rfl ty23 rfl (i := 0) rfl rfl) s.see ?_
          refine VA_take 2 (d := 39) rfl (by kernel_rfl) rfl (fun w g => run_move rfl (by conv => lhs; whnf)) s.see ?_
          refine VA_take 3 (d := 40) rfl (by kernel_rfl) rfl (fun w g => run_indexAddr rfl Try.underlying23 ty9 rfl rfl (by omega) (by omega)) s.see ?_
          refine VA_take 4 (d := 41) rfl (by kernel_rfl) rfl (fun w g => see_at0 g rfl ty9 rfl (i := 2) rfl rfl) s.see ?_
          refine VA_one (i := 5) (by kernel_rfl) ?_
          refine VO_does (d := 42) rfl (does_call1 rfl (by kernel_rfl) rfl (l1NameOk_ok _ (Nat.le_trans (f4 _ (List.getElem_mem hk')) (by decide))) ?_) rfl rfl
          rintro _ w ⟨rfl, hb⟩
          replace s := s.step hb
          clear hb
          refine ⟨fun _ => s.sees (by intro b c t h; exact h) (by intro f h; exact h), ?_⟩
          refine VA_take 6 (d := 43) rfl (by kernel_rfl) rfl (fun w g => run_not rfl rfl) (by exact s.see) ?_
          refine VA_take 7 (d := 44) rfl (by kernel_rfl) rfl (fun w g => run_move rfl (by conv => lhs; whnf)) (by exact s.see) ?_
          refine VA_split 44 (by conv => lhs; whnf) (fun h44 => ?_) (fun h44 => ?_) <;> (try simp only [decide_eq_true_eq, decide_eq_false_iff_not, Bool.not_eq_true', Bool.not_eq_false', ne_eq, Decidable.not_not, cond_true, cond_false, Bool.and_eq_true, Bool.or_eq_true, Bool.and_eq_false_iff, Bool.or_eq_false_iff, Bool.not_true, Bool.not_false, reduceCtorEq] at h44)
          · refine VA_not 8 (d := 45) rfl (by kernel_rfl) rfl (by exact s.see) ?_
            refine VA_not 9 (d := 46) rfl (by kernel_rfl) rfl (by exact s.see) ?_
            refine VA_not 10 (d := 47) rfl (by kernel_rfl) rfl (by exact s.see) ?_
            refine VA_not 11 (d := 48) rfl (by kernel_rfl) rfl (by exact s.see) ?_
            refine VA_not 12 (d := 49) rfl (by kernel_rfl) rfl (by exact s.see) ?_
            refine VA_not 13 (d := 50) rfl (by kernel_rfl) rfl (by exact s.see) ?_
            refine VA_not 14 (d := 51) rfl (by kernel_rfl) rfl (by exact s.see) ?_
            refine VA_not 15 (d := 52) rfl (by kernel_rfl) rfl (by exact s.see) ?_
            refine VA_not 16 (d := 53) rfl (by kernel_rfl) rfl (by exact s.see) ?_
            refine VA_not 17 (d := 54) rfl (by kernel_rfl) rfl (by exact s.see) ?_
            refine VA_not 18 (d := 55) rfl (by kernel_rfl) rfl (by exact s.see) ?_
            refine VA_not 19 (d := 56) rfl (by kernel_rfl) rfl (by exact s.see) ?_
            refine VA_not 20 (d := 57) rfl (by kernel_rfl) rfl (by exact s.see) ?_
            refine VA_not 21 (d := 58) rfl (by kernel_rfl) rfl (by exact s.see) ?_
            refine VA_not 22 (d := 59) rfl (by kernel_rfl) rfl (by exact s.see) ?_
            refine VA_not 23 (d := 60) rfl (by kernel_rfl) rfl (by exact s.see) ?_
            refine VA_take 24 (d := 61) rfl (by kernel_rfl) rfl (fun w g => run_pickT rfl rfl rfl) (by exact s.see) ?_
            refine VA_done (by kernel_rfl) ?_
            exact VS_endB s (by conv => lhs; whnf) (by (simp_all; done)) (by repeat (first | exact Out.refl _ _ | refine Out.upd rfl ?_))
          · refine VA_take 8 (d := 45) rfl (by kernel_rfl) rfl (fun w g => run_move rfl (by conv => lhs; whnf)) (by exact s.see) ?_
            refine VA_take 9 (d := 46) rfl (by kernel_rfl) rfl (fun w g => run_gtI rfl rfl rfl) (by exact s.see) ?_
            refine VA_take 10 (d := 47) rfl (by kernel_rfl) rfl (fun w g => run_move rfl (by conv => lhs; whnf)) (by exact s.see) ?_
            refine VA_split 47 (by conv => lhs; whnf) (fun h47 => ?_) (fun h47 => ?_) <;> (try simp only [decide_eq_true_eq, decide_eq_false_iff_not, Bool.not_eq_true', Bool.not_eq_false', ne_eq, Decidable.not_not, cond_true, cond_false, Bool.and_eq_true, Bool.or_eq_true, Bool.and_eq_false_iff, Bool.or_eq_false_iff, Bool.not_true, Bool.not_false, reduceCtorEq] at h47)
            · refine VA_take 11 (d := 48) rfl (by kernel_rfl) rfl (fun w g => run_fieldAddr rfl fo26_3 rfl) (by exact s.see) ?_
              refine VA_take 12 (d := 49) rfl (by kernel_rfl) rfl (fun w g => see_own1 g rfl ty23 rfl (i := 0) rfl rfl) (by exact s.see) ?_
              refine VA_take 13 (d := 50) rfl (by kernel_rfl) rfl (fun w g => run_move rfl (by conv => lhs; whnf)) (by exact s.see) ?_
              refine VA_take 14 (d := 51) rfl (by kernel_rfl) rfl (fun w g => run_sub rfl rfl rfl (by omega)) (by exact s.see) ?_
              refine VA_take 15 (d := 52) rfl (by kernel_rfl) rfl (fun w g => run_indexAddrN (q := (k - 1)) rfl Try.underlying23 ty9 rfl rfl (by omega) (by omega)) (by exact s.see) ?_
              refine VA_take 16 (d := 53) rfl (by kernel_rfl) rfl (fun w g => see_at0 g rfl ty9 rfl (i := 0) rfl rfl) (by exact s.see) ?_
              refine VA_take 17 (d := 54) rfl (by kernel_rfl) rfl (fun w g => run_fieldAddr rfl fo26_3 rfl) (by exact s.see) ?_
              refine VA_take 18 (d := 55) rfl (by kernel_rfl) rfl (fun w g => see_own1 g rfl ty23 rfl (i := 0) rfl rfl) (by exact s.see) ?_
              refine VA_take 19 (d := 56) rfl (by kernel_rfl) rfl (fun w g => run_move rfl (by conv => lhs; whnf)) (by exact s.see) ?_
              refine VA_take 20 (d := 57) rfl (by kernel_rfl) rfl (fun w g => run_indexAddr rfl Try.underlying23 ty9 rfl rfl (by omega) (by omega)) (by exact s.see) ?_
              refine VA_take 21 (d := 58) rfl (by kernel_rfl) rfl (fun w g => see_at0 g rfl ty9 rfl (i := 2) rfl rfl) (by exact s.see) ?_
              refine VA_take 22 (d := 59) rfl (by kernel_rfl) rfl (fun w g => run_geS rfl rfl rfl) (by exact s.see) ?_
              refine VA_take 23 (d := 60) rfl (by kernel_rfl) rfl (fun w g => run_pickT rfl rfl rfl) (by exact s.see) ?_
              refine VA_take 24 (d := 61) rfl (by kernel_rfl) rfl (fun w g => run_pickF rfl rfl rfl) (by exact s.see) ?_
              refine VA_done (by kernel_rfl) ?_
              exact VS_endB s (by conv => lhs; whnf) (by (simp_all; omega)) (by repeat (first | exact Out.refl _ _ | refine Out.upd rfl ?_))
            · refine VA_not 11 (d := 48) rfl (by kernel_rfl) rfl (by exact s.see) ?_
              refine VA_not 12 (d := 49) rfl (by kernel_rfl) rfl (by exact s.see) ?_
              refine VA_not 13 (d := 50) rfl (by kernel_rfl) rfl (by exact s.see) ?_
              refine VA_not 14 (d := 51) rfl (by kernel_rfl) rfl (by exact s.see) ?_
              refine VA_not 15 (d := 52) rfl (by kernel_rfl) rfl (by exact s.see) ?_
              refine VA_not 16 (d := 53) rfl (by kernel_rfl) rfl (by exact s.see) ?_
              refine VA_not 17 (d := 54) rfl (by kernel_rfl) rfl (by exact s.see) ?_
              refine VA_not 18 (d := 55) rfl (by kernel_rfl) rfl (by exact s.see) ?_
              refine VA_not 19 (d := 56) rfl (by kernel_rfl) rfl (by exact s.see) ?_
              refine VA_not 20 (d := 57) rfl (by kernel_rfl) rfl (by exact s.see) ?_
              refine VA_not 21 (d := 58) rfl (by kernel_rfl) rfl (by exact s.see) ?_
              refine VA_not 22 (d := 59) rfl (by kernel_rfl) rfl (by exact s.see) ?_
              refine VA_take 23 (d := 60) rfl (by kernel_rfl) rfl (fun w g => run_pickF rfl rfl rfl) (by exact s.see) ?_
              refine VA_take 24 (d := 61) rfl (by kernel_rfl) rfl (fun w g => run_pickF rfl rfl rfl) (by exact s.see) ?_
              refine VA_done (by kernel_rfl) ?_
              exact VS_endB s (by conv => lhs; whnf) (by (simp_all; done)) (by repeat (first | exact Out.refl _ _ | refine Out.upd rfl ?_))
        clear s; intro w j61 s
        refine VS_cond rfl (fun c3 => ?_) (fun c3 => ?_) <;> (try simp only [decide_eq_true_eq, decide_eq_false_iff_not, Bool.not_eq_true', Bool.not_eq_false', ne_eq, Decidable.not_not, cond_true, cond_false, Bool.and_eq_true, Bool.or_eq_true, Bool.and_eq_false_iff, Bool.or_eq_false_iff, Bool.not_true, Bool.not_false, reduceCtorEq] at c3)
        · repeat (refine VS_seq ?_)
          refine VS_region_lit ?_
          refine VL_run (d := 2) (run_assign rfl (by conv => lhs; whnf)) rfl rfl ?_
          refine VL_nil ?_
          refine VS_ret ?_
          repeat (first | refine blockV_ret ?_ | refine backV_ret ?_)
          refine fin_one (fn := Try.f95) rfl (res_tmp (by conv => lhs; whnf)) ?_
          refine ⟨?_, s.below⟩
          have : namesUp t.names k = false := by clear s; rw [namesUp, dif_pos hk']; grind
          simp_all [Tr.plainOk]
        · repeat (first | refine VS_skip ?_ | refine VS_nil_block ?_)
          refine VS_region_lit ?_
          refine VL_run (d := 35) (run_move rfl (by conv => lhs; whnf)) rfl rfl ?_
          refine VL_run (d := 36) (run_add rfl rfl rfl (by omega)) rfl rfl ?_
          refine VL_run (d := 3) (run_assign rfl (by conv => lhs; whnf)) rfl rfl ?_
          refine VL_nil ?_
          refine VS_back (k + 1) ?_ (by repeat (first | exact Has.nil _ | refine Has.cons rfl ?_)) (by repeat (first | exact Out.mix _ _ _ | refine Out.upd rfl ?_ | refine Out.mix_in rfl ?_)) ?_
          · refine ⟨s.less (by simp), by omega, ?_⟩
            rw [hf, namesUp, dif_pos hk']
            simp_all
          · omega
      · refine VS_exit ?_
        repeat (first | refine blockV_hit ?_ | refine backV_exit ?_)
        repeat (refine VS_seq ?_)
        refine VS_region_lit ?_
        refine VL_run (d := 62) (run_fieldAddr rfl fo26_2 rfl) rfl rfl ?_
        refine VL_run (d := 63) (run_load_own1 s rfl ty9 rfl (i := 0) rfl rfl) rfl rfl ?_
        refine VL_run (d := 64) (run_eqS rfl rfl rfl) rfl rfl ?_
        refine VL_run (d := 2) (run_assign rfl (by conv => lhs; whnf)) rfl rfl ?_
        refine VL_nil ?_
        refine VS_ret ?_
        repeat (first | refine blockV_ret ?_ | refine backV_ret ?_ | refine backV2_ret ?_ | refine backV3_ret ?_ | refine thenV_ret ?_ | refine metV2_ret ?_)
        refine fin_one (fn := Try.f95) rfl (res_tmp (by conv => lhs; whnf)) ?_
        refine ⟨?_, s.below⟩
        have : namesUp t.names k = true := by rw [namesUp, dif_neg (by omega)]
        simp_all [Tr.plainOk]
end Go.Proofs.Ytkefaelmamgjiaa
