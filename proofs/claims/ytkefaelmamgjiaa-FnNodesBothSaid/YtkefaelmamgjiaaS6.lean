/- spec: l2Write. -/
import Derived.Test.YtkefaelmamgjiaaS5
set_option linter.unusedVariables false
set_option linter.unusedSimpArgs false
set_option maxHeartbeats 4000000
namespace Go.Proofs.Ytkefaelmamgjiaa
open Go.RowKit

/-- Bytes with others written at a place, noughts between. -/
def writeL (l : List UInt8) (a : Nat) (d : List UInt8) : List UInt8 :=
  ((l ++ List.replicate (a + d.length - l.length) 0).take a) ++ d ++ (l ++ List.replicate (a + d.length - l.length) 0).drop (a + d.length)
def writeB (s : ByteArray) (a : Nat) (d : ByteArray) : ByteArray := ⟨(writeL s.data.toList a d.data.toList).toArray⟩
theorem l2Write_ok (t : ByteArray) (a : Nat) (d : ByteArray) {w0 : World} (ht : t.size ≤ 1000000000) (ha : a ≤ 1000000000) (hd : d.size ≤ 1000000000) :
    Calls Try.prog 142 #[.string t, .int .i64 a, .string d] w0 (Ret fun v w' => v = .string (writeB t a d) ∧ Below w0.heap.size w0 w') := by
  have hts : t.data.toList.length = t.size := rfl
  have hds : d.data.toList.length = d.size := rfl
  have s := St.start (fun _ => False) w0
  refine calls_enter (n := 37) Try.func142 rfl rfl rfl ?_
  repeat (refine VS_seq ?_)
  refine VS_region_lit ?_
  refine VL_run (d := 6) (run_assign rfl (by conv => lhs; whnf)) rfl rfl ?_
  refine VL_nil ?_
  repeat (refine VS_seq ?_)
  refine VS_region_lit ?_
  refine VL_run (d := 9) (run_move rfl (by conv => lhs; whnf)) rfl rfl ?_
  refine VL_does (d := 10) (does_s2b s rfl Try.underlying9 Try.underlying22 Try.underlying5 rfl (by omega) ?_) rfl rfl
  clear s; intro g10 c10 w s
  refine VL_run (d := 7) (run_assign rfl (by conv => lhs; whnf)) rfl rfl ?_
  refine VL_nil ?_
  repeat (first | refine VS_seq ?_ | refine VS_block ?_)
  refine VS_loop2 [7, 11, 12, 13, 14, 15, 16, 17, 18, 19, 20] (fun (k : Nat) (v : Value) => [(7, v)]) (fun k v w => ∃ A c, v = .slice A (t.size + k) c ∧ St (fun _ => False) w0 [.row v 5 1 (bytesL (t.data.toList ++ List.replicate k 0))] [] w ∧ k ≤ a + d.size - t.size) (fun k _ => a + d.size - k) 0 _ ⟨_, _, rfl, by simpa using s, by omega⟩ (by repeat (first | exact Has.nil _ | refine Has.cons rfl ?_)) ?_
  clear s
  rintro k v w j ⟨A, c, rfl, s, hk⟩
  repeat (refine VS_seq ?_)
  refine VS_region_lit ?_
  refine VL_run (d := 11) (run_move rfl (by conv => lhs; whnf)) rfl rfl ?_
  refine VL_run (d := 12) (run_lenSlice rfl ⟨_, Try.underlying22⟩ rfl) rfl rfl ?_
  refine VL_run (d := 13) (run_move rfl (by conv => lhs; whnf)) rfl rfl ?_
  refine VL_run (d := 14) (run_move rfl (by conv => lhs; whnf)) rfl rfl ?_
  refine VL_run (d := 15) (run_lenStr rfl Try.underlying9 rfl) rfl rfl ?_
  refine VL_run (d := 16) (run_add rfl rfl rfl (by omega)) rfl rfl ?_
  refine VL_run (d := 17) (run_ltI rfl rfl rfl) rfl rfl ?_
  refine VL_nil ?_
  refine VS_cond rfl (fun c0 => ?_) (fun c0 => ?_) <;> (try simp only [decide_eq_true_eq, decide_eq_false_iff_not, Bool.not_eq_true', Bool.not_eq_false', ne_eq, Decidable.not_not, cond_true, cond_false, Bool.and_eq_true, Bool.or_eq_true, Bool.and_eq_false_iff, Bool.or_eq_false_iff, Bool.not_true, Bool.not_false, reduceCtorEq] at c0)
  · repeat (first | refine VS_block ?_ | refine VS_skip ?_)
    refine VS_region_lit ?_
    refine VL_run (d := 18) (run_move rfl (by conv => lhs; whnf)) rfl rfl ?_
    refine VL_does (d := 19) (does_slice1 s rfl Try.underlying22 ty5 (by decide) (by decide) rfl rfl (show Rd _ _ (.int .u8 0) [.int .u8 0] from rfl) rfl ?_) rfl rfl
    clear s; intro g19 w s
    (refine VL_does (d := 20) (does_appendR s rfl Try.underlying22 ty5 (by decide) (by decide) (i := 0) rfl rfl rfl (by simp <;> omega) (show _ = bytesL (t.data.toList ++ List.replicate (k + 1) 0) by rw [List.replicate_succ', ← List.append_assoc]; exact bytesL_snoc _ 0) (show _ = t.size + (k + 1) by simp [hts]) ?_) rfl rfl)
    clear s; intro A20 c20 w s
    try simp only [List.set_cons_zero, List.set_cons_succ, patch, List.take_succ_cons, List.take_zero, List.drop_succ_cons, List.drop_zero, List.drop_nil, List.nil_append, List.cons_append, List.append_nil, List.length_cons, List.length_nil, Nat.reduceAdd, Nat.zero_add] at s
    refine VL_run (d := 7) (run_assign rfl (by conv => lhs; whnf)) rfl rfl ?_
    refine VL_nil ?_
    repeat (refine VS_nil_block ?_)
    refine VS_back2 (k + 1) (_) ?_ (by repeat (first | exact Has.nil _ | refine Has.cons rfl ?_)) (by repeat (first | exact Out.mix _ _ _ | refine Out.upd rfl ?_)) ?_
    · exact ⟨_, _, rfl, s, by omega⟩
    · omega
  · refine VS_exit ?_
    repeat (first | refine blockV_hit ?_ | refine backV_exit ?_)
    obtain rfl : k = a + d.size - t.size := by omega
    have hpl : (t.data.toList ++ List.replicate (a + d.size - t.size) (0 : UInt8)).length = t.size + (a + d.size - t.size) := by simp [hts]
    generalize hpad : t.data.toList ++ List.replicate (a + d.size - t.size) (0 : UInt8) = pad at s hpl
    repeat (refine VS_seq ?_)
    refine VS_region_lit ?_
    refine VL_run (d := 8) (run_assign rfl (by conv => lhs; whnf)) rfl rfl ?_
    refine VL_nil ?_
    repeat (refine VS_block ?_)
    refine VS_loop [8, 21, 22, 23, 24, 25, 26, 27, 28, 29, 30, 31, 32, 33, 34] (fun k : Nat => [(8, .int .i64 k)]) (fun k w => ∃ l : List UInt8, St (fun _ => False) w0 [.row (.slice A (t.size + (a + d.size - t.size)) c) 5 1 (bytesL l)] [] w ∧ k ≤ d.size ∧ l = pad.take a ++ d.data.toList.take k ++ pad.drop (a + k)) (fun k => d.size - k) 0 ⟨pad, s, by omega, by simp⟩ (by repeat (first | exact Has.nil _ | refine Has.cons rfl ?_)) ?_
    clear s
    rintro k w j ⟨l, s, hk, hl⟩
    repeat (refine VS_seq ?_)
    refine VS_region_lit ?_
    refine VL_run (d := 21) (run_move rfl (by conv => lhs; whnf)) rfl rfl ?_
    refine VL_run (d := 22) (run_move rfl (by conv => lhs; whnf)) rfl rfl ?_
    refine VL_run (d := 23) (run_lenStr rfl Try.underlying9 rfl) rfl rfl ?_
    refine VL_run (d := 24) (run_ltI rfl rfl rfl) rfl rfl ?_
    refine VL_nil ?_
    refine VS_cond rfl (fun c1 => ?_) (fun c1 => ?_) <;> (try simp only [decide_eq_true_eq, decide_eq_false_iff_not, Bool.not_eq_true', Bool.not_eq_false', ne_eq, Decidable.not_not, cond_true, cond_false, Bool.and_eq_true, Bool.or_eq_true, Bool.and_eq_false_iff, Bool.or_eq_false_iff, Bool.not_true, Bool.not_false, reduceCtorEq] at c1)
    · repeat (first | refine VS_seq ?_ | refine VS_block ?_ | refine VS_skip ?_)
      have hk' : k < d.size := by omega
      have hb : d[(k : Int).toNat]? = some d[k] := by simp [hk']
      have hll : l.length = t.size + (a + d.size - t.size) := by rw [hl]; simp [hpl, hds]; omega
      obtain ⟨A', c', hv, -, hA⟩ := s.rowForm (i := 0) rfl
      obtain ⟨g, rfl⟩ := hA (by simp; omega)
      obtain ⟨rfl, -, rfl⟩ := (by simpa using hv : A = some ⟨g, 0, none⟩ ∧ _ ∧ c = c')
      refine VS_region_lit ?_
      refine VL_run (d := 27) (run_move rfl (by conv => lhs; whnf)) rfl rfl ?_
      refine VL_run (d := 28) (run_move rfl (by conv => lhs; whnf)) rfl rfl ?_
      refine VL_run (d := 29) (run_move rfl (by conv => lhs; whnf)) rfl rfl ?_
      refine VL_run (d := 30) (run_add rfl rfl rfl (by omega)) rfl rfl ?_
      refine VL_run (d := 31) (run_move rfl (by conv => lhs; whnf)) rfl rfl ?_
      refine VL_run (d := 32) (run_move rfl (by conv => lhs; whnf)) rfl rfl ?_
      refine VL_run (d := 33) (run_indexStr rfl Try.underlying9 rfl rfl (by omega) ‹_›) rfl rfl ?_
      refine VL_run (d := 34) (run_indexAddrN (q := a + k) rfl Try.underlying22 ty5 rfl rfl (by omega) (by omega)) rfl rfl ?_
      refine VL_doesU (does_storeE (a + k) (d' := .int .u8 (d[k].toNat : Int)) (cs := [.int .u8 (d[k].toNat : Int)]) s rfl ty5 rfl rfl (i := 0) rfl (by simp; omega) rfl rfl rfl (bytesL_set _ _ _) ?_) rfl rfl rfl; clear s; intro w s; simp only [List.set_cons_zero] at s
      refine VL_nil ?_
      repeat (refine VS_nil_block ?_)
      refine VS_region_lit ?_
      refine VL_run (d := 25) (run_move rfl (by conv => lhs; whnf)) rfl rfl ?_
      refine VL_run (d := 26) (run_add rfl rfl rfl (by omega)) rfl rfl ?_
      refine VL_run (d := 8) (run_assign rfl (by conv => lhs; whnf)) rfl rfl ?_
      refine VL_nil ?_
      refine VS_back (k + 1) ?_ (by repeat (first | exact Has.nil _ | refine Has.cons rfl ?_)) (by repeat (first | exact Out.mix _ _ _ | refine Out.upd rfl ?_)) ?_
      · refine ⟨_, s, by omega, ?_⟩
        rw [hl]
        have h1 : (pad.take a ++ d.data.toList.take k).length = a + k := by simp [hpl, hds]; omega
        have h2 := List.drop_eq_getElem_cons (l := pad) (i := a + k) (by omega)
        rw [h2, List.set_append_right _ _ (by omega), h1, Nat.sub_self, List.set_cons_zero, ← take_snoc (l := d.data.toList) (k := k) (by omega)]
        simp only [List.append_assoc, List.singleton_append, Nat.add_assoc]
        rfl
      · omega
    · refine VS_exit ?_
      repeat (first | refine blockV_hit ?_ | refine backV_exit ?_)
      repeat (refine VS_seq ?_)
      refine VS_region_lit ?_
      refine VL_run (d := 35) (run_move rfl (by conv => lhs; whnf)) rfl rfl ?_
      refine VL_run (d := 36) (run_b2s s rfl Try.underlying22 Try.underlying9 Try.underlying5 (i := 0) rfl rfl) rfl rfl ?_
      refine VL_run (d := 6) (run_assign rfl (by conv => lhs; whnf)) rfl rfl ?_
      refine VL_nil ?_
      refine VS_ret ?_
      repeat (first | refine blockV_ret ?_ | refine backV_ret ?_ | refine backV2_ret ?_ | refine backV3_ret ?_ | refine thenV_ret ?_ | refine metV2_ret ?_)
      refine fin_one (fn := Try.f142) rfl (res_tmp (by conv => lhs; whnf)) ?_
      refine ⟨?_, s.below⟩
      obtain rfl : k = d.size := by omega
      have : l = writeL t.data.toList a d.data.toList := by
        rw [hl, writeL, hts, hds, hpad, ← hds, List.take_length]
      rw [this]
      rfl
end Go.Proofs.Ytkefaelmamgjiaa
