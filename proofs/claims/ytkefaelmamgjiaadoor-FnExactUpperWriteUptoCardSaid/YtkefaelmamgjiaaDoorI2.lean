/- impl: pathText, hexOf, dataText, line, entryOk. -/
import Derived.Test.YtkefaelmamgjiaaDoorI1
import Derived.Test.YtkefaelmamgjiaaDoorU1
import Derived.Test.YtkefaelmamgjiaaDoorU3
set_option linter.unusedVariables false
set_option linter.unusedSimpArgs false
set_option maxHeartbeats 2000000
namespace Go.Proofs.YtkefaelmamgjiaaDoor
open Go.RowKit

theorem pathText_ok (p : List ByteArray) {ok : Nat → Prop} {w0 : World} {v1 : Value} (h1 : Rd ok w0 (.sl (strsD p)) [v1]) (hp : PFit p) :
    Calls Tryd.prog 20 #[v1] w0 (Ret fun v w' => v = .string (pathT p) ∧ Below w0.heap.size w0 w') := by
  obtain ⟨A, c, e1, hl1⟩ := Rd_strs h1
  obtain rfl := List.singleton_inj.1 e1
  have f1 := hp.len
  have s := (St.start ok w0).begin h1
  refine calls_enter (n := 9) Tryd.func20 rfl rfl rfl ?_
  repeat (first | refine VS_seq ?_ | refine VS_block ?_ | refine VS_skip ?_ | refine VS_nil_block ?_)
  refine VS_region_lit ?_
  refine VL_run (d := 2) (run_assign rfl (by conv => lhs; whnf)) rfl rfl ?_
  refine VL_nil ?_
  repeat (first | refine VS_seq ?_ | refine VS_block ?_ | refine VS_skip ?_ | refine VS_nil_block ?_)
  refine VS_region_lit ?_
  refine VL_run (d := 3) (run_move rfl (by conv => lhs; whnf)) rfl rfl ?_
  refine VL_run (d := 4) (run_lenSlice rfl ⟨_, Tryd.underlying37⟩ rfl) rfl rfl ?_
  refine VL_run (d := 5) (run_eqI rfl rfl rfl) rfl rfl ?_
  refine VL_nil ?_
  refine VS_cond rfl (fun c0 => ?_) (fun c0 => ?_) <;> (try simp only [decide_eq_true_eq, decide_eq_false_iff_not, Bool.not_eq_true', Bool.not_eq_false', ne_eq, Decidable.not_not, cond_true, cond_false, Bool.and_eq_true, Bool.or_eq_true, Bool.and_eq_false_iff, Bool.or_eq_false_iff, Bool.not_true, Bool.not_false, reduceCtorEq] at c0)
  · repeat (first | refine VS_seq ?_ | refine VS_block ?_ | refine VS_skip ?_ | refine VS_nil_block ?_)
    refine VS_region_lit ?_
    refine VL_run (d := 2) (run_assign rfl (by conv => lhs; whnf)) rfl rfl ?_
    refine VL_nil ?_
    refine VS_ret ?_
    repeat (first | refine blockV_ret ?_ | refine backV_ret ?_ | refine backV2_ret ?_ | refine backV3_ret ?_ | refine thenV_ret ?_ | refine metV2_ret ?_)
    refine fin_one (fn := Tryd.f20) rfl (res_tmp (by conv => lhs; whnf)) ?_
    refine ⟨?_, s.below⟩
    obtain rfl : p = [] := List.eq_nil_of_length_eq_zero (by omega)
    rfl
  · have hne : p ≠ [] := fun h => c0 (by rw [h]; rfl)
    have hpl := pathL_len p
    have hj : (ba (Lib.join (p.map (·.data.toList)) [47])).size + 1 = (pathL p).length := by
      cases p with
      | nil => exact absurd rfl hne
      | cons x r => rw [← join_path]; rfl
    unfold PFit at hp
    repeat (first | refine VS_seq ?_ | refine VS_block ?_ | refine VS_skip ?_ | refine VS_nil_block ?_)
    refine VS_region_lit ?_
    refine VL_run (d := 6) (run_move rfl (by conv => lhs; whnf)) rfl rfl ?_
    refine VL_does (d := 7) (does_call2 rfl (by kernel_rfl) rfl rfl (Join_ok p hne (s.dat (i := 0) rfl) hp) ?_) rfl rfl
    rintro _ w ⟨rfl, hb⟩
    replace s := s.step hb
    clear hb
    refine VL_run (d := 8) (run_addS rfl rfl rfl (by have x1 : (ByteArray.mk #[47]).size = 1 := rfl; omega)) rfl rfl ?_
    refine VL_run (d := 2) (run_assign rfl (by conv => lhs; whnf)) rfl rfl ?_
    refine VL_nil ?_
    refine VS_ret ?_
    repeat (first | refine blockV_ret ?_ | refine backV_ret ?_ | refine backV2_ret ?_ | refine backV3_ret ?_ | refine thenV_ret ?_ | refine metV2_ret ?_)
    refine fin_one (fn := Tryd.f20) rfl (res_tmp (by conv => lhs; whnf)) ?_
    refine ⟨congrArg Value.string (ba_ext ?_), s.below⟩
    cases p with
    | nil => exact absurd rfl hne
    | cons x r =>
      rw [app_list]
      show 47 :: Lib.join _ [47] = pathL (x :: r)
      exact join_path x r
theorem fill_two (a b : Int) (A : Array Value) (hA : A.size = 2 * 1) : Instr.fill (fun i => some (i * 1, 1)) A [(0, .int .u8 a), (1, .int .u8 b)] = some #[.int .u8 a, .int .u8 b] := by
  obtain ⟨l⟩ := A
  match l, hA with
  | [x, y], _ => simp [Instr.fill, Value.cells]
theorem hexOf_ok (t : ByteArray) (ht : t.size ≤ 1000000000) {w0 : World} :
    Calls Tryd.prog 46 #[.string t] w0 (Ret fun v w' => v = .string (ba (hexL t.data.toList)) ∧ Below w0.heap.size w0 w') := by
  have s := St.start (fun _ => False) w0
  refine calls_enter (n := 27) Tryd.func46 rfl rfl rfl ?_
  repeat (first | refine VS_seq ?_ | refine VS_block ?_ | refine VS_skip ?_ | refine VS_nil_block ?_)
  refine VS_region_lit ?_
  refine VL_run (d := 2) (run_assign rfl (by conv => lhs; whnf)) rfl rfl ?_
  refine VL_nil ?_
  repeat (first | refine VS_seq ?_ | refine VS_block ?_ | refine VS_skip ?_ | refine VS_nil_block ?_)
  refine VS_region_lit ?_
  refine VL_does (d := 5) (does_slice0 s rfl Tryd.underlying50 ty5 ?_) rfl rfl
  clear s; intro g5 w s
  refine VL_run (d := 3) (run_assign rfl (by conv => lhs; whnf)) rfl rfl ?_
  refine VL_nil ?_
  repeat (first | refine VS_seq ?_ | refine VS_block ?_ | refine VS_skip ?_ | refine VS_nil_block ?_)
  refine VS_region_lit ?_
  refine VL_run (d := 4) (run_assign rfl (by conv => lhs; whnf)) rfl rfl ?_
  refine VL_nil ?_
  repeat (first | refine VS_seq ?_ | refine VS_block ?_ | refine VS_skip ?_ | refine VS_nil_block ?_)
  refine VS_loop2 [3, 4, 6, 7, 8, 9, 10, 11, 12, 13, 14, 15, 16, 17, 18, 19, 20, 21, 22, 23, 24] (fun (k : Nat) (v : Value) => [(4, .int .i64 k), (3, v)]) (fun k v w => k ≤ t.size ∧ St (fun _ => False) w0 [.row v 5 1 (bytesL (hexL (t.data.toList.take k)))] [] w) (fun k _ => t.size - k) 0 _ ⟨by omega, s⟩ (by repeat (first | exact Has.nil _ | refine Has.cons rfl ?_)) ?_
  clear s
  rintro k v w j ⟨hk, s⟩
  repeat (first | refine VS_seq ?_ | refine VS_block ?_ | refine VS_skip ?_ | refine VS_nil_block ?_)
  refine VS_region_lit ?_
  refine VL_run (d := 6) (run_move rfl (by conv => lhs; whnf)) rfl rfl ?_
  refine VL_run (d := 7) (run_move rfl (by conv => lhs; whnf)) rfl rfl ?_
  refine VL_run (d := 8) (run_lenStr rfl Tryd.underlying9 rfl) rfl rfl ?_
  refine VL_run (d := 9) (run_ltI rfl rfl rfl) rfl rfl ?_
  refine VL_nil ?_
  refine VS_cond rfl (fun c0 => ?_) (fun c0 => ?_) <;> (try simp only [decide_eq_true_eq, decide_eq_false_iff_not, Bool.not_eq_true', Bool.not_eq_false', ne_eq, Decidable.not_not, cond_true, cond_false, Bool.and_eq_true, Bool.or_eq_true, Bool.and_eq_false_iff, Bool.or_eq_false_iff, Bool.not_true, Bool.not_false, reduceCtorEq] at c0)
  · repeat (first | refine VS_seq ?_ | refine VS_block ?_ | refine VS_skip ?_ | refine VS_nil_block ?_)
    have hk' : k < t.size := by omega
    have hb : t[(k : Int).toNat]? = some t[k] := by simp [hk']
    have hlt : t[k].toNat < 256 := t[k].toNat_lt
    have hb1 : digT[((t[k].toNat : Int) / 16).toNat]? = some (dig (t[k].toNat / 16)) := by
      rw [show ((t[k].toNat : Int) / 16).toNat = t[k].toNat / 16 by omega]
      exact dig_get _ (by omega)
    have hb2 : digT[((t[k].toNat : Int) % 16).toNat]? = some (dig (t[k].toNat % 16)) := by
      rw [show ((t[k].toNat : Int) % 16).toNat = t[k].toNat % 16 by omega]
      exact dig_get _ (by omega)
    unfold digT at hb1 hb2
    have hlen := hexL_len (t.data.toList.take k)
    have hlen2 := List.length_take_le k t.data.toList
    have htk : t.data.toList.take (k + 1) = t.data.toList.take k ++ [t[k]] := (take_snoc (l := t.data.toList) (k := k) hk').symm
    refine VS_drawS 13 s mixed ?_
    clear s; intro s
    refine VA_take 0 (d := 12) rfl (by kernel_rfl) rfl (fun w g => run_move rfl (by conv => lhs; whnf)) s.see ?_
    refine VA_take 1 (d := 13) rfl (by kernel_rfl) rfl (fun w g => run_move rfl (by conv => lhs; whnf)) s.see ?_
    refine VA_take 2 (d := 14) rfl (by kernel_rfl) rfl (fun w g => run_move rfl (by conv => lhs; whnf)) s.see ?_
    refine VA_take 3 (d := 15) rfl (by kernel_rfl) rfl (fun w g => run_indexStr rfl Tryd.underlying9 rfl rfl (by omega) ‹_›) s.see ?_
    refine VA_take 4 (d := 16) rfl (by kernel_rfl) rfl (fun w g => run_quo8 rfl rfl rfl (by omega) (by omega) (by omega)) s.see ?_
    refine VA_take 5 (d := 17) rfl (by kernel_rfl) rfl (fun w g => run_indexStr rfl Tryd.underlying9 rfl rfl (by omega) ‹_›) s.see ?_
    refine VA_take 6 (d := 18) rfl (by kernel_rfl) rfl (fun w g => run_move rfl (by conv => lhs; whnf)) s.see ?_
    refine VA_take 7 (d := 19) rfl (by kernel_rfl) rfl (fun w g => run_move rfl (by conv => lhs; whnf)) s.see ?_
    refine VA_take 8 (d := 20) rfl (by kernel_rfl) rfl (fun w g => run_indexStr rfl Tryd.underlying9 rfl rfl (by omega) ‹_›) s.see ?_
    refine VA_take 9 (d := 21) rfl (by kernel_rfl) rfl (fun w g => run_rem rfl rfl rfl (by omega) (by omega)) s.see ?_
    refine VA_take 10 (d := 22) rfl (by kernel_rfl) rfl (fun w g => run_indexStr rfl Tryd.underlying9 rfl rfl (by omega) ‹_›) s.see ?_
    refine VA_one (i := 11) (by kernel_rfl) ?_
    refine VO_does (d := 23) rfl (does_sliceN (cs := [.int .u8 (dig (t[k].toNat / 16)).toNat, .int .u8 (dig (t[k].toNat % 16)).toNat]) (ds := bytesL [dig (t[k].toNat / 16), dig (t[k].toNat % 16)])  s rfl Tryd.underlying50 ty5 (by decide) (by decide)  (fun A hA => fill_two _ _ A hA) (bytesL_rd _) (bytesL_wd _) rfl ?_) rfl rfl
    clear s; intro g23 w s
    refine ⟨fun _ => s.sees (by intro b c t h; first | exact h | exact .tail _ h | exact .tail _ (.tail _ h) | exact .tail _ (.tail _ (.tail _ h)) | (simp only [List.mem_cons, List.not_mem_nil, or_false, List.set_cons_zero, List.set_cons_succ, reduceCtorEq, false_or] at h ⊢ <;> first | exact h | exact .inr h | exact .inr (.inr h) | exact .inr (.inr (.inr h)) | (rcases h with h | h | h | h | h | h <;> simp [h]) | simp_all)) (by intro f h; first | exact h | exact .tail _ h | exact .tail _ (.tail _ h) | exact .tail _ (.tail _ (.tail _ h)) | (simp only [List.mem_cons, List.not_mem_nil, or_false] at h ⊢ <;> first | exact h | exact .inr h | exact .inr (.inr h) | exact .inr (.inr (.inr h)) | (rcases h with h | h | h | h | h | h <;> simp [h]) | simp_all)), ?_⟩
    refine VA_one (i := 12) (by kernel_rfl) ?_
    first | (refine VO_does (d := 24) rfl (does_appendR s rfl Tryd.underlying50 ty5 (by decide) (by decide) (i := 0) rfl rfl rfl (by simp [bytesL] <;> omega) (show _ = bytesL (hexL (t.data.toList.take (k + 1))) by rw [htk, hexL_snoc]; simp [bytesL]) rfl ?_) rfl rfl) | (refine VO_does (d := 24) rfl (does_appendR s rfl Tryd.underlying50 ty5 (by decide) (by decide) (i := 1) rfl rfl rfl (by simp [bytesL] <;> omega) (show _ = bytesL (hexL (t.data.toList.take (k + 1))) by rw [htk, hexL_snoc]; simp [bytesL]) rfl ?_) rfl rfl) | (refine VO_does (d := 24) rfl (does_appendR s rfl Tryd.underlying50 ty5 (by decide) (by decide) (i := 2) rfl rfl rfl (by simp [bytesL] <;> omega) (show _ = bytesL (hexL (t.data.toList.take (k + 1))) by rw [htk, hexL_snoc]; simp [bytesL]) rfl ?_) rfl rfl) | (refine VO_does (d := 24) rfl (does_appendR s rfl Tryd.underlying50 ty5 (by decide) (by decide) (i := 3) rfl rfl rfl (by simp [bytesL] <;> omega) (show _ = bytesL (hexL (t.data.toList.take (k + 1))) by rw [htk, hexL_snoc]; simp [bytesL]) rfl ?_) rfl rfl) | (refine VO_does (d := 24) rfl (does_appendR s rfl Tryd.underlying50 ty5 (by decide) (by decide) (i := 4) rfl rfl rfl (by simp [bytesL] <;> omega) (show _ = bytesL (hexL (t.data.toList.take (k + 1))) by rw [htk, hexL_snoc]; simp [bytesL]) rfl ?_) rfl rfl) | (refine VO_does (d := 24) rfl (does_appendR s rfl Tryd.underlying50 ty5 (by decide) (by decide) (i := 5) rfl rfl rfl (by simp [bytesL] <;> omega) (show _ = bytesL (hexL (t.data.toList.take (k + 1))) by rw [htk, hexL_snoc]; simp [bytesL]) rfl ?_) rfl rfl) | (refine VO_does (d := 24) rfl (does_appendR s rfl Tryd.underlying50 ty5 (by decide) (by decide) (i := 6) rfl rfl rfl (by simp [bytesL] <;> omega) (show _ = bytesL (hexL (t.data.toList.take (k + 1))) by rw [htk, hexL_snoc]; simp [bytesL]) rfl ?_) rfl rfl) | (refine VO_does (d := 24) rfl (does_appendR s rfl Tryd.underlying50 ty5 (by decide) (by decide) (i := 7) rfl rfl rfl (by simp [bytesL] <;> omega) (show _ = bytesL (hexL (t.data.toList.take (k + 1))) by rw [htk, hexL_snoc]; simp [bytesL]) rfl ?_) rfl rfl) | (refine VO_does (d := 24) rfl (does_appendR s rfl Tryd.underlying50 ty5 (by decide) (by decide) (i := 8) rfl rfl rfl (by simp [bytesL] <;> omega) (show _ = bytesL (hexL (t.data.toList.take (k + 1))) by rw [htk, hexL_snoc]; simp [bytesL]) rfl ?_) rfl rfl)
    clear s; intro A24 c24 w s
    try simp only [List.set_cons_zero, List.set_cons_succ, patch, List.take_succ_cons, List.take_zero, List.drop_succ_cons, List.drop_zero, List.drop_nil, List.nil_append, List.cons_append, List.append_nil, List.length_cons, List.length_nil, Nat.reduceAdd, Nat.zero_add] at s
    refine ⟨fun _ => s.sees (by intro b c t h; first | exact h | exact .tail _ h | exact .tail _ (.tail _ h) | exact .tail _ (.tail _ (.tail _ h)) | (simp only [List.mem_cons, List.not_mem_nil, or_false, List.set_cons_zero, List.set_cons_succ, reduceCtorEq, false_or] at h ⊢ <;> first | exact h | exact .inr h | exact .inr (.inr h) | exact .inr (.inr (.inr h)) | (rcases h with h | h | h | h | h | h <;> simp [h]) | simp_all)) (by intro f h; first | exact h | exact .tail _ h | exact .tail _ (.tail _ h) | exact .tail _ (.tail _ (.tail _ h)) | (simp only [List.mem_cons, List.not_mem_nil, or_false] at h ⊢ <;> first | exact h | exact .inr h | exact .inr (.inr h) | exact .inr (.inr (.inr h)) | (rcases h with h | h | h | h | h | h <;> simp [h]) | simp_all)), ?_⟩
    refine VA_one (i := 13) (by kernel_rfl) ?_
    refine VO_run (d := 3) rfl (run_assign rfl (by conv => lhs; whnf)) rfl rfl ((fun h => nomatch (show true = false from h))) ?_
    refine VA_done (by kernel_rfl) ?_
    repeat (first | refine VS_seq ?_ | refine VS_block ?_ | refine VS_skip ?_ | refine VS_nil_block ?_)
    refine VS_region_lit ?_
    refine VL_run (d := 10) (run_move rfl (by conv => lhs; whnf)) rfl rfl ?_
    refine VL_run (d := 11) (run_add rfl rfl rfl (by omega)) rfl rfl ?_
    refine VL_run (d := 4) (run_assign rfl (by conv => lhs; whnf)) rfl rfl ?_
    refine VL_nil ?_
    refine VS_back2 (k + 1) (_) ?_ (by repeat (first | exact Has.nil _ | refine Has.cons rfl ?_)) (by repeat (first | exact Out.mix _ _ _ | exact Out.refl _ _ | refine Out.upd rfl ?_ | refine Out.mix_in rfl ?_)) ?_
    · exact ⟨by omega, s⟩
    · omega
  · refine VS_exit ?_
    repeat (first | refine blockV_hit ?_ | refine backV_exit ?_ | refine backV2_exit ?_ | refine backV3_exit ?_ | refine blockV_miss rfl ?_ | refine thenV_exit ?_ | refine metV2_exit ?_)
    obtain rfl : k = t.size := by omega
    rw [← size_list, List.take_length] at s
    repeat (first | refine VS_seq ?_ | refine VS_block ?_ | refine VS_skip ?_ | refine VS_nil_block ?_)
    refine VS_region_lit ?_
    refine VL_run (d := 25) (run_move rfl (by conv => lhs; whnf)) rfl rfl ?_
    first | (refine VL_run (d := 26) (run_b2s s rfl Tryd.underlying50 Tryd.underlying9 Tryd.underlying5 (i := 0) rfl rfl) rfl rfl ?_) | (refine VL_run (d := 26) (run_b2s s rfl Tryd.underlying50 Tryd.underlying9 Tryd.underlying5 (i := 1) rfl rfl) rfl rfl ?_) | (refine VL_run (d := 26) (run_b2s s rfl Tryd.underlying50 Tryd.underlying9 Tryd.underlying5 (i := 2) rfl rfl) rfl rfl ?_) | (refine VL_run (d := 26) (run_b2s s rfl Tryd.underlying50 Tryd.underlying9 Tryd.underlying5 (i := 3) rfl rfl) rfl rfl ?_) | (refine VL_run (d := 26) (run_b2s s rfl Tryd.underlying50 Tryd.underlying9 Tryd.underlying5 (i := 4) rfl rfl) rfl rfl ?_) | (refine VL_run (d := 26) (run_b2s s rfl Tryd.underlying50 Tryd.underlying9 Tryd.underlying5 (i := 5) rfl rfl) rfl rfl ?_) | (refine VL_run (d := 26) (run_b2s s rfl Tryd.underlying50 Tryd.underlying9 Tryd.underlying5 (i := 6) rfl rfl) rfl rfl ?_) | (refine VL_run (d := 26) (run_b2s s rfl Tryd.underlying50 Tryd.underlying9 Tryd.underlying5 (i := 7) rfl rfl) rfl rfl ?_) | (refine VL_run (d := 26) (run_b2s s rfl Tryd.underlying50 Tryd.underlying9 Tryd.underlying5 (i := 8) rfl rfl) rfl rfl ?_)
    refine VL_run (d := 2) (run_assign rfl (by conv => lhs; whnf)) rfl rfl ?_
    refine VL_nil ?_
    refine VS_ret ?_
    repeat (first | refine blockV_ret ?_ | refine backV_ret ?_ | refine backV2_ret ?_ | refine backV3_ret ?_ | refine thenV_ret ?_ | refine metV2_ret ?_)
    refine fin_one (fn := Tryd.f46) rfl (res_tmp (by conv => lhs; whnf)) ?_
    exact ⟨rfl, s.below⟩
theorem dataText_ok (t : ByteArray) (ht : t.size ≤ 1000000000) {w0 : World} :
    Calls Tryd.prog 40 #[.string t] w0 (Ret fun v w' => v = .string (hexT t) ∧ Below w0.heap.size w0 w') := by
  have s := St.start (fun _ => False) w0
  refine calls_enter (n := 7) Tryd.func40 rfl rfl rfl ?_
  repeat (first | refine VS_seq ?_ | refine VS_block ?_ | refine VS_skip ?_ | refine VS_nil_block ?_)
  refine VS_region_lit ?_
  refine VL_run (d := 2) (run_assign rfl (by conv => lhs; whnf)) rfl rfl ?_
  refine VL_nil ?_
  repeat (first | refine VS_seq ?_ | refine VS_block ?_ | refine VS_skip ?_ | refine VS_nil_block ?_)
  refine VS_region_lit ?_
  refine VL_run (d := 3) (run_move rfl (by conv => lhs; whnf)) rfl rfl ?_
  refine VL_run (d := 4) (run_eqS rfl rfl rfl) rfl rfl ?_
  refine VL_nil ?_
  refine VS_cond rfl (fun c0 => ?_) (fun c0 => ?_) <;> (try simp only [decide_eq_true_eq, decide_eq_false_iff_not, Bool.not_eq_true', Bool.not_eq_false', ne_eq, Decidable.not_not, cond_true, cond_false, Bool.and_eq_true, Bool.or_eq_true, Bool.and_eq_false_iff, Bool.or_eq_false_iff, Bool.not_true, Bool.not_false, reduceCtorEq] at c0)
  · repeat (first | refine VS_seq ?_ | refine VS_block ?_ | refine VS_skip ?_ | refine VS_nil_block ?_)
    refine VS_region_lit ?_
    refine VL_run (d := 2) (run_assign rfl (by conv => lhs; whnf)) rfl rfl ?_
    refine VL_nil ?_
    refine VS_ret ?_
    repeat (first | refine blockV_ret ?_ | refine backV_ret ?_ | refine backV2_ret ?_ | refine backV3_ret ?_ | refine thenV_ret ?_ | refine metV2_ret ?_)
    refine fin_one (fn := Tryd.f40) rfl (res_tmp (by conv => lhs; whnf)) ?_
    exact ⟨by rw [c0]; rfl, s.below⟩
  · repeat (first | refine VS_seq ?_ | refine VS_block ?_ | refine VS_skip ?_ | refine VS_nil_block ?_)
    refine VS_region_lit ?_
    refine VL_run (d := 5) (run_move rfl (by conv => lhs; whnf)) rfl rfl ?_
    refine VL_does (d := 6) (does_call1 rfl (by kernel_rfl) rfl (hexOf_ok t ht) ?_) rfl rfl
    rintro _ w ⟨rfl, hb⟩
    replace s := s.step hb
    clear hb
    refine VL_run (d := 2) (run_assign rfl (by conv => lhs; whnf)) rfl rfl ?_
    refine VL_nil ?_
    refine VS_ret ?_
    repeat (first | refine blockV_ret ?_ | refine backV_ret ?_ | refine backV2_ret ?_ | refine backV3_ret ?_ | refine thenV_ret ?_ | refine metV2_ret ?_)
    refine fin_one (fn := Tryd.f40) rfl (res_tmp (by conv => lhs; whnf)) ?_
    exact ⟨by simp [hexT, c0], s.below⟩
theorem line_ok (p : List ByteArray) (dir : Bool) (m : Int) (h0 : 0 ≤ m) (h7 : m ≤ 7) (data : ByteArray) (v4 v5 : Value) {ok : Nat → Prop} {w0 : World} {v1 : Value} (h1 : Rd ok w0 (.sl (strsD p)) [v1]) (hp : PFit p) (hd : data.size ≤ 1000000000) :
    Calls Tryd.prog 23 #[.agg #[.bool dir, .int .i64 m, .string data, v4, v5], v1] w0 (Ret fun v w' => v = .string (ba (lineL (pathT p).data.toList dir m.toNat data)) ∧ Below w0.heap.size w0 w') := by
  obtain ⟨A, c, e1, hl1⟩ := Rd_strs h1
  obtain rfl := List.singleton_inj.1 e1
  obtain ⟨n, rfl⟩ := Int.eq_ofNat_of_zero_le h0
  have hps := pathT_size p
  have s := (St.start ok w0).begin h1
  generalize hpth : pathT p = pth at *
  have z1 : (ByteArray.mk #[100, 105, 114, 32] ++ pth).size = 4 + pth.size := app_size _ _
  have z2 := app_size (ByteArray.mk #[100, 105, 114, 32] ++ pth) ⟨#[32]⟩
  have z3 := app_size ((ByteArray.mk #[100, 105, 114, 32] ++ pth) ++ ⟨#[32]⟩) (ba [dig n])
  have y1 : (ByteArray.mk #[102, 105, 108, 101, 32] ++ pth).size = 5 + pth.size := app_size _ _
  have y2 := app_size (ByteArray.mk #[102, 105, 108, 101, 32] ++ pth) ⟨#[32]⟩
  have y3 := app_size ((ByteArray.mk #[102, 105, 108, 101, 32] ++ pth) ++ ⟨#[32]⟩) (ba [dig n])
  have y4 := app_size (((ByteArray.mk #[102, 105, 108, 101, 32] ++ pth) ++ ⟨#[32]⟩) ++ (ba [dig n])) ⟨#[32]⟩
  have y5 := app_size ((((ByteArray.mk #[102, 105, 108, 101, 32] ++ pth) ++ ⟨#[32]⟩) ++ (ba [dig n])) ++ ⟨#[32]⟩) (hexT data)
  have x1 : (ByteArray.mk #[32]).size = 1 := rfl
  have x2 : (ba [dig n]).size = 1 := rfl
  have x3 : (ByteArray.mk #[100, 105, 114, 32]).size = 4 := rfl
  have x4 : (ByteArray.mk #[102, 105, 108, 101, 32]).size = 5 := rfl
  have x5 : (ByteArray.mk #[10]).size = 1 := rfl
  have hh := hexT_size data
  have hp1 := hp
  unfold PFit at hp1
  refine calls_enter (n := 30) Tryd.func23 rfl rfl rfl ?_
  repeat (first | refine VS_seq ?_ | refine VS_block ?_ | refine VS_skip ?_ | refine VS_nil_block ?_)
  refine VS_region_lit ?_
  refine VL_does (d := 2) (does_box s rfl rfl rfl ?_) rfl rfl
  clear s; intro b2 w s
  refine VL_run (d := 4) (run_assign rfl (by conv => lhs; whnf)) rfl rfl ?_
  refine VL_nil ?_
  repeat (first | refine VS_seq ?_ | refine VS_block ?_ | refine VS_skip ?_ | refine VS_nil_block ?_)
  refine VS_region_lit ?_
  refine VL_run (d := 5) (run_fieldAddr rfl fo46_0 rfl) rfl rfl ?_
  first | (refine VL_run (d := 6) (run_load_own1 s rfl ty4 rfl (i := 0) rfl rfl) rfl rfl ?_) | (refine VL_run (d := 6) (run_load_own1 s rfl ty4 rfl (i := 1) rfl rfl) rfl rfl ?_) | (refine VL_run (d := 6) (run_load_own1 s rfl ty4 rfl (i := 2) rfl rfl) rfl rfl ?_) | (refine VL_run (d := 6) (run_load_own1 s rfl ty4 rfl (i := 3) rfl rfl) rfl rfl ?_) | (refine VL_run (d := 6) (run_load_own1 s rfl ty4 rfl (i := 4) rfl rfl) rfl rfl ?_) | (refine VL_run (d := 6) (run_load_own1 s rfl ty4 rfl (i := 5) rfl rfl) rfl rfl ?_) | (refine VL_run (d := 6) (run_load_own1 s rfl ty4 rfl (i := 6) rfl rfl) rfl rfl ?_) | (refine VL_run (d := 6) (run_load_own1 s rfl ty4 rfl (i := 7) rfl rfl) rfl rfl ?_) | (refine VL_run (d := 6) (run_load_own1 s rfl ty4 rfl (i := 8) rfl rfl) rfl rfl ?_) | (refine VL_run (d := 6) (run_load_at1 s rfl ty4 rfl (i := 0) rfl rfl) rfl rfl ?_) | (refine VL_run (d := 6) (run_load_at1 s rfl ty4 rfl (i := 1) rfl rfl) rfl rfl ?_) | (refine VL_run (d := 6) (run_load_at1 s rfl ty4 rfl (i := 2) rfl rfl) rfl rfl ?_) | (refine VL_run (d := 6) (run_load_at1 s rfl ty4 rfl (i := 3) rfl rfl) rfl rfl ?_) | (refine VL_run (d := 6) (run_load_at1 s rfl ty4 rfl (i := 4) rfl rfl) rfl rfl ?_) | (refine VL_run (d := 6) (run_load_at1 s rfl ty4 rfl (i := 5) rfl rfl) rfl rfl ?_) | (refine VL_run (d := 6) (run_load_at1 s rfl ty4 rfl (i := 6) rfl rfl) rfl rfl ?_) | (refine VL_run (d := 6) (run_load_at1 s rfl ty4 rfl (i := 7) rfl rfl) rfl rfl ?_) | (refine VL_run (d := 6) (run_load_at1 s rfl ty4 rfl (i := 8) rfl rfl) rfl rfl ?_) | (refine VL_run (d := 6) (run_load_at0 s rfl ty4 rfl (i := 0) rfl rfl) rfl rfl ?_) | (refine VL_run (d := 6) (run_load_at0 s rfl ty4 rfl (i := 1) rfl rfl) rfl rfl ?_) | (refine VL_run (d := 6) (run_load_at0 s rfl ty4 rfl (i := 2) rfl rfl) rfl rfl ?_) | (refine VL_run (d := 6) (run_load_at0 s rfl ty4 rfl (i := 3) rfl rfl) rfl rfl ?_) | (refine VL_run (d := 6) (run_load_at0 s rfl ty4 rfl (i := 4) rfl rfl) rfl rfl ?_) | (refine VL_run (d := 6) (run_load_at0 s rfl ty4 rfl (i := 5) rfl rfl) rfl rfl ?_) | (refine VL_run (d := 6) (run_load_at0 s rfl ty4 rfl (i := 6) rfl rfl) rfl rfl ?_) | (refine VL_run (d := 6) (run_load_at0 s rfl ty4 rfl (i := 7) rfl rfl) rfl rfl ?_) | (refine VL_run (d := 6) (run_load_at0 s rfl ty4 rfl (i := 8) rfl rfl) rfl rfl ?_)
  refine VL_nil ?_
  refine VS_cond rfl (fun c0 => ?_) (fun c0 => ?_) <;> (try simp only [decide_eq_true_eq, decide_eq_false_iff_not, Bool.not_eq_true', Bool.not_eq_false', ne_eq, Decidable.not_not, cond_true, cond_false, Bool.and_eq_true, Bool.or_eq_true, Bool.and_eq_false_iff, Bool.or_eq_false_iff, Bool.not_true, Bool.not_false, reduceCtorEq] at c0)
  · repeat (first | refine VS_seq ?_ | refine VS_block ?_ | refine VS_skip ?_ | refine VS_nil_block ?_)
    refine VS_drawS 9 s mixed ?_
    clear s; intro s
    refine VA_take 0 (d := 7) rfl (by kernel_rfl) rfl (fun w g => run_move rfl (by conv => lhs; whnf)) s.see ?_
    refine VA_take 4 (d := 11) rfl (by kernel_rfl) rfl (fun w g => run_fieldAddr rfl fo46_1 rfl) s.see ?_
    first | (refine VA_take 5 (d := 12) rfl (by kernel_rfl) rfl (fun w g => see_own1 g rfl ty3 rfl (i := 0) rfl rfl) s.see ?_) | (refine VA_take 5 (d := 12) rfl (by kernel_rfl) rfl (fun w g => see_own1 g rfl ty3 rfl (i := 1) rfl rfl) s.see ?_) | (refine VA_take 5 (d := 12) rfl (by kernel_rfl) rfl (fun w g => see_own1 g rfl ty3 rfl (i := 2) rfl rfl) s.see ?_) | (refine VA_take 5 (d := 12) rfl (by kernel_rfl) rfl (fun w g => see_own1 g rfl ty3 rfl (i := 3) rfl rfl) s.see ?_) | (refine VA_take 5 (d := 12) rfl (by kernel_rfl) rfl (fun w g => see_own1 g rfl ty3 rfl (i := 4) rfl rfl) s.see ?_) | (refine VA_take 5 (d := 12) rfl (by kernel_rfl) rfl (fun w g => see_own1 g rfl ty3 rfl (i := 5) rfl rfl) s.see ?_) | (refine VA_take 5 (d := 12) rfl (by kernel_rfl) rfl (fun w g => see_own1 g rfl ty3 rfl (i := 6) rfl rfl) s.see ?_) | (refine VA_take 5 (d := 12) rfl (by kernel_rfl) rfl (fun w g => see_own1 g rfl ty3 rfl (i := 7) rfl rfl) s.see ?_) | (refine VA_take 5 (d := 12) rfl (by kernel_rfl) rfl (fun w g => see_own1 g rfl ty3 rfl (i := 8) rfl rfl) s.see ?_) | (refine VA_take 5 (d := 12) rfl (by kernel_rfl) rfl (fun w g => see_at1 g rfl ty3 rfl (i := 0) rfl rfl) s.see ?_) | (refine VA_take 5 (d := 12) rfl (by kernel_rfl) rfl (fun w g => see_at1 g rfl ty3 rfl (i := 1) rfl rfl) s.see ?_) | (refine VA_take 5 (d := 12) rfl (by kernel_rfl) rfl (fun w g => see_at1 g rfl ty3 rfl (i := 2) rfl rfl) s.see ?_) | (refine VA_take 5 (d := 12) rfl (by kernel_rfl) rfl (fun w g => see_at1 g rfl ty3 rfl (i := 3) rfl rfl) s.see ?_) | (refine VA_take 5 (d := 12) rfl (by kernel_rfl) rfl (fun w g => see_at1 g rfl ty3 rfl (i := 4) rfl rfl) s.see ?_) | (refine VA_take 5 (d := 12) rfl (by kernel_rfl) rfl (fun w g => see_at1 g rfl ty3 rfl (i := 5) rfl rfl) s.see ?_) | (refine VA_take 5 (d := 12) rfl (by kernel_rfl) rfl (fun w g => see_at1 g rfl ty3 rfl (i := 6) rfl rfl) s.see ?_) | (refine VA_take 5 (d := 12) rfl (by kernel_rfl) rfl (fun w g => see_at1 g rfl ty3 rfl (i := 7) rfl rfl) s.see ?_) | (refine VA_take 5 (d := 12) rfl (by kernel_rfl) rfl (fun w g => see_at1 g rfl ty3 rfl (i := 8) rfl rfl) s.see ?_) | (refine VA_take 5 (d := 12) rfl (by kernel_rfl) rfl (fun w g => see_at0 g rfl ty3 rfl (i := 0) rfl rfl) s.see ?_) | (refine VA_take 5 (d := 12) rfl (by kernel_rfl) rfl (fun w g => see_at0 g rfl ty3 rfl (i := 1) rfl rfl) s.see ?_) | (refine VA_take 5 (d := 12) rfl (by kernel_rfl) rfl (fun w g => see_at0 g rfl ty3 rfl (i := 2) rfl rfl) s.see ?_) | (refine VA_take 5 (d := 12) rfl (by kernel_rfl) rfl (fun w g => see_at0 g rfl ty3 rfl (i := 3) rfl rfl) s.see ?_) | (refine VA_take 5 (d := 12) rfl (by kernel_rfl) rfl (fun w g => see_at0 g rfl ty3 rfl (i := 4) rfl rfl) s.see ?_) | (refine VA_take 5 (d := 12) rfl (by kernel_rfl) rfl (fun w g => see_at0 g rfl ty3 rfl (i := 5) rfl rfl) s.see ?_) | (refine VA_take 5 (d := 12) rfl (by kernel_rfl) rfl (fun w g => see_at0 g rfl ty3 rfl (i := 6) rfl rfl) s.see ?_) | (refine VA_take 5 (d := 12) rfl (by kernel_rfl) rfl (fun w g => see_at0 g rfl ty3 rfl (i := 7) rfl rfl) s.see ?_) | (refine VA_take 5 (d := 12) rfl (by kernel_rfl) rfl (fun w g => see_at0 g rfl ty3 rfl (i := 8) rfl rfl) s.see ?_)
    refine VA_one (i := 1) (by kernel_rfl) ?_
    refine VO_does (d := 8) rfl (does_call1 rfl (by kernel_rfl) rfl (hpth ▸ pathText_ok p (s.dat (i := 0) rfl) hp) ?_) rfl rfl
    rintro _ w ⟨rfl, hb⟩
    replace s := s.step hb
    clear hb
    refine ⟨fun _ => s.sees (by intro b c t h; first | exact h | exact .tail _ h | exact .tail _ (.tail _ h) | exact .tail _ (.tail _ (.tail _ h)) | (simp only [List.mem_cons, List.not_mem_nil, or_false, List.set_cons_zero, List.set_cons_succ, reduceCtorEq, false_or] at h ⊢ <;> first | exact h | exact .inr h | exact .inr (.inr h) | exact .inr (.inr (.inr h)) | (rcases h with h | h | h | h | h | h <;> simp [h]) | simp_all)) (by intro f h; first | exact h | exact .tail _ h | exact .tail _ (.tail _ h) | exact .tail _ (.tail _ (.tail _ h)) | (simp only [List.mem_cons, List.not_mem_nil, or_false] at h ⊢ <;> first | exact h | exact .inr h | exact .inr (.inr h) | exact .inr (.inr (.inr h)) | (rcases h with h | h | h | h | h | h <;> simp [h]) | simp_all)), ?_⟩
    refine VA_take 2 (d := 9) rfl (by kernel_rfl) rfl (fun w g => run_addS rfl rfl rfl (by omega)) (by first | exact s.see | exact s.sees (by intro b c t h; first | exact h | exact .tail _ h | exact .tail _ (.tail _ h) | exact .tail _ (.tail _ (.tail _ h)) | (simp only [List.mem_cons, List.not_mem_nil, or_false, List.set_cons_zero, List.set_cons_succ, reduceCtorEq, false_or] at h ⊢ <;> first | exact h | exact .inr h | exact .inr (.inr h) | exact .inr (.inr (.inr h)) | (rcases h with h | h | h | h | h | h <;> simp [h]) | simp_all)) (by intro f h; first | exact h | exact .tail _ h | exact .tail _ (.tail _ h) | exact .tail _ (.tail _ (.tail _ h)) | (simp only [List.mem_cons, List.not_mem_nil, or_false] at h ⊢ <;> first | exact h | exact .inr h | exact .inr (.inr h) | exact .inr (.inr (.inr h)) | (rcases h with h | h | h | h | h | h <;> simp [h]) | simp_all))) ?_
    refine VA_take 3 (d := 10) rfl (by kernel_rfl) rfl (fun w g => run_addS rfl rfl rfl (by omega)) (by first | exact s.see | exact s.sees (by intro b c t h; first | exact h | exact .tail _ h | exact .tail _ (.tail _ h) | exact .tail _ (.tail _ (.tail _ h)) | (simp only [List.mem_cons, List.not_mem_nil, or_false, List.set_cons_zero, List.set_cons_succ, reduceCtorEq, false_or] at h ⊢ <;> first | exact h | exact .inr h | exact .inr (.inr h) | exact .inr (.inr (.inr h)) | (rcases h with h | h | h | h | h | h <;> simp [h]) | simp_all)) (by intro f h; first | exact h | exact .tail _ h | exact .tail _ (.tail _ h) | exact .tail _ (.tail _ (.tail _ h)) | (simp only [List.mem_cons, List.not_mem_nil, or_false] at h ⊢ <;> first | exact h | exact .inr h | exact .inr (.inr h) | exact .inr (.inr (.inr h)) | (rcases h with h | h | h | h | h | h <;> simp [h]) | simp_all))) ?_
    refine VA_one (i := 6) (by kernel_rfl) ?_
    refine VO_does (d := 13) rfl (does_call1 rfl (by kernel_rfl) rfl (Itoa_ok n (by omega)) ?_) rfl rfl
    rintro _ w ⟨rfl, hb⟩
    replace s := s.step hb
    clear hb
    refine ⟨fun _ => s.sees (by intro b c t h; first | exact h | exact .tail _ h | exact .tail _ (.tail _ h) | exact .tail _ (.tail _ (.tail _ h)) | (simp only [List.mem_cons, List.not_mem_nil, or_false, List.set_cons_zero, List.set_cons_succ, reduceCtorEq, false_or] at h ⊢ <;> first | exact h | exact .inr h | exact .inr (.inr h) | exact .inr (.inr (.inr h)) | (rcases h with h | h | h | h | h | h <;> simp [h]) | simp_all)) (by intro f h; first | exact h | exact .tail _ h | exact .tail _ (.tail _ h) | exact .tail _ (.tail _ (.tail _ h)) | (simp only [List.mem_cons, List.not_mem_nil, or_false] at h ⊢ <;> first | exact h | exact .inr h | exact .inr (.inr h) | exact .inr (.inr (.inr h)) | (rcases h with h | h | h | h | h | h <;> simp [h]) | simp_all)), ?_⟩
    refine VA_take 7 (d := 14) rfl (by kernel_rfl) rfl (fun w g => run_addS rfl rfl rfl (by omega)) (by first | exact s.see | exact s.sees (by intro b c t h; first | exact h | exact .tail _ h | exact .tail _ (.tail _ h) | exact .tail _ (.tail _ (.tail _ h)) | (simp only [List.mem_cons, List.not_mem_nil, or_false, List.set_cons_zero, List.set_cons_succ, reduceCtorEq, false_or] at h ⊢ <;> first | exact h | exact .inr h | exact .inr (.inr h) | exact .inr (.inr (.inr h)) | (rcases h with h | h | h | h | h | h <;> simp [h]) | simp_all)) (by intro f h; first | exact h | exact .tail _ h | exact .tail _ (.tail _ h) | exact .tail _ (.tail _ (.tail _ h)) | (simp only [List.mem_cons, List.not_mem_nil, or_false] at h ⊢ <;> first | exact h | exact .inr h | exact .inr (.inr h) | exact .inr (.inr (.inr h)) | (rcases h with h | h | h | h | h | h <;> simp [h]) | simp_all))) ?_
    refine VA_take 8 (d := 15) rfl (by kernel_rfl) rfl (fun w g => run_addS rfl rfl rfl (by omega)) (by first | exact s.see | exact s.sees (by intro b c t h; first | exact h | exact .tail _ h | exact .tail _ (.tail _ h) | exact .tail _ (.tail _ (.tail _ h)) | (simp only [List.mem_cons, List.not_mem_nil, or_false, List.set_cons_zero, List.set_cons_succ, reduceCtorEq, false_or] at h ⊢ <;> first | exact h | exact .inr h | exact .inr (.inr h) | exact .inr (.inr (.inr h)) | (rcases h with h | h | h | h | h | h <;> simp [h]) | simp_all)) (by intro f h; first | exact h | exact .tail _ h | exact .tail _ (.tail _ h) | exact .tail _ (.tail _ (.tail _ h)) | (simp only [List.mem_cons, List.not_mem_nil, or_false] at h ⊢ <;> first | exact h | exact .inr h | exact .inr (.inr h) | exact .inr (.inr (.inr h)) | (rcases h with h | h | h | h | h | h <;> simp [h]) | simp_all))) ?_
    refine VA_one (i := 9) (by kernel_rfl) ?_
    refine VO_run (d := 4) rfl (run_assign rfl (by conv => lhs; whnf)) rfl rfl ((fun h => nomatch (show true = false from h))) ?_
    refine VA_done (by kernel_rfl) ?_
    refine VS_ret ?_
    repeat (first | refine blockV_ret ?_ | refine backV_ret ?_ | refine backV2_ret ?_ | refine backV3_ret ?_ | refine thenV_ret ?_ | refine metV2_ret ?_)
    refine fin_one (fn := Tryd.f23) rfl (res_tmp (by conv => lhs; whnf)) ?_
    refine ⟨congrArg Value.string (ba_ext ?_), s.below⟩
    obtain rfl : dir = true := c0
    simp only [app_list, ba_list, lineL, cond_true]
    rfl
  · repeat (first | refine VS_seq ?_ | refine VS_block ?_ | refine VS_skip ?_ | refine VS_nil_block ?_)
    refine VS_drawS 14 s mixed ?_
    clear s; intro s
    refine VA_take 0 (d := 16) rfl (by kernel_rfl) rfl (fun w g => run_move rfl (by conv => lhs; whnf)) s.see ?_
    refine VA_take 4 (d := 20) rfl (by kernel_rfl) rfl (fun w g => run_fieldAddr rfl fo46_1 rfl) s.see ?_
    first | (refine VA_take 5 (d := 21) rfl (by kernel_rfl) rfl (fun w g => see_own1 g rfl ty3 rfl (i := 0) rfl rfl) s.see ?_) | (refine VA_take 5 (d := 21) rfl (by kernel_rfl) rfl (fun w g => see_own1 g rfl ty3 rfl (i := 1) rfl rfl) s.see ?_) | (refine VA_take 5 (d := 21) rfl (by kernel_rfl) rfl (fun w g => see_own1 g rfl ty3 rfl (i := 2) rfl rfl) s.see ?_) | (refine VA_take 5 (d := 21) rfl (by kernel_rfl) rfl (fun w g => see_own1 g rfl ty3 rfl (i := 3) rfl rfl) s.see ?_) | (refine VA_take 5 (d := 21) rfl (by kernel_rfl) rfl (fun w g => see_own1 g rfl ty3 rfl (i := 4) rfl rfl) s.see ?_) | (refine VA_take 5 (d := 21) rfl (by kernel_rfl) rfl (fun w g => see_own1 g rfl ty3 rfl (i := 5) rfl rfl) s.see ?_) | (refine VA_take 5 (d := 21) rfl (by kernel_rfl) rfl (fun w g => see_own1 g rfl ty3 rfl (i := 6) rfl rfl) s.see ?_) | (refine VA_take 5 (d := 21) rfl (by kernel_rfl) rfl (fun w g => see_own1 g rfl ty3 rfl (i := 7) rfl rfl) s.see ?_) | (refine VA_take 5 (d := 21) rfl (by kernel_rfl) rfl (fun w g => see_own1 g rfl ty3 rfl (i := 8) rfl rfl) s.see ?_) | (refine VA_take 5 (d := 21) rfl (by kernel_rfl) rfl (fun w g => see_at1 g rfl ty3 rfl (i := 0) rfl rfl) s.see ?_) | (refine VA_take 5 (d := 21) rfl (by kernel_rfl) rfl (fun w g => see_at1 g rfl ty3 rfl (i := 1) rfl rfl) s.see ?_) | (refine VA_take 5 (d := 21) rfl (by kernel_rfl) rfl (fun w g => see_at1 g rfl ty3 rfl (i := 2) rfl rfl) s.see ?_) | (refine VA_take 5 (d := 21) rfl (by kernel_rfl) rfl (fun w g => see_at1 g rfl ty3 rfl (i := 3) rfl rfl) s.see ?_) | (refine VA_take 5 (d := 21) rfl (by kernel_rfl) rfl (fun w g => see_at1 g rfl ty3 rfl (i := 4) rfl rfl) s.see ?_) | (refine VA_take 5 (d := 21) rfl (by kernel_rfl) rfl (fun w g => see_at1 g rfl ty3 rfl (i := 5) rfl rfl) s.see ?_) | (refine VA_take 5 (d := 21) rfl (by kernel_rfl) rfl (fun w g => see_at1 g rfl ty3 rfl (i := 6) rfl rfl) s.see ?_) | (refine VA_take 5 (d := 21) rfl (by kernel_rfl) rfl (fun w g => see_at1 g rfl ty3 rfl (i := 7) rfl rfl) s.see ?_) | (refine VA_take 5 (d := 21) rfl (by kernel_rfl) rfl (fun w g => see_at1 g rfl ty3 rfl (i := 8) rfl rfl) s.see ?_) | (refine VA_take 5 (d := 21) rfl (by kernel_rfl) rfl (fun w g => see_at0 g rfl ty3 rfl (i := 0) rfl rfl) s.see ?_) | (refine VA_take 5 (d := 21) rfl (by kernel_rfl) rfl (fun w g => see_at0 g rfl ty3 rfl (i := 1) rfl rfl) s.see ?_) | (refine VA_take 5 (d := 21) rfl (by kernel_rfl) rfl (fun w g => see_at0 g rfl ty3 rfl (i := 2) rfl rfl) s.see ?_) | (refine VA_take 5 (d := 21) rfl (by kernel_rfl) rfl (fun w g => see_at0 g rfl ty3 rfl (i := 3) rfl rfl) s.see ?_) | (refine VA_take 5 (d := 21) rfl (by kernel_rfl) rfl (fun w g => see_at0 g rfl ty3 rfl (i := 4) rfl rfl) s.see ?_) | (refine VA_take 5 (d := 21) rfl (by kernel_rfl) rfl (fun w g => see_at0 g rfl ty3 rfl (i := 5) rfl rfl) s.see ?_) | (refine VA_take 5 (d := 21) rfl (by kernel_rfl) rfl (fun w g => see_at0 g rfl ty3 rfl (i := 6) rfl rfl) s.see ?_) | (refine VA_take 5 (d := 21) rfl (by kernel_rfl) rfl (fun w g => see_at0 g rfl ty3 rfl (i := 7) rfl rfl) s.see ?_) | (refine VA_take 5 (d := 21) rfl (by kernel_rfl) rfl (fun w g => see_at0 g rfl ty3 rfl (i := 8) rfl rfl) s.see ?_)
    refine VA_take 9 (d := 25) rfl (by kernel_rfl) rfl (fun w g => run_fieldAddr rfl fo46_2 rfl) s.see ?_
    first | (refine VA_take 10 (d := 26) rfl (by kernel_rfl) rfl (fun w g => see_own1 g rfl ty9 rfl (i := 0) rfl rfl) s.see ?_) | (refine VA_take 10 (d := 26) rfl (by kernel_rfl) rfl (fun w g => see_own1 g rfl ty9 rfl (i := 1) rfl rfl) s.see ?_) | (refine VA_take 10 (d := 26) rfl (by kernel_rfl) rfl (fun w g => see_own1 g rfl ty9 rfl (i := 2) rfl rfl) s.see ?_) | (refine VA_take 10 (d := 26) rfl (by kernel_rfl) rfl (fun w g => see_own1 g rfl ty9 rfl (i := 3) rfl rfl) s.see ?_) | (refine VA_take 10 (d := 26) rfl (by kernel_rfl) rfl (fun w g => see_own1 g rfl ty9 rfl (i := 4) rfl rfl) s.see ?_) | (refine VA_take 10 (d := 26) rfl (by kernel_rfl) rfl (fun w g => see_own1 g rfl ty9 rfl (i := 5) rfl rfl) s.see ?_) | (refine VA_take 10 (d := 26) rfl (by kernel_rfl) rfl (fun w g => see_own1 g rfl ty9 rfl (i := 6) rfl rfl) s.see ?_) | (refine VA_take 10 (d := 26) rfl (by kernel_rfl) rfl (fun w g => see_own1 g rfl ty9 rfl (i := 7) rfl rfl) s.see ?_) | (refine VA_take 10 (d := 26) rfl (by kernel_rfl) rfl (fun w g => see_own1 g rfl ty9 rfl (i := 8) rfl rfl) s.see ?_) | (refine VA_take 10 (d := 26) rfl (by kernel_rfl) rfl (fun w g => see_at1 g rfl ty9 rfl (i := 0) rfl rfl) s.see ?_) | (refine VA_take 10 (d := 26) rfl (by kernel_rfl) rfl (fun w g => see_at1 g rfl ty9 rfl (i := 1) rfl rfl) s.see ?_) | (refine VA_take 10 (d := 26) rfl (by kernel_rfl) rfl (fun w g => see_at1 g rfl ty9 rfl (i := 2) rfl rfl) s.see ?_) | (refine VA_take 10 (d := 26) rfl (by kernel_rfl) rfl (fun w g => see_at1 g rfl ty9 rfl (i := 3) rfl rfl) s.see ?_) | (refine VA_take 10 (d := 26) rfl (by kernel_rfl) rfl (fun w g => see_at1 g rfl ty9 rfl (i := 4) rfl rfl) s.see ?_) | (refine VA_take 10 (d := 26) rfl (by kernel_rfl) rfl (fun w g => see_at1 g rfl ty9 rfl (i := 5) rfl rfl) s.see ?_) | (refine VA_take 10 (d := 26) rfl (by kernel_rfl) rfl (fun w g => see_at1 g rfl ty9 rfl (i := 6) rfl rfl) s.see ?_) | (refine VA_take 10 (d := 26) rfl (by kernel_rfl) rfl (fun w g => see_at1 g rfl ty9 rfl (i := 7) rfl rfl) s.see ?_) | (refine VA_take 10 (d := 26) rfl (by kernel_rfl) rfl (fun w g => see_at1 g rfl ty9 rfl (i := 8) rfl rfl) s.see ?_) | (refine VA_take 10 (d := 26) rfl (by kernel_rfl) rfl (fun w g => see_at0 g rfl ty9 rfl (i := 0) rfl rfl) s.see ?_) | (refine VA_take 10 (d := 26) rfl (by kernel_rfl) rfl (fun w g => see_at0 g rfl ty9 rfl (i := 1) rfl rfl) s.see ?_) | (refine VA_take 10 (d := 26) rfl (by kernel_rfl) rfl (fun w g => see_at0 g rfl ty9 rfl (i := 2) rfl rfl) s.see ?_) | (refine VA_take 10 (d := 26) rfl (by kernel_rfl) rfl (fun w g => see_at0 g rfl ty9 rfl (i := 3) rfl rfl) s.see ?_) | (refine VA_take 10 (d := 26) rfl (by kernel_rfl) rfl (fun w g => see_at0 g rfl ty9 rfl (i := 4) rfl rfl) s.see ?_) | (refine VA_take 10 (d := 26) rfl (by kernel_rfl) rfl (fun w g => see_at0 g rfl ty9 rfl (i := 5) rfl rfl) s.see ?_) | (refine VA_take 10 (d := 26) rfl (by kernel_rfl) rfl (fun w g => see_at0 g rfl ty9 rfl (i := 6) rfl rfl) s.see ?_) | (refine VA_take 10 (d := 26) rfl (by kernel_rfl) rfl (fun w g => see_at0 g rfl ty9 rfl (i := 7) rfl rfl) s.see ?_) | (refine VA_take 10 (d := 26) rfl (by kernel_rfl) rfl (fun w g => see_at0 g rfl ty9 rfl (i := 8) rfl rfl) s.see ?_)
    refine VA_one (i := 1) (by kernel_rfl) ?_
    refine VO_does (d := 17) rfl (does_call1 rfl (by kernel_rfl) rfl (hpth ▸ pathText_ok p (s.dat (i := 0) rfl) hp) ?_) rfl rfl
    rintro _ w ⟨rfl, hb⟩
    replace s := s.step hb
    clear hb
    refine ⟨fun _ => s.sees (by intro b c t h; first | exact h | exact .tail _ h | exact .tail _ (.tail _ h) | exact .tail _ (.tail _ (.tail _ h)) | (simp only [List.mem_cons, List.not_mem_nil, or_false, List.set_cons_zero, List.set_cons_succ, reduceCtorEq, false_or] at h ⊢ <;> first | exact h | exact .inr h | exact .inr (.inr h) | exact .inr (.inr (.inr h)) | (rcases h with h | h | h | h | h | h <;> simp [h]) | simp_all)) (by intro f h; first | exact h | exact .tail _ h | exact .tail _ (.tail _ h) | exact .tail _ (.tail _ (.tail _ h)) | (simp only [List.mem_cons, List.not_mem_nil, or_false] at h ⊢ <;> first | exact h | exact .inr h | exact .inr (.inr h) | exact .inr (.inr (.inr h)) | (rcases h with h | h | h | h | h | h <;> simp [h]) | simp_all)), ?_⟩
    refine VA_take 2 (d := 18) rfl (by kernel_rfl) rfl (fun w g => run_addS rfl rfl rfl (by omega)) (by first | exact s.see | exact s.sees (by intro b c t h; first | exact h | exact .tail _ h | exact .tail _ (.tail _ h) | exact .tail _ (.tail _ (.tail _ h)) | (simp only [List.mem_cons, List.not_mem_nil, or_false, List.set_cons_zero, List.set_cons_succ, reduceCtorEq, false_or] at h ⊢ <;> first | exact h | exact .inr h | exact .inr (.inr h) | exact .inr (.inr (.inr h)) | (rcases h with h | h | h | h | h | h <;> simp [h]) | simp_all)) (by intro f h; first | exact h | exact .tail _ h | exact .tail _ (.tail _ h) | exact .tail _ (.tail _ (.tail _ h)) | (simp only [List.mem_cons, List.not_mem_nil, or_false] at h ⊢ <;> first | exact h | exact .inr h | exact .inr (.inr h) | exact .inr (.inr (.inr h)) | (rcases h with h | h | h | h | h | h <;> simp [h]) | simp_all))) ?_
    refine VA_take 3 (d := 19) rfl (by kernel_rfl) rfl (fun w g => run_addS rfl rfl rfl (by omega)) (by first | exact s.see | exact s.sees (by intro b c t h; first | exact h | exact .tail _ h | exact .tail _ (.tail _ h) | exact .tail _ (.tail _ (.tail _ h)) | (simp only [List.mem_cons, List.not_mem_nil, or_false, List.set_cons_zero, List.set_cons_succ, reduceCtorEq, false_or] at h ⊢ <;> first | exact h | exact .inr h | exact .inr (.inr h) | exact .inr (.inr (.inr h)) | (rcases h with h | h | h | h | h | h <;> simp [h]) | simp_all)) (by intro f h; first | exact h | exact .tail _ h | exact .tail _ (.tail _ h) | exact .tail _ (.tail _ (.tail _ h)) | (simp only [List.mem_cons, List.not_mem_nil, or_false] at h ⊢ <;> first | exact h | exact .inr h | exact .inr (.inr h) | exact .inr (.inr (.inr h)) | (rcases h with h | h | h | h | h | h <;> simp [h]) | simp_all))) ?_
    refine VA_one (i := 6) (by kernel_rfl) ?_
    refine VO_does (d := 22) rfl (does_call1 rfl (by kernel_rfl) rfl (Itoa_ok n (by omega)) ?_) rfl rfl
    rintro _ w ⟨rfl, hb⟩
    replace s := s.step hb
    clear hb
    refine ⟨fun _ => s.sees (by intro b c t h; first | exact h | exact .tail _ h | exact .tail _ (.tail _ h) | exact .tail _ (.tail _ (.tail _ h)) | (simp only [List.mem_cons, List.not_mem_nil, or_false, List.set_cons_zero, List.set_cons_succ, reduceCtorEq, false_or] at h ⊢ <;> first | exact h | exact .inr h | exact .inr (.inr h) | exact .inr (.inr (.inr h)) | (rcases h with h | h | h | h | h | h <;> simp [h]) | simp_all)) (by intro f h; first | exact h | exact .tail _ h | exact .tail _ (.tail _ h) | exact .tail _ (.tail _ (.tail _ h)) | (simp only [List.mem_cons, List.not_mem_nil, or_false] at h ⊢ <;> first | exact h | exact .inr h | exact .inr (.inr h) | exact .inr (.inr (.inr h)) | (rcases h with h | h | h | h | h | h <;> simp [h]) | simp_all)), ?_⟩
    refine VA_take 7 (d := 23) rfl (by kernel_rfl) rfl (fun w g => run_addS rfl rfl rfl (by omega)) (by first | exact s.see | exact s.sees (by intro b c t h; first | exact h | exact .tail _ h | exact .tail _ (.tail _ h) | exact .tail _ (.tail _ (.tail _ h)) | (simp only [List.mem_cons, List.not_mem_nil, or_false, List.set_cons_zero, List.set_cons_succ, reduceCtorEq, false_or] at h ⊢ <;> first | exact h | exact .inr h | exact .inr (.inr h) | exact .inr (.inr (.inr h)) | (rcases h with h | h | h | h | h | h <;> simp [h]) | simp_all)) (by intro f h; first | exact h | exact .tail _ h | exact .tail _ (.tail _ h) | exact .tail _ (.tail _ (.tail _ h)) | (simp only [List.mem_cons, List.not_mem_nil, or_false] at h ⊢ <;> first | exact h | exact .inr h | exact .inr (.inr h) | exact .inr (.inr (.inr h)) | (rcases h with h | h | h | h | h | h <;> simp [h]) | simp_all))) ?_
    refine VA_take 8 (d := 24) rfl (by kernel_rfl) rfl (fun w g => run_addS rfl rfl rfl (by omega)) (by first | exact s.see | exact s.sees (by intro b c t h; first | exact h | exact .tail _ h | exact .tail _ (.tail _ h) | exact .tail _ (.tail _ (.tail _ h)) | (simp only [List.mem_cons, List.not_mem_nil, or_false, List.set_cons_zero, List.set_cons_succ, reduceCtorEq, false_or] at h ⊢ <;> first | exact h | exact .inr h | exact .inr (.inr h) | exact .inr (.inr (.inr h)) | (rcases h with h | h | h | h | h | h <;> simp [h]) | simp_all)) (by intro f h; first | exact h | exact .tail _ h | exact .tail _ (.tail _ h) | exact .tail _ (.tail _ (.tail _ h)) | (simp only [List.mem_cons, List.not_mem_nil, or_false] at h ⊢ <;> first | exact h | exact .inr h | exact .inr (.inr h) | exact .inr (.inr (.inr h)) | (rcases h with h | h | h | h | h | h <;> simp [h]) | simp_all))) ?_
    refine VA_one (i := 11) (by kernel_rfl) ?_
    refine VO_does (d := 27) rfl (does_call1 rfl (by kernel_rfl) rfl (dataText_ok data hd) ?_) rfl rfl
    rintro _ w ⟨rfl, hb⟩
    replace s := s.step hb
    clear hb
    refine ⟨fun _ => s.sees (by intro b c t h; first | exact h | exact .tail _ h | exact .tail _ (.tail _ h) | exact .tail _ (.tail _ (.tail _ h)) | (simp only [List.mem_cons, List.not_mem_nil, or_false, List.set_cons_zero, List.set_cons_succ, reduceCtorEq, false_or] at h ⊢ <;> first | exact h | exact .inr h | exact .inr (.inr h) | exact .inr (.inr (.inr h)) | (rcases h with h | h | h | h | h | h <;> simp [h]) | simp_all)) (by intro f h; first | exact h | exact .tail _ h | exact .tail _ (.tail _ h) | exact .tail _ (.tail _ (.tail _ h)) | (simp only [List.mem_cons, List.not_mem_nil, or_false] at h ⊢ <;> first | exact h | exact .inr h | exact .inr (.inr h) | exact .inr (.inr (.inr h)) | (rcases h with h | h | h | h | h | h <;> simp [h]) | simp_all)), ?_⟩
    refine VA_take 12 (d := 28) rfl (by kernel_rfl) rfl (fun w g => run_addS rfl rfl rfl (by omega)) (by first | exact s.see | exact s.sees (by intro b c t h; first | exact h | exact .tail _ h | exact .tail _ (.tail _ h) | exact .tail _ (.tail _ (.tail _ h)) | (simp only [List.mem_cons, List.not_mem_nil, or_false, List.set_cons_zero, List.set_cons_succ, reduceCtorEq, false_or] at h ⊢ <;> first | exact h | exact .inr h | exact .inr (.inr h) | exact .inr (.inr (.inr h)) | (rcases h with h | h | h | h | h | h <;> simp [h]) | simp_all)) (by intro f h; first | exact h | exact .tail _ h | exact .tail _ (.tail _ h) | exact .tail _ (.tail _ (.tail _ h)) | (simp only [List.mem_cons, List.not_mem_nil, or_false] at h ⊢ <;> first | exact h | exact .inr h | exact .inr (.inr h) | exact .inr (.inr (.inr h)) | (rcases h with h | h | h | h | h | h <;> simp [h]) | simp_all))) ?_
    refine VA_take 13 (d := 29) rfl (by kernel_rfl) rfl (fun w g => run_addS rfl rfl rfl (by omega)) (by first | exact s.see | exact s.sees (by intro b c t h; first | exact h | exact .tail _ h | exact .tail _ (.tail _ h) | exact .tail _ (.tail _ (.tail _ h)) | (simp only [List.mem_cons, List.not_mem_nil, or_false, List.set_cons_zero, List.set_cons_succ, reduceCtorEq, false_or] at h ⊢ <;> first | exact h | exact .inr h | exact .inr (.inr h) | exact .inr (.inr (.inr h)) | (rcases h with h | h | h | h | h | h <;> simp [h]) | simp_all)) (by intro f h; first | exact h | exact .tail _ h | exact .tail _ (.tail _ h) | exact .tail _ (.tail _ (.tail _ h)) | (simp only [List.mem_cons, List.not_mem_nil, or_false] at h ⊢ <;> first | exact h | exact .inr h | exact .inr (.inr h) | exact .inr (.inr (.inr h)) | (rcases h with h | h | h | h | h | h <;> simp [h]) | simp_all))) ?_
    refine VA_one (i := 14) (by kernel_rfl) ?_
    refine VO_run (d := 4) rfl (run_assign rfl (by conv => lhs; whnf)) rfl rfl ((fun h => nomatch (show true = false from h))) ?_
    refine VA_done (by kernel_rfl) ?_
    refine VS_ret ?_
    repeat (first | refine blockV_ret ?_ | refine backV_ret ?_ | refine backV2_ret ?_ | refine backV3_ret ?_ | refine thenV_ret ?_ | refine metV2_ret ?_)
    refine fin_one (fn := Tryd.f23) rfl (res_tmp (by conv => lhs; whnf)) ?_
    refine ⟨congrArg Value.string (ba_ext ?_), s.below⟩
    obtain rfl : dir = false := c0
    simp only [app_list, ba_list, lineL, cond_false]
    rfl
theorem namesOk_one (p : List ByteArray) : namesOkB p 1 = (!p.isEmpty && pathOk p) := by
  cases p with
  | nil => simp [namesOkB, inI]
  | cons x r => rfl
theorem namesOk_zero (p : List ByteArray) : namesOkB p 0 = (p.isEmpty || pathOk p) := by
  cases p with
  | nil => simp [namesOkB, inI]
  | cons x r =>
    have h0 : (0 : Int) ≤ ((x :: r).length : Int) := by omega
    have h1 : (1 : Int) ≤ ((x :: r).length : Int) := by simp only [List.length_cons]; omega
    simp only [namesOkB, pathOk, inI, h0, h1, decide_true, List.isEmpty_cons, Bool.false_or]
theorem entryOk_ok (e : En) {ok : Nat → Prop} {w0 : World} {cs : List Value} (h1 : Rd ok w0 e.toD cs) (hp : e.wt ≤ 1000000000) :
    Calls Tryd.prog 22 #[.agg cs.toArray] w0 (Ret fun v w' => v = .bool (enOk e) ∧ Below w0.heap.size w0 w') := by
  obtain ⟨A, c, rfl, hl, hpa⟩ := En.opn h1
  have hw : e.wt = namesWt e.path + e.data.size := rfl
  clear h1
  have s := (St.start ok w0).begin hpa
  refine calls_enter (n := 71) Tryd.func22 rfl rfl rfl ?_
  repeat (first | refine VS_seq ?_ | refine VS_block ?_ | refine VS_skip ?_ | refine VS_nil_block ?_)
  refine VS_region_lit ?_
  refine VL_does (d := 1) (does_box s rfl rfl rfl ?_) rfl rfl
  clear s; intro b1 w s
  refine VL_run (d := 2) (run_assign rfl (by conv => lhs; whnf)) rfl rfl ?_
  refine VL_nil ?_
  repeat (first | refine VS_seq ?_ | refine VS_block ?_ | refine VS_skip ?_ | refine VS_nil_block ?_)
  refine VS_region_lit ?_
  refine VL_run (d := 3) (run_assign rfl (by conv => lhs; whnf)) rfl rfl ?_
  refine VL_nil ?_
  repeat (first | refine VS_seq ?_ | refine VS_block ?_ | refine VS_skip ?_ | refine VS_nil_block ?_)
  refine VS_region_lit ?_
  refine VL_run (d := 4) (run_fieldAddr rfl fo40_1 rfl) rfl rfl ?_
  first | (refine VL_run (d := 5) (run_load_own1 s rfl ty3 rfl (i := 0) rfl rfl) rfl rfl ?_) | (refine VL_run (d := 5) (run_load_own1 s rfl ty3 rfl (i := 1) rfl rfl) rfl rfl ?_) | (refine VL_run (d := 5) (run_load_own1 s rfl ty3 rfl (i := 2) rfl rfl) rfl rfl ?_) | (refine VL_run (d := 5) (run_load_own1 s rfl ty3 rfl (i := 3) rfl rfl) rfl rfl ?_) | (refine VL_run (d := 5) (run_load_own1 s rfl ty3 rfl (i := 4) rfl rfl) rfl rfl ?_) | (refine VL_run (d := 5) (run_load_own1 s rfl ty3 rfl (i := 5) rfl rfl) rfl rfl ?_) | (refine VL_run (d := 5) (run_load_own1 s rfl ty3 rfl (i := 6) rfl rfl) rfl rfl ?_) | (refine VL_run (d := 5) (run_load_own1 s rfl ty3 rfl (i := 7) rfl rfl) rfl rfl ?_) | (refine VL_run (d := 5) (run_load_own1 s rfl ty3 rfl (i := 8) rfl rfl) rfl rfl ?_) | (refine VL_run (d := 5) (run_load_at1 s rfl ty3 rfl (i := 0) rfl rfl) rfl rfl ?_) | (refine VL_run (d := 5) (run_load_at1 s rfl ty3 rfl (i := 1) rfl rfl) rfl rfl ?_) | (refine VL_run (d := 5) (run_load_at1 s rfl ty3 rfl (i := 2) rfl rfl) rfl rfl ?_) | (refine VL_run (d := 5) (run_load_at1 s rfl ty3 rfl (i := 3) rfl rfl) rfl rfl ?_) | (refine VL_run (d := 5) (run_load_at1 s rfl ty3 rfl (i := 4) rfl rfl) rfl rfl ?_) | (refine VL_run (d := 5) (run_load_at1 s rfl ty3 rfl (i := 5) rfl rfl) rfl rfl ?_) | (refine VL_run (d := 5) (run_load_at1 s rfl ty3 rfl (i := 6) rfl rfl) rfl rfl ?_) | (refine VL_run (d := 5) (run_load_at1 s rfl ty3 rfl (i := 7) rfl rfl) rfl rfl ?_) | (refine VL_run (d := 5) (run_load_at1 s rfl ty3 rfl (i := 8) rfl rfl) rfl rfl ?_) | (refine VL_run (d := 5) (run_load_at0 s rfl ty3 rfl (i := 0) rfl rfl) rfl rfl ?_) | (refine VL_run (d := 5) (run_load_at0 s rfl ty3 rfl (i := 1) rfl rfl) rfl rfl ?_) | (refine VL_run (d := 5) (run_load_at0 s rfl ty3 rfl (i := 2) rfl rfl) rfl rfl ?_) | (refine VL_run (d := 5) (run_load_at0 s rfl ty3 rfl (i := 3) rfl rfl) rfl rfl ?_) | (refine VL_run (d := 5) (run_load_at0 s rfl ty3 rfl (i := 4) rfl rfl) rfl rfl ?_) | (refine VL_run (d := 5) (run_load_at0 s rfl ty3 rfl (i := 5) rfl rfl) rfl rfl ?_) | (refine VL_run (d := 5) (run_load_at0 s rfl ty3 rfl (i := 6) rfl rfl) rfl rfl ?_) | (refine VL_run (d := 5) (run_load_at0 s rfl ty3 rfl (i := 7) rfl rfl) rfl rfl ?_) | (refine VL_run (d := 5) (run_load_at0 s rfl ty3 rfl (i := 8) rfl rfl) rfl rfl ?_)
  refine VL_run (d := 6) (run_eqI rfl rfl rfl) rfl rfl ?_
  refine VL_nil ?_
  refine VS_join1 [3] (fun n : Int => [(3, .int .i64 n)]) (fun n w => St ok w0 [.blk b1 (enC e A c) 40] [.dat [.slice A e.path.length c] (.sl (strsD e.path))] w ∧ n = if e.what = 3 then 0 else 1) ?_ ?_
  · refine VS_cond rfl (fun c0 => ?_) (fun c0 => ?_) <;> (try simp only [decide_eq_true_eq, decide_eq_false_iff_not, Bool.not_eq_true', Bool.not_eq_false', ne_eq, Decidable.not_not, cond_true, cond_false, Bool.and_eq_true, Bool.or_eq_true, Bool.and_eq_false_iff, Bool.or_eq_false_iff, Bool.not_true, Bool.not_false, reduceCtorEq] at c0)
    · refine VS_region_lit ?_
      refine VL_run (d := 3) (run_assign rfl (by conv => lhs; whnf)) rfl rfl ?_
      refine VL_nil ?_
      refine VS_met (_) ?_ (by repeat (first | exact Has.nil _ | refine Has.cons rfl ?_)) (by repeat (first | exact Out.mix _ _ _ | exact Out.refl _ _ | refine Out.upd rfl ?_ | refine Out.mix_in rfl ?_))
      exact ⟨s, by simp [c0]⟩
    · repeat (first | refine VS_seq ?_ | refine VS_block ?_ | refine VS_skip ?_ | refine VS_nil_block ?_)
      refine VS_met (_) ?_ (by repeat (first | exact Has.nil _ | refine Has.cons rfl ?_)) (by repeat (first | exact Out.mix _ _ _ | exact Out.refl _ _ | refine Out.upd rfl ?_ | refine Out.mix_in rfl ?_))
      exact ⟨s, by simp [c0]⟩
  clear s
  rintro n w j ⟨s, hn⟩
  repeat (first | refine VS_seq ?_ | refine VS_block ?_ | refine VS_skip ?_ | refine VS_nil_block ?_)
  refine VS_meetB s 23 (!(namesOkB e.path n && inI e.mode 0 7 && decide (e.data.size ≤ 24))) [7, 8, 9, 10, 11, 12, 13, 14, 15, 16, 17, 18, 19, 20, 21, 22, 23] ?_ ?_
  · refine VS_region_lit ?_
    refine VL_run (d := 7) (run_fieldAddr rfl fo40_0 rfl) rfl rfl ?_
    first | (refine VL_run (d := 8) (run_load_own1 s rfl ty37 rfl (i := 0) rfl rfl) rfl rfl ?_) | (refine VL_run (d := 8) (run_load_own1 s rfl ty37 rfl (i := 1) rfl rfl) rfl rfl ?_) | (refine VL_run (d := 8) (run_load_own1 s rfl ty37 rfl (i := 2) rfl rfl) rfl rfl ?_) | (refine VL_run (d := 8) (run_load_own1 s rfl ty37 rfl (i := 3) rfl rfl) rfl rfl ?_) | (refine VL_run (d := 8) (run_load_own1 s rfl ty37 rfl (i := 4) rfl rfl) rfl rfl ?_) | (refine VL_run (d := 8) (run_load_own1 s rfl ty37 rfl (i := 5) rfl rfl) rfl rfl ?_) | (refine VL_run (d := 8) (run_load_own1 s rfl ty37 rfl (i := 6) rfl rfl) rfl rfl ?_) | (refine VL_run (d := 8) (run_load_own1 s rfl ty37 rfl (i := 7) rfl rfl) rfl rfl ?_) | (refine VL_run (d := 8) (run_load_own1 s rfl ty37 rfl (i := 8) rfl rfl) rfl rfl ?_) | (refine VL_run (d := 8) (run_load_at1 s rfl ty37 rfl (i := 0) rfl rfl) rfl rfl ?_) | (refine VL_run (d := 8) (run_load_at1 s rfl ty37 rfl (i := 1) rfl rfl) rfl rfl ?_) | (refine VL_run (d := 8) (run_load_at1 s rfl ty37 rfl (i := 2) rfl rfl) rfl rfl ?_) | (refine VL_run (d := 8) (run_load_at1 s rfl ty37 rfl (i := 3) rfl rfl) rfl rfl ?_) | (refine VL_run (d := 8) (run_load_at1 s rfl ty37 rfl (i := 4) rfl rfl) rfl rfl ?_) | (refine VL_run (d := 8) (run_load_at1 s rfl ty37 rfl (i := 5) rfl rfl) rfl rfl ?_) | (refine VL_run (d := 8) (run_load_at1 s rfl ty37 rfl (i := 6) rfl rfl) rfl rfl ?_) | (refine VL_run (d := 8) (run_load_at1 s rfl ty37 rfl (i := 7) rfl rfl) rfl rfl ?_) | (refine VL_run (d := 8) (run_load_at1 s rfl ty37 rfl (i := 8) rfl rfl) rfl rfl ?_) | (refine VL_run (d := 8) (run_load_at0 s rfl ty37 rfl (i := 0) rfl rfl) rfl rfl ?_) | (refine VL_run (d := 8) (run_load_at0 s rfl ty37 rfl (i := 1) rfl rfl) rfl rfl ?_) | (refine VL_run (d := 8) (run_load_at0 s rfl ty37 rfl (i := 2) rfl rfl) rfl rfl ?_) | (refine VL_run (d := 8) (run_load_at0 s rfl ty37 rfl (i := 3) rfl rfl) rfl rfl ?_) | (refine VL_run (d := 8) (run_load_at0 s rfl ty37 rfl (i := 4) rfl rfl) rfl rfl ?_) | (refine VL_run (d := 8) (run_load_at0 s rfl ty37 rfl (i := 5) rfl rfl) rfl rfl ?_) | (refine VL_run (d := 8) (run_load_at0 s rfl ty37 rfl (i := 6) rfl rfl) rfl rfl ?_) | (refine VL_run (d := 8) (run_load_at0 s rfl ty37 rfl (i := 7) rfl rfl) rfl rfl ?_) | (refine VL_run (d := 8) (run_load_at0 s rfl ty37 rfl (i := 8) rfl rfl) rfl rfl ?_)
    refine VL_run (d := 9) (run_move rfl (by conv => lhs; whnf)) rfl rfl ?_
    refine VL_does (d := 10) (does_call2 rfl (by kernel_rfl) rfl rfl (namesOk_ok _ n (s.dat (i := 0) rfl) (by unfold PFit; omega)) ?_) rfl rfl
    rintro _ w ⟨rfl, hb⟩
    replace s := s.step hb
    clear hb
    refine VL_run (d := 11) (run_not rfl rfl) rfl rfl ?_
    refine VL_run (d := 12) (run_move rfl (by conv => lhs; whnf)) rfl rfl ?_
    refine VL_split 12 (by conv => lhs; whnf) (fun h12 => ?_) (fun h12 => ?_) <;> (try simp only [decide_eq_true_eq, decide_eq_false_iff_not, Bool.not_eq_true', Bool.not_eq_false', ne_eq, Decidable.not_not, cond_true, cond_false, Bool.and_eq_true, Bool.or_eq_true, Bool.and_eq_false_iff, Bool.or_eq_false_iff, Bool.not_true, Bool.not_false, reduceCtorEq] at h12)
    · refine VL_not (d := 13) rfl rfl rfl rfl ?_
      refine VL_not (d := 14) rfl rfl rfl rfl ?_
      refine VL_not (d := 15) rfl rfl rfl rfl ?_
      refine VL_not (d := 16) rfl rfl rfl rfl ?_
      first | (refine VL_run (d := 17) (run_pickT rfl rfl rfl) rfl rfl ?_) | (refine VL_run (d := 17) (run_pickF rfl rfl rfl) rfl rfl ?_) | (refine VL_run (d := 17) (run_pick rfl rfl (fun _ => rfl) (fun _ => rfl)) rfl rfl ?_)
      refine VL_run (d := 18) (run_move rfl (by conv => lhs; whnf)) rfl rfl ?_
      refine VL_not (d := 19) rfl rfl rfl rfl ?_
      refine VL_not (d := 20) rfl rfl rfl rfl ?_
      refine VL_not (d := 21) rfl rfl rfl rfl ?_
      refine VL_not (d := 22) rfl rfl rfl rfl ?_
      first | (refine VL_run (d := 23) (run_pickT rfl rfl rfl) rfl rfl ?_) | (refine VL_run (d := 23) (run_pickF rfl rfl rfl) rfl rfl ?_) | (refine VL_run (d := 23) (run_pick rfl rfl (fun _ => rfl) (fun _ => rfl)) rfl rfl ?_)
      refine VL_nil ?_
      exact VS_endB s (by conv => lhs; whnf) (by clear s; grind) (by repeat (first | exact Out.mix _ _ _ | exact Out.refl _ _ | refine Out.upd rfl ?_ | refine Out.mix_in rfl ?_))
    · refine VL_run (d := 13) (run_fieldAddr rfl fo40_3 rfl) rfl rfl ?_
      first | (refine VL_run (d := 14) (run_load_own1 s rfl ty3 rfl (i := 0) rfl rfl) rfl rfl ?_) | (refine VL_run (d := 14) (run_load_own1 s rfl ty3 rfl (i := 1) rfl rfl) rfl rfl ?_) | (refine VL_run (d := 14) (run_load_own1 s rfl ty3 rfl (i := 2) rfl rfl) rfl rfl ?_) | (refine VL_run (d := 14) (run_load_own1 s rfl ty3 rfl (i := 3) rfl rfl) rfl rfl ?_) | (refine VL_run (d := 14) (run_load_own1 s rfl ty3 rfl (i := 4) rfl rfl) rfl rfl ?_) | (refine VL_run (d := 14) (run_load_own1 s rfl ty3 rfl (i := 5) rfl rfl) rfl rfl ?_) | (refine VL_run (d := 14) (run_load_own1 s rfl ty3 rfl (i := 6) rfl rfl) rfl rfl ?_) | (refine VL_run (d := 14) (run_load_own1 s rfl ty3 rfl (i := 7) rfl rfl) rfl rfl ?_) | (refine VL_run (d := 14) (run_load_own1 s rfl ty3 rfl (i := 8) rfl rfl) rfl rfl ?_) | (refine VL_run (d := 14) (run_load_at1 s rfl ty3 rfl (i := 0) rfl rfl) rfl rfl ?_) | (refine VL_run (d := 14) (run_load_at1 s rfl ty3 rfl (i := 1) rfl rfl) rfl rfl ?_) | (refine VL_run (d := 14) (run_load_at1 s rfl ty3 rfl (i := 2) rfl rfl) rfl rfl ?_) | (refine VL_run (d := 14) (run_load_at1 s rfl ty3 rfl (i := 3) rfl rfl) rfl rfl ?_) | (refine VL_run (d := 14) (run_load_at1 s rfl ty3 rfl (i := 4) rfl rfl) rfl rfl ?_) | (refine VL_run (d := 14) (run_load_at1 s rfl ty3 rfl (i := 5) rfl rfl) rfl rfl ?_) | (refine VL_run (d := 14) (run_load_at1 s rfl ty3 rfl (i := 6) rfl rfl) rfl rfl ?_) | (refine VL_run (d := 14) (run_load_at1 s rfl ty3 rfl (i := 7) rfl rfl) rfl rfl ?_) | (refine VL_run (d := 14) (run_load_at1 s rfl ty3 rfl (i := 8) rfl rfl) rfl rfl ?_) | (refine VL_run (d := 14) (run_load_at0 s rfl ty3 rfl (i := 0) rfl rfl) rfl rfl ?_) | (refine VL_run (d := 14) (run_load_at0 s rfl ty3 rfl (i := 1) rfl rfl) rfl rfl ?_) | (refine VL_run (d := 14) (run_load_at0 s rfl ty3 rfl (i := 2) rfl rfl) rfl rfl ?_) | (refine VL_run (d := 14) (run_load_at0 s rfl ty3 rfl (i := 3) rfl rfl) rfl rfl ?_) | (refine VL_run (d := 14) (run_load_at0 s rfl ty3 rfl (i := 4) rfl rfl) rfl rfl ?_) | (refine VL_run (d := 14) (run_load_at0 s rfl ty3 rfl (i := 5) rfl rfl) rfl rfl ?_) | (refine VL_run (d := 14) (run_load_at0 s rfl ty3 rfl (i := 6) rfl rfl) rfl rfl ?_) | (refine VL_run (d := 14) (run_load_at0 s rfl ty3 rfl (i := 7) rfl rfl) rfl rfl ?_) | (refine VL_run (d := 14) (run_load_at0 s rfl ty3 rfl (i := 8) rfl rfl) rfl rfl ?_)
      refine VL_does (d := 15) (does_call1 rfl (by kernel_rfl) rfl (modeOk_ok _) ?_) rfl rfl
      rintro _ w ⟨rfl, hb⟩
      replace s := s.step hb
      clear hb
      refine VL_run (d := 16) (run_not rfl rfl) rfl rfl ?_
      first | (refine VL_run (d := 17) (run_pickT rfl rfl rfl) rfl rfl ?_) | (refine VL_run (d := 17) (run_pickF rfl rfl rfl) rfl rfl ?_) | (refine VL_run (d := 17) (run_pick rfl rfl (fun _ => rfl) (fun _ => rfl)) rfl rfl ?_)
      refine VL_run (d := 18) (run_move rfl (by conv => lhs; whnf)) rfl rfl ?_
      refine VL_split 18 (by conv => lhs; whnf) (fun h18 => ?_) (fun h18 => ?_) <;> (try simp only [decide_eq_true_eq, decide_eq_false_iff_not, Bool.not_eq_true', Bool.not_eq_false', ne_eq, Decidable.not_not, cond_true, cond_false, Bool.and_eq_true, Bool.or_eq_true, Bool.and_eq_false_iff, Bool.or_eq_false_iff, Bool.not_true, Bool.not_false, reduceCtorEq] at h18)
      · refine VL_not (d := 19) rfl rfl rfl rfl ?_
        refine VL_not (d := 20) rfl rfl rfl rfl ?_
        refine VL_not (d := 21) rfl rfl rfl rfl ?_
        refine VL_not (d := 22) rfl rfl rfl rfl ?_
        first | (refine VL_run (d := 23) (run_pickT rfl rfl rfl) rfl rfl ?_) | (refine VL_run (d := 23) (run_pickF rfl rfl rfl) rfl rfl ?_) | (refine VL_run (d := 23) (run_pick rfl rfl (fun _ => rfl) (fun _ => rfl)) rfl rfl ?_)
        refine VL_nil ?_
        exact VS_endB s (by conv => lhs; whnf) (by clear s; grind) (by repeat (first | exact Out.mix _ _ _ | exact Out.refl _ _ | refine Out.upd rfl ?_ | refine Out.mix_in rfl ?_))
      · refine VL_run (d := 19) (run_fieldAddr rfl fo40_4 rfl) rfl rfl ?_
        first | (refine VL_run (d := 20) (run_load_own1 s rfl ty9 rfl (i := 0) rfl rfl) rfl rfl ?_) | (refine VL_run (d := 20) (run_load_own1 s rfl ty9 rfl (i := 1) rfl rfl) rfl rfl ?_) | (refine VL_run (d := 20) (run_load_own1 s rfl ty9 rfl (i := 2) rfl rfl) rfl rfl ?_) | (refine VL_run (d := 20) (run_load_own1 s rfl ty9 rfl (i := 3) rfl rfl) rfl rfl ?_) | (refine VL_run (d := 20) (run_load_own1 s rfl ty9 rfl (i := 4) rfl rfl) rfl rfl ?_) | (refine VL_run (d := 20) (run_load_own1 s rfl ty9 rfl (i := 5) rfl rfl) rfl rfl ?_) | (refine VL_run (d := 20) (run_load_own1 s rfl ty9 rfl (i := 6) rfl rfl) rfl rfl ?_) | (refine VL_run (d := 20) (run_load_own1 s rfl ty9 rfl (i := 7) rfl rfl) rfl rfl ?_) | (refine VL_run (d := 20) (run_load_own1 s rfl ty9 rfl (i := 8) rfl rfl) rfl rfl ?_) | (refine VL_run (d := 20) (run_load_at1 s rfl ty9 rfl (i := 0) rfl rfl) rfl rfl ?_) | (refine VL_run (d := 20) (run_load_at1 s rfl ty9 rfl (i := 1) rfl rfl) rfl rfl ?_) | (refine VL_run (d := 20) (run_load_at1 s rfl ty9 rfl (i := 2) rfl rfl) rfl rfl ?_) | (refine VL_run (d := 20) (run_load_at1 s rfl ty9 rfl (i := 3) rfl rfl) rfl rfl ?_) | (refine VL_run (d := 20) (run_load_at1 s rfl ty9 rfl (i := 4) rfl rfl) rfl rfl ?_) | (refine VL_run (d := 20) (run_load_at1 s rfl ty9 rfl (i := 5) rfl rfl) rfl rfl ?_) | (refine VL_run (d := 20) (run_load_at1 s rfl ty9 rfl (i := 6) rfl rfl) rfl rfl ?_) | (refine VL_run (d := 20) (run_load_at1 s rfl ty9 rfl (i := 7) rfl rfl) rfl rfl ?_) | (refine VL_run (d := 20) (run_load_at1 s rfl ty9 rfl (i := 8) rfl rfl) rfl rfl ?_) | (refine VL_run (d := 20) (run_load_at0 s rfl ty9 rfl (i := 0) rfl rfl) rfl rfl ?_) | (refine VL_run (d := 20) (run_load_at0 s rfl ty9 rfl (i := 1) rfl rfl) rfl rfl ?_) | (refine VL_run (d := 20) (run_load_at0 s rfl ty9 rfl (i := 2) rfl rfl) rfl rfl ?_) | (refine VL_run (d := 20) (run_load_at0 s rfl ty9 rfl (i := 3) rfl rfl) rfl rfl ?_) | (refine VL_run (d := 20) (run_load_at0 s rfl ty9 rfl (i := 4) rfl rfl) rfl rfl ?_) | (refine VL_run (d := 20) (run_load_at0 s rfl ty9 rfl (i := 5) rfl rfl) rfl rfl ?_) | (refine VL_run (d := 20) (run_load_at0 s rfl ty9 rfl (i := 6) rfl rfl) rfl rfl ?_) | (refine VL_run (d := 20) (run_load_at0 s rfl ty9 rfl (i := 7) rfl rfl) rfl rfl ?_) | (refine VL_run (d := 20) (run_load_at0 s rfl ty9 rfl (i := 8) rfl rfl) rfl rfl ?_)
        refine VL_run (d := 21) (run_lenStr rfl Tryd.underlying9 rfl) rfl rfl ?_
        refine VL_run (d := 22) (run_gtI rfl rfl rfl) rfl rfl ?_
        first | (refine VL_run (d := 23) (run_pickT rfl rfl rfl) rfl rfl ?_) | (refine VL_run (d := 23) (run_pickF rfl rfl rfl) rfl rfl ?_) | (refine VL_run (d := 23) (run_pick rfl rfl (fun _ => rfl) (fun _ => rfl)) rfl rfl ?_)
        refine VL_nil ?_
        exact VS_endB s (by conv => lhs; whnf) (by clear s; grind) (by repeat (first | exact Out.mix _ _ _ | exact Out.refl _ _ | refine Out.upd rfl ?_ | refine Out.mix_in rfl ?_))
  clear s; intro w j23 s
  refine VS_cond rfl (fun c1 => ?_) (fun c1 => ?_) <;> (try simp only [decide_eq_true_eq, decide_eq_false_iff_not, Bool.not_eq_true', Bool.not_eq_false', ne_eq, Decidable.not_not, cond_true, cond_false, Bool.and_eq_true, Bool.or_eq_true, Bool.and_eq_false_iff, Bool.or_eq_false_iff, Bool.not_true, Bool.not_false, reduceCtorEq] at c1)
  · repeat (first | refine VS_seq ?_ | refine VS_block ?_ | refine VS_skip ?_ | refine VS_nil_block ?_)
    refine VS_region_lit ?_
    refine VL_run (d := 2) (run_assign rfl (by conv => lhs; whnf)) rfl rfl ?_
    refine VL_nil ?_
    refine VS_ret ?_
    repeat (first | refine blockV_ret ?_ | refine backV_ret ?_ | refine backV2_ret ?_ | refine backV3_ret ?_ | refine thenV_ret ?_ | refine metV2_ret ?_)
    refine fin_one (fn := Tryd.f22) rfl (res_tmp (by conv => lhs; whnf)) ?_
    exact ⟨by clear s; have hn1 := namesOk_one e.path; have hn0 := namesOk_zero e.path; unfold enOk; grind, s.below⟩
  · repeat (first | refine VS_seq ?_ | refine VS_block ?_ | refine VS_skip ?_ | refine VS_nil_block ?_)
    have hn1 := namesOk_one e.path
    have hn0 := namesOk_zero e.path
    refine VS_region_lit ?_
    refine VL_run (d := 24) (run_fieldAddr rfl fo40_1 rfl) rfl rfl ?_
    first | (refine VL_run (d := 25) (run_load_own1 s rfl ty3 rfl (i := 0) rfl rfl) rfl rfl ?_) | (refine VL_run (d := 25) (run_load_own1 s rfl ty3 rfl (i := 1) rfl rfl) rfl rfl ?_) | (refine VL_run (d := 25) (run_load_own1 s rfl ty3 rfl (i := 2) rfl rfl) rfl rfl ?_) | (refine VL_run (d := 25) (run_load_own1 s rfl ty3 rfl (i := 3) rfl rfl) rfl rfl ?_) | (refine VL_run (d := 25) (run_load_own1 s rfl ty3 rfl (i := 4) rfl rfl) rfl rfl ?_) | (refine VL_run (d := 25) (run_load_own1 s rfl ty3 rfl (i := 5) rfl rfl) rfl rfl ?_) | (refine VL_run (d := 25) (run_load_own1 s rfl ty3 rfl (i := 6) rfl rfl) rfl rfl ?_) | (refine VL_run (d := 25) (run_load_own1 s rfl ty3 rfl (i := 7) rfl rfl) rfl rfl ?_) | (refine VL_run (d := 25) (run_load_own1 s rfl ty3 rfl (i := 8) rfl rfl) rfl rfl ?_) | (refine VL_run (d := 25) (run_load_at1 s rfl ty3 rfl (i := 0) rfl rfl) rfl rfl ?_) | (refine VL_run (d := 25) (run_load_at1 s rfl ty3 rfl (i := 1) rfl rfl) rfl rfl ?_) | (refine VL_run (d := 25) (run_load_at1 s rfl ty3 rfl (i := 2) rfl rfl) rfl rfl ?_) | (refine VL_run (d := 25) (run_load_at1 s rfl ty3 rfl (i := 3) rfl rfl) rfl rfl ?_) | (refine VL_run (d := 25) (run_load_at1 s rfl ty3 rfl (i := 4) rfl rfl) rfl rfl ?_) | (refine VL_run (d := 25) (run_load_at1 s rfl ty3 rfl (i := 5) rfl rfl) rfl rfl ?_) | (refine VL_run (d := 25) (run_load_at1 s rfl ty3 rfl (i := 6) rfl rfl) rfl rfl ?_) | (refine VL_run (d := 25) (run_load_at1 s rfl ty3 rfl (i := 7) rfl rfl) rfl rfl ?_) | (refine VL_run (d := 25) (run_load_at1 s rfl ty3 rfl (i := 8) rfl rfl) rfl rfl ?_) | (refine VL_run (d := 25) (run_load_at0 s rfl ty3 rfl (i := 0) rfl rfl) rfl rfl ?_) | (refine VL_run (d := 25) (run_load_at0 s rfl ty3 rfl (i := 1) rfl rfl) rfl rfl ?_) | (refine VL_run (d := 25) (run_load_at0 s rfl ty3 rfl (i := 2) rfl rfl) rfl rfl ?_) | (refine VL_run (d := 25) (run_load_at0 s rfl ty3 rfl (i := 3) rfl rfl) rfl rfl ?_) | (refine VL_run (d := 25) (run_load_at0 s rfl ty3 rfl (i := 4) rfl rfl) rfl rfl ?_) | (refine VL_run (d := 25) (run_load_at0 s rfl ty3 rfl (i := 5) rfl rfl) rfl rfl ?_) | (refine VL_run (d := 25) (run_load_at0 s rfl ty3 rfl (i := 6) rfl rfl) rfl rfl ?_) | (refine VL_run (d := 25) (run_load_at0 s rfl ty3 rfl (i := 7) rfl rfl) rfl rfl ?_) | (refine VL_run (d := 25) (run_load_at0 s rfl ty3 rfl (i := 8) rfl rfl) rfl rfl ?_)
    refine VL_nil ?_
    repeat (first | refine VS_seq ?_ | refine VS_block ?_ | refine VS_skip ?_ | refine VS_nil_block ?_)
    refine VS_region_lit ?_
    refine VL_run (d := 27) (run_eqI rfl rfl rfl) rfl rfl ?_
    refine VL_run (d := 26) (run_assign rfl (by conv => lhs; whnf)) rfl rfl ?_
    refine VL_nil ?_
    refine VS_cond rfl (fun c2 => ?_) (fun c2 => ?_) <;> (try simp only [decide_eq_true_eq, decide_eq_false_iff_not, Bool.not_eq_true', Bool.not_eq_false', ne_eq, Decidable.not_not, cond_true, cond_false, Bool.and_eq_true, Bool.or_eq_true, Bool.and_eq_false_iff, Bool.or_eq_false_iff, Bool.not_true, Bool.not_false, reduceCtorEq] at c2)
    · repeat (first | refine VS_seq ?_ | refine VS_block ?_ | refine VS_skip ?_ | refine VS_nil_block ?_)
      refine VS_meetB s 2 (!e.dir && decide (e.mode = 0) && decide (e.data = ⟨#[]⟩)) [28, 29, 30, 31, 32, 33, 34, 35, 36, 37, 38, 39, 40, 2] ?_ ?_
      · refine VS_region_lit ?_
        refine VL_run (d := 28) (run_fieldAddr rfl fo40_2 rfl) rfl rfl ?_
        first | (refine VL_run (d := 29) (run_load_own1 s rfl ty4 rfl (i := 0) rfl rfl) rfl rfl ?_) | (refine VL_run (d := 29) (run_load_own1 s rfl ty4 rfl (i := 1) rfl rfl) rfl rfl ?_) | (refine VL_run (d := 29) (run_load_own1 s rfl ty4 rfl (i := 2) rfl rfl) rfl rfl ?_) | (refine VL_run (d := 29) (run_load_own1 s rfl ty4 rfl (i := 3) rfl rfl) rfl rfl ?_) | (refine VL_run (d := 29) (run_load_own1 s rfl ty4 rfl (i := 4) rfl rfl) rfl rfl ?_) | (refine VL_run (d := 29) (run_load_own1 s rfl ty4 rfl (i := 5) rfl rfl) rfl rfl ?_) | (refine VL_run (d := 29) (run_load_own1 s rfl ty4 rfl (i := 6) rfl rfl) rfl rfl ?_) | (refine VL_run (d := 29) (run_load_own1 s rfl ty4 rfl (i := 7) rfl rfl) rfl rfl ?_) | (refine VL_run (d := 29) (run_load_own1 s rfl ty4 rfl (i := 8) rfl rfl) rfl rfl ?_) | (refine VL_run (d := 29) (run_load_at1 s rfl ty4 rfl (i := 0) rfl rfl) rfl rfl ?_) | (refine VL_run (d := 29) (run_load_at1 s rfl ty4 rfl (i := 1) rfl rfl) rfl rfl ?_) | (refine VL_run (d := 29) (run_load_at1 s rfl ty4 rfl (i := 2) rfl rfl) rfl rfl ?_) | (refine VL_run (d := 29) (run_load_at1 s rfl ty4 rfl (i := 3) rfl rfl) rfl rfl ?_) | (refine VL_run (d := 29) (run_load_at1 s rfl ty4 rfl (i := 4) rfl rfl) rfl rfl ?_) | (refine VL_run (d := 29) (run_load_at1 s rfl ty4 rfl (i := 5) rfl rfl) rfl rfl ?_) | (refine VL_run (d := 29) (run_load_at1 s rfl ty4 rfl (i := 6) rfl rfl) rfl rfl ?_) | (refine VL_run (d := 29) (run_load_at1 s rfl ty4 rfl (i := 7) rfl rfl) rfl rfl ?_) | (refine VL_run (d := 29) (run_load_at1 s rfl ty4 rfl (i := 8) rfl rfl) rfl rfl ?_) | (refine VL_run (d := 29) (run_load_at0 s rfl ty4 rfl (i := 0) rfl rfl) rfl rfl ?_) | (refine VL_run (d := 29) (run_load_at0 s rfl ty4 rfl (i := 1) rfl rfl) rfl rfl ?_) | (refine VL_run (d := 29) (run_load_at0 s rfl ty4 rfl (i := 2) rfl rfl) rfl rfl ?_) | (refine VL_run (d := 29) (run_load_at0 s rfl ty4 rfl (i := 3) rfl rfl) rfl rfl ?_) | (refine VL_run (d := 29) (run_load_at0 s rfl ty4 rfl (i := 4) rfl rfl) rfl rfl ?_) | (refine VL_run (d := 29) (run_load_at0 s rfl ty4 rfl (i := 5) rfl rfl) rfl rfl ?_) | (refine VL_run (d := 29) (run_load_at0 s rfl ty4 rfl (i := 6) rfl rfl) rfl rfl ?_) | (refine VL_run (d := 29) (run_load_at0 s rfl ty4 rfl (i := 7) rfl rfl) rfl rfl ?_) | (refine VL_run (d := 29) (run_load_at0 s rfl ty4 rfl (i := 8) rfl rfl) rfl rfl ?_)
        refine VL_run (d := 30) (run_not rfl rfl) rfl rfl ?_
        refine VL_run (d := 31) (run_move rfl (by conv => lhs; whnf)) rfl rfl ?_
        refine VL_split 31 (by conv => lhs; whnf) (fun h31 => ?_) (fun h31 => ?_) <;> (try simp only [decide_eq_true_eq, decide_eq_false_iff_not, Bool.not_eq_true', Bool.not_eq_false', ne_eq, Decidable.not_not, cond_true, cond_false, Bool.and_eq_true, Bool.or_eq_true, Bool.and_eq_false_iff, Bool.or_eq_false_iff, Bool.not_true, Bool.not_false, reduceCtorEq] at h31)
        · refine VL_run (d := 32) (run_fieldAddr rfl fo40_3 rfl) rfl rfl ?_
          first | (refine VL_run (d := 33) (run_load_own1 s rfl ty3 rfl (i := 0) rfl rfl) rfl rfl ?_) | (refine VL_run (d := 33) (run_load_own1 s rfl ty3 rfl (i := 1) rfl rfl) rfl rfl ?_) | (refine VL_run (d := 33) (run_load_own1 s rfl ty3 rfl (i := 2) rfl rfl) rfl rfl ?_) | (refine VL_run (d := 33) (run_load_own1 s rfl ty3 rfl (i := 3) rfl rfl) rfl rfl ?_) | (refine VL_run (d := 33) (run_load_own1 s rfl ty3 rfl (i := 4) rfl rfl) rfl rfl ?_) | (refine VL_run (d := 33) (run_load_own1 s rfl ty3 rfl (i := 5) rfl rfl) rfl rfl ?_) | (refine VL_run (d := 33) (run_load_own1 s rfl ty3 rfl (i := 6) rfl rfl) rfl rfl ?_) | (refine VL_run (d := 33) (run_load_own1 s rfl ty3 rfl (i := 7) rfl rfl) rfl rfl ?_) | (refine VL_run (d := 33) (run_load_own1 s rfl ty3 rfl (i := 8) rfl rfl) rfl rfl ?_) | (refine VL_run (d := 33) (run_load_at1 s rfl ty3 rfl (i := 0) rfl rfl) rfl rfl ?_) | (refine VL_run (d := 33) (run_load_at1 s rfl ty3 rfl (i := 1) rfl rfl) rfl rfl ?_) | (refine VL_run (d := 33) (run_load_at1 s rfl ty3 rfl (i := 2) rfl rfl) rfl rfl ?_) | (refine VL_run (d := 33) (run_load_at1 s rfl ty3 rfl (i := 3) rfl rfl) rfl rfl ?_) | (refine VL_run (d := 33) (run_load_at1 s rfl ty3 rfl (i := 4) rfl rfl) rfl rfl ?_) | (refine VL_run (d := 33) (run_load_at1 s rfl ty3 rfl (i := 5) rfl rfl) rfl rfl ?_) | (refine VL_run (d := 33) (run_load_at1 s rfl ty3 rfl (i := 6) rfl rfl) rfl rfl ?_) | (refine VL_run (d := 33) (run_load_at1 s rfl ty3 rfl (i := 7) rfl rfl) rfl rfl ?_) | (refine VL_run (d := 33) (run_load_at1 s rfl ty3 rfl (i := 8) rfl rfl) rfl rfl ?_) | (refine VL_run (d := 33) (run_load_at0 s rfl ty3 rfl (i := 0) rfl rfl) rfl rfl ?_) | (refine VL_run (d := 33) (run_load_at0 s rfl ty3 rfl (i := 1) rfl rfl) rfl rfl ?_) | (refine VL_run (d := 33) (run_load_at0 s rfl ty3 rfl (i := 2) rfl rfl) rfl rfl ?_) | (refine VL_run (d := 33) (run_load_at0 s rfl ty3 rfl (i := 3) rfl rfl) rfl rfl ?_) | (refine VL_run (d := 33) (run_load_at0 s rfl ty3 rfl (i := 4) rfl rfl) rfl rfl ?_) | (refine VL_run (d := 33) (run_load_at0 s rfl ty3 rfl (i := 5) rfl rfl) rfl rfl ?_) | (refine VL_run (d := 33) (run_load_at0 s rfl ty3 rfl (i := 6) rfl rfl) rfl rfl ?_) | (refine VL_run (d := 33) (run_load_at0 s rfl ty3 rfl (i := 7) rfl rfl) rfl rfl ?_) | (refine VL_run (d := 33) (run_load_at0 s rfl ty3 rfl (i := 8) rfl rfl) rfl rfl ?_)
          refine VL_run (d := 34) (run_eqI rfl rfl rfl) rfl rfl ?_
          first | (refine VL_run (d := 35) (run_pickT rfl rfl rfl) rfl rfl ?_) | (refine VL_run (d := 35) (run_pickF rfl rfl rfl) rfl rfl ?_) | (refine VL_run (d := 35) (run_pick rfl rfl (fun _ => rfl) (fun _ => rfl)) rfl rfl ?_)
          refine VL_run (d := 36) (run_move rfl (by conv => lhs; whnf)) rfl rfl ?_
          refine VL_split 36 (by conv => lhs; whnf) (fun h36 => ?_) (fun h36 => ?_) <;> (try simp only [decide_eq_true_eq, decide_eq_false_iff_not, Bool.not_eq_true', Bool.not_eq_false', ne_eq, Decidable.not_not, cond_true, cond_false, Bool.and_eq_true, Bool.or_eq_true, Bool.and_eq_false_iff, Bool.or_eq_false_iff, Bool.not_true, Bool.not_false, reduceCtorEq] at h36)
          · refine VL_run (d := 37) (run_fieldAddr rfl fo40_4 rfl) rfl rfl ?_
            first | (refine VL_run (d := 38) (run_load_own1 s rfl ty9 rfl (i := 0) rfl rfl) rfl rfl ?_) | (refine VL_run (d := 38) (run_load_own1 s rfl ty9 rfl (i := 1) rfl rfl) rfl rfl ?_) | (refine VL_run (d := 38) (run_load_own1 s rfl ty9 rfl (i := 2) rfl rfl) rfl rfl ?_) | (refine VL_run (d := 38) (run_load_own1 s rfl ty9 rfl (i := 3) rfl rfl) rfl rfl ?_) | (refine VL_run (d := 38) (run_load_own1 s rfl ty9 rfl (i := 4) rfl rfl) rfl rfl ?_) | (refine VL_run (d := 38) (run_load_own1 s rfl ty9 rfl (i := 5) rfl rfl) rfl rfl ?_) | (refine VL_run (d := 38) (run_load_own1 s rfl ty9 rfl (i := 6) rfl rfl) rfl rfl ?_) | (refine VL_run (d := 38) (run_load_own1 s rfl ty9 rfl (i := 7) rfl rfl) rfl rfl ?_) | (refine VL_run (d := 38) (run_load_own1 s rfl ty9 rfl (i := 8) rfl rfl) rfl rfl ?_) | (refine VL_run (d := 38) (run_load_at1 s rfl ty9 rfl (i := 0) rfl rfl) rfl rfl ?_) | (refine VL_run (d := 38) (run_load_at1 s rfl ty9 rfl (i := 1) rfl rfl) rfl rfl ?_) | (refine VL_run (d := 38) (run_load_at1 s rfl ty9 rfl (i := 2) rfl rfl) rfl rfl ?_) | (refine VL_run (d := 38) (run_load_at1 s rfl ty9 rfl (i := 3) rfl rfl) rfl rfl ?_) | (refine VL_run (d := 38) (run_load_at1 s rfl ty9 rfl (i := 4) rfl rfl) rfl rfl ?_) | (refine VL_run (d := 38) (run_load_at1 s rfl ty9 rfl (i := 5) rfl rfl) rfl rfl ?_) | (refine VL_run (d := 38) (run_load_at1 s rfl ty9 rfl (i := 6) rfl rfl) rfl rfl ?_) | (refine VL_run (d := 38) (run_load_at1 s rfl ty9 rfl (i := 7) rfl rfl) rfl rfl ?_) | (refine VL_run (d := 38) (run_load_at1 s rfl ty9 rfl (i := 8) rfl rfl) rfl rfl ?_) | (refine VL_run (d := 38) (run_load_at0 s rfl ty9 rfl (i := 0) rfl rfl) rfl rfl ?_) | (refine VL_run (d := 38) (run_load_at0 s rfl ty9 rfl (i := 1) rfl rfl) rfl rfl ?_) | (refine VL_run (d := 38) (run_load_at0 s rfl ty9 rfl (i := 2) rfl rfl) rfl rfl ?_) | (refine VL_run (d := 38) (run_load_at0 s rfl ty9 rfl (i := 3) rfl rfl) rfl rfl ?_) | (refine VL_run (d := 38) (run_load_at0 s rfl ty9 rfl (i := 4) rfl rfl) rfl rfl ?_) | (refine VL_run (d := 38) (run_load_at0 s rfl ty9 rfl (i := 5) rfl rfl) rfl rfl ?_) | (refine VL_run (d := 38) (run_load_at0 s rfl ty9 rfl (i := 6) rfl rfl) rfl rfl ?_) | (refine VL_run (d := 38) (run_load_at0 s rfl ty9 rfl (i := 7) rfl rfl) rfl rfl ?_) | (refine VL_run (d := 38) (run_load_at0 s rfl ty9 rfl (i := 8) rfl rfl) rfl rfl ?_)
            refine VL_run (d := 39) (run_eqS rfl rfl rfl) rfl rfl ?_
            first | (refine VL_run (d := 40) (run_pickT rfl rfl rfl) rfl rfl ?_) | (refine VL_run (d := 40) (run_pickF rfl rfl rfl) rfl rfl ?_) | (refine VL_run (d := 40) (run_pick rfl rfl (fun _ => rfl) (fun _ => rfl)) rfl rfl ?_)
            refine VL_run (d := 2) (run_assign rfl (by conv => lhs; whnf)) rfl rfl ?_
            refine VL_nil ?_
            exact VS_endB s (by conv => lhs; whnf) (by clear s; grind) (by repeat (first | exact Out.mix _ _ _ | exact Out.refl _ _ | refine Out.upd rfl ?_ | refine Out.mix_in rfl ?_))
          · refine VL_not (d := 37) rfl rfl rfl rfl ?_
            refine VL_not (d := 38) rfl rfl rfl rfl ?_
            refine VL_not (d := 39) rfl rfl rfl rfl ?_
            first | (refine VL_run (d := 40) (run_pickT rfl rfl rfl) rfl rfl ?_) | (refine VL_run (d := 40) (run_pickF rfl rfl rfl) rfl rfl ?_) | (refine VL_run (d := 40) (run_pick rfl rfl (fun _ => rfl) (fun _ => rfl)) rfl rfl ?_)
            refine VL_run (d := 2) (run_assign rfl (by conv => lhs; whnf)) rfl rfl ?_
            refine VL_nil ?_
            exact VS_endB s (by conv => lhs; whnf) (by clear s; grind) (by repeat (first | exact Out.mix _ _ _ | exact Out.refl _ _ | refine Out.upd rfl ?_ | refine Out.mix_in rfl ?_))
        · refine VL_not (d := 32) rfl rfl rfl rfl ?_
          refine VL_not (d := 33) rfl rfl rfl rfl ?_
          refine VL_not (d := 34) rfl rfl rfl rfl ?_
          first | (refine VL_run (d := 35) (run_pickT rfl rfl rfl) rfl rfl ?_) | (refine VL_run (d := 35) (run_pickF rfl rfl rfl) rfl rfl ?_) | (refine VL_run (d := 35) (run_pick rfl rfl (fun _ => rfl) (fun _ => rfl)) rfl rfl ?_)
          refine VL_run (d := 36) (run_move rfl (by conv => lhs; whnf)) rfl rfl ?_
          refine VL_not (d := 37) rfl rfl rfl rfl ?_
          refine VL_not (d := 38) rfl rfl rfl rfl ?_
          refine VL_not (d := 39) rfl rfl rfl rfl ?_
          first | (refine VL_run (d := 40) (run_pickT rfl rfl rfl) rfl rfl ?_) | (refine VL_run (d := 40) (run_pickF rfl rfl rfl) rfl rfl ?_) | (refine VL_run (d := 40) (run_pick rfl rfl (fun _ => rfl) (fun _ => rfl)) rfl rfl ?_)
          refine VL_run (d := 2) (run_assign rfl (by conv => lhs; whnf)) rfl rfl ?_
          refine VL_nil ?_
          exact VS_endB s (by conv => lhs; whnf) (by clear s; grind) (by repeat (first | exact Out.mix _ _ _ | exact Out.refl _ _ | refine Out.upd rfl ?_ | refine Out.mix_in rfl ?_))
      clear s; intro w j2 s
      refine VS_ret ?_
      repeat (first | refine blockV_ret ?_ | refine backV_ret ?_ | refine backV2_ret ?_ | refine backV3_ret ?_ | refine thenV_ret ?_ | refine metV2_ret ?_)
      refine fin_one (fn := Tryd.f22) rfl (res_tmp (by conv => lhs; whnf)) ?_
      exact ⟨by clear s; unfold enOk; grind, s.below⟩
    · repeat (first | refine VS_seq ?_ | refine VS_block ?_ | refine VS_skip ?_ | refine VS_nil_block ?_)
      refine VS_region_lit ?_
      refine VL_run (d := 42) (run_eqI rfl rfl rfl) rfl rfl ?_
      refine VL_run (d := 41) (run_assign rfl (by conv => lhs; whnf)) rfl rfl ?_
      refine VL_nil ?_
      refine VS_cond rfl (fun c3 => ?_) (fun c3 => ?_) <;> (try simp only [decide_eq_true_eq, decide_eq_false_iff_not, Bool.not_eq_true', Bool.not_eq_false', ne_eq, Decidable.not_not, cond_true, cond_false, Bool.and_eq_true, Bool.or_eq_true, Bool.and_eq_false_iff, Bool.or_eq_false_iff, Bool.not_true, Bool.not_false, reduceCtorEq] at c3)
      · repeat (first | refine VS_seq ?_ | refine VS_block ?_ | refine VS_skip ?_ | refine VS_nil_block ?_)
        refine VS_meetB s 2 (!e.dir || decide (e.data = ⟨#[]⟩)) [43, 44, 45, 46, 47, 48, 49, 50, 2] ?_ ?_
        · refine VS_region_lit ?_
          refine VL_run (d := 43) (run_fieldAddr rfl fo40_2 rfl) rfl rfl ?_
          first | (refine VL_run (d := 44) (run_load_own1 s rfl ty4 rfl (i := 0) rfl rfl) rfl rfl ?_) | (refine VL_run (d := 44) (run_load_own1 s rfl ty4 rfl (i := 1) rfl rfl) rfl rfl ?_) | (refine VL_run (d := 44) (run_load_own1 s rfl ty4 rfl (i := 2) rfl rfl) rfl rfl ?_) | (refine VL_run (d := 44) (run_load_own1 s rfl ty4 rfl (i := 3) rfl rfl) rfl rfl ?_) | (refine VL_run (d := 44) (run_load_own1 s rfl ty4 rfl (i := 4) rfl rfl) rfl rfl ?_) | (refine VL_run (d := 44) (run_load_own1 s rfl ty4 rfl (i := 5) rfl rfl) rfl rfl ?_) | (refine VL_run (d := 44) (run_load_own1 s rfl ty4 rfl (i := 6) rfl rfl) rfl rfl ?_) | (refine VL_run (d := 44) (run_load_own1 s rfl ty4 rfl (i := 7) rfl rfl) rfl rfl ?_) | (refine VL_run (d := 44) (run_load_own1 s rfl ty4 rfl (i := 8) rfl rfl) rfl rfl ?_) | (refine VL_run (d := 44) (run_load_at1 s rfl ty4 rfl (i := 0) rfl rfl) rfl rfl ?_) | (refine VL_run (d := 44) (run_load_at1 s rfl ty4 rfl (i := 1) rfl rfl) rfl rfl ?_) | (refine VL_run (d := 44) (run_load_at1 s rfl ty4 rfl (i := 2) rfl rfl) rfl rfl ?_) | (refine VL_run (d := 44) (run_load_at1 s rfl ty4 rfl (i := 3) rfl rfl) rfl rfl ?_) | (refine VL_run (d := 44) (run_load_at1 s rfl ty4 rfl (i := 4) rfl rfl) rfl rfl ?_) | (refine VL_run (d := 44) (run_load_at1 s rfl ty4 rfl (i := 5) rfl rfl) rfl rfl ?_) | (refine VL_run (d := 44) (run_load_at1 s rfl ty4 rfl (i := 6) rfl rfl) rfl rfl ?_) | (refine VL_run (d := 44) (run_load_at1 s rfl ty4 rfl (i := 7) rfl rfl) rfl rfl ?_) | (refine VL_run (d := 44) (run_load_at1 s rfl ty4 rfl (i := 8) rfl rfl) rfl rfl ?_) | (refine VL_run (d := 44) (run_load_at0 s rfl ty4 rfl (i := 0) rfl rfl) rfl rfl ?_) | (refine VL_run (d := 44) (run_load_at0 s rfl ty4 rfl (i := 1) rfl rfl) rfl rfl ?_) | (refine VL_run (d := 44) (run_load_at0 s rfl ty4 rfl (i := 2) rfl rfl) rfl rfl ?_) | (refine VL_run (d := 44) (run_load_at0 s rfl ty4 rfl (i := 3) rfl rfl) rfl rfl ?_) | (refine VL_run (d := 44) (run_load_at0 s rfl ty4 rfl (i := 4) rfl rfl) rfl rfl ?_) | (refine VL_run (d := 44) (run_load_at0 s rfl ty4 rfl (i := 5) rfl rfl) rfl rfl ?_) | (refine VL_run (d := 44) (run_load_at0 s rfl ty4 rfl (i := 6) rfl rfl) rfl rfl ?_) | (refine VL_run (d := 44) (run_load_at0 s rfl ty4 rfl (i := 7) rfl rfl) rfl rfl ?_) | (refine VL_run (d := 44) (run_load_at0 s rfl ty4 rfl (i := 8) rfl rfl) rfl rfl ?_)
          refine VL_run (d := 45) (run_not rfl rfl) rfl rfl ?_
          refine VL_run (d := 46) (run_move rfl (by conv => lhs; whnf)) rfl rfl ?_
          refine VL_split 46 (by conv => lhs; whnf) (fun h46 => ?_) (fun h46 => ?_) <;> (try simp only [decide_eq_true_eq, decide_eq_false_iff_not, Bool.not_eq_true', Bool.not_eq_false', ne_eq, Decidable.not_not, cond_true, cond_false, Bool.and_eq_true, Bool.or_eq_true, Bool.and_eq_false_iff, Bool.or_eq_false_iff, Bool.not_true, Bool.not_false, reduceCtorEq] at h46)
          · refine VL_not (d := 47) rfl rfl rfl rfl ?_
            refine VL_not (d := 48) rfl rfl rfl rfl ?_
            refine VL_not (d := 49) rfl rfl rfl rfl ?_
            first | (refine VL_run (d := 50) (run_pickT rfl rfl rfl) rfl rfl ?_) | (refine VL_run (d := 50) (run_pickF rfl rfl rfl) rfl rfl ?_) | (refine VL_run (d := 50) (run_pick rfl rfl (fun _ => rfl) (fun _ => rfl)) rfl rfl ?_)
            refine VL_run (d := 2) (run_assign rfl (by conv => lhs; whnf)) rfl rfl ?_
            refine VL_nil ?_
            exact VS_endB s (by conv => lhs; whnf) (by clear s; grind) (by repeat (first | exact Out.mix _ _ _ | exact Out.refl _ _ | refine Out.upd rfl ?_ | refine Out.mix_in rfl ?_))
          · refine VL_run (d := 47) (run_fieldAddr rfl fo40_4 rfl) rfl rfl ?_
            first | (refine VL_run (d := 48) (run_load_own1 s rfl ty9 rfl (i := 0) rfl rfl) rfl rfl ?_) | (refine VL_run (d := 48) (run_load_own1 s rfl ty9 rfl (i := 1) rfl rfl) rfl rfl ?_) | (refine VL_run (d := 48) (run_load_own1 s rfl ty9 rfl (i := 2) rfl rfl) rfl rfl ?_) | (refine VL_run (d := 48) (run_load_own1 s rfl ty9 rfl (i := 3) rfl rfl) rfl rfl ?_) | (refine VL_run (d := 48) (run_load_own1 s rfl ty9 rfl (i := 4) rfl rfl) rfl rfl ?_) | (refine VL_run (d := 48) (run_load_own1 s rfl ty9 rfl (i := 5) rfl rfl) rfl rfl ?_) | (refine VL_run (d := 48) (run_load_own1 s rfl ty9 rfl (i := 6) rfl rfl) rfl rfl ?_) | (refine VL_run (d := 48) (run_load_own1 s rfl ty9 rfl (i := 7) rfl rfl) rfl rfl ?_) | (refine VL_run (d := 48) (run_load_own1 s rfl ty9 rfl (i := 8) rfl rfl) rfl rfl ?_) | (refine VL_run (d := 48) (run_load_at1 s rfl ty9 rfl (i := 0) rfl rfl) rfl rfl ?_) | (refine VL_run (d := 48) (run_load_at1 s rfl ty9 rfl (i := 1) rfl rfl) rfl rfl ?_) | (refine VL_run (d := 48) (run_load_at1 s rfl ty9 rfl (i := 2) rfl rfl) rfl rfl ?_) | (refine VL_run (d := 48) (run_load_at1 s rfl ty9 rfl (i := 3) rfl rfl) rfl rfl ?_) | (refine VL_run (d := 48) (run_load_at1 s rfl ty9 rfl (i := 4) rfl rfl) rfl rfl ?_) | (refine VL_run (d := 48) (run_load_at1 s rfl ty9 rfl (i := 5) rfl rfl) rfl rfl ?_) | (refine VL_run (d := 48) (run_load_at1 s rfl ty9 rfl (i := 6) rfl rfl) rfl rfl ?_) | (refine VL_run (d := 48) (run_load_at1 s rfl ty9 rfl (i := 7) rfl rfl) rfl rfl ?_) | (refine VL_run (d := 48) (run_load_at1 s rfl ty9 rfl (i := 8) rfl rfl) rfl rfl ?_) | (refine VL_run (d := 48) (run_load_at0 s rfl ty9 rfl (i := 0) rfl rfl) rfl rfl ?_) | (refine VL_run (d := 48) (run_load_at0 s rfl ty9 rfl (i := 1) rfl rfl) rfl rfl ?_) | (refine VL_run (d := 48) (run_load_at0 s rfl ty9 rfl (i := 2) rfl rfl) rfl rfl ?_) | (refine VL_run (d := 48) (run_load_at0 s rfl ty9 rfl (i := 3) rfl rfl) rfl rfl ?_) | (refine VL_run (d := 48) (run_load_at0 s rfl ty9 rfl (i := 4) rfl rfl) rfl rfl ?_) | (refine VL_run (d := 48) (run_load_at0 s rfl ty9 rfl (i := 5) rfl rfl) rfl rfl ?_) | (refine VL_run (d := 48) (run_load_at0 s rfl ty9 rfl (i := 6) rfl rfl) rfl rfl ?_) | (refine VL_run (d := 48) (run_load_at0 s rfl ty9 rfl (i := 7) rfl rfl) rfl rfl ?_) | (refine VL_run (d := 48) (run_load_at0 s rfl ty9 rfl (i := 8) rfl rfl) rfl rfl ?_)
            refine VL_run (d := 49) (run_eqS rfl rfl rfl) rfl rfl ?_
            first | (refine VL_run (d := 50) (run_pickT rfl rfl rfl) rfl rfl ?_) | (refine VL_run (d := 50) (run_pickF rfl rfl rfl) rfl rfl ?_) | (refine VL_run (d := 50) (run_pick rfl rfl (fun _ => rfl) (fun _ => rfl)) rfl rfl ?_)
            refine VL_run (d := 2) (run_assign rfl (by conv => lhs; whnf)) rfl rfl ?_
            refine VL_nil ?_
            exact VS_endB s (by conv => lhs; whnf) (by clear s; grind) (by repeat (first | exact Out.mix _ _ _ | exact Out.refl _ _ | refine Out.upd rfl ?_ | refine Out.mix_in rfl ?_))
        clear s; intro w j2 s
        refine VS_ret ?_
        repeat (first | refine blockV_ret ?_ | refine backV_ret ?_ | refine backV2_ret ?_ | refine backV3_ret ?_ | refine thenV_ret ?_ | refine metV2_ret ?_)
        refine fin_one (fn := Tryd.f22) rfl (res_tmp (by conv => lhs; whnf)) ?_
        exact ⟨by clear s; unfold enOk; grind, s.below⟩
      · repeat (first | refine VS_seq ?_ | refine VS_block ?_ | refine VS_skip ?_ | refine VS_nil_block ?_)
        refine VS_region_lit ?_
        refine VL_run (d := 52) (run_eqI rfl rfl rfl) rfl rfl ?_
        refine VL_run (d := 51) (run_assign rfl (by conv => lhs; whnf)) rfl rfl ?_
        refine VL_nil ?_
        refine VS_cond rfl (fun c4 => ?_) (fun c4 => ?_) <;> (try simp only [decide_eq_true_eq, decide_eq_false_iff_not, Bool.not_eq_true', Bool.not_eq_false', ne_eq, Decidable.not_not, cond_true, cond_false, Bool.and_eq_true, Bool.or_eq_true, Bool.and_eq_false_iff, Bool.or_eq_false_iff, Bool.not_true, Bool.not_false, reduceCtorEq] at c4)
        · repeat (first | refine VS_seq ?_ | refine VS_block ?_ | refine VS_skip ?_ | refine VS_nil_block ?_)
          refine VS_meetB s 2 (!e.dir && decide (e.data = ⟨#[]⟩)) [53, 54, 55, 56, 57, 58, 59, 60, 2] ?_ ?_
          · refine VS_region_lit ?_
            refine VL_run (d := 53) (run_fieldAddr rfl fo40_2 rfl) rfl rfl ?_
            first | (refine VL_run (d := 54) (run_load_own1 s rfl ty4 rfl (i := 0) rfl rfl) rfl rfl ?_) | (refine VL_run (d := 54) (run_load_own1 s rfl ty4 rfl (i := 1) rfl rfl) rfl rfl ?_) | (refine VL_run (d := 54) (run_load_own1 s rfl ty4 rfl (i := 2) rfl rfl) rfl rfl ?_) | (refine VL_run (d := 54) (run_load_own1 s rfl ty4 rfl (i := 3) rfl rfl) rfl rfl ?_) | (refine VL_run (d := 54) (run_load_own1 s rfl ty4 rfl (i := 4) rfl rfl) rfl rfl ?_) | (refine VL_run (d := 54) (run_load_own1 s rfl ty4 rfl (i := 5) rfl rfl) rfl rfl ?_) | (refine VL_run (d := 54) (run_load_own1 s rfl ty4 rfl (i := 6) rfl rfl) rfl rfl ?_) | (refine VL_run (d := 54) (run_load_own1 s rfl ty4 rfl (i := 7) rfl rfl) rfl rfl ?_) | (refine VL_run (d := 54) (run_load_own1 s rfl ty4 rfl (i := 8) rfl rfl) rfl rfl ?_) | (refine VL_run (d := 54) (run_load_at1 s rfl ty4 rfl (i := 0) rfl rfl) rfl rfl ?_) | (refine VL_run (d := 54) (run_load_at1 s rfl ty4 rfl (i := 1) rfl rfl) rfl rfl ?_) | (refine VL_run (d := 54) (run_load_at1 s rfl ty4 rfl (i := 2) rfl rfl) rfl rfl ?_) | (refine VL_run (d := 54) (run_load_at1 s rfl ty4 rfl (i := 3) rfl rfl) rfl rfl ?_) | (refine VL_run (d := 54) (run_load_at1 s rfl ty4 rfl (i := 4) rfl rfl) rfl rfl ?_) | (refine VL_run (d := 54) (run_load_at1 s rfl ty4 rfl (i := 5) rfl rfl) rfl rfl ?_) | (refine VL_run (d := 54) (run_load_at1 s rfl ty4 rfl (i := 6) rfl rfl) rfl rfl ?_) | (refine VL_run (d := 54) (run_load_at1 s rfl ty4 rfl (i := 7) rfl rfl) rfl rfl ?_) | (refine VL_run (d := 54) (run_load_at1 s rfl ty4 rfl (i := 8) rfl rfl) rfl rfl ?_) | (refine VL_run (d := 54) (run_load_at0 s rfl ty4 rfl (i := 0) rfl rfl) rfl rfl ?_) | (refine VL_run (d := 54) (run_load_at0 s rfl ty4 rfl (i := 1) rfl rfl) rfl rfl ?_) | (refine VL_run (d := 54) (run_load_at0 s rfl ty4 rfl (i := 2) rfl rfl) rfl rfl ?_) | (refine VL_run (d := 54) (run_load_at0 s rfl ty4 rfl (i := 3) rfl rfl) rfl rfl ?_) | (refine VL_run (d := 54) (run_load_at0 s rfl ty4 rfl (i := 4) rfl rfl) rfl rfl ?_) | (refine VL_run (d := 54) (run_load_at0 s rfl ty4 rfl (i := 5) rfl rfl) rfl rfl ?_) | (refine VL_run (d := 54) (run_load_at0 s rfl ty4 rfl (i := 6) rfl rfl) rfl rfl ?_) | (refine VL_run (d := 54) (run_load_at0 s rfl ty4 rfl (i := 7) rfl rfl) rfl rfl ?_) | (refine VL_run (d := 54) (run_load_at0 s rfl ty4 rfl (i := 8) rfl rfl) rfl rfl ?_)
            refine VL_run (d := 55) (run_not rfl rfl) rfl rfl ?_
            refine VL_run (d := 56) (run_move rfl (by conv => lhs; whnf)) rfl rfl ?_
            refine VL_split 56 (by conv => lhs; whnf) (fun h56 => ?_) (fun h56 => ?_) <;> (try simp only [decide_eq_true_eq, decide_eq_false_iff_not, Bool.not_eq_true', Bool.not_eq_false', ne_eq, Decidable.not_not, cond_true, cond_false, Bool.and_eq_true, Bool.or_eq_true, Bool.and_eq_false_iff, Bool.or_eq_false_iff, Bool.not_true, Bool.not_false, reduceCtorEq] at h56)
            · refine VL_run (d := 57) (run_fieldAddr rfl fo40_4 rfl) rfl rfl ?_
              first | (refine VL_run (d := 58) (run_load_own1 s rfl ty9 rfl (i := 0) rfl rfl) rfl rfl ?_) | (refine VL_run (d := 58) (run_load_own1 s rfl ty9 rfl (i := 1) rfl rfl) rfl rfl ?_) | (refine VL_run (d := 58) (run_load_own1 s rfl ty9 rfl (i := 2) rfl rfl) rfl rfl ?_) | (refine VL_run (d := 58) (run_load_own1 s rfl ty9 rfl (i := 3) rfl rfl) rfl rfl ?_) | (refine VL_run (d := 58) (run_load_own1 s rfl ty9 rfl (i := 4) rfl rfl) rfl rfl ?_) | (refine VL_run (d := 58) (run_load_own1 s rfl ty9 rfl (i := 5) rfl rfl) rfl rfl ?_) | (refine VL_run (d := 58) (run_load_own1 s rfl ty9 rfl (i := 6) rfl rfl) rfl rfl ?_) | (refine VL_run (d := 58) (run_load_own1 s rfl ty9 rfl (i := 7) rfl rfl) rfl rfl ?_) | (refine VL_run (d := 58) (run_load_own1 s rfl ty9 rfl (i := 8) rfl rfl) rfl rfl ?_) | (refine VL_run (d := 58) (run_load_at1 s rfl ty9 rfl (i := 0) rfl rfl) rfl rfl ?_) | (refine VL_run (d := 58) (run_load_at1 s rfl ty9 rfl (i := 1) rfl rfl) rfl rfl ?_) | (refine VL_run (d := 58) (run_load_at1 s rfl ty9 rfl (i := 2) rfl rfl) rfl rfl ?_) | (refine VL_run (d := 58) (run_load_at1 s rfl ty9 rfl (i := 3) rfl rfl) rfl rfl ?_) | (refine VL_run (d := 58) (run_load_at1 s rfl ty9 rfl (i := 4) rfl rfl) rfl rfl ?_) | (refine VL_run (d := 58) (run_load_at1 s rfl ty9 rfl (i := 5) rfl rfl) rfl rfl ?_) | (refine VL_run (d := 58) (run_load_at1 s rfl ty9 rfl (i := 6) rfl rfl) rfl rfl ?_) | (refine VL_run (d := 58) (run_load_at1 s rfl ty9 rfl (i := 7) rfl rfl) rfl rfl ?_) | (refine VL_run (d := 58) (run_load_at1 s rfl ty9 rfl (i := 8) rfl rfl) rfl rfl ?_) | (refine VL_run (d := 58) (run_load_at0 s rfl ty9 rfl (i := 0) rfl rfl) rfl rfl ?_) | (refine VL_run (d := 58) (run_load_at0 s rfl ty9 rfl (i := 1) rfl rfl) rfl rfl ?_) | (refine VL_run (d := 58) (run_load_at0 s rfl ty9 rfl (i := 2) rfl rfl) rfl rfl ?_) | (refine VL_run (d := 58) (run_load_at0 s rfl ty9 rfl (i := 3) rfl rfl) rfl rfl ?_) | (refine VL_run (d := 58) (run_load_at0 s rfl ty9 rfl (i := 4) rfl rfl) rfl rfl ?_) | (refine VL_run (d := 58) (run_load_at0 s rfl ty9 rfl (i := 5) rfl rfl) rfl rfl ?_) | (refine VL_run (d := 58) (run_load_at0 s rfl ty9 rfl (i := 6) rfl rfl) rfl rfl ?_) | (refine VL_run (d := 58) (run_load_at0 s rfl ty9 rfl (i := 7) rfl rfl) rfl rfl ?_) | (refine VL_run (d := 58) (run_load_at0 s rfl ty9 rfl (i := 8) rfl rfl) rfl rfl ?_)
              refine VL_run (d := 59) (run_eqS rfl rfl rfl) rfl rfl ?_
              first | (refine VL_run (d := 60) (run_pickT rfl rfl rfl) rfl rfl ?_) | (refine VL_run (d := 60) (run_pickF rfl rfl rfl) rfl rfl ?_) | (refine VL_run (d := 60) (run_pick rfl rfl (fun _ => rfl) (fun _ => rfl)) rfl rfl ?_)
              refine VL_run (d := 2) (run_assign rfl (by conv => lhs; whnf)) rfl rfl ?_
              refine VL_nil ?_
              exact VS_endB s (by conv => lhs; whnf) (by clear s; grind) (by repeat (first | exact Out.mix _ _ _ | exact Out.refl _ _ | refine Out.upd rfl ?_ | refine Out.mix_in rfl ?_))
            · refine VL_not (d := 57) rfl rfl rfl rfl ?_
              refine VL_not (d := 58) rfl rfl rfl rfl ?_
              refine VL_not (d := 59) rfl rfl rfl rfl ?_
              first | (refine VL_run (d := 60) (run_pickT rfl rfl rfl) rfl rfl ?_) | (refine VL_run (d := 60) (run_pickF rfl rfl rfl) rfl rfl ?_) | (refine VL_run (d := 60) (run_pick rfl rfl (fun _ => rfl) (fun _ => rfl)) rfl rfl ?_)
              refine VL_run (d := 2) (run_assign rfl (by conv => lhs; whnf)) rfl rfl ?_
              refine VL_nil ?_
              exact VS_endB s (by conv => lhs; whnf) (by clear s; grind) (by repeat (first | exact Out.mix _ _ _ | exact Out.refl _ _ | refine Out.upd rfl ?_ | refine Out.mix_in rfl ?_))
          clear s; intro w j2 s
          refine VS_ret ?_
          repeat (first | refine blockV_ret ?_ | refine backV_ret ?_ | refine backV2_ret ?_ | refine backV3_ret ?_ | refine thenV_ret ?_ | refine metV2_ret ?_)
          refine fin_one (fn := Tryd.f22) rfl (res_tmp (by conv => lhs; whnf)) ?_
          exact ⟨by clear s; unfold enOk; grind, s.below⟩
        · repeat (first | refine VS_seq ?_ | refine VS_block ?_ | refine VS_skip ?_ | refine VS_nil_block ?_)
          refine VS_region_lit ?_
          refine VL_run (d := 62) (run_eqI rfl rfl rfl) rfl rfl ?_
          refine VL_run (d := 61) (run_assign rfl (by conv => lhs; whnf)) rfl rfl ?_
          refine VL_nil ?_
          refine VS_cond rfl (fun c5 => ?_) (fun c5 => ?_) <;> (try simp only [decide_eq_true_eq, decide_eq_false_iff_not, Bool.not_eq_true', Bool.not_eq_false', ne_eq, Decidable.not_not, cond_true, cond_false, Bool.and_eq_true, Bool.or_eq_true, Bool.and_eq_false_iff, Bool.or_eq_false_iff, Bool.not_true, Bool.not_false, reduceCtorEq] at c5)
          · repeat (first | refine VS_seq ?_ | refine VS_block ?_ | refine VS_skip ?_ | refine VS_nil_block ?_)
            refine VS_meetB s 2 (!e.dir && decide (e.mode = 0)) [63, 64, 65, 66, 67, 68, 69, 70, 2] ?_ ?_
            · refine VS_region_lit ?_
              refine VL_run (d := 63) (run_fieldAddr rfl fo40_2 rfl) rfl rfl ?_
              first | (refine VL_run (d := 64) (run_load_own1 s rfl ty4 rfl (i := 0) rfl rfl) rfl rfl ?_) | (refine VL_run (d := 64) (run_load_own1 s rfl ty4 rfl (i := 1) rfl rfl) rfl rfl ?_) | (refine VL_run (d := 64) (run_load_own1 s rfl ty4 rfl (i := 2) rfl rfl) rfl rfl ?_) | (refine VL_run (d := 64) (run_load_own1 s rfl ty4 rfl (i := 3) rfl rfl) rfl rfl ?_) | (refine VL_run (d := 64) (run_load_own1 s rfl ty4 rfl (i := 4) rfl rfl) rfl rfl ?_) | (refine VL_run (d := 64) (run_load_own1 s rfl ty4 rfl (i := 5) rfl rfl) rfl rfl ?_) | (refine VL_run (d := 64) (run_load_own1 s rfl ty4 rfl (i := 6) rfl rfl) rfl rfl ?_) | (refine VL_run (d := 64) (run_load_own1 s rfl ty4 rfl (i := 7) rfl rfl) rfl rfl ?_) | (refine VL_run (d := 64) (run_load_own1 s rfl ty4 rfl (i := 8) rfl rfl) rfl rfl ?_) | (refine VL_run (d := 64) (run_load_at1 s rfl ty4 rfl (i := 0) rfl rfl) rfl rfl ?_) | (refine VL_run (d := 64) (run_load_at1 s rfl ty4 rfl (i := 1) rfl rfl) rfl rfl ?_) | (refine VL_run (d := 64) (run_load_at1 s rfl ty4 rfl (i := 2) rfl rfl) rfl rfl ?_) | (refine VL_run (d := 64) (run_load_at1 s rfl ty4 rfl (i := 3) rfl rfl) rfl rfl ?_) | (refine VL_run (d := 64) (run_load_at1 s rfl ty4 rfl (i := 4) rfl rfl) rfl rfl ?_) | (refine VL_run (d := 64) (run_load_at1 s rfl ty4 rfl (i := 5) rfl rfl) rfl rfl ?_) | (refine VL_run (d := 64) (run_load_at1 s rfl ty4 rfl (i := 6) rfl rfl) rfl rfl ?_) | (refine VL_run (d := 64) (run_load_at1 s rfl ty4 rfl (i := 7) rfl rfl) rfl rfl ?_) | (refine VL_run (d := 64) (run_load_at1 s rfl ty4 rfl (i := 8) rfl rfl) rfl rfl ?_) | (refine VL_run (d := 64) (run_load_at0 s rfl ty4 rfl (i := 0) rfl rfl) rfl rfl ?_) | (refine VL_run (d := 64) (run_load_at0 s rfl ty4 rfl (i := 1) rfl rfl) rfl rfl ?_) | (refine VL_run (d := 64) (run_load_at0 s rfl ty4 rfl (i := 2) rfl rfl) rfl rfl ?_) | (refine VL_run (d := 64) (run_load_at0 s rfl ty4 rfl (i := 3) rfl rfl) rfl rfl ?_) | (refine VL_run (d := 64) (run_load_at0 s rfl ty4 rfl (i := 4) rfl rfl) rfl rfl ?_) | (refine VL_run (d := 64) (run_load_at0 s rfl ty4 rfl (i := 5) rfl rfl) rfl rfl ?_) | (refine VL_run (d := 64) (run_load_at0 s rfl ty4 rfl (i := 6) rfl rfl) rfl rfl ?_) | (refine VL_run (d := 64) (run_load_at0 s rfl ty4 rfl (i := 7) rfl rfl) rfl rfl ?_) | (refine VL_run (d := 64) (run_load_at0 s rfl ty4 rfl (i := 8) rfl rfl) rfl rfl ?_)
              refine VL_run (d := 65) (run_not rfl rfl) rfl rfl ?_
              refine VL_run (d := 66) (run_move rfl (by conv => lhs; whnf)) rfl rfl ?_
              refine VL_split 66 (by conv => lhs; whnf) (fun h66 => ?_) (fun h66 => ?_) <;> (try simp only [decide_eq_true_eq, decide_eq_false_iff_not, Bool.not_eq_true', Bool.not_eq_false', ne_eq, Decidable.not_not, cond_true, cond_false, Bool.and_eq_true, Bool.or_eq_true, Bool.and_eq_false_iff, Bool.or_eq_false_iff, Bool.not_true, Bool.not_false, reduceCtorEq] at h66)
              · refine VL_run (d := 67) (run_fieldAddr rfl fo40_3 rfl) rfl rfl ?_
                first | (refine VL_run (d := 68) (run_load_own1 s rfl ty3 rfl (i := 0) rfl rfl) rfl rfl ?_) | (refine VL_run (d := 68) (run_load_own1 s rfl ty3 rfl (i := 1) rfl rfl) rfl rfl ?_) | (refine VL_run (d := 68) (run_load_own1 s rfl ty3 rfl (i := 2) rfl rfl) rfl rfl ?_) | (refine VL_run (d := 68) (run_load_own1 s rfl ty3 rfl (i := 3) rfl rfl) rfl rfl ?_) | (refine VL_run (d := 68) (run_load_own1 s rfl ty3 rfl (i := 4) rfl rfl) rfl rfl ?_) | (refine VL_run (d := 68) (run_load_own1 s rfl ty3 rfl (i := 5) rfl rfl) rfl rfl ?_) | (refine VL_run (d := 68) (run_load_own1 s rfl ty3 rfl (i := 6) rfl rfl) rfl rfl ?_) | (refine VL_run (d := 68) (run_load_own1 s rfl ty3 rfl (i := 7) rfl rfl) rfl rfl ?_) | (refine VL_run (d := 68) (run_load_own1 s rfl ty3 rfl (i := 8) rfl rfl) rfl rfl ?_) | (refine VL_run (d := 68) (run_load_at1 s rfl ty3 rfl (i := 0) rfl rfl) rfl rfl ?_) | (refine VL_run (d := 68) (run_load_at1 s rfl ty3 rfl (i := 1) rfl rfl) rfl rfl ?_) | (refine VL_run (d := 68) (run_load_at1 s rfl ty3 rfl (i := 2) rfl rfl) rfl rfl ?_) | (refine VL_run (d := 68) (run_load_at1 s rfl ty3 rfl (i := 3) rfl rfl) rfl rfl ?_) | (refine VL_run (d := 68) (run_load_at1 s rfl ty3 rfl (i := 4) rfl rfl) rfl rfl ?_) | (refine VL_run (d := 68) (run_load_at1 s rfl ty3 rfl (i := 5) rfl rfl) rfl rfl ?_) | (refine VL_run (d := 68) (run_load_at1 s rfl ty3 rfl (i := 6) rfl rfl) rfl rfl ?_) | (refine VL_run (d := 68) (run_load_at1 s rfl ty3 rfl (i := 7) rfl rfl) rfl rfl ?_) | (refine VL_run (d := 68) (run_load_at1 s rfl ty3 rfl (i := 8) rfl rfl) rfl rfl ?_) | (refine VL_run (d := 68) (run_load_at0 s rfl ty3 rfl (i := 0) rfl rfl) rfl rfl ?_) | (refine VL_run (d := 68) (run_load_at0 s rfl ty3 rfl (i := 1) rfl rfl) rfl rfl ?_) | (refine VL_run (d := 68) (run_load_at0 s rfl ty3 rfl (i := 2) rfl rfl) rfl rfl ?_) | (refine VL_run (d := 68) (run_load_at0 s rfl ty3 rfl (i := 3) rfl rfl) rfl rfl ?_) | (refine VL_run (d := 68) (run_load_at0 s rfl ty3 rfl (i := 4) rfl rfl) rfl rfl ?_) | (refine VL_run (d := 68) (run_load_at0 s rfl ty3 rfl (i := 5) rfl rfl) rfl rfl ?_) | (refine VL_run (d := 68) (run_load_at0 s rfl ty3 rfl (i := 6) rfl rfl) rfl rfl ?_) | (refine VL_run (d := 68) (run_load_at0 s rfl ty3 rfl (i := 7) rfl rfl) rfl rfl ?_) | (refine VL_run (d := 68) (run_load_at0 s rfl ty3 rfl (i := 8) rfl rfl) rfl rfl ?_)
                refine VL_run (d := 69) (run_eqI rfl rfl rfl) rfl rfl ?_
                first | (refine VL_run (d := 70) (run_pickT rfl rfl rfl) rfl rfl ?_) | (refine VL_run (d := 70) (run_pickF rfl rfl rfl) rfl rfl ?_) | (refine VL_run (d := 70) (run_pick rfl rfl (fun _ => rfl) (fun _ => rfl)) rfl rfl ?_)
                refine VL_run (d := 2) (run_assign rfl (by conv => lhs; whnf)) rfl rfl ?_
                refine VL_nil ?_
                exact VS_endB s (by conv => lhs; whnf) (by clear s; grind) (by repeat (first | exact Out.mix _ _ _ | exact Out.refl _ _ | refine Out.upd rfl ?_ | refine Out.mix_in rfl ?_))
              · refine VL_not (d := 67) rfl rfl rfl rfl ?_
                refine VL_not (d := 68) rfl rfl rfl rfl ?_
                refine VL_not (d := 69) rfl rfl rfl rfl ?_
                first | (refine VL_run (d := 70) (run_pickT rfl rfl rfl) rfl rfl ?_) | (refine VL_run (d := 70) (run_pickF rfl rfl rfl) rfl rfl ?_) | (refine VL_run (d := 70) (run_pick rfl rfl (fun _ => rfl) (fun _ => rfl)) rfl rfl ?_)
                refine VL_run (d := 2) (run_assign rfl (by conv => lhs; whnf)) rfl rfl ?_
                refine VL_nil ?_
                exact VS_endB s (by conv => lhs; whnf) (by clear s; grind) (by repeat (first | exact Out.mix _ _ _ | exact Out.refl _ _ | refine Out.upd rfl ?_ | refine Out.mix_in rfl ?_))
            clear s; intro w j2 s
            refine VS_ret ?_
            repeat (first | refine blockV_ret ?_ | refine backV_ret ?_ | refine backV2_ret ?_ | refine backV3_ret ?_ | refine thenV_ret ?_ | refine metV2_ret ?_)
            refine fin_one (fn := Tryd.f22) rfl (res_tmp (by conv => lhs; whnf)) ?_
            exact ⟨by clear s; unfold enOk; grind, s.below⟩
          · repeat (first | refine VS_seq ?_ | refine VS_block ?_ | refine VS_skip ?_ | refine VS_nil_block ?_)
            refine VS_region_lit ?_
            refine VL_run (d := 2) (run_assign rfl (by conv => lhs; whnf)) rfl rfl ?_
            refine VL_nil ?_
            refine VS_ret ?_
            repeat (first | refine blockV_ret ?_ | refine backV_ret ?_ | refine backV2_ret ?_ | refine backV3_ret ?_ | refine thenV_ret ?_ | refine metV2_ret ?_)
            refine fin_one (fn := Tryd.f22) rfl (res_tmp (by conv => lhs; whnf)) ?_
            exact ⟨by clear s; unfold enOk; grind, s.below⟩
end Go.Proofs.YtkefaelmamgjiaaDoor
