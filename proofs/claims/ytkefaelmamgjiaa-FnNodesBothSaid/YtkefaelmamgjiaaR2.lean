/- draws: l1Open, l1Many, l4Name, l4Data, l4Path. -/
import Derived.Test.YtkefaelmamgjiaaR1
set_option linter.unusedVariables false
set_option linter.unusedSimpArgs false
set_option maxHeartbeats 4000000
namespace Go.Proofs.Ytkefaelmamgjiaa
open Go.RowKit

theorem fill_1x3 (a b c : Value) (ha : a.cells = #[a]) (hb : b.cells = #[b]) (hc : c.cells = #[c]) (A : Array Value) (hA : A.size = 3 * 1) : Instr.fill (fun i => some (i * 1, 1)) A [(0, a), (1, b), (2, c)] = some [a, b, c].toArray := by
  obtain ⟨l⟩ := A
  match l, hA with
  | [x, y, z], _ => simp [Instr.fill, ha, hb, hc]
theorem fill_1x4 (a b c d : Value) (ha : a.cells = #[a]) (hb : b.cells = #[b]) (hc : c.cells = #[c]) (hd : d.cells = #[d]) (A : Array Value) (hA : A.size = 4 * 1) : Instr.fill (fun i => some (i * 1, 1)) A [(0, a), (1, b), (2, c), (3, d)] = some [a, b, c, d].toArray := by
  obtain ⟨l⟩ := A
  match l, hA with
  | [x, y, z, u], _ => simp [Instr.fill, ha, hb, hc, hd]
theorem fill_1x5 (a b c d f : Value) (ha : a.cells = #[a]) (hb : b.cells = #[b]) (hc : c.cells = #[c]) (hd : d.cells = #[d]) (hf : f.cells = #[f]) (A : Array Value) (hA : A.size = 5 * 1) : Instr.fill (fun i => some (i * 1, 1)) A [(0, a), (1, b), (2, c), (3, d), (4, f)] = some [a, b, c, d, f].toArray := by
  obtain ⟨l⟩ := A
  match l, hA with
  | [x, y, z, u, t], _ => simp [Instr.fill, ha, hb, hc, hd, hf]
theorem fill_1x6 (a b c d f g : Value) (ha : a.cells = #[a]) (hb : b.cells = #[b]) (hc : c.cells = #[c]) (hd : d.cells = #[d]) (hf : f.cells = #[f]) (hg : g.cells = #[g]) (A : Array Value) (hA : A.size = 6 * 1) : Instr.fill (fun i => some (i * 1, 1)) A [(0, a), (1, b), (2, c), (3, d), (4, f), (5, g)] = some [a, b, c, d, f, g].toArray := by
  obtain ⟨l⟩ := A
  match l, hA with
  | [x, y, z, u, t, r], _ => simp [Instr.fill, ha, hb, hc, hd, hf, hg]
theorem strsL_rd {okc : Nat → Prop} {w : World} : ∀ (xs : List ByteArray), RdF okc w (strsD xs) (xs.map .string)
  | [] => rfl
  | x :: xs => ⟨[_], _, rfl, rfl, strsL_rd xs⟩
def intsD (xs : List Int) : List D := xs.map (.int .i64)
theorem intsD_wd (xs : List Int) : ∀ d ∈ intsD xs, d.wd = 1 := by
  intro d hd
  obtain ⟨x, _, rfl⟩ := List.mem_map.1 hd
  rfl
theorem intsL_rd {okc : Nat → Prop} {w : World} : ∀ (xs : List Int), RdF okc w (intsD xs) (xs.map (.int .i64))
  | [] => rfl
  | x :: xs => ⟨[_], _, rfl, rfl, intsL_rd xs⟩
theorem l1Open_ok {ok : Nat → Prop} {w0 : World} {v0 : Value} {l : List UInt8} (h : Rd ok w0 (.sl (bytesL l)) [v0]) (hl : l.length ≤ 1000000000) :
    Calls Try.prog 49 #[v0] w0 (Ret fun r w' => ∃ b v l', r = .pointer (some ⟨b, 0, none⟩) ∧ List.length l' ≤ 2000 ∧ Rd ok w0 (.sl (bytesL l')) [v] ∧ Below w0.heap.size w0 w' ∧ w0.heap.size ≤ b ∧ w'.heap[b]? = some (.cells (rdC v 0).toArray 121 (0, 0))) := by
  obtain ⟨A, c, e1, hc⟩ := Rd_sl1 h
  rw [bytesL_length] at hc e1
  obtain rfl := List.singleton_inj.1 e1
  have s := (St.start ok w0).begin h
  refine calls_enter (n := 11) Try.func49 rfl rfl rfl ?_
  repeat (refine VS_seq ?_)
  refine VS_region_lit ?_
  refine VL_run (d := 2) (run_assign rfl (by conv => lhs; whnf)) rfl rfl ?_
  refine VL_nil ?_
  repeat (refine VS_seq ?_)
  refine VS_region_lit ?_
  refine VL_run (d := 3) (run_move rfl (by conv => lhs; whnf)) rfl rfl ?_
  refine VL_run (d := 4) (run_lenSlice rfl ⟨_, Try.underlying22⟩ rfl) rfl rfl ?_
  refine VL_run (d := 5) (run_gtI rfl rfl rfl) rfl rfl ?_
  refine VL_nil ?_
  refine VS_cond rfl (fun c0 => ?_) (fun c0 => ?_) <;> (try simp only [decide_eq_true_eq, decide_eq_false_iff_not, Bool.not_eq_true', Bool.not_eq_false', ne_eq, Decidable.not_not, cond_true, cond_false, Bool.and_eq_true, Bool.or_eq_true, Bool.and_eq_false_iff, Bool.or_eq_false_iff, Bool.not_true, Bool.not_false, reduceCtorEq] at c0)
  · refine VS_region_lit ?_
    refine VL_run (d := 6) (run_move rfl (by conv => lhs; whnf)) rfl rfl ?_
    refine VL_run (d := 7) (run_sliceSlH (h := 2000) rfl Try.underlying22 ty5 rfl rfl (by omega) (by omega)) rfl rfl ?_
    refine VL_run (d := 0) (run_assign rfl (by conv => lhs; whnf)) rfl rfl ?_
    refine VL_nil ?_
    repeat (refine VS_seq ?_)
    refine VS_region_lit ?_
    refine VL_run (d := 8) (run_move rfl (by conv => lhs; whnf)) rfl rfl ?_
    refine VL_run (d := 9) (run_build (cs := [.slice _ _ _, .int .i64 0]) rfl ty121 st121 rfl) rfl rfl ?_
    refine VL_does (d := 10) (does_box s rfl rfl rfl ?_) rfl rfl
    clear s; intro b10 w s
    refine VL_run (d := 2) (run_assign rfl (by conv => lhs; whnf)) rfl rfl ?_
    refine VL_nil ?_
    refine VS_ret ?_
    repeat (first | refine blockV_ret ?_ | refine backV_ret ?_ | refine backV2_ret ?_ | refine backV3_ret ?_ | refine thenV_ret ?_ | refine metV2_ret ?_)
    refine fin_one (fn := Try.f49) rfl (res_tmp (by conv => lhs; whnf)) ?_
    first
    | exact ⟨_, _, l, rfl, by omega, h, s.below, (s.mine _ (List.mem_of_getElem? (i := 0) rfl) _ rfl).elim (fun h => (List.not_mem_nil h).elim) id, s.own _ (List.mem_of_getElem? (i := 0) rfl)⟩
    | (have h2 := h.part (bytesL_wd l) (by decide) (Nat.zero_le 2000) (by omega)
       exact ⟨_, _, (l.drop 0).take (2000 - 0), rfl, by simp; omega, by simpa [bytesL, List.map_take] using h2, s.below, (s.mine _ (List.mem_of_getElem? (i := 0) rfl) _ rfl).elim (fun h => (List.not_mem_nil h).elim) id, s.own _ (List.mem_of_getElem? (i := 0) rfl)⟩)
  · repeat (first | refine VS_seq ?_ | refine VS_skip ?_)
    refine VS_region_lit ?_
    refine VL_run (d := 8) (run_move rfl (by conv => lhs; whnf)) rfl rfl ?_
    refine VL_run (d := 9) (run_build (cs := [.slice _ _ _, .int .i64 0]) rfl ty121 st121 rfl) rfl rfl ?_
    refine VL_does (d := 10) (does_box s rfl rfl rfl ?_) rfl rfl
    clear s; intro b10 w s
    refine VL_run (d := 2) (run_assign rfl (by conv => lhs; whnf)) rfl rfl ?_
    refine VL_nil ?_
    refine VS_ret ?_
    repeat (first | refine blockV_ret ?_ | refine backV_ret ?_ | refine backV2_ret ?_ | refine backV3_ret ?_ | refine thenV_ret ?_ | refine metV2_ret ?_)
    refine fin_one (fn := Try.f49) rfl (res_tmp (by conv => lhs; whnf)) ?_
    first
    | exact ⟨_, _, l, rfl, by omega, h, s.below, (s.mine _ (List.mem_of_getElem? (i := 0) rfl) _ rfl).elim (fun h => (List.not_mem_nil h).elim) id, s.own _ (List.mem_of_getElem? (i := 0) rfl)⟩
    | (have h2 := h.part (bytesL_wd l) (by decide) (Nat.zero_le 2000) (by omega)
       exact ⟨_, _, (l.drop 0).take (2000 - 0), rfl, by simp; omega, by simpa [bytesL, List.map_take] using h2, s.below, (s.mine _ (List.mem_of_getElem? (i := 0) rfl) _ rfl).elim (fun h => (List.not_mem_nil h).elim) id, s.own _ (List.mem_of_getElem? (i := 0) rfl)⟩)
theorem many_step (n o s M : Nat) (hn : 0 < n) (h : o + n * s ≤ M) : (n % 2 = 1 → o + s + n / 2 * (s + s) ≤ M) ∧ (n % 2 ≠ 1 → o + n / 2 * (s + s) ≤ M) ∧ s ≤ M ∧ o + s ≤ M := by
  obtain ⟨k, rfl | rfl⟩ : ∃ k, n = 2 * k ∨ n = 2 * k + 1 := ⟨n / 2, by omega⟩
  · have e : 2 * k / 2 = k := by omega
    have e2 : k * (s + s) = 2 * k * s := by rw [Nat.mul_add, Nat.mul_comm 2 k, Nat.mul_assoc, Nat.two_mul, Nat.mul_add]
    rw [e, e2]
    have : s ≤ 2 * k * s := Nat.le_mul_of_pos_left _ hn
    exact ⟨by omega, by omega, by omega, by omega⟩
  · have e : (2 * k + 1) / 2 = k := by omega
    have e2 : k * (s + s) = 2 * k * s := by rw [Nat.mul_add, Nat.mul_comm 2 k, Nat.mul_assoc, Nat.two_mul, Nat.mul_add]
    have e3 : (2 * k + 1) * s = 2 * k * s + s := by rw [Nat.add_mul, Nat.one_mul]
    rw [e3] at h
    rw [e, e2]
    exact ⟨by omega, by omega, by omega, by omega⟩
theorem l1Many_ok (z0 : ByteArray) (n : Int) {w0 : World} (hs : z0.size ≤ 1000) (hn : n ≤ 1000) :
    Calls Try.prog 118 #[.string z0, .int .i64 n] w0 (Ret fun r w' => ∃ x : ByteArray, r = .string x ∧ x.size ≤ n.toNat * z0.size ∧ Below w0.heap.size w0 w') := by
  have hM : n.toNat * z0.size ≤ 1000 * 1000 := Nat.mul_le_mul (by omega) hs
  have s := St.start (fun _ => False) w0
  generalize hM' : n.toNat * z0.size = M at *
  refine calls_enter (n := 20) Try.func118 rfl rfl rfl ?_
  repeat (refine VS_seq ?_)
  refine VS_region_lit ?_
  refine VL_run (d := 4) (run_assign rfl (by conv => lhs; whnf)) rfl rfl ?_
  refine VL_nil ?_
  repeat (refine VS_seq ?_)
  refine VS_region_lit ?_
  refine VL_run (d := 5) (run_assign rfl (by conv => lhs; whnf)) rfl rfl ?_
  refine VL_nil ?_
  repeat (first | refine VS_seq ?_ | refine VS_block ?_)
  refine VS_loop3 [0, 1, 5, 6, 7, 8, 9, 10, 11, 12, 13, 14, 15, 16, 17, 18] (fun (n : Int) (x y : ByteArray) => [(1, .int .i64 n), (5, .string x), (0, .string y)]) (fun n x y w => St (fun _ => False) w0 [] [] w ∧ n ≤ 1000 ∧ x.size + n.toNat * y.size ≤ M) (fun n _ _ => n.toNat) n ⟨#[]⟩ z0 ⟨s, hn, by rw [← hM']; exact Nat.le_of_eq (Nat.zero_add _)⟩ (by repeat (first | exact Has.nil _ | refine Has.cons rfl ?_)) ?_
  clear s hM' hs hn
  rintro n x y w j ⟨s, hn, hf⟩
  repeat (refine VS_seq ?_)
  refine VS_region_lit ?_
  refine VL_run (d := 6) (run_move rfl (by conv => lhs; whnf)) rfl rfl ?_
  refine VL_run (d := 7) (run_gtI rfl rfl rfl) rfl rfl ?_
  refine VL_nil ?_
  refine VS_cond rfl (fun c0 => ?_) (fun c0 => ?_) <;> (try simp only [decide_eq_true_eq, decide_eq_false_iff_not, Bool.not_eq_true', Bool.not_eq_false', ne_eq, Decidable.not_not, cond_true, cond_false, Bool.and_eq_true, Bool.or_eq_true, Bool.and_eq_false_iff, Bool.or_eq_false_iff, Bool.not_true, Bool.not_false, reduceCtorEq] at c0)
  · obtain ⟨m1, m2, m3, m4⟩ := many_step n.toNat x.size y.size M (by omega) hf
    have en : (n / 2).toNat = n.toNat / 2 := by omega
    repeat (first | refine VS_seq ?_ | refine VS_block ?_ | refine VS_skip ?_)
    refine VS_region_lit ?_
    refine VL_run (d := 8) (run_move rfl (by conv => lhs; whnf)) rfl rfl ?_
    refine VL_run (d := 9) (run_rem rfl rfl rfl (by omega) (by omega)) rfl rfl ?_
    refine VL_run (d := 10) (run_eqI rfl rfl rfl) rfl rfl ?_
    refine VL_nil ?_
    refine VS_cond rfl (fun c1 => ?_) (fun c1 => ?_) <;> (try simp only [decide_eq_true_eq, decide_eq_false_iff_not, Bool.not_eq_true', Bool.not_eq_false', ne_eq, Decidable.not_not, cond_true, cond_false, Bool.and_eq_true, Bool.or_eq_true, Bool.and_eq_false_iff, Bool.or_eq_false_iff, Bool.not_true, Bool.not_false, reduceCtorEq] at c1)
    · refine VS_region_lit ?_
      refine VL_run (d := 11) (run_move rfl (by conv => lhs; whnf)) rfl rfl ?_
      refine VL_run (d := 12) (run_move rfl (by conv => lhs; whnf)) rfl rfl ?_
      refine VL_run (d := 13) (run_addS rfl rfl rfl (by omega)) rfl rfl ?_
      refine VL_run (d := 5) (run_assign rfl (by conv => lhs; whnf)) rfl rfl ?_
      refine VL_nil ?_
      repeat (refine VS_seq ?_)
      refine VS_region_lit ?_
      refine VL_run (d := 14) (run_move rfl (by conv => lhs; whnf)) rfl rfl ?_
      refine VL_run (d := 15) (run_move rfl (by conv => lhs; whnf)) rfl rfl ?_
      refine VL_run (d := 16) (run_addS rfl rfl rfl (by omega)) rfl rfl ?_
      refine VL_run (d := 0) (run_assign rfl (by conv => lhs; whnf)) rfl rfl ?_
      refine VL_nil ?_
      refine VS_region_lit ?_
      refine VL_run (d := 17) (run_move rfl (by conv => lhs; whnf)) rfl rfl ?_
      refine VL_run (d := 18) (run_quo rfl rfl rfl (by omega) (by omega) (by omega)) rfl rfl ?_
      refine VL_run (d := 1) (run_assign rfl (by conv => lhs; whnf)) rfl rfl ?_
      refine VL_nil ?_
      repeat (refine VS_nil_block ?_)
      refine VS_back3 (n / 2) (_) (_) ?_ (by repeat (first | exact Has.nil _ | refine Has.cons rfl ?_)) (by repeat (first | exact Out.mix _ _ _ | refine Out.upd rfl ?_)) ?_
      · refine ⟨s, by omega, ?_⟩
        rw [en]
        simp only [ByteArray.size_append]
        exact m1 (by omega)
      · omega
    · repeat (first | refine VS_seq ?_ | refine VS_skip ?_)
      refine VS_region_lit ?_
      refine VL_run (d := 14) (run_move rfl (by conv => lhs; whnf)) rfl rfl ?_
      refine VL_run (d := 15) (run_move rfl (by conv => lhs; whnf)) rfl rfl ?_
      refine VL_run (d := 16) (run_addS rfl rfl rfl (by omega)) rfl rfl ?_
      refine VL_run (d := 0) (run_assign rfl (by conv => lhs; whnf)) rfl rfl ?_
      refine VL_nil ?_
      refine VS_region_lit ?_
      refine VL_run (d := 17) (run_move rfl (by conv => lhs; whnf)) rfl rfl ?_
      refine VL_run (d := 18) (run_quo rfl rfl rfl (by omega) (by omega) (by omega)) rfl rfl ?_
      refine VL_run (d := 1) (run_assign rfl (by conv => lhs; whnf)) rfl rfl ?_
      refine VL_nil ?_
      repeat (refine VS_nil_block ?_)
      refine VS_back3 (n / 2) (_) (_) ?_ (by repeat (first | exact Has.nil _ | refine Has.cons rfl ?_)) (by repeat (first | exact Out.mix _ _ _ | refine Out.upd rfl ?_)) ?_
      · refine ⟨s, by omega, ?_⟩
        rw [en]
        simp only [ByteArray.size_append]
        exact m2 (by omega)
      · omega
  · refine VS_exit ?_
    repeat (first | refine blockV_hit ?_ | refine backV_exit ?_)
    repeat (refine VS_seq ?_)
    refine VS_region_lit ?_
    refine VL_run (d := 19) (run_move rfl (by conv => lhs; whnf)) rfl rfl ?_
    refine VL_run (d := 4) (run_assign rfl (by conv => lhs; whnf)) rfl rfl ?_
    refine VL_nil ?_
    refine VS_ret ?_
    repeat (first | refine blockV_ret ?_ | refine backV_ret ?_ | refine backV2_ret ?_ | refine backV3_ret ?_ | refine thenV_ret ?_ | refine metV2_ret ?_)
    refine fin_one (fn := Try.f118) rfl (res_tmp (by conv => lhs; whnf)) ?_
    exact ⟨x, rfl, by have := Nat.zero_le (n.toNat * y.size); omega, s.below⟩
theorem l4Name_ok {ok : Nat → Prop} {w0 : World} {b : Nat} {v : Value} {p : Int} {l : List UInt8} (h : Rdr ok w0 b v p l) (hp : p ≤ 1000000000) :
    Calls Try.prog 104 #[.pointer (some ⟨b, 0, none⟩)] w0 (Ret fun r w' => ∃ x : ByteArray, r = .string x ∧ x.size ≤ 2 ∧ Aft w0 w' b v p 1) := by
  have hlen := h.len
  have hlow := h.low
  have s := h.start
  refine calls_enter (n := 6) Try.func104 rfl rfl rfl ?_
  repeat (refine VS_seq ?_)
  refine VS_region_lit ?_
  refine VL_run (d := 2) (run_assign rfl (by conv => lhs; whnf)) rfl rfl ?_
  refine VL_nil ?_
  repeat (refine VS_seq ?_)
  refine VS_region_lit ?_
  refine VL_run (d := 3) (run_move rfl (by conv => lhs; whnf)) rfl rfl ?_
  refine VL_does (d := 4) (does_sliceN (cs := [.string ⟨#[97]⟩, .string ⟨#[98]⟩, .string ⟨#[99]⟩, .string ⟨#[100, 49]⟩, .string ⟨#[101]⟩]) (ds := strsD [⟨#[97]⟩, ⟨#[98]⟩, ⟨#[99]⟩, ⟨#[100, 49]⟩, ⟨#[101]⟩])  s rfl Try.underlying23 ty9 (by decide) (by decide)  (fun A hA => fill_1x5 _ _ _ _ _ rfl rfl rfl rfl rfl A hA) (strsL_rd _) (strsD_wd _) rfl ?_) rfl rfl
  clear s; intro g4 w s
  replace s := s.freezeR (k := 0) (i := 0) rfl rfl; simp only [List.eraseIdx_cons_zero] at s
  refine VL_does (d := 5) (does_call2 rfl (by kernel_rfl) rfl rfl (of_ok _ (s.rdr (i := 0) (j := 1) rfl rfl hlen hlow) (s.dat (i := 0) rfl) hp (by simp) (by decide)) ?_) rfl rfl
  rintro v5 w1 ⟨x, rfl, hx, ha⟩
  obtain ⟨p1, hp1, hp2, s⟩ := s.aft (i := 0) rfl ha
  refine VL_run (d := 2) (run_assign rfl (by conv => lhs; whnf)) rfl rfl ?_
  refine VL_nil ?_
  refine VS_ret ?_
  repeat (first | refine blockV_ret ?_ | refine backV_ret ?_ | refine backV2_ret ?_ | refine backV3_ret ?_ | refine thenV_ret ?_ | refine metV2_ret ?_)
  refine fin_one (fn := Try.f104) rfl (res_tmp (by conv => lhs; whnf)) ?_
  refine ⟨x, rfl, ?_, s.aftOut (i := 0) rfl (by omega) (by omega)⟩
  simp only [List.mem_cons, List.not_mem_nil, or_false] at hx
  rcases hx with rfl | rfl | rfl | rfl | rfl <;> decide
theorem l4Data_ok {ok : Nat → Prop} {w0 : World} {b : Nat} {v : Value} {p : Int} {l : List UInt8} (h : Rdr ok w0 b v p l) (hp : p ≤ 100000000) :
    Calls Try.prog 115 #[.pointer (some ⟨b, 0, none⟩)] w0 (Ret fun r w' => ∃ x : ByteArray, r = .string x ∧ x.size ≤ 24 ∧ Aft w0 w' b v p 2) := by
  have hlen := h.len
  have hlow := h.low
  have s := h.start
  refine calls_enter (n := 9) Try.func115 rfl rfl rfl ?_
  repeat (refine VS_seq ?_)
  refine VS_region_lit ?_
  refine VL_run (d := 2) (run_assign rfl (by conv => lhs; whnf)) rfl rfl ?_
  refine VL_nil ?_
  repeat (refine VS_seq ?_)
  refine VS_region_lit ?_
  refine VL_run (d := 3) (run_move rfl (by conv => lhs; whnf)) rfl rfl ?_
  refine VL_run (d := 4) (run_move rfl (by conv => lhs; whnf)) rfl rfl ?_
  refine VL_does (d := 5) (does_call2 rfl (by kernel_rfl) rfl rfl (pick_ok _ (s.rdr (i := 0) (j := 0) rfl rfl hlen hlow) (by omega) (by omega)) ?_) rfl rfl
  rintro v5 w1 ⟨n, rfl, hn0, hn1, ha⟩
  obtain ⟨p1, hp1, hp2, s⟩ := s.aft (i := 0) rfl ha; clear ha
  refine VL_does (d := 6) (does_call2 rfl (by kernel_rfl) rfl rfl (l1Many_ok _ _ (by decide) (by omega)) ?_) rfl rfl
  rintro v6 w2 ⟨z, rfl, hz, hb⟩
  replace s := s.step hb
  refine VL_does (d := 7) (does_sliceN (cs := [.string ⟨#[]⟩, .string ⟨#[120]⟩, .string ⟨#[104, 101, 108, 108, 111]⟩, .string ⟨#[0, 255]⟩, .string ⟨#[48, 49, 50, 51, 52, 53, 54, 55, 56, 57]⟩, .string z]) (ds := strsD [⟨#[]⟩, ⟨#[120]⟩, ⟨#[104, 101, 108, 108, 111]⟩, ⟨#[0, 255]⟩, ⟨#[48, 49, 50, 51, 52, 53, 54, 55, 56, 57]⟩, z])  s rfl Try.underlying23 ty9 (by decide) (by decide)  (fun A hA => fill_1x6 _ _ _ _ _ _ rfl rfl rfl rfl rfl rfl A hA) (strsL_rd _) (strsD_wd _) rfl ?_) rfl rfl
  clear s; intro g7 w s
  replace s := s.freezeR (k := 0) (i := 0) rfl rfl; simp only [List.eraseIdx_cons_zero] at s
  refine VL_does (d := 8) (does_call2 rfl (by kernel_rfl) rfl rfl (of_ok _ (s.rdr (i := 0) (j := 1) rfl rfl hlen (by omega)) (s.dat (i := 0) rfl) (by omega) (by simp) (by simp)) ?_) rfl rfl
  rintro v8 w3 ⟨x, rfl, hx, ha⟩
  obtain ⟨p2, hp3, hp4, s⟩ := s.aft (i := 0) rfl ha
  refine VL_run (d := 2) (run_assign rfl (by conv => lhs; whnf)) rfl rfl ?_
  refine VL_nil ?_
  refine VS_ret ?_
  repeat (first | refine blockV_ret ?_ | refine backV_ret ?_ | refine backV2_ret ?_ | refine backV3_ret ?_ | refine thenV_ret ?_ | refine metV2_ret ?_)
  refine fin_one (fn := Try.f115) rfl (res_tmp (by conv => lhs; whnf)) ?_
  refine ⟨x, rfl, ?_, s.aftOut (i := 0) rfl (by omega) (by omega)⟩
  simp only [List.mem_cons, List.not_mem_nil, or_false] at hx
  have hz2 : z.size ≤ 24 := Nat.le_trans hz (by show _ * 1 ≤ 24; omega)
  rcases hx with rfl | rfl | rfl | rfl | rfl | rfl <;> first | decide | exact hz2
section
variable {ok : Nat → Prop} {W0 : Start} {w : World} {C : List It} {F : List Fa}
theorem St.partsTr (s : St ok W0 C F w) {i : Nat} {x : Tr} {B3 B4 : Option Addr} {d3 d4 : Nat} (hi : F[i]? = some (.dat (trC x B3 d3 B4 d4) x.toD)) :
    St ok W0 C (.dat [.slice B4 x.kids.length d4] (.sl (Tr.toDs x.kids)) :: .dat [.slice B3 x.names.length d3] (.sl (strsD x.names)) :: F) w := by
  obtain ⟨E3, e3, E4, e4, h, -, -, g3, g4⟩ := Tr.opn (s.dat hi)
  obtain ⟨rfl, rfl, rfl, rfl⟩ : B3 = E3 ∧ d3 = e3 ∧ B4 = E4 ∧ d4 = e4 := by simpa [and_assoc] using h
  exact (s.know (f := .dat [.slice B3 x.names.length d3] (.sl (strsD x.names))) g3).know (f := .dat [.slice B4 x.kids.length d4] (.sl (Tr.toDs x.kids))) g4
end
theorem namesWt_app (a b : List ByteArray) : namesWt (a ++ b) = namesWt a + namesWt b := by
  induction a with
  | nil => simp [namesWt]
  | cons x a ih => simp [namesWt, ih]; omega
theorem l4Path_ok {ok : Nat → Prop} {w0 : World} {b : Nat} {v : Value} {p : Int} {l : List UInt8} (t : Tr) {cs : List Value} (h : Rdr ok w0 b v p l) (h2 : Rd ok w0 t.toD cs) (hp : p ≤ 100000000) (ht : t.wt ≤ 100000000) :
    Calls Try.prog 62 #[.pointer (some ⟨b, 0, none⟩), .agg cs.toArray] w0 (Ret fun r w' => ∃ q : List ByteArray, q ≠ [] ∧ q.length ≤ 4 ∧ namesWt q ≤ 4 * (t.wt + 3) ∧ Rd (okR ok w0) w' (.sl (strsD q)) [r] ∧ Aft w0 w' b v p 17) := by
  obtain ⟨A3, n3, A4, n4, rfl, hl3, hl4, h3, h4⟩ := Tr.opn h2
  have hlen := h.len
  have hlow := h.low
  have s := (h.start.know (f := .dat _ _) (h.rd h2))
  clear h h2 h3 h4
  refine calls_enter (n := 66) Try.func62 rfl rfl rfl ?_
  repeat (refine VS_seq ?_)
  refine VS_region_lit ?_
  refine VL_does (d := 3) (does_box s rfl rfl rfl ?_) rfl rfl
  clear s; intro b3 w s
  refine VL_run (d := 4) (run_assign rfl (by conv => lhs; whnf)) rfl rfl ?_
  refine VL_nil ?_
  repeat (refine VS_seq ?_)
  refine VS_region_lit ?_
  refine VL_does (d := 9) (does_slice0 s rfl Try.underlying23 ty9 ?_) rfl rfl
  clear s; intro g9 w s
  refine VL_run (d := 5) (run_assign rfl (by conv => lhs; whnf)) rfl rfl ?_
  refine VL_nil ?_
  repeat (refine VS_seq ?_)
  refine VS_region_lit ?_
  refine VL_run (d := 10) (run_load_ownA (cs := [_, _, _, _, _]) s rfl ty26 rfl (i := 1) rfl rfl rfl) rfl rfl ?_
  refine VL_does (d := 6) (does_alloc s rfl ty26 rfl ?_) rfl rfl
  clear s; intro b6 w s
  (refine VL_doesU (does_store s rfl ty26 rfl rfl (i := 0) rfl rfl rfl (by (intro u hu; simp only [List.mem_cons, List.not_mem_nil, or_false] at hu; rcases hu with rfl | rfl | rfl | rfl | rfl <;> rfl)) rfl ?_) rfl rfl rfl)
  clear s; intro w s
  try simp only [List.set_cons_zero, List.set_cons_succ, patch, List.take_succ_cons, List.take_zero, List.drop_succ_cons, List.drop_zero, List.drop_nil, List.nil_append, List.cons_append, List.append_nil, List.length_cons, List.length_nil, Nat.reduceAdd, Nat.zero_add] at s
  refine VL_nil ?_
  repeat (first | refine VS_seq ?_ | refine VS_block ?_)
  refine VS_loop2 [5, 7, 8, 11, 12, 13, 14, 15, 16, 17, 18, 19, 20, 21, 22, 23, 24, 25, 26, 27, 28, 29, 30, 31, 32, 33, 34, 35, 36, 37, 38, 39, 40, 41, 42, 43, 44, 45, 46, 47, 48, 49, 50, 51, 52, 53, 54, 55, 56, 57, 58, 59, 60, 61, 62, 63, 64] (fun (k : Nat) (vq : Value) => [(5, vq)]) (fun k vq w => ∃ A m c q x B3 d3 B4 d4 p1, vq = .slice A m c ∧ St ok ⟨w0, [b]⟩ [.blk b6 (trC x B3 d3 B4 d4) 26, .row (.slice A m c) 9 1 (strsD q), .blk b3 (trC t A3 n3 A4 n4) 26, .blk b (rdC v p1) 121] [.dat (trC x B3 d3 B4 d4) x.toD, .dat [v] (.sl (bytesL l))] w ∧ m = q.length ∧ x.wt ≤ t.wt ∧ q.length = k ∧ k ≤ 4 ∧ namesWt q ≤ q.length * (t.wt + 3) ∧ p ≤ p1 ∧ p1 ≤ p + 4 * k) (fun k _ => 4 - k) 0 _ ⟨_, _, _, [], t, _, _, _, _, p, rfl, s, rfl, Nat.le_refl _, rfl, by omega, by simp [namesWt], by omega, by omega⟩ (by repeat (first | exact Has.nil _ | refine Has.cons rfl ?_)) ?_
  clear s
  rintro k vq w j ⟨A, m, c, q, x, B3, d3, B4, d4, p1, rfl, s, rfl, hxw, rfl, hk, hqw, hp1, hp2⟩
  have hxn : x.names.length ≤ 1000000000 := by have := namesWt_len x.names; have := x.wt_eq; omega
  repeat (refine VS_seq ?_)
  refine VS_join1 [11, 12, 13, 14, 15, 16, 17, 18, 19, 20, 21, 22, 23] (fun bb : Bool => [(23, .bool bb)]) (fun bb w => ∃ p2, (bb = true → q.length < 4) ∧ (bb = false → 0 < q.length) ∧ p1 ≤ p2 ∧ p2 ≤ p1 + 1 ∧ St ok ⟨w0, [b]⟩ [.blk b6 (trC x B3 d3 B4 d4) 26, .row (.slice A q.length c) 9 1 (strsD q), .blk b3 (trC t A3 n3 A4 n4) 26, .blk b (rdC v p2) 121] [.dat (trC x B3 d3 B4 d4) x.toD, .dat [v] (.sl (bytesL l))] w) ?_ ?_
  · refine VS_region_lit ?_
    refine VL_run (d := 11) (run_move rfl (by conv => lhs; whnf)) rfl rfl ?_
    refine VL_run (d := 12) (run_lenSlice rfl ⟨_, Try.underlying23⟩ rfl) rfl rfl ?_
    refine VL_run (d := 13) (run_ltI rfl rfl rfl) rfl rfl ?_
    refine VL_run (d := 14) (run_move rfl (by conv => lhs; whnf)) rfl rfl ?_
    refine VL_split 14 (by conv => lhs; whnf) (fun h14 => ?_) (fun h14 => ?_) <;> (try simp only [decide_eq_true_eq, decide_eq_false_iff_not, Bool.not_eq_true', Bool.not_eq_false', ne_eq, Decidable.not_not, cond_true, cond_false, Bool.and_eq_true, Bool.or_eq_true, Bool.and_eq_false_iff, Bool.or_eq_false_iff, Bool.not_true, Bool.not_false, reduceCtorEq] at h14)
    · refine VL_run (d := 15) (run_move rfl (by conv => lhs; whnf)) rfl rfl ?_
      refine VL_run (d := 16) (run_lenSlice rfl ⟨_, Try.underlying23⟩ rfl) rfl rfl ?_
      refine VL_run (d := 17) (run_eqI rfl rfl rfl) rfl rfl ?_
      refine VL_run (d := 18) (run_move rfl (by conv => lhs; whnf)) rfl rfl ?_
      refine VL_split 18 (by conv => lhs; whnf) (fun h18 => ?_) (fun h18 => ?_) <;> (try simp only [decide_eq_true_eq, decide_eq_false_iff_not, Bool.not_eq_true', Bool.not_eq_false', ne_eq, Decidable.not_not, cond_true, cond_false, Bool.and_eq_true, Bool.or_eq_true, Bool.and_eq_false_iff, Bool.or_eq_false_iff, Bool.not_true, Bool.not_false, reduceCtorEq] at h18)
      · refine VL_not (d := 19) rfl rfl rfl rfl ?_
        refine VL_not (d := 20) rfl rfl rfl rfl ?_
        refine VL_not (d := 21) rfl rfl rfl rfl ?_
        refine VL_run (d := 22) (run_pickT rfl rfl rfl) rfl rfl ?_
        refine VL_run (d := 23) (run_pickT rfl rfl rfl) rfl rfl ?_
        refine VL_nil ?_
        refine VS_met (_) ?_ (by repeat (first | exact Has.nil _ | refine Has.cons rfl ?_)) (by repeat (first | exact Out.refl _ _ | refine Out.upd rfl ?_))
        exact ⟨_, (fun h => by omega), (fun h => by cases h), by omega, by omega, s⟩
      · refine VL_run (d := 19) (run_move rfl (by conv => lhs; whnf)) rfl rfl ?_
        refine VL_does (d := 20) (does_call2 rfl (by kernel_rfl) rfl rfl (pick_ok _ (s.rdr (i := 3) (j := 1) rfl rfl hlen (by omega)) (by omega) (by omega)) ?_) rfl rfl
        rintro v20 w1 ⟨n, rfl, hn0, hn1, ha⟩
        obtain ⟨p2, hp3, hp4, s⟩ := s.aft (i := 3) rfl ha; simp only [List.set_cons_zero, List.set_cons_succ] at s; clear ha
        refine VL_run (d := 21) (run_gtI rfl rfl rfl) rfl rfl ?_
        refine VL_run (d := 22) (run_pickF rfl rfl rfl) rfl rfl ?_
        refine VL_run (d := 23) (run_pickT rfl rfl rfl) rfl rfl ?_
        refine VL_nil ?_
        refine VS_met (_) ?_ (by repeat (first | exact Has.nil _ | refine Has.cons rfl ?_)) (by repeat (first | exact Out.refl _ _ | refine Out.upd rfl ?_))
        exact ⟨_, (fun h => by omega), (fun h => by omega), by omega, by omega, s⟩
    · refine VL_not (d := 15) rfl rfl rfl rfl ?_
      refine VL_not (d := 16) rfl rfl rfl rfl ?_
      refine VL_not (d := 17) rfl rfl rfl rfl ?_
      refine VL_not (d := 18) rfl rfl rfl rfl ?_
      refine VL_not (d := 19) rfl rfl rfl rfl ?_
      refine VL_not (d := 20) rfl rfl rfl rfl ?_
      refine VL_not (d := 21) rfl rfl rfl rfl ?_
      refine VL_not (d := 22) rfl rfl rfl rfl ?_
      refine VL_run (d := 23) (run_pickF rfl rfl rfl) rfl rfl ?_
      refine VL_nil ?_
      refine VS_met (_) ?_ (by repeat (first | exact Has.nil _ | refine Has.cons rfl ?_)) (by repeat (first | exact Out.refl _ _ | refine Out.upd rfl ?_))
      exact ⟨_, (fun h => by cases h), (fun h => by omega), by omega, by omega, s⟩
  clear s
  rintro bb w j ⟨p2, hb1, hb2, hp3, hp4, s⟩
  refine VS_cond rfl (fun c0 => ?_) (fun c0 => ?_) <;> (try simp only [decide_eq_true_eq, decide_eq_false_iff_not, Bool.not_eq_true', Bool.not_eq_false', ne_eq, Decidable.not_not, cond_true, cond_false, Bool.and_eq_true, Bool.or_eq_true, Bool.and_eq_false_iff, Bool.or_eq_false_iff, Bool.not_true, Bool.not_false, reduceCtorEq] at c0)
  · repeat (first | refine VS_seq ?_ | refine VS_block ?_ | refine VS_skip ?_)
    refine VS_region_lit ?_
    refine VL_run (d := 24) (run_move rfl (by conv => lhs; whnf)) rfl rfl ?_
    refine VL_does (d := 25) (does_call1 rfl (by kernel_rfl) rfl (l4Name_ok (s.rdr (i := 3) (j := 1) rfl rfl hlen (by omega)) (by omega)) ?_) rfl rfl
    rintro v25 w1 ⟨nm, rfl, hnm, ha⟩
    obtain ⟨p3, hp5, hp6, s⟩ := s.aft (i := 3) rfl ha; simp only [List.set_cons_zero, List.set_cons_succ] at s; clear ha
    refine VL_run (d := 7) (run_assign rfl (by conv => lhs; whnf)) rfl rfl ?_
    refine VL_nil ?_
    repeat (refine VS_seq ?_)
    refine VS_join1 [26, 27, 28, 29, 30, 31, 32, 33, 34] (fun bb : Bool => [(34, .bool bb)]) (fun bb w => ∃ p4, (bb = true → 0 < x.names.length) ∧ p3 ≤ p4 ∧ p4 ≤ p3 + 1 ∧ St ok ⟨w0, [b]⟩ [.blk b6 (trC x B3 d3 B4 d4) 26, .row (.slice A q.length c) 9 1 (strsD q), .blk b3 (trC t A3 n3 A4 n4) 26, .blk b (rdC v p4) 121] [.dat (trC x B3 d3 B4 d4) x.toD, .dat [v] (.sl (bytesL l))] w) ?_ ?_
    · refine VS_region_lit ?_
      refine VL_run (d := 26) (run_fieldAddr rfl fo26_3 rfl) rfl rfl ?_
      refine VL_run (d := 27) (run_load_own1 s rfl ty23 rfl (i := 0) rfl rfl) rfl rfl ?_
      refine VL_run (d := 28) (run_lenSlice rfl ⟨_, Try.underlying23⟩ rfl) rfl rfl ?_
      refine VL_run (d := 29) (run_gtI rfl rfl rfl) rfl rfl ?_
      refine VL_run (d := 30) (run_move rfl (by conv => lhs; whnf)) rfl rfl ?_
      refine VL_split 30 (by conv => lhs; whnf) (fun h30 => ?_) (fun h30 => ?_) <;> (try simp only [decide_eq_true_eq, decide_eq_false_iff_not, Bool.not_eq_true', Bool.not_eq_false', ne_eq, Decidable.not_not, cond_true, cond_false, Bool.and_eq_true, Bool.or_eq_true, Bool.and_eq_false_iff, Bool.or_eq_false_iff, Bool.not_true, Bool.not_false, reduceCtorEq] at h30)
      · refine VL_run (d := 31) (run_move rfl (by conv => lhs; whnf)) rfl rfl ?_
        refine VL_does (d := 32) (does_call2 rfl (by kernel_rfl) rfl rfl (pick_ok _ (s.rdr (i := 3) (j := 1) rfl rfl hlen (by omega)) (by omega) (by omega)) ?_) rfl rfl
        rintro v32 w1 ⟨n, rfl, hn0, hn1, ha⟩
        obtain ⟨p4, hp7, hp8, s⟩ := s.aft (i := 3) rfl ha; simp only [List.set_cons_zero, List.set_cons_succ] at s; clear ha
        refine VL_run (d := 33) (run_gtI rfl rfl rfl) rfl rfl ?_
        refine VL_run (d := 34) (run_pickT rfl rfl rfl) rfl rfl ?_
        refine VL_nil ?_
        refine VS_met (_) ?_ (by repeat (first | exact Has.nil _ | refine Has.cons rfl ?_)) (by repeat (first | exact Out.refl _ _ | refine Out.upd rfl ?_))
        exact ⟨_, (fun h => by omega), by omega, by omega, s⟩
      · refine VL_not (d := 31) rfl rfl rfl rfl ?_
        refine VL_not (d := 32) rfl rfl rfl rfl ?_
        refine VL_not (d := 33) rfl rfl rfl rfl ?_
        refine VL_run (d := 34) (run_pickF rfl rfl rfl) rfl rfl ?_
        refine VL_nil ?_
        refine VS_met (_) ?_ (by repeat (first | exact Has.nil _ | refine Has.cons rfl ?_)) (by repeat (first | exact Out.refl _ _ | refine Out.upd rfl ?_))
        exact ⟨_, (fun h => by cases h), by omega, by omega, s⟩
    clear s
    rintro b5 w j ⟨p4, hb3, hp7, hp8, s⟩
    refine VS_join1 [7, 35, 36, 37, 38, 39, 40, 41, 42, 43] (fun nm2 : ByteArray => [(7, .string nm2)]) (fun nm2 w => ∃ p5, nm2.size ≤ t.wt + 2 ∧ p4 ≤ p5 ∧ p5 ≤ p4 + 1 ∧ St ok ⟨w0, [b]⟩ [.blk b6 (trC x B3 d3 B4 d4) 26, .row (.slice A q.length c) 9 1 (strsD q), .blk b3 (trC t A3 n3 A4 n4) 26, .blk b (rdC v p5) 121] [.dat (trC x B3 d3 B4 d4) x.toD, .dat [v] (.sl (bytesL l))] w) ?_ ?_
    · refine VS_cond rfl (fun c1 => ?_) (fun c1 => ?_) <;> (try simp only [decide_eq_true_eq, decide_eq_false_iff_not, Bool.not_eq_true', Bool.not_eq_false', ne_eq, Decidable.not_not, cond_true, cond_false, Bool.and_eq_true, Bool.or_eq_true, Bool.and_eq_false_iff, Bool.or_eq_false_iff, Bool.not_true, Bool.not_false, reduceCtorEq] at c1)
      · have s := s.partsTr (i := 0) rfl
        have hnz := hb3 c1
        refine VS_drawSub (C' := [.blk b6 (trC x B3 d3 B4 d4) 26] ) (F' :=  []) 6 s mixed ?_
        clear s; intro s
        refine VA_take 2 (d := 37) rfl (by kernel_rfl) rfl (fun w g => run_move rfl (by conv => lhs; whnf)) (s.sees (fun b_ c_ t_ h_ => (show ∀ x_ ∈ ([.blk b6 (trC x B3 d3 B4 d4) 26] : List It), x_ ∈ _ from by (repeat (first | exact sub_nil | refine sub_cons (by (repeat (exact .head _))) ?_))) _ h_) (by (repeat (exact sub_nil)))) ?_
        refine VA_two (i := 0) (j := 3) (by kernel_rfl) ?_ ?_
        · refine VO_run (d := 35) rfl (run_fieldAddr rfl fo26_3 rfl) rfl rfl (fun _ => s.sees (fun b_ c_ t_ h_ => (show ∀ x_ ∈ ([.blk b6 (trC x B3 d3 B4 d4) 26] : List It), x_ ∈ _ from by (repeat (first | exact sub_nil | refine sub_cons (by (repeat (exact .head _))) ?_))) _ h_) (by (repeat (exact sub_nil)))) ?_
          refine VA_two (i := 1) (j := 3) (by kernel_rfl) ?_ ?_
          · refine VO_run (d := 36) rfl (run_load_own1 s rfl ty23 rfl (i := 0) rfl rfl) rfl rfl (fun _ => s.sees (fun b_ c_ t_ h_ => (show ∀ x_ ∈ ([.blk b6 (trC x B3 d3 B4 d4) 26] : List It), x_ ∈ _ from by (repeat (first | exact sub_nil | refine sub_cons (by (repeat (exact .head _))) ?_))) _ h_) (by (repeat (exact sub_nil)))) ?_
            refine VA_one (i := 3) (by kernel_rfl) ?_
            refine VO_run (d := 38) rfl (run_fieldAddr rfl fo26_3 rfl) rfl rfl (fun _ => s.sees (fun b_ c_ t_ h_ => (show ∀ x_ ∈ ([.blk b6 (trC x B3 d3 B4 d4) 26] : List It), x_ ∈ _ from by (repeat (first | exact sub_nil | refine sub_cons (by (repeat (exact .head _))) ?_))) _ h_) (by (repeat (exact sub_nil)))) ?_
            refine VA_one (i := 4) (by kernel_rfl) ?_
            refine VO_run (d := 39) rfl (run_load_own1 s rfl ty23 rfl (i := 0) rfl rfl) rfl rfl (fun _ => s.sees (fun b_ c_ t_ h_ => (show ∀ x_ ∈ ([.blk b6 (trC x B3 d3 B4 d4) 26] : List It), x_ ∈ _ from by (repeat (first | exact sub_nil | refine sub_cons (by (repeat (exact .head _))) ?_))) _ h_) (by (repeat (exact sub_nil)))) ?_
            refine VA_take 5 (d := 40) rfl (by kernel_rfl) rfl (fun w g => run_lenSlice rfl ⟨_, Try.underlying23⟩ rfl) (s.sees (fun b_ c_ t_ h_ => (show ∀ x_ ∈ ([.blk b6 (trC x B3 d3 B4 d4) 26] : List It), x_ ∈ _ from by (repeat (first | exact sub_nil | refine sub_cons (by (repeat (exact .head _))) ?_))) _ h_) (by (repeat (exact sub_nil)))) ?_
            refine VA_one (i := 6) (by kernel_rfl) ?_
            refine VO_does (d := 41) rfl (does_call2 rfl (by kernel_rfl) rfl rfl (pick_ok _ (s.rdr (i := 3) (j := 3) rfl rfl hlen (by omega)) (by omega) (by omega)) ?_) rfl rfl
            rintro v41 w1 ⟨n, rfl, hn0, hn1, ha⟩
            obtain ⟨p5, hp9, hp10, s⟩ := s.aft (i := 3) rfl ha; simp only [List.set_cons_zero, List.set_cons_succ] at s; clear ha; obtain ⟨ad, rfl, s⟩ := s.openS (i := 1) rfl n.toNat (by omega)
            refine ⟨(fun h => nomatch (show true = false from h)), ?_⟩
            refine VA_one (i := 7) (by kernel_rfl) ?_
            refine VO_run (d := 42) rfl (run_indexAddrN (q := n.toNat) rfl Try.underlying23 ty9 rfl rfl (by omega) (by omega)) rfl rfl ((fun h => nomatch (show true = false from h))) ?_
            refine VA_one (i := 8) (by kernel_rfl) ?_
            refine VO_run (d := 43) rfl (run_load_at0 s rfl ty9 rfl (i := 0) rfl rfl) rfl rfl ((fun h => nomatch (show true = false from h))) ?_
            refine VA_one (i := 9) (by kernel_rfl) ?_
            refine VO_run (d := 7) rfl (run_assign rfl (by conv => lhs; whnf)) rfl rfl ((fun h => nomatch (show true = false from h))) ?_
            refine VA_done (by kernel_rfl) ?_
            refine VS_met (_) ?_ (by repeat (first | exact Has.nil _ | refine Has.cons rfl ?_)) (by repeat (first | exact Out.refl _ _ | refine Out.upd rfl ?_))
            first
              | exact ⟨_, (by have := namesWt_mem (List.getElem_mem (l := x.names) (n := n.toNat) (by omega)); have := x.wt_eq; omega), by omega, by omega, s.less (by simp)⟩
              | exact ⟨_, by omega, by omega, by omega, s⟩
          · refine VO_run (d := 38) rfl (run_fieldAddr rfl fo26_3 rfl) rfl rfl (fun _ => s.sees (fun b_ c_ t_ h_ => (show ∀ x_ ∈ ([.blk b6 (trC x B3 d3 B4 d4) 26] : List It), x_ ∈ _ from by (repeat (first | exact sub_nil | refine sub_cons (by (repeat (exact .head _))) ?_))) _ h_) (by (repeat (exact sub_nil)))) ?_
            refine VA_two (i := 1) (j := 4) (by kernel_rfl) ?_ ?_
            · refine VO_run (d := 36) rfl (run_load_own1 s rfl ty23 rfl (i := 0) rfl rfl) rfl rfl (fun _ => s.sees (fun b_ c_ t_ h_ => (show ∀ x_ ∈ ([.blk b6 (trC x B3 d3 B4 d4) 26] : List It), x_ ∈ _ from by (repeat (first | exact sub_nil | refine sub_cons (by (repeat (exact .head _))) ?_))) _ h_) (by (repeat (exact sub_nil)))) ?_
              refine VA_one (i := 4) (by kernel_rfl) ?_
              refine VO_run (d := 39) rfl (run_load_own1 s rfl ty23 rfl (i := 0) rfl rfl) rfl rfl (fun _ => s.sees (fun b_ c_ t_ h_ => (show ∀ x_ ∈ ([.blk b6 (trC x B3 d3 B4 d4) 26] : List It), x_ ∈ _ from by (repeat (first | exact sub_nil | refine sub_cons (by (repeat (exact .head _))) ?_))) _ h_) (by (repeat (exact sub_nil)))) ?_
              refine VA_take 5 (d := 40) rfl (by kernel_rfl) rfl (fun w g => run_lenSlice rfl ⟨_, Try.underlying23⟩ rfl) (s.sees (fun b_ c_ t_ h_ => (show ∀ x_ ∈ ([.blk b6 (trC x B3 d3 B4 d4) 26] : List It), x_ ∈ _ from by (repeat (first | exact sub_nil | refine sub_cons (by (repeat (exact .head _))) ?_))) _ h_) (by (repeat (exact sub_nil)))) ?_
              refine VA_one (i := 6) (by kernel_rfl) ?_
              refine VO_does (d := 41) rfl (does_call2 rfl (by kernel_rfl) rfl rfl (pick_ok _ (s.rdr (i := 3) (j := 3) rfl rfl hlen (by omega)) (by omega) (by omega)) ?_) rfl rfl
              rintro v41 w1 ⟨n, rfl, hn0, hn1, ha⟩
              obtain ⟨p5, hp9, hp10, s⟩ := s.aft (i := 3) rfl ha; simp only [List.set_cons_zero, List.set_cons_succ] at s; clear ha; obtain ⟨ad, rfl, s⟩ := s.openS (i := 1) rfl n.toNat (by omega)
              refine ⟨(fun h => nomatch (show true = false from h)), ?_⟩
              refine VA_one (i := 7) (by kernel_rfl) ?_
              refine VO_run (d := 42) rfl (run_indexAddrN (q := n.toNat) rfl Try.underlying23 ty9 rfl rfl (by omega) (by omega)) rfl rfl ((fun h => nomatch (show true = false from h))) ?_
              refine VA_one (i := 8) (by kernel_rfl) ?_
              refine VO_run (d := 43) rfl (run_load_at0 s rfl ty9 rfl (i := 0) rfl rfl) rfl rfl ((fun h => nomatch (show true = false from h))) ?_
              refine VA_one (i := 9) (by kernel_rfl) ?_
              refine VO_run (d := 7) rfl (run_assign rfl (by conv => lhs; whnf)) rfl rfl ((fun h => nomatch (show true = false from h))) ?_
              refine VA_done (by kernel_rfl) ?_
              refine VS_met (_) ?_ (by repeat (first | exact Has.nil _ | refine Has.cons rfl ?_)) (by repeat (first | exact Out.refl _ _ | refine Out.upd rfl ?_))
              first
                | exact ⟨_, (by have := namesWt_mem (List.getElem_mem (l := x.names) (n := n.toNat) (by omega)); have := x.wt_eq; omega), by omega, by omega, s.less (by simp)⟩
                | exact ⟨_, by omega, by omega, by omega, s⟩
            · refine VO_run (d := 39) rfl (run_load_own1 s rfl ty23 rfl (i := 0) rfl rfl) rfl rfl (fun _ => s.sees (fun b_ c_ t_ h_ => (show ∀ x_ ∈ ([.blk b6 (trC x B3 d3 B4 d4) 26] : List It), x_ ∈ _ from by (repeat (first | exact sub_nil | refine sub_cons (by (repeat (exact .head _))) ?_))) _ h_) (by (repeat (exact sub_nil)))) ?_
              refine VA_take 5 (d := 40) rfl (by kernel_rfl) rfl (fun w g => run_lenSlice rfl ⟨_, Try.underlying23⟩ rfl) (s.sees (fun b_ c_ t_ h_ => (show ∀ x_ ∈ ([.blk b6 (trC x B3 d3 B4 d4) 26] : List It), x_ ∈ _ from by (repeat (first | exact sub_nil | refine sub_cons (by (repeat (exact .head _))) ?_))) _ h_) (by (repeat (exact sub_nil)))) ?_
              refine VA_two (i := 1) (j := 6) (by kernel_rfl) ?_ ?_
              · refine VO_run (d := 36) rfl (run_load_own1 s rfl ty23 rfl (i := 0) rfl rfl) rfl rfl (fun _ => s.sees (fun b_ c_ t_ h_ => (show ∀ x_ ∈ ([.blk b6 (trC x B3 d3 B4 d4) 26] : List It), x_ ∈ _ from by (repeat (first | exact sub_nil | refine sub_cons (by (repeat (exact .head _))) ?_))) _ h_) (by (repeat (exact sub_nil)))) ?_
                refine VA_one (i := 6) (by kernel_rfl) ?_
                refine VO_does (d := 41) rfl (does_call2 rfl (by kernel_rfl) rfl rfl (pick_ok _ (s.rdr (i := 3) (j := 3) rfl rfl hlen (by omega)) (by omega) (by omega)) ?_) rfl rfl
                rintro v41 w1 ⟨n, rfl, hn0, hn1, ha⟩
                obtain ⟨p5, hp9, hp10, s⟩ := s.aft (i := 3) rfl ha; simp only [List.set_cons_zero, List.set_cons_succ] at s; clear ha; obtain ⟨ad, rfl, s⟩ := s.openS (i := 1) rfl n.toNat (by omega)
                refine ⟨(fun h => nomatch (show true = false from h)), ?_⟩
                refine VA_one (i := 7) (by kernel_rfl) ?_
                refine VO_run (d := 42) rfl (run_indexAddrN (q := n.toNat) rfl Try.underlying23 ty9 rfl rfl (by omega) (by omega)) rfl rfl ((fun h => nomatch (show true = false from h))) ?_
                refine VA_one (i := 8) (by kernel_rfl) ?_
                refine VO_run (d := 43) rfl (run_load_at0 s rfl ty9 rfl (i := 0) rfl rfl) rfl rfl ((fun h => nomatch (show true = false from h))) ?_
                refine VA_one (i := 9) (by kernel_rfl) ?_
                refine VO_run (d := 7) rfl (run_assign rfl (by conv => lhs; whnf)) rfl rfl ((fun h => nomatch (show true = false from h))) ?_
                refine VA_done (by kernel_rfl) ?_
                refine VS_met (_) ?_ (by repeat (first | exact Has.nil _ | refine Has.cons rfl ?_)) (by repeat (first | exact Out.refl _ _ | refine Out.upd rfl ?_))
                first
                  | exact ⟨_, (by have := namesWt_mem (List.getElem_mem (l := x.names) (n := n.toNat) (by omega)); have := x.wt_eq; omega), by omega, by omega, s.less (by simp)⟩
                  | exact ⟨_, by omega, by omega, by omega, s⟩
              · refine VO_does (d := 41) rfl (does_call2 rfl (by kernel_rfl) rfl rfl (pick_ok _ (s.rdr (i := 3) (j := 3) rfl rfl hlen (by omega)) (by omega) (by omega)) ?_) rfl rfl
                rintro v41 w1 ⟨n, rfl, hn0, hn1, ha⟩
                obtain ⟨p5, hp9, hp10, s⟩ := s.aft (i := 3) rfl ha; simp only [List.set_cons_zero, List.set_cons_succ] at s; clear ha; obtain ⟨ad, rfl, s⟩ := s.openS (i := 1) rfl n.toNat (by omega)
                refine ⟨(fun h => nomatch (show true = false from h)), ?_⟩
                refine VA_one (i := 1) (by kernel_rfl) ?_
                refine VO_run (d := 36) rfl (run_load_own1 s rfl ty23 rfl (i := 0) rfl rfl) rfl rfl ((fun h => nomatch (show true = false from h))) ?_
                refine VA_one (i := 7) (by kernel_rfl) ?_
                refine VO_run (d := 42) rfl (run_indexAddrN (q := n.toNat) rfl Try.underlying23 ty9 rfl rfl (by omega) (by omega)) rfl rfl ((fun h => nomatch (show true = false from h))) ?_
                refine VA_one (i := 8) (by kernel_rfl) ?_
                refine VO_run (d := 43) rfl (run_load_at0 s rfl ty9 rfl (i := 0) rfl rfl) rfl rfl ((fun h => nomatch (show true = false from h))) ?_
                refine VA_one (i := 9) (by kernel_rfl) ?_
                refine VO_run (d := 7) rfl (run_assign rfl (by conv => lhs; whnf)) rfl rfl ((fun h => nomatch (show true = false from h))) ?_
                refine VA_done (by kernel_rfl) ?_
                refine VS_met (_) ?_ (by repeat (first | exact Has.nil _ | refine Has.cons rfl ?_)) (by repeat (first | exact Out.refl _ _ | refine Out.upd rfl ?_))
                first
                  | exact ⟨_, (by have := namesWt_mem (List.getElem_mem (l := x.names) (n := n.toNat) (by omega)); have := x.wt_eq; omega), by omega, by omega, s.less (by simp)⟩
                  | exact ⟨_, by omega, by omega, by omega, s⟩
        · refine VO_run (d := 38) rfl (run_fieldAddr rfl fo26_3 rfl) rfl rfl (fun _ => s.sees (fun b_ c_ t_ h_ => (show ∀ x_ ∈ ([.blk b6 (trC x B3 d3 B4 d4) 26] : List It), x_ ∈ _ from by (repeat (first | exact sub_nil | refine sub_cons (by (repeat (exact .head _))) ?_))) _ h_) (by (repeat (exact sub_nil)))) ?_
          refine VA_two (i := 0) (j := 4) (by kernel_rfl) ?_ ?_
          · refine VO_run (d := 35) rfl (run_fieldAddr rfl fo26_3 rfl) rfl rfl (fun _ => s.sees (fun b_ c_ t_ h_ => (show ∀ x_ ∈ ([.blk b6 (trC x B3 d3 B4 d4) 26] : List It), x_ ∈ _ from by (repeat (first | exact sub_nil | refine sub_cons (by (repeat (exact .head _))) ?_))) _ h_) (by (repeat (exact sub_nil)))) ?_
            refine VA_two (i := 1) (j := 4) (by kernel_rfl) ?_ ?_
            · refine VO_run (d := 36) rfl (run_load_own1 s rfl ty23 rfl (i := 0) rfl rfl) rfl rfl (fun _ => s.sees (fun b_ c_ t_ h_ => (show ∀ x_ ∈ ([.blk b6 (trC x B3 d3 B4 d4) 26] : List It), x_ ∈ _ from by (repeat (first | exact sub_nil | refine sub_cons (by (repeat (exact .head _))) ?_))) _ h_) (by (repeat (exact sub_nil)))) ?_
              refine VA_one (i := 4) (by kernel_rfl) ?_
              refine VO_run (d := 39) rfl (run_load_own1 s rfl ty23 rfl (i := 0) rfl rfl) rfl rfl (fun _ => s.sees (fun b_ c_ t_ h_ => (show ∀ x_ ∈ ([.blk b6 (trC x B3 d3 B4 d4) 26] : List It), x_ ∈ _ from by (repeat (first | exact sub_nil | refine sub_cons (by (repeat (exact .head _))) ?_))) _ h_) (by (repeat (exact sub_nil)))) ?_
              refine VA_take 5 (d := 40) rfl (by kernel_rfl) rfl (fun w g => run_lenSlice rfl ⟨_, Try.underlying23⟩ rfl) (s.sees (fun b_ c_ t_ h_ => (show ∀ x_ ∈ ([.blk b6 (trC x B3 d3 B4 d4) 26] : List It), x_ ∈ _ from by (repeat (first | exact sub_nil | refine sub_cons (by (repeat (exact .head _))) ?_))) _ h_) (by (repeat (exact sub_nil)))) ?_
              refine VA_one (i := 6) (by kernel_rfl) ?_
              refine VO_does (d := 41) rfl (does_call2 rfl (by kernel_rfl) rfl rfl (pick_ok _ (s.rdr (i := 3) (j := 3) rfl rfl hlen (by omega)) (by omega) (by omega)) ?_) rfl rfl
              rintro v41 w1 ⟨n, rfl, hn0, hn1, ha⟩
              obtain ⟨p5, hp9, hp10, s⟩ := s.aft (i := 3) rfl ha; simp only [List.set_cons_zero, List.set_cons_succ] at s; clear ha; obtain ⟨ad, rfl, s⟩ := s.openS (i := 1) rfl n.toNat (by omega)
              refine ⟨(fun h => nomatch (show true = false from h)), ?_⟩
              refine VA_one (i := 7) (by kernel_rfl) ?_
              refine VO_run (d := 42) rfl (run_indexAddrN (q := n.toNat) rfl Try.underlying23 ty9 rfl rfl (by omega) (by omega)) rfl rfl ((fun h => nomatch (show true = false from h))) ?_
              refine VA_one (i := 8) (by kernel_rfl) ?_
              refine VO_run (d := 43) rfl (run_load_at0 s rfl ty9 rfl (i := 0) rfl rfl) rfl rfl ((fun h => nomatch (show true = false from h))) ?_
              refine VA_one (i := 9) (by kernel_rfl) ?_
              refine VO_run (d := 7) rfl (run_assign rfl (by conv => lhs; whnf)) rfl rfl ((fun h => nomatch (show true = false from h))) ?_
              refine VA_done (by kernel_rfl) ?_
              refine VS_met (_) ?_ (by repeat (first | exact Has.nil _ | refine Has.cons rfl ?_)) (by repeat (first | exact Out.refl _ _ | refine Out.upd rfl ?_))
              first
                | exact ⟨_, (by have := namesWt_mem (List.getElem_mem (l := x.names) (n := n.toNat) (by omega)); have := x.wt_eq; omega), by omega, by omega, s.less (by simp)⟩
                | exact ⟨_, by omega, by omega, by omega, s⟩
            · refine VO_run (d := 39) rfl (run_load_own1 s rfl ty23 rfl (i := 0) rfl rfl) rfl rfl (fun _ => s.sees (fun b_ c_ t_ h_ => (show ∀ x_ ∈ ([.blk b6 (trC x B3 d3 B4 d4) 26] : List It), x_ ∈ _ from by (repeat (first | exact sub_nil | refine sub_cons (by (repeat (exact .head _))) ?_))) _ h_) (by (repeat (exact sub_nil)))) ?_
              refine VA_take 5 (d := 40) rfl (by kernel_rfl) rfl (fun w g => run_lenSlice rfl ⟨_, Try.underlying23⟩ rfl) (s.sees (fun b_ c_ t_ h_ => (show ∀ x_ ∈ ([.blk b6 (trC x B3 d3 B4 d4) 26] : List It), x_ ∈ _ from by (repeat (first | exact sub_nil | refine sub_cons (by (repeat (exact .head _))) ?_))) _ h_) (by (repeat (exact sub_nil)))) ?_
              refine VA_two (i := 1) (j := 6) (by kernel_rfl) ?_ ?_
              · refine VO_run (d := 36) rfl (run_load_own1 s rfl ty23 rfl (i := 0) rfl rfl) rfl rfl (fun _ => s.sees (fun b_ c_ t_ h_ => (show ∀ x_ ∈ ([.blk b6 (trC x B3 d3 B4 d4) 26] : List It), x_ ∈ _ from by (repeat (first | exact sub_nil | refine sub_cons (by (repeat (exact .head _))) ?_))) _ h_) (by (repeat (exact sub_nil)))) ?_
                refine VA_one (i := 6) (by kernel_rfl) ?_
                refine VO_does (d := 41) rfl (does_call2 rfl (by kernel_rfl) rfl rfl (pick_ok _ (s.rdr (i := 3) (j := 3) rfl rfl hlen (by omega)) (by omega) (by omega)) ?_) rfl rfl
                rintro v41 w1 ⟨n, rfl, hn0, hn1, ha⟩
                obtain ⟨p5, hp9, hp10, s⟩ := s.aft (i := 3) rfl ha; simp only [List.set_cons_zero, List.set_cons_succ] at s; clear ha; obtain ⟨ad, rfl, s⟩ := s.openS (i := 1) rfl n.toNat (by omega)
                refine ⟨(fun h => nomatch (show true = false from h)), ?_⟩
                refine VA_one (i := 7) (by kernel_rfl) ?_
                refine VO_run (d := 42) rfl (run_indexAddrN (q := n.toNat) rfl Try.underlying23 ty9 rfl rfl (by omega) (by omega)) rfl rfl ((fun h => nomatch (show true = false from h))) ?_
                refine VA_one (i := 8) (by kernel_rfl) ?_
                refine VO_run (d := 43) rfl (run_load_at0 s rfl ty9 rfl (i := 0) rfl rfl) rfl rfl ((fun h => nomatch (show true = false from h))) ?_
                refine VA_one (i := 9) (by kernel_rfl) ?_
                refine VO_run (d := 7) rfl (run_assign rfl (by conv => lhs; whnf)) rfl rfl ((fun h => nomatch (show true = false from h))) ?_
                refine VA_done (by kernel_rfl) ?_
                refine VS_met (_) ?_ (by repeat (first | exact Has.nil _ | refine Has.cons rfl ?_)) (by repeat (first | exact Out.refl _ _ | refine Out.upd rfl ?_))
                first
                  | exact ⟨_, (by have := namesWt_mem (List.getElem_mem (l := x.names) (n := n.toNat) (by omega)); have := x.wt_eq; omega), by omega, by omega, s.less (by simp)⟩
                  | exact ⟨_, by omega, by omega, by omega, s⟩
              · refine VO_does (d := 41) rfl (does_call2 rfl (by kernel_rfl) rfl rfl (pick_ok _ (s.rdr (i := 3) (j := 3) rfl rfl hlen (by omega)) (by omega) (by omega)) ?_) rfl rfl
                rintro v41 w1 ⟨n, rfl, hn0, hn1, ha⟩
                obtain ⟨p5, hp9, hp10, s⟩ := s.aft (i := 3) rfl ha; simp only [List.set_cons_zero, List.set_cons_succ] at s; clear ha; obtain ⟨ad, rfl, s⟩ := s.openS (i := 1) rfl n.toNat (by omega)
                refine ⟨(fun h => nomatch (show true = false from h)), ?_⟩
                refine VA_one (i := 1) (by kernel_rfl) ?_
                refine VO_run (d := 36) rfl (run_load_own1 s rfl ty23 rfl (i := 0) rfl rfl) rfl rfl ((fun h => nomatch (show true = false from h))) ?_
                refine VA_one (i := 7) (by kernel_rfl) ?_
                refine VO_run (d := 42) rfl (run_indexAddrN (q := n.toNat) rfl Try.underlying23 ty9 rfl rfl (by omega) (by omega)) rfl rfl ((fun h => nomatch (show true = false from h))) ?_
                refine VA_one (i := 8) (by kernel_rfl) ?_
                refine VO_run (d := 43) rfl (run_load_at0 s rfl ty9 rfl (i := 0) rfl rfl) rfl rfl ((fun h => nomatch (show true = false from h))) ?_
                refine VA_one (i := 9) (by kernel_rfl) ?_
                refine VO_run (d := 7) rfl (run_assign rfl (by conv => lhs; whnf)) rfl rfl ((fun h => nomatch (show true = false from h))) ?_
                refine VA_done (by kernel_rfl) ?_
                refine VS_met (_) ?_ (by repeat (first | exact Has.nil _ | refine Has.cons rfl ?_)) (by repeat (first | exact Out.refl _ _ | refine Out.upd rfl ?_))
                first
                  | exact ⟨_, (by have := namesWt_mem (List.getElem_mem (l := x.names) (n := n.toNat) (by omega)); have := x.wt_eq; omega), by omega, by omega, s.less (by simp)⟩
                  | exact ⟨_, by omega, by omega, by omega, s⟩
          · refine VO_run (d := 39) rfl (run_load_own1 s rfl ty23 rfl (i := 0) rfl rfl) rfl rfl (fun _ => s.sees (fun b_ c_ t_ h_ => (show ∀ x_ ∈ ([.blk b6 (trC x B3 d3 B4 d4) 26] : List It), x_ ∈ _ from by (repeat (first | exact sub_nil | refine sub_cons (by (repeat (exact .head _))) ?_))) _ h_) (by (repeat (exact sub_nil)))) ?_
            refine VA_take 5 (d := 40) rfl (by kernel_rfl) rfl (fun w g => run_lenSlice rfl ⟨_, Try.underlying23⟩ rfl) (s.sees (fun b_ c_ t_ h_ => (show ∀ x_ ∈ ([.blk b6 (trC x B3 d3 B4 d4) 26] : List It), x_ ∈ _ from by (repeat (first | exact sub_nil | refine sub_cons (by (repeat (exact .head _))) ?_))) _ h_) (by (repeat (exact sub_nil)))) ?_
            refine VA_two (i := 0) (j := 6) (by kernel_rfl) ?_ ?_
            · refine VO_run (d := 35) rfl (run_fieldAddr rfl fo26_3 rfl) rfl rfl (fun _ => s.sees (fun b_ c_ t_ h_ => (show ∀ x_ ∈ ([.blk b6 (trC x B3 d3 B4 d4) 26] : List It), x_ ∈ _ from by (repeat (first | exact sub_nil | refine sub_cons (by (repeat (exact .head _))) ?_))) _ h_) (by (repeat (exact sub_nil)))) ?_
              refine VA_two (i := 1) (j := 6) (by kernel_rfl) ?_ ?_
              · refine VO_run (d := 36) rfl (run_load_own1 s rfl ty23 rfl (i := 0) rfl rfl) rfl rfl (fun _ => s.sees (fun b_ c_ t_ h_ => (show ∀ x_ ∈ ([.blk b6 (trC x B3 d3 B4 d4) 26] : List It), x_ ∈ _ from by (repeat (first | exact sub_nil | refine sub_cons (by (repeat (exact .head _))) ?_))) _ h_) (by (repeat (exact sub_nil)))) ?_
                refine VA_one (i := 6) (by kernel_rfl) ?_
                refine VO_does (d := 41) rfl (does_call2 rfl (by kernel_rfl) rfl rfl (pick_ok _ (s.rdr (i := 3) (j := 3) rfl rfl hlen (by omega)) (by omega) (by omega)) ?_) rfl rfl
                rintro v41 w1 ⟨n, rfl, hn0, hn1, ha⟩
                obtain ⟨p5, hp9, hp10, s⟩ := s.aft (i := 3) rfl ha; simp only [List.set_cons_zero, List.set_cons_succ] at s; clear ha; obtain ⟨ad, rfl, s⟩ := s.openS (i := 1) rfl n.toNat (by omega)
                refine ⟨(fun h => nomatch (show true = false from h)), ?_⟩
                refine VA_one (i := 7) (by kernel_rfl) ?_
                refine VO_run (d := 42) rfl (run_indexAddrN (q := n.toNat) rfl Try.underlying23 ty9 rfl rfl (by omega) (by omega)) rfl rfl ((fun h => nomatch (show true = false from h))) ?_
                refine VA_one (i := 8) (by kernel_rfl) ?_
                refine VO_run (d := 43) rfl (run_load_at0 s rfl ty9 rfl (i := 0) rfl rfl) rfl rfl ((fun h => nomatch (show true = false from h))) ?_
                refine VA_one (i := 9) (by kernel_rfl) ?_
                refine VO_run (d := 7) rfl (run_assign rfl (by conv => lhs; whnf)) rfl rfl ((fun h => nomatch (show true = false from h))) ?_
                refine VA_done (by kernel_rfl) ?_
                refine VS_met (_) ?_ (by repeat (first | exact Has.nil _ | refine Has.cons rfl ?_)) (by repeat (first | exact Out.refl _ _ | refine Out.upd rfl ?_))
                first
                  | exact ⟨_, (by have := namesWt_mem (List.getElem_mem (l := x.names) (n := n.toNat) (by omega)); have := x.wt_eq; omega), by omega, by omega, s.less (by simp)⟩
                  | exact ⟨_, by omega, by omega, by omega, s⟩
              · refine VO_does (d := 41) rfl (does_call2 rfl (by kernel_rfl) rfl rfl (pick_ok _ (s.rdr (i := 3) (j := 3) rfl rfl hlen (by omega)) (by omega) (by omega)) ?_) rfl rfl
                rintro v41 w1 ⟨n, rfl, hn0, hn1, ha⟩
                obtain ⟨p5, hp9, hp10, s⟩ := s.aft (i := 3) rfl ha; simp only [List.set_cons_zero, List.set_cons_succ] at s; clear ha; obtain ⟨ad, rfl, s⟩ := s.openS (i := 1) rfl n.toNat (by omega)
                refine ⟨(fun h => nomatch (show true = false from h)), ?_⟩
                refine VA_one (i := 1) (by kernel_rfl) ?_
                refine VO_run (d := 36) rfl (run_load_own1 s rfl ty23 rfl (i := 0) rfl rfl) rfl rfl ((fun h => nomatch (show true = false from h))) ?_
                refine VA_one (i := 7) (by kernel_rfl) ?_
                refine VO_run (d := 42) rfl (run_indexAddrN (q := n.toNat) rfl Try.underlying23 ty9 rfl rfl (by omega) (by omega)) rfl rfl ((fun h => nomatch (show true = false from h))) ?_
                refine VA_one (i := 8) (by kernel_rfl) ?_
                refine VO_run (d := 43) rfl (run_load_at0 s rfl ty9 rfl (i := 0) rfl rfl) rfl rfl ((fun h => nomatch (show true = false from h))) ?_
                refine VA_one (i := 9) (by kernel_rfl) ?_
                refine VO_run (d := 7) rfl (run_assign rfl (by conv => lhs; whnf)) rfl rfl ((fun h => nomatch (show true = false from h))) ?_
                refine VA_done (by kernel_rfl) ?_
                refine VS_met (_) ?_ (by repeat (first | exact Has.nil _ | refine Has.cons rfl ?_)) (by repeat (first | exact Out.refl _ _ | refine Out.upd rfl ?_))
                first
                  | exact ⟨_, (by have := namesWt_mem (List.getElem_mem (l := x.names) (n := n.toNat) (by omega)); have := x.wt_eq; omega), by omega, by omega, s.less (by simp)⟩
                  | exact ⟨_, by omega, by omega, by omega, s⟩
            · refine VO_does (d := 41) rfl (does_call2 rfl (by kernel_rfl) rfl rfl (pick_ok _ (s.rdr (i := 3) (j := 3) rfl rfl hlen (by omega)) (by omega) (by omega)) ?_) rfl rfl
              rintro v41 w1 ⟨n, rfl, hn0, hn1, ha⟩
              obtain ⟨p5, hp9, hp10, s⟩ := s.aft (i := 3) rfl ha; simp only [List.set_cons_zero, List.set_cons_succ] at s; clear ha; obtain ⟨ad, rfl, s⟩ := s.openS (i := 1) rfl n.toNat (by omega)
              refine ⟨(fun h => nomatch (show true = false from h)), ?_⟩
              refine VA_one (i := 0) (by kernel_rfl) ?_
              refine VO_run (d := 35) rfl (run_fieldAddr rfl fo26_3 rfl) rfl rfl ((fun h => nomatch (show true = false from h))) ?_
              refine VA_one (i := 1) (by kernel_rfl) ?_
              refine VO_run (d := 36) rfl (run_load_own1 s rfl ty23 rfl (i := 0) rfl rfl) rfl rfl ((fun h => nomatch (show true = false from h))) ?_
              refine VA_one (i := 7) (by kernel_rfl) ?_
              refine VO_run (d := 42) rfl (run_indexAddrN (q := n.toNat) rfl Try.underlying23 ty9 rfl rfl (by omega) (by omega)) rfl rfl ((fun h => nomatch (show true = false from h))) ?_
              refine VA_one (i := 8) (by kernel_rfl) ?_
              refine VO_run (d := 43) rfl (run_load_at0 s rfl ty9 rfl (i := 0) rfl rfl) rfl rfl ((fun h => nomatch (show true = false from h))) ?_
              refine VA_one (i := 9) (by kernel_rfl) ?_
              refine VO_run (d := 7) rfl (run_assign rfl (by conv => lhs; whnf)) rfl rfl ((fun h => nomatch (show true = false from h))) ?_
              refine VA_done (by kernel_rfl) ?_
              refine VS_met (_) ?_ (by repeat (first | exact Has.nil _ | refine Has.cons rfl ?_)) (by repeat (first | exact Out.refl _ _ | refine Out.upd rfl ?_))
              first
                | exact ⟨_, (by have := namesWt_mem (List.getElem_mem (l := x.names) (n := n.toNat) (by omega)); have := x.wt_eq; omega), by omega, by omega, s.less (by simp)⟩
                | exact ⟨_, by omega, by omega, by omega, s⟩
      · repeat (refine VS_skip ?_)
        refine VS_met (_) ?_ (by repeat (first | exact Has.nil _ | refine Has.cons rfl ?_)) (by repeat (exact Out.refl _ _))
        first
          | exact ⟨_, (by have := namesWt_mem (List.getElem_mem (l := x.names) (n := n.toNat) (by omega)); have := x.wt_eq; omega), by omega, by omega, s.less (by simp)⟩
          | exact ⟨_, by omega, by omega, by omega, s⟩
    clear s
    rintro nm2 w j ⟨p5, hnm2, hp9, hp10, s⟩
    repeat (refine VS_seq ?_)
    refine VS_region_lit ?_
    refine VL_run (d := 44) (run_move rfl (by conv => lhs; whnf)) rfl rfl ?_
    refine VL_run (d := 45) (run_move rfl (by conv => lhs; whnf)) rfl rfl ?_
    refine VL_does (d := 46) (does_slice1 s rfl Try.underlying23 ty9 (by decide) (by decide) rfl rfl (show Rd _ _ (.str nm2) [.string nm2] from rfl) rfl ?_) rfl rfl
    clear s; intro g46 w s
    (refine VL_does (d := 47) (does_appendR s rfl Try.underlying23 ty9 (by decide) (by decide) (i := 1) rfl rfl rfl (by simp <;> omega) (show _ = strsD (q ++ [nm2]) by simp [strsD]) (show _ = q.length + 1 by simp) ?_) rfl rfl)
    clear s; intro A47 c47 w s
    try simp only [List.set_cons_zero, List.set_cons_succ, patch, List.take_succ_cons, List.take_zero, List.drop_succ_cons, List.drop_zero, List.drop_nil, List.nil_append, List.cons_append, List.append_nil, List.length_cons, List.length_nil, Nat.reduceAdd, Nat.zero_add] at s
    refine VL_run (d := 5) (run_assign rfl (by conv => lhs; whnf)) rfl rfl ?_
    refine VL_nil ?_
    repeat (refine VS_seq ?_)
    refine VS_region_lit ?_
    refine VL_run (d := 48) (run_load_ownA (cs := [_, _, _, _, _]) s rfl ty26 rfl (i := 0) rfl rfl rfl) rfl rfl ?_
    refine VL_run (d := 49) (run_move rfl (by conv => lhs; whnf)) rfl rfl ?_
    refine VL_does (d := 50) (does_call2 rfl (by kernel_rfl) rfl rfl (l1Find_ok x nm2 (s.dat (i := 0) rfl) hxn) ?_) rfl rfl
    rintro _ w ⟨rfl, hb⟩
    replace s := s.step hb
    clear hb
    refine VL_run (d := 8) (run_assign rfl (by conv => lhs; whnf)) rfl rfl ?_
    refine VL_nil ?_
    repeat (refine VS_seq ?_)
    refine VS_meetB s 59 (decide (findFrom x.names nm2 0 < 0) || decide ((x.kids.length : Int) ≤ findFrom x.names nm2 0)) [51, 52, 53, 54, 55, 56, 57, 58, 59] ?_ ?_
    · refine VS_region_lit ?_
      refine VL_run (d := 51) (run_move rfl (by conv => lhs; whnf)) rfl rfl ?_
      refine VL_run (d := 52) (run_ltI rfl rfl rfl) rfl rfl ?_
      refine VL_run (d := 53) (run_move rfl (by conv => lhs; whnf)) rfl rfl ?_
      refine VL_split 53 (by conv => lhs; whnf) (fun h53 => ?_) (fun h53 => ?_) <;> (try simp only [decide_eq_true_eq, decide_eq_false_iff_not, Bool.not_eq_true', Bool.not_eq_false', ne_eq, Decidable.not_not, cond_true, cond_false, Bool.and_eq_true, Bool.or_eq_true, Bool.and_eq_false_iff, Bool.or_eq_false_iff, Bool.not_true, Bool.not_false, reduceCtorEq] at h53)
      · refine VL_not (d := 54) rfl rfl rfl rfl ?_
        refine VL_not (d := 55) rfl rfl rfl rfl ?_
        refine VL_not (d := 56) rfl rfl rfl rfl ?_
        refine VL_not (d := 57) rfl rfl rfl rfl ?_
        refine VL_not (d := 58) rfl rfl rfl rfl ?_
        refine VL_run (d := 59) (run_pickT rfl rfl rfl) rfl rfl ?_
        refine VL_nil ?_
        exact VS_endB s (by conv => lhs; whnf) (by (simp_all; done)) (by repeat (first | exact Out.refl _ _ | refine Out.upd rfl ?_))
      · refine VL_run (d := 54) (run_move rfl (by conv => lhs; whnf)) rfl rfl ?_
        refine VL_run (d := 55) (run_fieldAddr rfl fo26_4 rfl) rfl rfl ?_
        refine VL_run (d := 56) (run_load_own1 s rfl ty24 rfl (i := 0) rfl rfl) rfl rfl ?_
        refine VL_run (d := 57) (run_lenSlice rfl ⟨_, Try.underlying24⟩ rfl) rfl rfl ?_
        refine VL_run (d := 58) (run_geI rfl rfl rfl) rfl rfl ?_
        refine VL_run (d := 59) (run_pickF rfl rfl rfl) rfl rfl ?_
        refine VL_nil ?_
        exact VS_endB s (by conv => lhs; whnf) (by (simp_all; omega)) (by repeat (first | exact Out.refl _ _ | refine Out.upd rfl ?_))
    clear s; intro w j59 s
    refine VS_cond rfl (fun c2 => ?_) (fun c2 => ?_) <;> (try simp only [decide_eq_true_eq, decide_eq_false_iff_not, Bool.not_eq_true', Bool.not_eq_false', ne_eq, Decidable.not_not, cond_true, cond_false, Bool.and_eq_true, Bool.or_eq_true, Bool.and_eq_false_iff, Bool.or_eq_false_iff, Bool.not_true, Bool.not_false, reduceCtorEq] at c2)
    · refine VS_exit ?_
      repeat (first | refine blockV_hit ?_ | refine backV_exit ?_ | refine blockV_miss rfl ?_)
      repeat (refine VS_seq ?_)
      refine VS_region_lit ?_
      refine VL_run (d := 65) (run_move rfl (by conv => lhs; whnf)) rfl rfl ?_
      refine VL_run (d := 4) (run_assign rfl (by conv => lhs; whnf)) rfl rfl ?_
      refine VL_nil ?_
      refine VS_ret ?_
      repeat (first | refine blockV_ret ?_ | refine backV_ret ?_ | refine backV2_ret ?_ | refine backV3_ret ?_ | refine thenV_ret ?_ | refine metV2_ret ?_)
      refine fin_one (fn := Try.f62) rfl (res_tmp (by conv => lhs; whnf)) ?_
      have s := s.freezeR (k := 1) (i := 2) rfl rfl
      first
        | exact ⟨q, List.length_pos_iff.1 (hb2 c0), by omega, Nat.le_trans hqw (Nat.mul_le_mul_right _ hk), s.tellR (s.dat (i := 0) rfl), s.aftOut (i := 2) rfl (by omega) (by omega)⟩
        | (have hb4 := hb1 c0
           exact ⟨q ++ [nm2], by simp, by simp; omega, Nat.le_trans (show _ ≤ (q.length + 1) * (t.wt + 3) by rw [namesWt_app, Nat.add_mul]; simp [namesWt]; omega) (Nat.mul_le_mul_right _ (by omega)), s.tellR (s.dat (i := 0) rfl), s.aftOut (i := 2) rfl (by omega) (by omega)⟩)
    · obtain ⟨k2, hk2⟩ : ∃ k2 : Nat, findFrom x.names nm2 0 = k2 := ⟨_, (Int.toNat_of_nonneg (by omega)).symm⟩
      have hk3 : k2 < x.kids.length := by omega
      have s := s.partsTr (i := 0) rfl
      obtain ⟨ad, E5, e5, E6, e6, rfl, -, -, s⟩ := s.openT (i := 0) rfl k2 hk3
      repeat (refine VS_skip ?_)
      refine VS_region_lit ?_
      refine VL_run (d := 60) (run_fieldAddr rfl fo26_4 rfl) rfl rfl ?_
      refine VL_run (d := 61) (run_load_own1 s rfl ty24 rfl (i := 0) rfl rfl) rfl rfl ?_
      refine VL_run (d := 62) (run_move rfl (by conv => lhs; whnf)) rfl rfl ?_
      refine VL_run (d := 63) (run_indexAddrN (q := k2) rfl Try.underlying24 ty26 rfl rfl (by omega) (by omega)) rfl rfl ?_
      refine VL_run (d := 64) (run_load_atA s rfl ty26 rfl (i := 0) rfl rfl) rfl rfl ?_
      (refine VL_doesU (does_store s rfl ty26 rfl rfl (i := 0) rfl rfl rfl (by (intro u hu; simp only [List.mem_cons, List.not_mem_nil, or_false] at hu; rcases hu with rfl | rfl | rfl | rfl | rfl <;> rfl)) rfl ?_) rfl rfl rfl)
      clear s; intro w s
      try simp only [List.set_cons_zero, List.set_cons_succ, patch, List.take_succ_cons, List.take_zero, List.drop_succ_cons, List.drop_zero, List.drop_nil, List.nil_append, List.cons_append, List.append_nil, List.length_cons, List.length_nil, Nat.reduceAdd, Nat.zero_add] at s
      refine VL_nil ?_
      repeat (refine VS_nil_block ?_)
      refine VS_back2 (q.length + 1) (_) ?_ (by repeat (first | exact Has.nil _ | refine Has.cons rfl ?_)) (by repeat (first | exact Out.mix _ _ _ | refine Out.upd rfl ?_ | refine Out.mix_in rfl ?_)) ?_
      · have hw2 := wts_mem (List.getElem_mem hk3)
        have hw3 := x.wt_eq
        have hb4 := hb1 c0
        exact ⟨_, _, _, q ++ [nm2], x.kids[k2], _, _, _, _, p5, rfl, s.less (by simp), by simp, by omega, by simp, by omega, by rw [namesWt_app, List.length_append, Nat.add_mul]; simp [namesWt]; omega, by omega, by omega⟩
      · have hb4 := hb1 c0
        omega
  · refine VS_exit ?_
    repeat (first | refine blockV_hit ?_ | refine backV_exit ?_)
    repeat (refine VS_seq ?_)
    refine VS_region_lit ?_
    refine VL_run (d := 65) (run_move rfl (by conv => lhs; whnf)) rfl rfl ?_
    refine VL_run (d := 4) (run_assign rfl (by conv => lhs; whnf)) rfl rfl ?_
    refine VL_nil ?_
    refine VS_ret ?_
    repeat (first | refine blockV_ret ?_ | refine backV_ret ?_ | refine backV2_ret ?_ | refine backV3_ret ?_ | refine thenV_ret ?_ | refine metV2_ret ?_)
    refine fin_one (fn := Try.f62) rfl (res_tmp (by conv => lhs; whnf)) ?_
    have s := s.freezeR (k := 1) (i := 2) rfl rfl
    first
      | exact ⟨q, List.length_pos_iff.1 (hb2 c0), by omega, Nat.le_trans hqw (Nat.mul_le_mul_right _ hk), s.tellR (s.dat (i := 0) rfl), s.aftOut (i := 2) rfl (by omega) (by omega)⟩
      | (have hb4 := hb1 c0
         exact ⟨q ++ [nm2], by simp, by simp; omega, Nat.le_trans (show _ ≤ (q.length + 1) * (t.wt + 3) by rw [namesWt_app, Nat.add_mul]; simp [namesWt]; omega) (Nat.mul_le_mul_right _ (by omega)), s.tellR (s.dat (i := 0) rfl), s.aftOut (i := 2) rfl (by omega) (by omega)⟩)
end Go.Proofs.Ytkefaelmamgjiaa
