/- draws: l61SpoilNodes. -/
import Derived.Test.YtkefaelmamgjiaaN8
import Derived.Test.YtkefaelmamgjiaaEng9
set_option linter.unusedVariables false
set_option linter.unusedSimpArgs false
set_option maxHeartbeats 4000000
namespace Go.Proofs.Ytkefaelmamgjiaa
open Go.RowKit

theorem cut_form (g k c : Nat) : Value.slice (if c = 0 then some (⟨g, 0, none⟩ : Addr) else (some (⟨g, 0, none⟩ : Addr)).map (·.add (0 * 2))) (k - 0) (c - 0) = .slice (some ⟨g, 0, none⟩) k c := by split <;> rfl
theorem nodes_set (xs : List (Int × List ByteArray)) (k : Nat) (y : Int × List ByteArray) : (nodeDs xs).set k (nodeD y) = nodeDs (xs.set k y) := by simp [nodeDs, List.map_set]
theorem set_bnd {xs : List (Int × List ByteArray)} {B k : Nat} {z : Int × List ByteArray} (h : ∀ y ∈ xs, namesWt y.2 ≤ B) (hz : namesWt z.2 ≤ B) : ∀ y ∈ xs.set k z, namesWt y.2 ≤ B := fun y hy => by
  rcases List.mem_or_eq_of_mem_set hy with hy | rfl
  · exact h y hy
  · exact hz
theorem cut_bnd {xs : List (Int × List ByteArray)} {B k l : Nat} (h : ∀ y ∈ xs, namesWt y.2 ≤ B) : ∀ y ∈ xs.take k ++ xs.drop l, namesWt y.2 ≤ B := fun y hy => by
  rcases List.mem_append.1 hy with hy | hy
  · exact h y (List.mem_of_mem_take hy)
  · exact h y (List.mem_of_mem_drop hy)
theorem app_bnd {xs : List (Int × List ByteArray)} {B : Nat} {z : Int × List ByteArray} (h : ∀ y ∈ xs, namesWt y.2 ≤ B) (hz : namesWt z.2 ≤ B) : ∀ y ∈ xs ++ [z], namesWt y.2 ≤ B := fun y hy => by
  rcases List.mem_append.1 hy with hy | hy
  · exact h y hy
  · obtain rfl := List.mem_singleton.1 hy
    exact hz
theorem two_mem {y : ByteArray} (h : y ∈ [⟨#[122, 122]⟩, ⟨#[]⟩, (⟨#[97]⟩ : ByteArray)]) : namesWt [y] ≤ 3 := by
  simp only [List.mem_cons, List.not_mem_nil, or_false] at h
  rcases h with rfl | rfl | rfl <;> decide
theorem l61SpoilNodes_ok {ok : Nat → Prop} {w0 : World} {b : Nat} {v : Value} {p : Int} {l : List UInt8} (n : Nd) (B : Nat) {cs : List Value} (h : Rdr ok w0 b v p l) (h2 : Rd ok w0 n.toD cs) (hp : p ≤ 10000000) (hn : NdB n B) (hB : B ≤ 900000000) (hB2 : 20000 ≤ B) :
    Calls Try.prog 100 #[.pointer (some ⟨b, 0, none⟩), .agg cs.toArray] w0 (Ret fun r w' => ∃ A c n', r = .agg #[.int .i64 (Nd.next n'), .slice A (Nd.list n').length c] ∧ NdB n' (B + 1) ∧ Rd (okR ok w0) w' n'.toD [.int .i64 (Nd.next n'), .slice A (Nd.list n').length c] ∧ Aft w0 w' b v p 5) := by
  obtain ⟨A, c, rfl, hl, h3⟩ := Nd.opn h2
  have hlen := h.len
  have hlow := h.low
  have hnl := hn.2.2.1
  have hn1 := hn.1
  have hn2 := hn.2.1
  have s := h.start.know (f := .dat [.int .i64 n.next, .slice A n.list.length c] n.toD) (h.rd h2)
  clear h h2 h3
  refine calls_enter (n := 76) Try.func100 rfl rfl rfl ?_
  repeat (refine VS_seq ?_)
  refine VS_region_lit ?_
  refine VL_does (d := 3) (does_box s rfl rfl rfl ?_) rfl rfl
  clear s; intro b3 w s
  refine VL_does (d := 4) (does_alloc s rfl ty30 rfl ?_) rfl rfl
  clear s; intro b4 w s
  refine VL_nil ?_
  repeat (refine VS_seq ?_)
  refine VS_region_lit ?_
  refine VL_run (d := 7) (run_load_ownA (cs := [_, _]) s rfl ty30 rfl (i := 1) rfl rfl rfl) rfl rfl ?_
  refine VL_does (d := 8) (does_call1 rfl (by kernel_rfl) rfl (l33Copy_ok n (s.dat (i := 0) rfl) (hn.mono (by omega))) ?_) rfl rfl
  rintro v8 w8 ⟨u, rfl, hr, hb⟩
  (obtain ⟨A7, z7, e7⟩ := hr.form); rw [nodeDs_length] at e7; subst e7; replace s := s.retRow hb hr; clear hb hr
  refine VL_does (d := 5) (does_alloc s rfl ty30 rfl ?_) rfl rfl
  clear s; intro b5 w s
  (refine VL_doesU (does_store s rfl ty30 rfl rfl (i := 0) rfl rfl rfl (by (intro u hu; simp only [List.mem_cons, List.not_mem_nil, or_false] at hu; rcases hu with rfl | rfl | rfl | rfl | rfl <;> rfl)) rfl ?_) rfl rfl rfl)
  clear s; intro w s
  try simp only [List.set_cons_zero, List.set_cons_succ, patch, List.take_succ_cons, List.take_zero, List.drop_succ_cons, List.drop_zero, List.drop_nil, List.nil_append, List.cons_append, List.append_nil, List.length_cons, List.length_nil, Nat.reduceAdd, Nat.zero_add] at s
  refine VL_nil ?_
  repeat (refine VS_seq ?_)
  refine VS_join1 [9, 10, 11, 12, 13, 14, 15, 16, 17] (fun bb : Bool => [(17, .bool bb)]) (fun bb w => ∃ p1, (bb = false → 0 < n.list.length) ∧ p ≤ p1 ∧ p1 ≤ p + 1 ∧ St ok ⟨w0, [b]⟩ [.blk b5 [.int .i64 n.next, .slice A7 n.list.length z7] 30, .row (.slice A7 n.list.length z7) 37 2 (nodeDs n.list), .blk b4 nd0 30, .blk b3 [.int .i64 n.next, .slice A n.list.length c] 30, .blk b (rdC v p1) 121] [.dat [v] (.sl (bytesL l))] w) ?_ ?_
  · refine VS_region_lit ?_
    refine VL_run (d := 9) (run_fieldAddr rfl fo30_1 rfl) rfl rfl ?_
    refine VL_run (d := 10) (run_load_own1 s rfl ty28 rfl (i := 0) rfl rfl) rfl rfl ?_
    refine VL_run (d := 11) (run_lenSlice rfl ⟨_, Try.underlying28⟩ rfl) rfl rfl ?_
    refine VL_run (d := 12) (run_eqI rfl rfl rfl) rfl rfl ?_
    refine VL_run (d := 13) (run_move rfl (by conv => lhs; whnf)) rfl rfl ?_
    refine VL_split 13 (by conv => lhs; whnf) (fun h13 => ?_) (fun h13 => ?_) <;> (try simp only [decide_eq_true_eq, decide_eq_false_iff_not, Bool.not_eq_true', Bool.not_eq_false', ne_eq, Decidable.not_not, cond_true, cond_false, Bool.and_eq_true, Bool.or_eq_true, Bool.and_eq_false_iff, Bool.or_eq_false_iff, Bool.not_true, Bool.not_false, reduceCtorEq] at h13)
    · refine VL_not (d := 14) rfl rfl rfl rfl ?_
      refine VL_not (d := 15) rfl rfl rfl rfl ?_
      refine VL_not (d := 16) rfl rfl rfl rfl ?_
      refine VL_run (d := 17) (run_pickT rfl rfl rfl) rfl rfl ?_
      refine VL_nil ?_
      refine VS_met (_) ?_ (by repeat (first | exact Has.nil _ | refine Has.cons rfl ?_)) (by repeat (first | exact Out.refl _ _ | refine Out.upd rfl ?_))
      exact ⟨_, (fun h => by cases h), by omega, by omega, s.less (by (repeat (first | exact sub_nil | refine sub_cons (by (repeat (first | exact .head _ | refine .tail _ ?_))) ?_)))⟩
    · refine VL_run (d := 14) (run_move rfl (by conv => lhs; whnf)) rfl rfl ?_
      refine VL_does (d := 15) (does_call2 rfl (by kernel_rfl) rfl rfl (by exact pick_ok _ (s.rdrM (i := 4) rfl (by (repeat (first | exact .head _ | refine .tail _ ?_))) hlen (by omega)) (by omega) (by omega)) ?_) rfl rfl
      rintro v15 w15 ⟨m, rfl, hm0, hm1, ha⟩
      (obtain ⟨p1, hp1a, hp1b, s⟩ := s.aft (i := 4) rfl ha); simp only [List.set_cons_zero, List.set_cons_succ] at s; clear ha
      refine VL_run (d := 16) (run_eqI rfl rfl rfl) rfl rfl ?_
      refine VL_run (d := 17) (run_pickF rfl rfl rfl) rfl rfl ?_
      refine VL_nil ?_
      refine VS_met (_) ?_ (by repeat (first | exact Has.nil _ | refine Has.cons rfl ?_)) (by repeat (first | exact Out.refl _ _ | refine Out.upd rfl ?_))
      exact ⟨_, (fun h => by omega), by omega, by omega, s.less (by (repeat (first | exact sub_nil | refine sub_cons (by (repeat (first | exact .head _ | refine .tail _ ?_))) ?_)))⟩
  clear s
  rintro bb w j ⟨p1, hbb, hp1a, hp1b, s⟩
  refine VS_cond rfl (fun c0 => ?_) (fun c0 => ?_) <;> (try simp only [decide_eq_true_eq, decide_eq_false_iff_not, Bool.not_eq_true', Bool.not_eq_false', ne_eq, Decidable.not_not, cond_true, cond_false, Bool.and_eq_true, Bool.or_eq_true, Bool.and_eq_false_iff, Bool.or_eq_false_iff, Bool.not_true, Bool.not_false, reduceCtorEq] at c0)
  · repeat (refine VS_seq ?_)
    refine VS_region_lit ?_
    refine VL_does (d := 18) (does_sliceN (cs := [.int .i64 0, .int .i64 1, .int .i64 10000, .int .i64 10001]) (ds := intsD [0, 1, 10000, 10001])  s rfl Try.underlying140 ty3 (by decide) (by decide)  (fun A hA => fill_1x4 _ _ _ _ rfl rfl rfl rfl A hA) (intsL_rd _) (intsD_wd _) rfl ?_) rfl rfl
    clear s; intro g18 w s
    replace s := s.freezeR (k := 0) (i := 4) rfl rfl; simp only [List.eraseIdx_cons_zero] at s
    refine VL_run (d := 19) (run_move rfl (by conv => lhs; whnf)) rfl rfl ?_
    refine VL_does (d := 20) (does_call2 rfl (by kernel_rfl) rfl rfl (by exact pick_ok _ (s.rdrM (i := 4) rfl (by (repeat (first | exact .head _ | refine .tail _ ?_))) hlen (by omega)) (by omega) (by omega)) ?_) rfl rfl
    rintro v20 w20 ⟨m, rfl, hm0, hm1, ha⟩
    (obtain ⟨p2, hp2a, hp2b, s⟩ := s.aft (i := 4) rfl ha); simp only [List.set_cons_zero, List.set_cons_succ] at s; clear ha; (obtain ⟨ad, e1, s⟩ := s.openI (i := 0) rfl m.toNat (by simp only [List.length_cons, List.length_nil]; omega)); obtain rfl := Option.some.inj e1
    refine VL_run (d := 21) (run_indexAddrN (q := m.toNat) rfl Try.underlying140 ty3 rfl rfl (by omega) (by omega)) rfl rfl ?_
    refine VL_run (d := 22) (run_load_at0 s rfl ty3 rfl (i := 0) rfl rfl) rfl rfl ?_
    refine VL_run (d := 23) (run_fieldAddr rfl fo30_0 rfl) rfl rfl ?_
    (refine VL_doesU (does_store s rfl ty3 rfl rfl (i := 0) rfl rfl rfl (by (intro u hu; simp only [List.mem_cons, List.not_mem_nil, or_false] at hu; subst hu; rfl)) rfl ?_) rfl rfl rfl)
    clear s; intro w s
    try simp only [List.set_cons_zero, List.set_cons_succ, patch, List.take_succ_cons, List.take_zero, List.drop_succ_cons, List.drop_zero, List.drop_nil, List.nil_append, List.cons_append, List.append_nil, List.length_cons, List.length_nil, Nat.reduceAdd, Nat.zero_add] at s
    refine VL_nil ?_
    repeat (refine VS_seq ?_)
    refine VS_region_lit ?_
    refine VL_run (d := 24) (run_load_ownA (cs := [_, _]) s rfl ty30 rfl (i := 0) rfl rfl rfl) rfl rfl ?_
    (refine VL_doesU (does_store s rfl ty30 rfl rfl (i := 2) rfl rfl rfl (by (intro u hu; simp only [List.mem_cons, List.not_mem_nil, or_false] at hu; rcases hu with rfl | rfl | rfl | rfl | rfl <;> rfl)) rfl ?_) rfl rfl rfl)
    clear s; intro w s
    try simp only [List.set_cons_zero, List.set_cons_succ, patch, List.take_succ_cons, List.take_zero, List.drop_succ_cons, List.drop_zero, List.drop_nil, List.nil_append, List.cons_append, List.append_nil, List.length_cons, List.length_nil, Nat.reduceAdd, Nat.zero_add] at s
    refine VL_nil ?_
    refine VS_ret ?_
    repeat (first | refine blockV_ret ?_ | refine backV_ret ?_ | refine backV2_ret ?_ | refine backV3_ret ?_ | refine thenV_ret ?_ | refine metV2_ret ?_)
    refine fin_one (fn := Try.f100) rfl (res_ownA (cs := [_, _]) s ty30 rfl (i := 2) rfl rfl rfl) ?_
    have s := s.freezeR (k := 1) (i := 3) rfl rfl
    have hx : ∀ y ∈ ([0, 1, 10000, 10001] : List Int), 0 ≤ y ∧ y ≤ 10001 := by decide
    have hx2 := hx _ (List.getElem_mem (l := [0, 1, 10000, 10001]) (n := m.toNat) (by simp only [List.length_cons, List.length_nil]; omega))
    exact ⟨A7, z7, ⟨[0, 1, 10000, 10001][m.toNat]'(by simp only [List.length_cons, List.length_nil]; omega), n.list⟩, rfl, ⟨hx2.1, Int.le_trans hx2.2 (by omega), Nat.le_trans hnl (by omega), fun y hy => Nat.le_trans (hn.2.2.2 y hy) (by omega)⟩, s.tellR (Rd_mk2 rfl (s.dat (i := 0) rfl)), s.aftOut (i := 3) rfl (by omega) (by omega)⟩
  · repeat (first | refine VS_seq ?_ | refine VS_skip ?_)
    have hpos := hbb c0
    obtain ⟨A8, z8, e8, hz8, hA8⟩ := s.rowForm (i := 1) rfl
    rw [nodeDs_length] at e8 hA8 hz8
    obtain ⟨g, rfl⟩ := hA8 hpos
    obtain ⟨rfl, -, rfl⟩ : A7 = some ⟨g, 0, none⟩ ∧ n.list.length = n.list.length ∧ z7 = z8 := by simpa using e8
    refine VS_region_lit ?_
    refine VL_run (d := 25) (run_move rfl (by conv => lhs; whnf)) rfl rfl ?_
    refine VL_run (d := 26) (run_fieldAddr rfl fo30_1 rfl) rfl rfl ?_
    refine VL_run (d := 27) (run_load_own1 s rfl ty28 rfl (i := 0) rfl rfl) rfl rfl ?_
    refine VL_run (d := 28) (run_lenSlice rfl ⟨_, Try.underlying28⟩ rfl) rfl rfl ?_
    refine VL_does (d := 29) (does_call2 rfl (by kernel_rfl) rfl rfl (by exact pick_ok _ (s.rdrM (i := 4) rfl (by (repeat (exact .head _))) hlen (by omega)) (by omega) (by omega)) ?_) rfl rfl
    rintro v29 w29 ⟨k, rfl, hk0, hk1, ha⟩
    (obtain ⟨p2, hp2a, hp2b, s⟩ := s.aft (i := 4) rfl ha); simp only [List.set_cons_zero, List.set_cons_succ] at s; clear ha; obtain ⟨kk, rfl⟩ := Int.eq_ofNat_of_zero_le hk0
    refine VL_run (d := 6) (run_assign rfl (by conv => lhs; whnf)) rfl rfl ?_
    refine VL_nil ?_
    have hkk : kk < n.list.length := by omega
    repeat (refine VS_seq ?_)
    refine VS_region_lit ?_
    refine VL_run (d := 30) (run_move rfl (by conv => lhs; whnf)) rfl rfl ?_
    refine VL_does (d := 31) (does_call2 rfl (by kernel_rfl) rfl rfl (by exact pick_ok _ (s.rdrM (i := 4) rfl (by (repeat (exact .head _))) hlen (by omega)) (by omega) (by omega)) ?_) rfl rfl
    rintro v31 w31 ⟨m, rfl, hm0, hm1, ha⟩
    (obtain ⟨p3, hp3a, hp3b, s⟩ := s.aft (i := 4) rfl ha); simp only [List.set_cons_zero, List.set_cons_succ] at s; clear ha
    refine VL_nil ?_
    repeat (first | refine VS_seq ?_ | refine VS_block ?_)
    refine VS_region_lit ?_
    refine VL_run (d := 43) (run_eqI rfl rfl rfl) rfl rfl ?_
    refine VL_run (d := 42) (run_assign rfl (by conv => lhs; whnf)) rfl rfl ?_
    refine VL_nil ?_
    refine VS_join1 [32, 33, 34, 35, 36, 37, 38, 39, 40, 41, 44, 45, 46, 47, 48, 49, 50, 51, 52, 53, 54, 55, 56, 57, 58, 59, 60, 61, 62, 63, 64, 65, 66, 67, 68, 69, 70, 71, 72, 73, 74] (fun _ : Unit => []) (fun _ w => ∃ (ys : List (Int × List ByteArray)), ∃ A9 z9 p4, ys.length ≤ B + 1 ∧ (∀ y ∈ ys, namesWt y.2 ≤ B + 1) ∧ p3 ≤ p4 ∧ p4 ≤ p3 + 1 ∧ St ok ⟨w0, [b]⟩ [.blk b5 [.int .i64 n.next, .slice A9 ys.length z9] 30, .row (.slice A9 ys.length z9) 37 2 (nodeDs ys), .blk b4 nd0 30, .blk b3 [.int .i64 n.next, .slice A n.list.length c] 30, .blk b (rdC v p4) 121] [.dat [v] (.sl (bytesL l))] w) ?_ ?_
    · refine VS_cond rfl (fun c1 => ?_) (fun c1 => ?_) <;> (try simp only [decide_eq_true_eq, decide_eq_false_iff_not, Bool.not_eq_true', Bool.not_eq_false', ne_eq, Decidable.not_not, cond_true, cond_false, Bool.and_eq_true, Bool.or_eq_true, Bool.and_eq_false_iff, Bool.or_eq_false_iff, Bool.not_true, Bool.not_false, reduceCtorEq] at c1)
      · refine VS_drawSub (C' := [.blk b5 [.int .i64 n.next, .slice (some ⟨g, 0, none⟩) n.list.length z7] 30] ) (F' :=  []) 7 s mixed ?_
        clear s; intro s
        refine VA_take 0 (d := 44) rfl (by kernel_rfl) rfl (fun w g => run_fieldAddr rfl fo30_1 rfl) (s.sees (fun b_ c_ t_ h_ => (show ∀ x_ ∈ ([.blk b5 [.int .i64 n.next, .slice (some ⟨g, 0, none⟩) n.list.length z7] 30] : List It), x_ ∈ _ from by (repeat (first | exact sub_nil | refine sub_cons (by (repeat (exact .head _))) ?_))) _ h_) (by (repeat (exact sub_nil)))) ?_
        refine VA_take 1 (d := 45) rfl (by kernel_rfl) rfl (fun w g => see_own1 g rfl ty28 rfl (i := 0) rfl rfl) (s.sees (fun b_ c_ t_ h_ => (show ∀ x_ ∈ ([.blk b5 [.int .i64 n.next, .slice (some ⟨g, 0, none⟩) n.list.length z7] 30] : List It), x_ ∈ _ from by (repeat (first | exact sub_nil | refine sub_cons (by (repeat (exact .head _))) ?_))) _ h_) (by (repeat (exact sub_nil)))) ?_
        refine VA_take 2 (d := 46) rfl (by kernel_rfl) rfl (fun w g => run_move rfl (by conv => lhs; whnf)) (s.sees (fun b_ c_ t_ h_ => (show ∀ x_ ∈ ([.blk b5 [.int .i64 n.next, .slice (some ⟨g, 0, none⟩) n.list.length z7] 30] : List It), x_ ∈ _ from by (repeat (first | exact sub_nil | refine sub_cons (by (repeat (exact .head _))) ?_))) _ h_) (by (repeat (exact sub_nil)))) ?_
        refine VA_take 3 (d := 47) rfl (by kernel_rfl) rfl (fun w g => run_move rfl (by conv => lhs; whnf)) (s.sees (fun b_ c_ t_ h_ => (show ∀ x_ ∈ ([.blk b5 [.int .i64 n.next, .slice (some ⟨g, 0, none⟩) n.list.length z7] 30] : List It), x_ ∈ _ from by (repeat (first | exact sub_nil | refine sub_cons (by (repeat (exact .head _))) ?_))) _ h_) (by (repeat (exact sub_nil)))) ?_
        refine VA_one (i := 4) (by kernel_rfl) ?_
        refine VO_does (d := 48) rfl (does_call2 rfl (by kernel_rfl) rfl rfl (by exact pick_ok _ (s.rdrM (i := 4) rfl (by (repeat (exact .head _))) hlen (by omega)) (by omega) (by omega)) ?_) rfl rfl
        rintro v48 w48 ⟨m5, rfl, hq0, hq1, ha⟩
        (obtain ⟨p4, hp4a, hp4b, s⟩ := s.aft (i := 4) rfl ha); simp only [List.set_cons_zero, List.set_cons_succ] at s; clear ha
        refine ⟨fun _ => s.sees (fun b_ c_ t_ h_ => (show ∀ x_ ∈ ([.blk b5 [.int .i64 n.next, .slice (some ⟨g, 0, none⟩) n.list.length z7] 30] : List It), x_ ∈ _ from by (repeat (first | exact sub_nil | refine sub_cons (by (repeat (exact .head _))) ?_))) _ h_) (by (repeat (exact sub_nil))), ?_⟩
        refine VA_one (i := 5) (by kernel_rfl) ?_
        refine VO_run (d := 49) rfl (run_indexAddrN (q := kk) rfl Try.underlying28 ty37 rfl rfl (by omega) (by omega)) rfl rfl (fun _ => s.sees (fun b_ c_ t_ h_ => (show ∀ x_ ∈ ([.blk b5 [.int .i64 n.next, .slice (some ⟨g, 0, none⟩) n.list.length z7] 30] : List It), x_ ∈ _ from by (repeat (first | exact sub_nil | refine sub_cons (by (repeat (exact .head _))) ?_))) _ h_) (by (repeat (exact sub_nil)))) ?_
        refine VA_take 6 (d := 50) rfl (by kernel_rfl) rfl (fun w g => run_fieldAddr rfl fo37_0 rfl) (s.sees (fun b_ c_ t_ h_ => (show ∀ x_ ∈ ([.blk b5 [.int .i64 n.next, .slice (some ⟨g, 0, none⟩) n.list.length z7] 30] : List It), x_ ∈ _ from by (repeat (first | exact sub_nil | refine sub_cons (by (repeat (exact .head _))) ?_))) _ h_) (by (repeat (exact sub_nil)))) ?_
        refine VA_one (i := 7) (by kernel_rfl) ?_
        refine VO_doesU rfl (does_storeQ (j := kk) (q := 0) (d' := nodeD (m5, n.list[kk].2)) (cs := [.int .i64 m5]) (ds2 := nodeDs (n.list.set kk (m5, n.list[kk].2))) s rfl ty3 rfl rfl (i := 1) rfl (by simpa using hkk) rfl rfl (fun u hu => by simp only [List.mem_cons, List.not_mem_nil, or_false] at hu; subst hu; rfl) (by simp) (fun c hc hr => by rw [nodeDs_get] at hr; obtain ⟨A5, c5, rfl, -, h6⟩ := node_opn hr; exact Rd_mk2 rfl h6) rfl (nodes_set _ _ _) ?_) rfl rfl rfl; clear s; intro w s; simp only [List.set_cons_zero, List.set_cons_succ] at s; refine ⟨(fun h => nomatch (show true = false from h)), ?_⟩
        refine VA_done (by kernel_rfl) ?_
        refine VS_met (()) ?_ (by repeat (exact Has.nil _)) (by repeat (first | exact Out.refl _ _ | refine Out.upd rfl ?_))
        have hall : ∀ y ∈ n.list, namesWt y.2 ≤ B + 1 := fun y hy => Nat.le_trans (hn.2.2.2 y hy) (by omega)
        first
          | exact ⟨n.list.set kk (m5, n.list[kk].2), some ⟨g, 0, none⟩, z7, p4, (by simp; omega), set_bnd hall (show namesWt n.list[kk].2 ≤ B + 1 from hall _ (List.getElem_mem hkk)), (by omega), (by omega), (by simp only [List.length_set]; exact s.less (by (repeat (first | exact sub_nil | refine sub_cons (by (repeat (exact .head _))) ?_))))⟩
          | exact ⟨n.list.set kk (n.list[kk].1, [y5]), some ⟨g, 0, none⟩, z7, p4, (by simp; omega), set_bnd hall (Nat.le_trans (two_mem hy5) (by omega)), (by omega), (by omega), (by simp only [List.length_set]; exact s.less (by (repeat (first | exact sub_nil | refine sub_cons (by (repeat (first | exact .head _ | refine .tail _ ?_))) ?_))))⟩
          | exact ⟨n.list.take kk ++ n.list.drop (kk + 1), _, _, p3, (by simp; omega), cut_bnd hall, (by omega), (by omega), s.less (by (repeat (first | exact sub_nil | refine sub_cons (by (repeat (first | exact .head _ | refine .tail _ ?_))) ?_)))⟩
          | exact ⟨n.list ++ [n.list[kk]], A40, c40, p3, (by simp; omega), app_bnd hall (hall _ (List.getElem_mem hkk)), (by omega), (by omega), (by simp only [List.length_append, List.length_singleton]; exact s.less (by (repeat (first | exact sub_nil | refine sub_cons (by (repeat (first | exact .head _ | refine .tail _ ?_))) ?_))))⟩
      · repeat (refine VS_seq ?_)
        refine VS_region_lit ?_
        refine VL_run (d := 52) (run_eqI rfl rfl rfl) rfl rfl ?_
        refine VL_run (d := 51) (run_assign rfl (by conv => lhs; whnf)) rfl rfl ?_
        refine VL_nil ?_
        refine VS_cond rfl (fun c2 => ?_) (fun c2 => ?_) <;> (try simp only [decide_eq_true_eq, decide_eq_false_iff_not, Bool.not_eq_true', Bool.not_eq_false', ne_eq, Decidable.not_not, cond_true, cond_false, Bool.and_eq_true, Bool.or_eq_true, Bool.and_eq_false_iff, Bool.or_eq_false_iff, Bool.not_true, Bool.not_false, reduceCtorEq] at c2)
        · refine VS_drawSub (C' := [.blk b5 [.int .i64 n.next, .slice (some ⟨g, 0, none⟩) n.list.length z7] 30] ) (F' :=  []) 9 s mixed ?_
          clear s; intro s
          refine VA_take 0 (d := 53) rfl (by kernel_rfl) rfl (fun w g => run_fieldAddr rfl fo30_1 rfl) (s.sees (fun b_ c_ t_ h_ => (show ∀ x_ ∈ ([.blk b5 [.int .i64 n.next, .slice (some ⟨g, 0, none⟩) n.list.length z7] 30] : List It), x_ ∈ _ from by (repeat (first | exact sub_nil | refine sub_cons (by (repeat (exact .head _))) ?_))) _ h_) (by (repeat (exact sub_nil)))) ?_
          refine VA_take 1 (d := 54) rfl (by kernel_rfl) rfl (fun w g => see_own1 g rfl ty28 rfl (i := 0) rfl rfl) (s.sees (fun b_ c_ t_ h_ => (show ∀ x_ ∈ ([.blk b5 [.int .i64 n.next, .slice (some ⟨g, 0, none⟩) n.list.length z7] 30] : List It), x_ ∈ _ from by (repeat (first | exact sub_nil | refine sub_cons (by (repeat (exact .head _))) ?_))) _ h_) (by (repeat (exact sub_nil)))) ?_
          refine VA_take 2 (d := 55) rfl (by kernel_rfl) rfl (fun w g => run_move rfl (by conv => lhs; whnf)) (s.sees (fun b_ c_ t_ h_ => (show ∀ x_ ∈ ([.blk b5 [.int .i64 n.next, .slice (some ⟨g, 0, none⟩) n.list.length z7] 30] : List It), x_ ∈ _ from by (repeat (first | exact sub_nil | refine sub_cons (by (repeat (exact .head _))) ?_))) _ h_) (by (repeat (exact sub_nil)))) ?_
          refine VA_take 3 (d := 56) rfl (by kernel_rfl) rfl (fun w g => run_move rfl (by conv => lhs; whnf)) (s.sees (fun b_ c_ t_ h_ => (show ∀ x_ ∈ ([.blk b5 [.int .i64 n.next, .slice (some ⟨g, 0, none⟩) n.list.length z7] 30] : List It), x_ ∈ _ from by (repeat (first | exact sub_nil | refine sub_cons (by (repeat (exact .head _))) ?_))) _ h_) (by (repeat (exact sub_nil)))) ?_
          refine VA_one (i := 4) (by kernel_rfl) ?_
          refine VO_does (d := 57) rfl (does_sliceN (cs := [.string ⟨#[122, 122]⟩, .string ⟨#[]⟩, .string ⟨#[97]⟩]) (ds := strsD [⟨#[122, 122]⟩, ⟨#[]⟩, ⟨#[97]⟩])  s rfl Try.underlying23 ty9 (by decide) (by decide)  (fun A hA => fill_1x3 _ _ _ rfl rfl rfl A hA) (strsL_rd _) (strsD_wd _) rfl ?_) rfl rfl
          clear s; intro g57 w s
          replace s := s.freezeR (k := 0) (i := 4) rfl rfl; simp only [List.eraseIdx_cons_zero] at s
          refine ⟨fun _ => s.sees (fun b_ c_ t_ h_ => (show ∀ x_ ∈ ([.blk b5 [.int .i64 n.next, .slice (some ⟨g, 0, none⟩) n.list.length z7] 30] : List It), x_ ∈ _ from by (repeat (first | exact sub_nil | refine sub_cons (by (repeat (exact .head _))) ?_))) _ h_) (by (repeat (exact sub_nil))), ?_⟩
          refine VA_one (i := 5) (by kernel_rfl) ?_
          refine VO_does (d := 58) rfl (does_call2 rfl (by kernel_rfl) rfl rfl (by exact of_ok _ (s.rdrM (i := 4) rfl (by (repeat (first | exact .head _ | refine .tail _ ?_))) hlen (by omega)) (s.dat (i := 0) rfl) (by omega) (by simp) (by simp)) ?_) rfl rfl
          rintro v58 w58 ⟨y5, rfl, hy5, ha⟩
          (obtain ⟨p4, hp4a, hp4b, s⟩ := s.aft (i := 4) rfl ha); simp only [List.set_cons_zero, List.set_cons_succ] at s; clear ha
          refine ⟨fun _ => s.sees (fun b_ c_ t_ h_ => (show ∀ x_ ∈ ([.blk b5 [.int .i64 n.next, .slice (some ⟨g, 0, none⟩) n.list.length z7] 30] : List It), x_ ∈ _ from by (repeat (first | exact sub_nil | refine sub_cons (by (repeat (exact .head _))) ?_))) _ h_) (by (repeat (exact sub_nil))), ?_⟩
          refine VA_one (i := 6) (by kernel_rfl) ?_
          refine VO_does (d := 59) rfl (does_slice1 s rfl Try.underlying23 ty9 (by decide) (by decide) rfl rfl (show Rd _ _ (.str y5) [.string y5] from rfl) rfl ?_) rfl rfl
          clear s; intro g59 w s
          replace s := s.freezeR (k := 0) (i := 4) rfl rfl; simp only [List.eraseIdx_cons_zero] at s
          refine ⟨fun _ => s.sees (fun b_ c_ t_ h_ => (show ∀ x_ ∈ ([.blk b5 [.int .i64 n.next, .slice (some ⟨g, 0, none⟩) n.list.length z7] 30] : List It), x_ ∈ _ from by (repeat (first | exact sub_nil | refine sub_cons (by (repeat (exact .head _))) ?_))) _ h_) (by (repeat (exact sub_nil))), ?_⟩
          refine VA_one (i := 7) (by kernel_rfl) ?_
          refine VO_run (d := 60) rfl (run_indexAddrN (q := kk) rfl Try.underlying28 ty37 rfl rfl (by omega) (by omega)) rfl rfl (fun _ => s.sees (fun b_ c_ t_ h_ => (show ∀ x_ ∈ ([.blk b5 [.int .i64 n.next, .slice (some ⟨g, 0, none⟩) n.list.length z7] 30] : List It), x_ ∈ _ from by (repeat (first | exact sub_nil | refine sub_cons (by (repeat (exact .head _))) ?_))) _ h_) (by (repeat (exact sub_nil)))) ?_
          refine VA_take 8 (d := 61) rfl (by kernel_rfl) rfl (fun w g => run_fieldAddr rfl fo37_1 rfl) (s.sees (fun b_ c_ t_ h_ => (show ∀ x_ ∈ ([.blk b5 [.int .i64 n.next, .slice (some ⟨g, 0, none⟩) n.list.length z7] 30] : List It), x_ ∈ _ from by (repeat (first | exact sub_nil | refine sub_cons (by (repeat (exact .head _))) ?_))) _ h_) (by (repeat (exact sub_nil)))) ?_
          refine VA_one (i := 9) (by kernel_rfl) ?_
          refine VO_doesU rfl (does_storeQ (j := kk) (q := 1) (d' := nodeD (n.list[kk].1, [y5])) (cs := [.slice (some ⟨g59, 0, none⟩) 1 1]) (ds2 := nodeDs (n.list.set kk (n.list[kk].1, [y5]))) s rfl ty23 rfl rfl (i := 1) rfl (by simpa using hkk) rfl rfl (fun u hu => by simp only [List.mem_cons, List.not_mem_nil, or_false] at hu; subst hu; rfl) (by simp) (fun c hc hr => by rw [nodeDs_get] at hr; obtain ⟨A5, c5, rfl, -, h6⟩ := node_opn hr; exact Rd_mk2 rfl (s.dat (i := 0) rfl)) rfl (nodes_set _ _ _) ?_) rfl rfl rfl; clear s; intro w s; simp only [List.set_cons_zero, List.set_cons_succ] at s; refine ⟨(fun h => nomatch (show true = false from h)), ?_⟩
          refine VA_done (by kernel_rfl) ?_
          refine VS_met (()) ?_ (by repeat (exact Has.nil _)) (by repeat (first | exact Out.refl _ _ | refine Out.upd rfl ?_))
          have hall : ∀ y ∈ n.list, namesWt y.2 ≤ B + 1 := fun y hy => Nat.le_trans (hn.2.2.2 y hy) (by omega)
          first
            | exact ⟨n.list.set kk (m5, n.list[kk].2), some ⟨g, 0, none⟩, z7, p4, (by simp; omega), set_bnd hall (show namesWt n.list[kk].2 ≤ B + 1 from hall _ (List.getElem_mem hkk)), (by omega), (by omega), (by simp only [List.length_set]; exact s.less (by (repeat (first | exact sub_nil | refine sub_cons (by (repeat (first | exact .head _ | refine .tail _ ?_))) ?_))))⟩
            | exact ⟨n.list.set kk (n.list[kk].1, [y5]), some ⟨g, 0, none⟩, z7, p4, (by simp; omega), set_bnd hall (Nat.le_trans (two_mem hy5) (by omega)), (by omega), (by omega), (by simp only [List.length_set]; exact s.less (by (repeat (first | exact sub_nil | refine sub_cons (by (repeat (first | exact .head _ | refine .tail _ ?_))) ?_))))⟩
            | exact ⟨n.list.take kk ++ n.list.drop (kk + 1), _, _, p3, (by simp; omega), cut_bnd hall, (by omega), (by omega), s.less (by (repeat (first | exact sub_nil | refine sub_cons (by (repeat (first | exact .head _ | refine .tail _ ?_))) ?_)))⟩
            | exact ⟨n.list ++ [n.list[kk]], A40, c40, p3, (by simp; omega), app_bnd hall (hall _ (List.getElem_mem hkk)), (by omega), (by omega), (by simp only [List.length_append, List.length_singleton]; exact s.less (by (repeat (first | exact sub_nil | refine sub_cons (by (repeat (first | exact .head _ | refine .tail _ ?_))) ?_))))⟩
        · repeat (refine VS_seq ?_)
          refine VS_region_lit ?_
          refine VL_run (d := 63) (run_eqI rfl rfl rfl) rfl rfl ?_
          refine VL_run (d := 62) (run_assign rfl (by conv => lhs; whnf)) rfl rfl ?_
          refine VL_nil ?_
          refine VS_cond rfl (fun c3 => ?_) (fun c3 => ?_) <;> (try simp only [decide_eq_true_eq, decide_eq_false_iff_not, Bool.not_eq_true', Bool.not_eq_false', ne_eq, Decidable.not_not, cond_true, cond_false, Bool.and_eq_true, Bool.or_eq_true, Bool.and_eq_false_iff, Bool.or_eq_false_iff, Bool.not_true, Bool.not_false, reduceCtorEq] at c3)
          · refine VS_drawS 10 s mixed ?_
            clear s; intro s
            refine VA_take 0 (d := 64) rfl (by kernel_rfl) rfl (fun w g => run_fieldAddr rfl fo30_1 rfl) s.see ?_
            refine VA_take 1 (d := 65) rfl (by kernel_rfl) rfl (fun w g => see_own1 g rfl ty28 rfl (i := 0) rfl rfl) s.see ?_
            refine VA_take 2 (d := 66) rfl (by kernel_rfl) rfl (fun w g => run_move rfl (by conv => lhs; whnf)) s.see ?_
            refine VA_take 3 (d := 67) rfl (by kernel_rfl) rfl (fun w g => run_sliceSlH (h := kk) rfl Try.underlying28 ty37 rfl rfl (by omega) (by omega)) s.see ?_
            refine VA_take 4 (d := 68) rfl (by kernel_rfl) rfl (fun w g => run_fieldAddr rfl fo30_1 rfl) s.see ?_
            refine VA_take 5 (d := 69) rfl (by kernel_rfl) rfl (fun w g => see_own1 g rfl ty28 rfl (i := 0) rfl rfl) s.see ?_
            refine VA_take 6 (d := 70) rfl (by kernel_rfl) rfl (fun w g => run_move rfl (by conv => lhs; whnf)) s.see ?_
            refine VA_take 7 (d := 71) rfl (by kernel_rfl) rfl (fun w g => run_add rfl rfl rfl (by omega)) s.see ?_
            refine VA_take 8 (d := 72) rfl (by kernel_rfl) rfl (fun w g => run_sliceSlL (l := (kk + 1)) rfl Try.underlying28 ty37 rfl rfl (by omega) (by omega) (by omega)) s.see ?_
            refine VA_one (i := 9) (by kernel_rfl) ?_
            refine VO_does (d := 73) rfl (does_appendSelf (k := kk) (l := kk + 1) (dd := nodeDs (n.list.take kk ++ n.list.drop (kk + 1))) (q := (n.list.take kk ++ n.list.drop (kk + 1)).length) s rfl Try.underlying28 ty37 (by decide) (by decide) (i := 1) rfl (cut_form _ _ _) rfl (by simp; omega) (by simp; omega) (by simp) rfl (by simp <;> omega) (by simp [nodeDs]) (by simp) ?_) rfl rfl; clear s; intro A73 c73 w s; simp only [List.set_cons_zero, List.set_cons_succ] at s; refine ⟨fun _ => s.sees (fun b_ c_ t_ h_ => by simp only [List.mem_cons, List.not_mem_nil, or_false, reduceCtorEq, false_or] at h_ ⊢; exact h_) (by (repeat (first | exact sub_nil | refine sub_cons (by (repeat (exact .head _))) ?_))), ?_⟩
            refine VA_one (i := 10) (by kernel_rfl) ?_
            refine VO_run (d := 74) rfl (run_fieldAddr rfl fo30_1 rfl) rfl rfl ((fun h => nomatch (show true = false from h))) ?_
            refine VA_one (i := 11) (by kernel_rfl) ?_
            (refine VO_doesU rfl (does_store s rfl ty28 rfl rfl (i := 0) rfl rfl rfl (by (intro u hu; simp only [List.mem_cons, List.not_mem_nil, or_false] at hu; subst hu; rfl)) rfl ?_) rfl rfl rfl)
            clear s; intro w s
            try simp only [List.set_cons_zero, List.set_cons_succ, patch, List.take_succ_cons, List.take_zero, List.drop_succ_cons, List.drop_zero, List.drop_nil, List.nil_append, List.cons_append, List.append_nil, List.length_cons, List.length_nil, Nat.reduceAdd, Nat.zero_add] at s
            refine ⟨(fun h => nomatch (show true = false from h)), ?_⟩
            refine VA_done (by kernel_rfl) ?_
            refine VS_met (()) ?_ (by repeat (exact Has.nil _)) (by repeat (first | exact Out.refl _ _ | refine Out.upd rfl ?_))
            have hall : ∀ y ∈ n.list, namesWt y.2 ≤ B + 1 := fun y hy => Nat.le_trans (hn.2.2.2 y hy) (by omega)
            first
              | exact ⟨n.list.set kk (m5, n.list[kk].2), some ⟨g, 0, none⟩, z7, p4, (by simp; omega), set_bnd hall (show namesWt n.list[kk].2 ≤ B + 1 from hall _ (List.getElem_mem hkk)), (by omega), (by omega), (by simp only [List.length_set]; exact s.less (by (repeat (first | exact sub_nil | refine sub_cons (by (repeat (first | exact .head _ | refine .tail _ ?_))) ?_))))⟩
              | exact ⟨n.list.set kk (n.list[kk].1, [y5]), some ⟨g, 0, none⟩, z7, p4, (by simp; omega), set_bnd hall (Nat.le_trans (two_mem hy5) (by omega)), (by omega), (by omega), (by simp only [List.length_set]; exact s.less (by (repeat (first | exact sub_nil | refine sub_cons (by (repeat (first | exact .head _ | refine .tail _ ?_))) ?_))))⟩
              | exact ⟨n.list.take kk ++ n.list.drop (kk + 1), _, _, p3, (by simp; omega), cut_bnd hall, (by omega), (by omega), s.less (by (repeat (first | exact sub_nil | refine sub_cons (by (repeat (exact .head _))) ?_)))⟩
              | exact ⟨n.list ++ [n.list[kk]], A40, c40, p3, (by simp; omega), app_bnd hall (hall _ (List.getElem_mem hkk)), (by omega), (by omega), (by simp only [List.length_append, List.length_singleton]; exact s.less (by (repeat (first | exact sub_nil | refine sub_cons (by (repeat (first | exact .head _ | refine .tail _ ?_))) ?_))))⟩
          · refine VS_drawSub (C' := [.blk b5 [.int .i64 n.next, .slice (some ⟨g, 0, none⟩) n.list.length z7] 30] ) (F' :=  []) 10 s mixed ?_
            clear s; intro s
            refine VA_take 0 (d := 32) rfl (by kernel_rfl) rfl (fun w g => run_fieldAddr rfl fo30_1 rfl) (s.sees (fun b_ c_ t_ h_ => (show ∀ x_ ∈ ([.blk b5 [.int .i64 n.next, .slice (some ⟨g, 0, none⟩) n.list.length z7] 30] : List It), x_ ∈ _ from by (repeat (first | exact sub_nil | refine sub_cons (by (repeat (exact .head _))) ?_))) _ h_) (by (repeat (exact sub_nil)))) ?_
            refine VA_take 1 (d := 33) rfl (by kernel_rfl) rfl (fun w g => see_own1 g rfl ty28 rfl (i := 0) rfl rfl) (s.sees (fun b_ c_ t_ h_ => (show ∀ x_ ∈ ([.blk b5 [.int .i64 n.next, .slice (some ⟨g, 0, none⟩) n.list.length z7] 30] : List It), x_ ∈ _ from by (repeat (first | exact sub_nil | refine sub_cons (by (repeat (exact .head _))) ?_))) _ h_) (by (repeat (exact sub_nil)))) ?_
            refine VA_take 2 (d := 34) rfl (by kernel_rfl) rfl (fun w g => run_fieldAddr rfl fo30_1 rfl) (s.sees (fun b_ c_ t_ h_ => (show ∀ x_ ∈ ([.blk b5 [.int .i64 n.next, .slice (some ⟨g, 0, none⟩) n.list.length z7] 30] : List It), x_ ∈ _ from by (repeat (first | exact sub_nil | refine sub_cons (by (repeat (exact .head _))) ?_))) _ h_) (by (repeat (exact sub_nil)))) ?_
            refine VA_take 3 (d := 35) rfl (by kernel_rfl) rfl (fun w g => see_own1 g rfl ty28 rfl (i := 0) rfl rfl) (s.sees (fun b_ c_ t_ h_ => (show ∀ x_ ∈ ([.blk b5 [.int .i64 n.next, .slice (some ⟨g, 0, none⟩) n.list.length z7] 30] : List It), x_ ∈ _ from by (repeat (first | exact sub_nil | refine sub_cons (by (repeat (exact .head _))) ?_))) _ h_) (by (repeat (exact sub_nil)))) ?_
            refine VA_take 4 (d := 36) rfl (by kernel_rfl) rfl (fun w g => run_move rfl (by conv => lhs; whnf)) (s.sees (fun b_ c_ t_ h_ => (show ∀ x_ ∈ ([.blk b5 [.int .i64 n.next, .slice (some ⟨g, 0, none⟩) n.list.length z7] 30] : List It), x_ ∈ _ from by (repeat (first | exact sub_nil | refine sub_cons (by (repeat (exact .head _))) ?_))) _ h_) (by (repeat (exact sub_nil)))) ?_
            refine VA_take 5 (d := 37) rfl (by kernel_rfl) rfl (fun w g => run_indexAddrN (q := kk) rfl Try.underlying28 ty37 rfl rfl (by omega) (by omega)) (s.sees (fun b_ c_ t_ h_ => (show ∀ x_ ∈ ([.blk b5 [.int .i64 n.next, .slice (some ⟨g, 0, none⟩) n.list.length z7] 30] : List It), x_ ∈ _ from by (repeat (first | exact sub_nil | refine sub_cons (by (repeat (exact .head _))) ?_))) _ h_) (by (repeat (exact sub_nil)))) ?_
            refine VA_one (i := 6) (by kernel_rfl) ?_
            obtain ⟨cs38, hd38, hl38, hc38⟩ := s.rowAt (i := 1) rfl kk (by simpa using hkk); rw [nodeDs_get] at hd38; obtain ⟨A5, c5, rfl, -, -⟩ := node_opn hd38; replace s := s.know (f := .dat [.int .i64 n.list[kk].1, .slice A5 n.list[kk].2.length c5] (nodeD n.list[kk])) hd38; refine VO_run (d := 38) rfl (run_loadA (cs := [_, _]) rfl ty37 rfl rfl hc38) rfl rfl (fun _ => s.sees (fun b_ c_ t_ h_ => by simp only [List.mem_cons, List.not_mem_nil, or_false, reduceCtorEq, false_or] at h_ ⊢; exact .inl h_) (by (repeat (exact sub_nil)))) ?_
            refine VA_one (i := 7) (by kernel_rfl) ?_
            refine VO_does (d := 39) rfl (does_slice1 s rfl Try.underlying28 ty37 (by decide) (by decide) rfl rfl (show Rd _ _ (nodeD n.list[kk]) _ from s.fa (.dat [.int .i64 n.list[kk].1, .slice A5 n.list[kk].2.length c5] (nodeD n.list[kk])) (by (repeat (exact .head _)))) rfl ?_) rfl rfl
            clear s; intro g39 w s
            refine ⟨fun _ => s.sees (fun b_ c_ t_ h_ => (show ∀ x_ ∈ ([.blk b5 [.int .i64 n.next, .slice (some ⟨g, 0, none⟩) n.list.length z7] 30] : List It), x_ ∈ _ from by (repeat (first | exact sub_nil | refine sub_cons (by (repeat (first | exact .head _ | refine .tail _ ?_))) ?_))) _ h_) (by (repeat (exact sub_nil))), ?_⟩
            refine VA_one (i := 8) (by kernel_rfl) ?_
            (refine VO_does (d := 40) rfl (does_appendR s rfl Try.underlying28 ty37 (by decide) (by decide) (i := 1) rfl rfl rfl (by simp <;> omega) (nodeDs_snoc _ _) (show _ = n.list.length + 1 by simp) ?_) rfl rfl)
            clear s; intro A40 c40 w s
            try simp only [List.set_cons_zero, List.set_cons_succ, patch, List.take_succ_cons, List.take_zero, List.drop_succ_cons, List.drop_zero, List.drop_nil, List.nil_append, List.cons_append, List.append_nil, List.length_cons, List.length_nil, Nat.reduceAdd, Nat.zero_add] at s
            refine ⟨fun _ => s.sees (fun b_ c_ t_ h_ => (show ∀ x_ ∈ ([.blk b5 [.int .i64 n.next, .slice (some ⟨g, 0, none⟩) n.list.length z7] 30] : List It), x_ ∈ _ from by (repeat (first | exact sub_nil | refine sub_cons (by (repeat (exact .head _))) ?_))) _ h_) (by (repeat (exact sub_nil))), ?_⟩
            refine VA_take 9 (d := 41) rfl (by kernel_rfl) rfl (fun w g => run_fieldAddr rfl fo30_1 rfl) (s.sees (fun b_ c_ t_ h_ => (show ∀ x_ ∈ ([.blk b5 [.int .i64 n.next, .slice (some ⟨g, 0, none⟩) n.list.length z7] 30] : List It), x_ ∈ _ from by (repeat (first | exact sub_nil | refine sub_cons (by (repeat (exact .head _))) ?_))) _ h_) (by (repeat (exact sub_nil)))) ?_
            refine VA_one (i := 10) (by kernel_rfl) ?_
            (refine VO_doesU rfl (does_store s rfl ty28 rfl rfl (i := 0) rfl rfl rfl (by (intro u hu; simp only [List.mem_cons, List.not_mem_nil, or_false] at hu; subst hu; rfl)) rfl ?_) rfl rfl rfl)
            clear s; intro w s
            try simp only [List.set_cons_zero, List.set_cons_succ, patch, List.take_succ_cons, List.take_zero, List.drop_succ_cons, List.drop_zero, List.drop_nil, List.nil_append, List.cons_append, List.append_nil, List.length_cons, List.length_nil, Nat.reduceAdd, Nat.zero_add] at s
            refine ⟨(fun h => nomatch (show true = false from h)), ?_⟩
            refine VA_done (by kernel_rfl) ?_
            refine VS_met (()) ?_ (by repeat (exact Has.nil _)) (by repeat (first | exact Out.refl _ _ | refine Out.upd rfl ?_))
            have hall : ∀ y ∈ n.list, namesWt y.2 ≤ B + 1 := fun y hy => Nat.le_trans (hn.2.2.2 y hy) (by omega)
            first
              | exact ⟨n.list.set kk (m5, n.list[kk].2), some ⟨g, 0, none⟩, z7, p4, (by simp; omega), set_bnd hall (show namesWt n.list[kk].2 ≤ B + 1 from hall _ (List.getElem_mem hkk)), (by omega), (by omega), (by simp only [List.length_set]; exact s.less (by (repeat (first | exact sub_nil | refine sub_cons (by (repeat (first | exact .head _ | refine .tail _ ?_))) ?_))))⟩
              | exact ⟨n.list.set kk (n.list[kk].1, [y5]), some ⟨g, 0, none⟩, z7, p4, (by simp; omega), set_bnd hall (Nat.le_trans (two_mem hy5) (by omega)), (by omega), (by omega), (by simp only [List.length_set]; exact s.less (by (repeat (first | exact sub_nil | refine sub_cons (by (repeat (first | exact .head _ | refine .tail _ ?_))) ?_))))⟩
              | exact ⟨n.list.take kk ++ n.list.drop (kk + 1), _, _, p3, (by simp; omega), cut_bnd hall, (by omega), (by omega), s.less (by (repeat (first | exact sub_nil | refine sub_cons (by (repeat (first | exact .head _ | refine .tail _ ?_))) ?_)))⟩
              | exact ⟨n.list ++ [n.list[kk]], A40, c40, p3, (by simp; omega), app_bnd hall (hall _ (List.getElem_mem hkk)), (by omega), (by omega), (by simp only [List.length_append, List.length_singleton]; exact s.less (by (repeat (first | exact sub_nil | refine sub_cons (by (repeat (first | exact .head _ | refine .tail _ ?_))) ?_))))⟩
    clear s
    rintro _ w j ⟨ys, A9, z9, p4, hyl, hyb, hp4a, hp4b, s⟩
    repeat (refine VS_seq ?_)
    refine VS_region_lit ?_
    refine VL_run (d := 75) (run_load_ownA (cs := [_, _]) s rfl ty30 rfl (i := 0) rfl rfl rfl) rfl rfl ?_
    (refine VL_doesU (does_store s rfl ty30 rfl rfl (i := 2) rfl rfl rfl (by (intro u hu; simp only [List.mem_cons, List.not_mem_nil, or_false] at hu; rcases hu with rfl | rfl | rfl | rfl | rfl <;> rfl)) rfl ?_) rfl rfl rfl)
    clear s; intro w s
    try simp only [List.set_cons_zero, List.set_cons_succ, patch, List.take_succ_cons, List.take_zero, List.drop_succ_cons, List.drop_zero, List.drop_nil, List.nil_append, List.cons_append, List.append_nil, List.length_cons, List.length_nil, Nat.reduceAdd, Nat.zero_add] at s
    refine VL_nil ?_
    refine VS_ret ?_
    repeat (first | refine blockV_ret ?_ | refine backV_ret ?_ | refine backV2_ret ?_ | refine backV3_ret ?_ | refine thenV_ret ?_ | refine metV2_ret ?_)
    refine fin_one (fn := Try.f100) rfl (res_ownA (cs := [_, _]) s ty30 rfl (i := 2) rfl rfl rfl) ?_
    have s := s.freezeR (k := 1) (i := 3) rfl rfl
    exact ⟨A9, z9, ⟨n.next, ys⟩, rfl, ⟨hn1, (show n.next ≤ _ by omega), hyl, hyb⟩, s.tellR (Rd_mk2 rfl (s.dat (i := 0) rfl)), s.aftOut (i := 3) rfl (by omega) (by omega)⟩
end Go.Proofs.Ytkefaelmamgjiaa
