/- draws: l61Nodes. -/
import Derived.Test.YtkefaelmamgjiaaN7
set_option linter.unusedVariables false
set_option linter.unusedSimpArgs false
set_option maxHeartbeats 4000000
namespace Go.Proofs.Ytkefaelmamgjiaa
open Go.RowKit

theorem l61Nodes_ok {ok : Nat → Prop} {w0 : World} {b : Nat} {v : Value} {p : Int} {l : List UInt8} (h : Rdr ok w0 b v p l) (hp : p ≤ 10000) :
    Calls Try.prog 99 #[.pointer (some ⟨b, 0, none⟩)] w0 (Ret fun r w' => ∃ A c ct n x, r = .tuple #[.agg #[.int .i64 (Nd.next n), .slice A (Nd.list n).length c], .agg (List.toArray ct)] ∧ NdB n 200000000 ∧ Tr.wt x ≤ 2000000 ∧ Rd (okR ok w0) w' n.toD [.int .i64 (Nd.next n), .slice A (Nd.list n).length c] ∧ Rd (okR ok w0) w' x.toD ct ∧ Aft w0 w' b v p 1000) := by
  have hlen := h.len
  have hlow := h.low
  have s := h.start
  clear h
  refine calls_enter (n := 41) Try.func99 rfl rfl rfl ?_
  repeat (refine VS_seq ?_)
  refine VS_region_lit ?_
  refine VL_does (d := 2) (does_alloc s rfl ty30 rfl ?_) rfl rfl
  clear s; intro b2 w s
  refine VL_does (d := 3) (does_alloc s rfl ty26 rfl ?_) rfl rfl
  clear s; intro b3 w s
  refine VL_nil ?_
  repeat (refine VS_seq ?_)
  refine VS_region_lit ?_
  refine VL_run (d := 10) (run_move rfl (by conv => lhs; whnf)) rfl rfl ?_
  refine VL_does (d := 11) (does_call1 rfl (by kernel_rfl) rfl (by exact l4Tree_ok (s.rdrM (i := 2) rfl (by (repeat (exact .head _))) hlen (by omega)) (by omega)) ?_) rfl rfl
  rintro v11 w11 ⟨cc, x, rfl, hxw, hd, ha⟩
  (obtain ⟨p1, hp1a, hp1b, s⟩ := s.aftR (i := 2) rfl ha hd); simp only [List.set_cons_zero, List.set_cons_succ] at s; clear ha hd
  obtain ⟨B3, d3, B4, d4, rfl, -, -, -, -⟩ := Tr.opn (s.dat (i := 0) rfl)
  refine VL_does (d := 4) (does_alloc s rfl ty26 rfl ?_) rfl rfl
  clear s; intro b4 w s
  (refine VL_doesU (does_store s rfl ty26 rfl rfl (i := 0) rfl rfl rfl (by (intro u hu; simp only [List.mem_cons, List.not_mem_nil, or_false] at hu; rcases hu with rfl | rfl | rfl | rfl | rfl <;> rfl)) rfl ?_) rfl rfl rfl)
  clear s; intro w s
  try simp only [List.set_cons_zero, List.set_cons_succ, patch, List.take_succ_cons, List.take_zero, List.drop_succ_cons, List.drop_zero, List.drop_nil, List.nil_append, List.cons_append, List.append_nil, List.length_cons, List.length_nil, Nat.reduceAdd, Nat.zero_add] at s
  refine VL_nil ?_
  repeat (refine VS_seq ?_)
  refine VS_region_lit ?_
  refine VL_run (d := 12) (run_load_ownA (cs := [_, _, _, _, _]) s rfl ty26 rfl (i := 0) rfl rfl rfl) rfl rfl ?_
  refine VL_does (d := 13) (does_call1 rfl (by kernel_rfl) rfl (NodesStart_ok x (s.dat (i := 0) rfl) (show x.wt ≤ 1000000000 by omega)) ?_) rfl rfl
  rintro v13 w13 ⟨cn, n, rfl, hnb, hr, hb⟩
  replace s := s.ret hb hr; clear hb hr; obtain ⟨A7, z7, rfl, -, -⟩ := Nd.opn (s.dat (i := 0) rfl)
  refine VL_does (d := 5) (does_alloc s rfl ty30 rfl ?_) rfl rfl
  clear s; intro b5 w s
  (refine VL_doesU (does_store s rfl ty30 rfl rfl (i := 0) rfl rfl rfl (by (intro u hu; simp only [List.mem_cons, List.not_mem_nil, or_false] at hu; rcases hu with rfl | rfl | rfl | rfl | rfl <;> rfl)) rfl ?_) rfl rfl rfl)
  clear s; intro w s
  try simp only [List.set_cons_zero, List.set_cons_succ, patch, List.take_succ_cons, List.take_zero, List.drop_succ_cons, List.drop_zero, List.drop_nil, List.nil_append, List.cons_append, List.append_nil, List.length_cons, List.length_nil, Nat.reduceAdd, Nat.zero_add] at s
  refine VL_nil ?_
  repeat (refine VS_seq ?_)
  refine VS_region_lit ?_
  refine VL_run (d := 14) (run_move rfl (by conv => lhs; whnf)) rfl rfl ?_
  refine VL_does (d := 15) (does_call2 rfl (by kernel_rfl) rfl rfl (by exact pick_ok _ (s.rdrM (i := 4) rfl (by (repeat (first | exact .head _ | refine .tail _ ?_))) hlen (by omega)) (by omega) (by omega)) ?_) rfl rfl
  rintro v15 w15 ⟨n3, rfl, hl0, hl1, ha⟩
  (obtain ⟨p3, hp3a, hp3b, s⟩ := s.aft (i := 4) rfl ha); simp only [List.set_cons_zero, List.set_cons_succ] at s; clear ha
  refine VL_run (d := 6) (run_assign rfl (by conv => lhs; whnf)) rfl rfl ?_
  refine VL_nil ?_
  repeat (refine VS_block ?_)
  refine VS_loop [6, 7, 8, 9, 16, 17, 18, 19, 20, 21, 22, 23, 24, 25, 26, 27, 28, 29, 30, 31, 32, 33, 34, 35, 36, 37, 38] (fun k : Int => [(6, .int .i64 k)]) (fun k w => ∃ x B3 d3 B4 d4 n A7 z7 Bk p1, St ok ⟨w0, [b]⟩ [.blk b5 [.int .i64 (Nd.next n), .slice A7 (Nd.list n).length z7] 30, .blk b4 (trC x B3 d3 B4 d4) 26, .blk b3 tr0 26, .blk b2 nd0 30, .blk b (rdC v p1) 121] [.dat [.int .i64 (Nd.next n), .slice A7 (Nd.list n).length z7] n.toD, .dat (trC x B3 d3 B4 d4) x.toD, .dat [v] (.sl (bytesL l))] w ∧ x.wt ≤ 2000000 ∧ NdB n Bk ∧ (Bk : Int) + 20000000 * k ≤ 200000000 ∧ p ≤ p1 ∧ p1 + 50 * k ≤ p + 930 ∧ 0 ≤ k ∧ k ≤ 8) (fun k => k.toNat) n3 ⟨x, B3, d3, B4, d4, n, A7, z7, _, p3, s.less (by (repeat (first | exact sub_nil | refine sub_cons (by (repeat (first | exact .head _ | refine .tail _ ?_))) ?_))), hxw, hnb, by omega, by omega, by omega, hl0, by omega⟩ (by repeat (first | exact Has.nil _ | refine Has.cons rfl ?_)) ?_
  clear s
  clear hnb hxw
  rintro k w j ⟨x, B3, d3, B4, d4, n, A7, z7, Bk, p4, s, hxw, hnb, hBk, hp4a, hp4b, hk, hk2⟩
  repeat (refine VS_seq ?_)
  refine VS_region_lit ?_
  refine VL_run (d := 16) (run_move rfl (by conv => lhs; whnf)) rfl rfl ?_
  refine VL_run (d := 17) (run_gtI rfl rfl rfl) rfl rfl ?_
  refine VL_nil ?_
  refine VS_cond rfl (fun c0 => ?_) (fun c0 => ?_) <;> (try simp only [decide_eq_true_eq, decide_eq_false_iff_not, Bool.not_eq_true', Bool.not_eq_false', ne_eq, Decidable.not_not, cond_true, cond_false, Bool.and_eq_true, Bool.or_eq_true, Bool.and_eq_false_iff, Bool.or_eq_false_iff, Bool.not_true, Bool.not_false, reduceCtorEq] at c0)
  · repeat (first | refine VS_seq ?_ | refine VS_block ?_ | refine VS_skip ?_)
    refine VS_region_lit ?_
    refine VL_run (d := 20) (run_move rfl (by conv => lhs; whnf)) rfl rfl ?_
    refine VL_run (d := 21) (run_load_ownA (cs := [_, _, _, _, _]) s rfl ty26 rfl (i := 1) rfl rfl rfl) rfl rfl ?_
    refine VL_does (d := 22) (does_call2 rfl (by kernel_rfl) rfl rfl (by exact l4Call_ok x (s.rdrM (i := 4) rfl (by (repeat (first | exact .head _ | refine .tail _ ?_))) hlen (by omega)) (s.dat (i := 1) rfl) (by omega) (by omega)) ?_) rfl rfl
    rintro v22 w22 ⟨cc, c, rfl, hcB, hd, ha⟩
    (obtain ⟨p5, hp5a, hp5b, s⟩ := s.aftR (i := 4) rfl ha hd); simp only [List.set_cons_zero, List.set_cons_succ] at s; clear ha hd
    obtain ⟨A1, k1, A2, k2, rfl, -, -, -, -⟩ := Cl.opn (s.dat (i := 0) rfl)
    refine VL_does (d := 7) (does_alloc s rfl ty70 rfl ?_) rfl rfl
    clear s; intro b7 w s
    (refine VL_doesU (does_store s rfl ty70 rfl rfl (i := 0) rfl rfl rfl (by (intro u hu; simp only [List.mem_cons, List.not_mem_nil, or_false] at hu; rcases hu with rfl | rfl | rfl | rfl | rfl <;> rfl)) rfl ?_) rfl rfl rfl)
    clear s; intro w s
    try simp only [List.set_cons_zero, List.set_cons_succ, patch, List.take_succ_cons, List.take_zero, List.drop_succ_cons, List.drop_zero, List.drop_nil, List.nil_append, List.cons_append, List.append_nil, List.length_cons, List.length_nil, Nat.reduceAdd, Nat.zero_add] at s
    refine VL_nil ?_
    repeat (refine VS_seq ?_)
    obtain ⟨hc1, hc2, hc3⟩ := hcB
    have hcf : c.Fit := ⟨(show namesWt c.path ≤ _ by omega), (show namesWt c.to ≤ _ by omega), by omega⟩
    refine VS_region_lit ?_
    refine VL_run (d := 24) (run_load_ownA (cs := [_, _]) s rfl ty30 rfl (i := 1) rfl rfl rfl) rfl rfl ?_
    refine VL_run (d := 25) (run_load_ownA (cs := [_, _, _, _, _]) s rfl ty26 rfl (i := 2) rfl rfl rfl) rfl rfl ?_
    refine VL_run (d := 26) (run_load_ownA (cs := [_, _, _, _, _]) s rfl ty70 rfl (i := 0) rfl rfl rfl) rfl rfl ?_
    refine VL_does (d := 27) (does_call3 rfl (by kernel_rfl) rfl rfl rfl (NodesDo_ok n x c Bk 8000032 (s.dat (i := 1) rfl) (s.dat (i := 2) rfl) (s.dat (i := 0) rfl) hnb (show x.wt ≤ 1000000000 by omega) (by omega) (by omega) (by omega) (by omega)) ?_) rfl rfl
    rintro v27 w27 ⟨cr, n2, code, rfl, hnb2, hr, hb⟩
    replace s := s.ret hb hr; clear hb hr; obtain ⟨A8, z8, rfl, -, -⟩ := Nd.opn (s.dat (i := 0) rfl)
    refine VL_run (d := 23) (run_move rfl (by conv => lhs; whnf)) rfl rfl ?_
    refine VL_run (d := 28) (run_extract rfl rfl rfl) rfl rfl ?_
    refine VL_run (d := 29) (run_extract rfl rfl rfl) rfl rfl ?_
    refine VL_does (d := 8) (does_alloc s rfl ty30 rfl ?_) rfl rfl
    clear s; intro b8 w s
    (refine VL_doesU (does_store s rfl ty30 rfl rfl (i := 0) rfl rfl rfl (by (intro u hu; simp only [List.mem_cons, List.not_mem_nil, or_false] at hu; rcases hu with rfl | rfl | rfl | rfl | rfl <;> rfl)) rfl ?_) rfl rfl rfl)
    clear s; intro w s
    try simp only [List.set_cons_zero, List.set_cons_succ, patch, List.take_succ_cons, List.take_zero, List.drop_succ_cons, List.drop_zero, List.drop_nil, List.nil_append, List.cons_append, List.append_nil, List.length_cons, List.length_nil, Nat.reduceAdd, Nat.zero_add] at s
    refine VL_run (d := 9) (run_assign rfl (by conv => lhs; whnf)) rfl rfl ?_
    refine VL_nil ?_
    repeat (refine VS_seq ?_)
    refine VS_region_lit ?_
    refine VL_run (d := 30) (run_move rfl (by conv => lhs; whnf)) rfl rfl ?_
    refine VL_run (d := 31) (run_eqI rfl rfl rfl) rfl rfl ?_
    refine VL_nil ?_
    refine VS_cond rfl (fun c1 => ?_) (fun c1 => ?_) <;> (try simp only [decide_eq_true_eq, decide_eq_false_iff_not, Bool.not_eq_true', Bool.not_eq_false', ne_eq, Decidable.not_not, cond_true, cond_false, Bool.and_eq_true, Bool.or_eq_true, Bool.and_eq_false_iff, Bool.or_eq_false_iff, Bool.not_true, Bool.not_false, reduceCtorEq] at c1)
    · repeat (refine VS_seq ?_)
      refine VS_region_lit ?_
      refine VL_run (d := 32) (run_load_ownA (cs := [_, _]) s rfl ty30 rfl (i := 0) rfl rfl rfl) rfl rfl ?_
      (refine VL_doesU (does_store s rfl ty30 rfl rfl (i := 2) rfl rfl rfl (by (intro u hu; simp only [List.mem_cons, List.not_mem_nil, or_false] at hu; rcases hu with rfl | rfl | rfl | rfl | rfl <;> rfl)) rfl ?_) rfl rfl rfl)
      clear s; intro w s
      try simp only [List.set_cons_zero, List.set_cons_succ, patch, List.take_succ_cons, List.take_zero, List.drop_succ_cons, List.drop_zero, List.drop_nil, List.nil_append, List.cons_append, List.append_nil, List.length_cons, List.length_nil, Nat.reduceAdd, Nat.zero_add] at s
      refine VL_nil ?_
      refine VS_region_lit ?_
      refine VL_run (d := 34) (run_load_ownA (cs := [_, _, _, _, _]) s rfl ty26 rfl (i := 3) rfl rfl rfl) rfl rfl ?_
      refine VL_run (d := 35) (run_load_ownA (cs := [_, _, _, _, _]) s rfl ty70 rfl (i := 1) rfl rfl rfl) rfl rfl ?_
      refine VL_does (d := 36) (does_call2 rfl (by kernel_rfl) rfl rfl (TreeDo_ok x c (s.dat (i := 3) rfl) (s.dat (i := 1) rfl) (show x.wt ≤ 1000000000 by omega) hcf) ?_) rfl rfl
      rintro v36 w36 ⟨cs', rfl, hr, hb⟩
      replace s := s.ret hb hr; clear hb hr
      obtain ⟨E3, e3, E4, e4, rfl, -, -, -, -⟩ := Tr.opn (s.dat (i := 0) rfl)
      refine VL_run (d := 33) (run_move rfl (by conv => lhs; whnf)) rfl rfl ?_
      refine VL_run (d := 37) (run_extract rfl rfl rfl) rfl rfl ?_
      refine VL_run (d := 38) (run_extract rfl rfl rfl) rfl rfl ?_
      (refine VL_doesU (does_store s rfl ty26 rfl rfl (i := 3) rfl rfl rfl (by (intro u hu; simp only [List.mem_cons, List.not_mem_nil, or_false] at hu; rcases hu with rfl | rfl | rfl | rfl | rfl <;> rfl)) rfl ?_) rfl rfl rfl)
      clear s; intro w s
      try simp only [List.set_cons_zero, List.set_cons_succ, patch, List.take_succ_cons, List.take_zero, List.drop_succ_cons, List.drop_zero, List.drop_nil, List.nil_append, List.cons_append, List.append_nil, List.length_cons, List.length_nil, Nat.reduceAdd, Nat.zero_add] at s
      refine VL_nil ?_
      repeat (refine VS_nil_block ?_)
      refine VS_region_lit ?_
      refine VL_run (d := 18) (run_move rfl (by conv => lhs; whnf)) rfl rfl ?_
      refine VL_run (d := 19) (run_sub rfl rfl rfl (by omega)) rfl rfl ?_
      refine VL_run (d := 6) (run_assign rfl (by conv => lhs; whnf)) rfl rfl ?_
      refine VL_nil ?_
      refine VS_back (k - 1) ?_ (by repeat (first | exact Has.nil _ | refine Has.cons rfl ?_)) (by repeat (first | exact Out.mix _ _ _ | refine Out.upd rfl ?_)) ?_
      · have hs := treeDoR_small c hxw
        first
          | exact ⟨x, B3, d3, B4, d4, n, A7, z7, Bk, p5, ((s.drop 0).drop 0).less (by (repeat (first | exact sub_nil | refine sub_cons (by (repeat (first | exact .head _ | refine .tail _ ?_))) ?_))), hxw, hnb, by omega, by omega, by omega, by omega, by omega⟩
          | exact ⟨(treeDoR x c).1, E3, e3, E4, e4, n2, A8, z8, _, p5, ((s.drop 0).drop 0).less (by (repeat (first | exact sub_nil | refine sub_cons (by (repeat (first | exact .head _ | refine .tail _ ?_))) ?_))), hs, hnb2, by omega, by omega, by omega, by omega, by omega⟩
      · omega
    · repeat (first | refine VS_skip ?_ | refine VS_nil_block ?_)
      refine VS_region_lit ?_
      refine VL_run (d := 18) (run_move rfl (by conv => lhs; whnf)) rfl rfl ?_
      refine VL_run (d := 19) (run_sub rfl rfl rfl (by omega)) rfl rfl ?_
      refine VL_run (d := 6) (run_assign rfl (by conv => lhs; whnf)) rfl rfl ?_
      refine VL_nil ?_
      refine VS_back (k - 1) ?_ (by repeat (first | exact Has.nil _ | refine Has.cons rfl ?_)) (by repeat (first | exact Out.mix _ _ _ | refine Out.upd rfl ?_)) ?_
      · have hs := treeDoR_small c hxw
        first
          | exact ⟨x, B3, d3, B4, d4, n, A7, z7, Bk, p5, ((s.drop 0).drop 0).less (by (repeat (first | exact sub_nil | refine sub_cons (by (repeat (first | exact .head _ | refine .tail _ ?_))) ?_))), hxw, hnb, by omega, by omega, by omega, by omega, by omega⟩
          | exact ⟨(treeDoR x c).1, E3, e3, E4, e4, n2, A8, z8, _, p5, ((s.drop 0).drop 0).less (by (repeat (first | exact sub_nil | refine sub_cons (by (repeat (first | exact .head _ | refine .tail _ ?_))) ?_))), hs, hnb2, by omega, by omega, by omega, by omega, by omega⟩
      · omega
  · refine VS_exit ?_
    repeat (first | refine blockV_hit ?_ | refine backV_exit ?_)
    repeat (refine VS_seq ?_)
    refine VS_drawSub (C' := [.blk b5 [.int .i64 (Nd.next n), .slice A7 (Nd.list n).length z7] 30, .blk b4 (trC x B3 d3 B4 d4) 26] ) (F' :=  []) 3 s mixed ?_
    clear s; intro s
    refine VA_take 0 (d := 39) rfl (by kernel_rfl) rfl (fun w g => see_ownA (cs := [_, _]) g rfl ty30 rfl (i := 0) rfl rfl rfl) (s.sees (fun b_ c_ t_ h_ => (show ∀ x_ ∈ ([.blk b5 [.int .i64 (Nd.next n), .slice A7 (Nd.list n).length z7] 30, .blk b4 (trC x B3 d3 B4 d4) 26] : List It), x_ ∈ _ from by (repeat (first | exact sub_nil | refine sub_cons (by (repeat (first | exact .head _ | refine .tail _ ?_))) ?_))) _ h_) (by (repeat (exact sub_nil)))) ?_
    refine VA_take 1 (d := 40) rfl (by kernel_rfl) rfl (fun w g => see_ownA (cs := [_, _, _, _, _]) g rfl ty26 rfl (i := 1) rfl rfl rfl) (s.sees (fun b_ c_ t_ h_ => (show ∀ x_ ∈ ([.blk b5 [.int .i64 (Nd.next n), .slice A7 (Nd.list n).length z7] 30, .blk b4 (trC x B3 d3 B4 d4) 26] : List It), x_ ∈ _ from by (repeat (first | exact sub_nil | refine sub_cons (by (repeat (first | exact .head _ | refine .tail _ ?_))) ?_))) _ h_) (by (repeat (exact sub_nil)))) ?_
    refine VA_one (i := 2) (by kernel_rfl) ?_
    (refine VO_doesU rfl (does_store s rfl ty30 rfl rfl (i := 3) rfl rfl rfl (by (intro u hu; simp only [List.mem_cons, List.not_mem_nil, or_false] at hu; rcases hu with rfl | rfl | rfl | rfl | rfl <;> rfl)) rfl ?_) rfl rfl rfl)
    clear s; intro w s
    try simp only [List.set_cons_zero, List.set_cons_succ, patch, List.take_succ_cons, List.take_zero, List.drop_succ_cons, List.drop_zero, List.drop_nil, List.nil_append, List.cons_append, List.append_nil, List.length_cons, List.length_nil, Nat.reduceAdd, Nat.zero_add] at s
    refine ⟨fun _ => s.sees (fun b_ c_ t_ h_ => (show ∀ x_ ∈ ([.blk b5 [.int .i64 (Nd.next n), .slice A7 (Nd.list n).length z7] 30, .blk b4 (trC x B3 d3 B4 d4) 26] : List It), x_ ∈ _ from by (repeat (first | exact sub_nil | refine sub_cons (by (repeat (first | exact .head _ | refine .tail _ ?_))) ?_))) _ h_) (by (repeat (exact sub_nil))), ?_⟩
    refine VA_one (i := 3) (by kernel_rfl) ?_
    (refine VO_doesU rfl (does_store s rfl ty26 rfl rfl (i := 2) rfl rfl rfl (by (intro u hu; simp only [List.mem_cons, List.not_mem_nil, or_false] at hu; rcases hu with rfl | rfl | rfl | rfl | rfl <;> rfl)) rfl ?_) rfl rfl rfl)
    clear s; intro w s
    try simp only [List.set_cons_zero, List.set_cons_succ, patch, List.take_succ_cons, List.take_zero, List.drop_succ_cons, List.drop_zero, List.drop_nil, List.nil_append, List.cons_append, List.append_nil, List.length_cons, List.length_nil, Nat.reduceAdd, Nat.zero_add] at s
    refine ⟨(fun h => nomatch (show true = false from h)), ?_⟩
    refine VA_done (by kernel_rfl) ?_
    refine VS_ret ?_
    repeat (first | refine blockV_ret ?_ | refine backV_ret ?_ | refine backV2_ret ?_ | refine backV3_ret ?_ | refine thenV_ret ?_ | refine metV2_ret ?_)
    refine fin_two (fn := Try.f99) rfl (res_ownA (cs := [_, _]) s ty30 rfl (i := 3) rfl rfl rfl) (res_ownA (cs := [_, _, _, _, _]) s ty26 rfl (i := 2) rfl rfl rfl) ?_
    exact ⟨A7, z7, _, n, x, rfl, hnb.mono (by omega), hxw, s.tellR (s.dat (i := 0) rfl), s.tellR (s.dat (i := 1) rfl), s.aftOut (i := 4) rfl (by omega) (by omega)⟩
end Go.Proofs.Ytkefaelmamgjiaa
