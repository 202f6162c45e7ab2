/- draws: l61AnyNodes, DrawNodesPath, DrawNodesId. -/
import Derived.Test.YtkefaelmamgjiaaN9
set_option linter.unusedVariables false
set_option linter.unusedSimpArgs false
set_option maxHeartbeats 4000000
namespace Go.Proofs.Ytkefaelmamgjiaa
open Go.RowKit

theorem l61AnyNodes_ok {ok : Nat → Prop} {w0 : World} {b : Nat} {v : Value} {p : Int} {l : List UInt8} (h : Rdr ok w0 b v p l) (hp : p ≤ 5000) :
    Calls Try.prog 59 #[.pointer (some ⟨b, 0, none⟩)] w0 (Ret fun r w' => ∃ A c ct n x, r = .tuple #[.agg #[.int .i64 (Nd.next n), .slice A (Nd.list n).length c], .agg (List.toArray ct)] ∧ NdB n 300000000 ∧ Tr.wt x ≤ 2000000 ∧ Rd (okR ok w0) w' n.toD [.int .i64 (Nd.next n), .slice A (Nd.list n).length c] ∧ Rd (okR ok w0) w' x.toD ct ∧ Aft w0 w' b v p 1010) := by
  have hlen := h.len
  have hlow := h.low
  have s := h.start
  clear h
  refine calls_enter (n := 27) Try.func59 rfl rfl rfl ?_
  repeat (refine VS_seq ?_)
  refine VS_region_lit ?_
  refine VL_does (d := 2) (does_alloc s rfl ty30 rfl ?_) rfl rfl
  clear s; intro b2 w s
  refine VL_does (d := 3) (does_alloc s rfl ty26 rfl ?_) rfl rfl
  clear s; intro b3 w s
  refine VL_nil ?_
  repeat (refine VS_seq ?_)
  refine VS_region_lit ?_
  refine VL_run (d := 7) (run_move rfl (by conv => lhs; whnf)) rfl rfl ?_
  refine VL_does (d := 8) (does_call1 rfl (by kernel_rfl) rfl (by exact l61Nodes_ok (s.rdrM (i := 2) rfl (by (repeat (exact .head _))) hlen (by omega)) (by omega)) ?_) rfl rfl
  rintro v8 w8 ⟨A1, z1, ct, n, x, rfl, hnb, hxw, hd, hd2, ha⟩
  (obtain ⟨p1, hp1a, hp1b, s⟩ := s.aftR2 (i := 2) rfl ha hd hd2); simp only [List.set_cons_zero, List.set_cons_succ] at s; clear ha hd hd2
  obtain ⟨B3, d3, B4, d4, rfl, -, -, -, -⟩ := Tr.opn (s.dat (i := 1) rfl)
  refine VL_run (d := 6) (run_move rfl (by conv => lhs; whnf)) rfl rfl ?_
  refine VL_run (d := 9) (run_extract rfl rfl rfl) rfl rfl ?_
  refine VL_run (d := 10) (run_extract rfl rfl rfl) rfl rfl ?_
  refine VL_does (d := 4) (does_alloc s rfl ty30 rfl ?_) rfl rfl
  clear s; intro b4 w s
  refine VL_does (d := 5) (does_alloc s rfl ty26 rfl ?_) rfl rfl
  clear s; intro b5 w s
  (refine VL_doesU (does_store s rfl ty30 rfl rfl (i := 1) rfl rfl rfl (by (intro u hu; simp only [List.mem_cons, List.not_mem_nil, or_false] at hu; rcases hu with rfl | rfl | rfl | rfl | rfl <;> rfl)) rfl ?_) rfl rfl rfl)
  clear s; intro w s
  try simp only [List.set_cons_zero, List.set_cons_succ, patch, List.take_succ_cons, List.take_zero, List.drop_succ_cons, List.drop_zero, List.drop_nil, List.nil_append, List.cons_append, List.append_nil, List.length_cons, List.length_nil, Nat.reduceAdd, Nat.zero_add] at s
  (refine VL_doesU (does_store s rfl ty26 rfl rfl (i := 0) rfl rfl rfl (by (intro u hu; simp only [List.mem_cons, List.not_mem_nil, or_false] at hu; rcases hu with rfl | rfl | rfl | rfl | rfl <;> rfl)) rfl ?_) rfl rfl rfl)
  clear s; intro w s
  try simp only [List.set_cons_zero, List.set_cons_succ, patch, List.take_succ_cons, List.take_zero, List.drop_succ_cons, List.drop_zero, List.drop_nil, List.nil_append, List.cons_append, List.append_nil, List.length_cons, List.length_nil, Nat.reduceAdd, Nat.zero_add] at s
  refine VL_nil ?_
  obtain ⟨hn1, hn2, hn3, hn4⟩ := hnb
  repeat (refine VS_seq ?_)
  refine VS_region_lit ?_
  refine VL_run (d := 11) (run_move rfl (by conv => lhs; whnf)) rfl rfl ?_
  refine VL_does (d := 12) (does_call2 rfl (by kernel_rfl) rfl rfl (by exact pick_ok _ (s.rdrM (i := 4) rfl (by (repeat (first | exact .head _ | refine .tail _ ?_))) hlen (by omega)) (by omega) (by omega)) ?_) rfl rfl
  rintro v12 w12 ⟨m, rfl, hm0, hm1, ha⟩
  (obtain ⟨p2, hp2a, hp2b, s⟩ := s.aft (i := 4) rfl ha); simp only [List.set_cons_zero, List.set_cons_succ] at s; clear ha
  refine VL_nil ?_
  repeat (first | refine VS_seq ?_ | refine VS_block ?_)
  refine VS_region_lit ?_
  refine VL_run (d := 14) (run_eqI rfl rfl rfl) rfl rfl ?_
  refine VL_run (d := 13) (run_assign rfl (by conv => lhs; whnf)) rfl rfl ?_
  refine VL_nil ?_
  refine VS_cond rfl (fun c0 => ?_) (fun c0 => ?_) <;> (try simp only [decide_eq_true_eq, decide_eq_false_iff_not, Bool.not_eq_true', Bool.not_eq_false', ne_eq, Decidable.not_not, cond_true, cond_false, Bool.and_eq_true, Bool.or_eq_true, Bool.and_eq_false_iff, Bool.or_eq_false_iff, Bool.not_true, Bool.not_false, reduceCtorEq] at c0)
  · repeat (refine VS_seq ?_)
    refine VS_drawSub (C' := [.blk b5 (trC x B3 d3 B4 d4) 26, .blk b4 [.int .i64 (Nd.next n), .slice A1 (Nd.list n).length z1] 30] ) (F' :=  []) 5 s mixed ?_
    clear s; intro s
    refine VA_take 0 (d := 15) rfl (by kernel_rfl) rfl (fun w g => run_move rfl (by conv => lhs; whnf)) (s.sees (fun b_ c_ t_ h_ => (show ∀ x_ ∈ ([.blk b5 (trC x B3 d3 B4 d4) 26, .blk b4 [.int .i64 (Nd.next n), .slice A1 (Nd.list n).length z1] 30] : List It), x_ ∈ _ from by (repeat (first | exact sub_nil | refine sub_cons (by (repeat (first | exact .head _ | refine .tail _ ?_))) ?_))) _ h_) (by (repeat (exact sub_nil)))) ?_
    refine VA_take 1 (d := 16) rfl (by kernel_rfl) rfl (fun w g => see_ownA (cs := [_, _]) g rfl ty30 rfl (i := 1) rfl rfl rfl) (s.sees (fun b_ c_ t_ h_ => (show ∀ x_ ∈ ([.blk b5 (trC x B3 d3 B4 d4) 26, .blk b4 [.int .i64 (Nd.next n), .slice A1 (Nd.list n).length z1] 30] : List It), x_ ∈ _ from by (repeat (first | exact sub_nil | refine sub_cons (by (repeat (first | exact .head _ | refine .tail _ ?_))) ?_))) _ h_) (by (repeat (exact sub_nil)))) ?_
    refine VA_take 3 (d := 18) rfl (by kernel_rfl) rfl (fun w g => see_ownA (cs := [_, _, _, _, _]) g rfl ty26 rfl (i := 0) rfl rfl rfl) (s.sees (fun b_ c_ t_ h_ => (show ∀ x_ ∈ ([.blk b5 (trC x B3 d3 B4 d4) 26, .blk b4 [.int .i64 (Nd.next n), .slice A1 (Nd.list n).length z1] 30] : List It), x_ ∈ _ from by (repeat (first | exact sub_nil | refine sub_cons (by (repeat (first | exact .head _ | refine .tail _ ?_))) ?_))) _ h_) (by (repeat (exact sub_nil)))) ?_
    refine VA_one (i := 2) (by kernel_rfl) ?_
    refine VO_does (d := 17) rfl (does_call2 rfl (by kernel_rfl) rfl rfl (by exact l61SpoilNodes_ok n 200000000 (s.rdrM (i := 4) rfl (by (repeat (first | exact .head _ | refine .tail _ ?_))) hlen (by omega)) (s.fa (.dat [.int .i64 (Nd.next n), .slice A1 (Nd.list n).length z1] n.toD) (by (repeat (exact .head _)))) (by omega) ⟨hn1, hn2, hn3, hn4⟩ (by omega) (by omega)) ?_) rfl rfl
    rintro v17 w17 ⟨A9, z9, n9, rfl, hnb9, hd, ha⟩
    (obtain ⟨p3, hp3a, hp3b, s⟩ := s.aftR (i := 4) rfl ha hd); simp only [List.set_cons_zero, List.set_cons_succ] at s; clear ha hd
    refine ⟨fun _ => s.sees (fun b_ c_ t_ h_ => (show ∀ x_ ∈ ([.blk b5 (trC x B3 d3 B4 d4) 26, .blk b4 [.int .i64 (Nd.next n), .slice A1 (Nd.list n).length z1] 30] : List It), x_ ∈ _ from by (repeat (first | exact sub_nil | refine sub_cons (by (repeat (first | exact .head _ | refine .tail _ ?_))) ?_))) _ h_) (by (repeat (exact sub_nil))), ?_⟩
    refine VA_one (i := 4) (by kernel_rfl) ?_
    (refine VO_doesU rfl (does_store s rfl ty30 rfl rfl (i := 3) rfl rfl rfl (by (intro u hu; simp only [List.mem_cons, List.not_mem_nil, or_false] at hu; rcases hu with rfl | rfl | rfl | rfl | rfl <;> rfl)) rfl ?_) rfl rfl rfl)
    clear s; intro w s
    try simp only [List.set_cons_zero, List.set_cons_succ, patch, List.take_succ_cons, List.take_zero, List.drop_succ_cons, List.drop_zero, List.drop_nil, List.nil_append, List.cons_append, List.append_nil, List.length_cons, List.length_nil, Nat.reduceAdd, Nat.zero_add] at s
    refine ⟨fun _ => s.sees (fun b_ c_ t_ h_ => (show ∀ x_ ∈ ([.blk b5 (trC x B3 d3 B4 d4) 26, .blk b4 [.int .i64 (Nd.next n), .slice A1 (Nd.list n).length z1] 30] : List It), x_ ∈ _ from by (repeat (first | exact sub_nil | refine sub_cons (by (repeat (first | exact .head _ | refine .tail _ ?_))) ?_))) _ h_) (by (repeat (exact sub_nil))), ?_⟩
    refine VA_one (i := 5) (by kernel_rfl) ?_
    (refine VO_doesU rfl (does_store s rfl ty26 rfl rfl (i := 2) rfl rfl rfl (by (intro u hu; simp only [List.mem_cons, List.not_mem_nil, or_false] at hu; rcases hu with rfl | rfl | rfl | rfl | rfl <;> rfl)) rfl ?_) rfl rfl rfl)
    clear s; intro w s
    try simp only [List.set_cons_zero, List.set_cons_succ, patch, List.take_succ_cons, List.take_zero, List.drop_succ_cons, List.drop_zero, List.drop_nil, List.nil_append, List.cons_append, List.append_nil, List.length_cons, List.length_nil, Nat.reduceAdd, Nat.zero_add] at s
    refine ⟨(fun h => nomatch (show true = false from h)), ?_⟩
    refine VA_done (by kernel_rfl) ?_
    refine VS_ret ?_
    repeat (refine blockV_ret ?_)
    refine fin_two (fn := Try.f59) rfl (res_ownA (cs := [_, _]) s ty30 rfl (i := 3) rfl rfl rfl) (res_ownA (cs := [_, _, _, _, _]) s ty26 rfl (i := 2) rfl rfl rfl) ?_
    exact ⟨A9, z9, _, n9, x, rfl, hnb9.mono (by omega), hxw, s.tellR (s.dat (i := 0) rfl), s.tellR (s.dat (i := 2) rfl), s.aftOut (i := 4) rfl (by omega) (by omega)⟩
  · have s := s.partsNd (i := 0) rfl
    repeat (refine VS_seq ?_)
    refine VS_region_lit ?_
    refine VL_run (d := 20) (run_eqI rfl rfl rfl) rfl rfl ?_
    refine VL_run (d := 19) (run_assign rfl (by conv => lhs; whnf)) rfl rfl ?_
    refine VL_nil ?_
    refine VS_join1 [21, 22, 23, 24] (fun _ : Unit => []) (fun _ w => ∃ (nx : Int), ∃ p3, 0 ≤ nx ∧ nx ≤ 200000000 ∧ p2 ≤ p3 ∧ p3 ≤ p2 + 1 ∧ St ok ⟨w0, [b]⟩ [.blk b5 (trC x B3 d3 B4 d4) 26, .blk b4 [.int .i64 nx, .slice A1 (Nd.list n).length z1] 30, .blk b3 tr0 26, .blk b2 nd0 30, .blk b (rdC v p3) 121] [.dat [.slice A1 (Nd.list n).length z1] (.sl (nodeDs n.list)), .dat (trC x B3 d3 B4 d4) x.toD, .dat [v] (.sl (bytesL l))] w) ?_ ?_
    · refine VS_cond rfl (fun c1 => ?_) (fun c1 => ?_) <;> (try simp only [decide_eq_true_eq, decide_eq_false_iff_not, Bool.not_eq_true', Bool.not_eq_false', ne_eq, Decidable.not_not, cond_true, cond_false, Bool.and_eq_true, Bool.or_eq_true, Bool.and_eq_false_iff, Bool.or_eq_false_iff, Bool.not_true, Bool.not_false, reduceCtorEq] at c1)
      · refine VS_region_lit ?_
        refine VL_run (d := 21) (run_move rfl (by conv => lhs; whnf)) rfl rfl ?_
        refine VL_does (d := 22) (does_call2 rfl (by kernel_rfl) rfl rfl (by exact pick_ok _ (s.rdrM (i := 4) rfl (by (repeat (first | exact .head _ | refine .tail _ ?_))) hlen (by omega)) (by omega) (by omega)) ?_) rfl rfl
        rintro v22 w22 ⟨m2, rfl, hq0, hq1, ha⟩
        (obtain ⟨p3, hp3a, hp3b, s⟩ := s.aft (i := 4) rfl ha); simp only [List.set_cons_zero, List.set_cons_succ] at s; clear ha
        refine VL_run (d := 23) (run_add rfl rfl rfl (by omega)) rfl rfl ?_
        refine VL_run (d := 24) (run_fieldAddr rfl fo30_0 rfl) rfl rfl ?_
        (refine VL_doesU (does_store s rfl ty3 rfl rfl (i := 1) rfl rfl rfl (by (intro u hu; simp only [List.mem_cons, List.not_mem_nil, or_false] at hu; subst hu; rfl)) rfl ?_) rfl rfl rfl)
        clear s; intro w s
        try simp only [List.set_cons_zero, List.set_cons_succ, patch, List.take_succ_cons, List.take_zero, List.drop_succ_cons, List.drop_zero, List.drop_nil, List.nil_append, List.cons_append, List.append_nil, List.length_cons, List.length_nil, Nat.reduceAdd, Nat.zero_add] at s
        refine VL_nil ?_
        refine VS_met (()) ?_ (by repeat (exact Has.nil _)) (by repeat (first | exact Out.refl _ _ | refine Out.upd rfl ?_))
        first
          | exact ⟨9999 + m2, p3, by omega, by omega, by omega, by omega, s.less (by (repeat (first | exact sub_nil | refine sub_cons (by (repeat (first | exact .head _ | refine .tail _ ?_))) ?_)))⟩
          | exact ⟨n.next, p2, by omega, by omega, by omega, by omega, s.less (by (repeat (first | exact sub_nil | refine sub_cons (by (repeat (first | exact .head _ | refine .tail _ ?_))) ?_)))⟩
      · repeat (refine VS_skip ?_)
        refine VS_met (()) ?_ (by repeat (exact Has.nil _)) (by repeat (exact Out.refl _ _))
        first
          | exact ⟨9999 + m2, p3, by omega, by omega, by omega, by omega, s.less (by (repeat (first | exact sub_nil | refine sub_cons (by (repeat (first | exact .head _ | refine .tail _ ?_))) ?_)))⟩
          | exact ⟨n.next, p2, by omega, by omega, by omega, by omega, s.less (by (repeat (first | exact sub_nil | refine sub_cons (by (repeat (first | exact .head _ | refine .tail _ ?_))) ?_)))⟩
    clear s
    rintro _ w j ⟨nx, p3, hx1, hx2, hp3a, hp3b, s⟩
    repeat (refine VS_seq ?_)
    refine VS_drawSub (C' := [.blk b5 (trC x B3 d3 B4 d4) 26, .blk b4 [.int .i64 nx, .slice A1 (Nd.list n).length z1] 30] ) (F' :=  []) 3 s mixed ?_
    clear s; intro s
    refine VA_take 0 (d := 25) rfl (by kernel_rfl) rfl (fun w g => see_ownA (cs := [_, _]) g rfl ty30 rfl (i := 1) rfl rfl rfl) (s.sees (fun b_ c_ t_ h_ => (show ∀ x_ ∈ ([.blk b5 (trC x B3 d3 B4 d4) 26, .blk b4 [.int .i64 nx, .slice A1 (Nd.list n).length z1] 30] : List It), x_ ∈ _ from by (repeat (first | exact sub_nil | refine sub_cons (by (repeat (first | exact .head _ | refine .tail _ ?_))) ?_))) _ h_) (by (repeat (exact sub_nil)))) ?_
    refine VA_take 1 (d := 26) rfl (by kernel_rfl) rfl (fun w g => see_ownA (cs := [_, _, _, _, _]) g rfl ty26 rfl (i := 0) rfl rfl rfl) (s.sees (fun b_ c_ t_ h_ => (show ∀ x_ ∈ ([.blk b5 (trC x B3 d3 B4 d4) 26, .blk b4 [.int .i64 nx, .slice A1 (Nd.list n).length z1] 30] : List It), x_ ∈ _ from by (repeat (first | exact sub_nil | refine sub_cons (by (repeat (first | exact .head _ | refine .tail _ ?_))) ?_))) _ h_) (by (repeat (exact sub_nil)))) ?_
    refine VA_one (i := 2) (by kernel_rfl) ?_
    (refine VO_doesU rfl (does_store s rfl ty30 rfl rfl (i := 3) rfl rfl rfl (by (intro u hu; simp only [List.mem_cons, List.not_mem_nil, or_false] at hu; rcases hu with rfl | rfl | rfl | rfl | rfl <;> rfl)) rfl ?_) rfl rfl rfl)
    clear s; intro w s
    try simp only [List.set_cons_zero, List.set_cons_succ, patch, List.take_succ_cons, List.take_zero, List.drop_succ_cons, List.drop_zero, List.drop_nil, List.nil_append, List.cons_append, List.append_nil, List.length_cons, List.length_nil, Nat.reduceAdd, Nat.zero_add] at s
    refine ⟨fun _ => s.sees (fun b_ c_ t_ h_ => (show ∀ x_ ∈ ([.blk b5 (trC x B3 d3 B4 d4) 26, .blk b4 [.int .i64 nx, .slice A1 (Nd.list n).length z1] 30] : List It), x_ ∈ _ from by (repeat (first | exact sub_nil | refine sub_cons (by (repeat (first | exact .head _ | refine .tail _ ?_))) ?_))) _ h_) (by (repeat (exact sub_nil))), ?_⟩
    refine VA_one (i := 3) (by kernel_rfl) ?_
    (refine VO_doesU rfl (does_store s rfl ty26 rfl rfl (i := 2) rfl rfl rfl (by (intro u hu; simp only [List.mem_cons, List.not_mem_nil, or_false] at hu; rcases hu with rfl | rfl | rfl | rfl | rfl <;> rfl)) rfl ?_) rfl rfl rfl)
    clear s; intro w s
    try simp only [List.set_cons_zero, List.set_cons_succ, patch, List.take_succ_cons, List.take_zero, List.drop_succ_cons, List.drop_zero, List.drop_nil, List.nil_append, List.cons_append, List.append_nil, List.length_cons, List.length_nil, Nat.reduceAdd, Nat.zero_add] at s
    refine ⟨(fun h => nomatch (show true = false from h)), ?_⟩
    refine VA_done (by kernel_rfl) ?_
    refine VS_ret ?_
    repeat (first | refine blockV_ret ?_ | refine backV_ret ?_ | refine backV2_ret ?_ | refine backV3_ret ?_ | refine thenV_ret ?_ | refine metV2_ret ?_)
    refine fin_two (fn := Try.f59) rfl (res_ownA (cs := [_, _]) s ty30 rfl (i := 3) rfl rfl rfl) (res_ownA (cs := [_, _, _, _, _]) s ty26 rfl (i := 2) rfl rfl rfl) ?_
    exact ⟨A1, z1, _, ⟨nx, n.list⟩, x, rfl, ⟨hx1, (show nx ≤ _ by omega), Nat.le_trans hn3 (by decide), fun y hy => Nat.le_trans (hn4 y hy) (by decide)⟩, hxw, s.tellR (Rd_mk2 rfl (s.dat (i := 0) rfl)), s.tellR (s.dat (i := 1) rfl), s.aftOut (i := 4) rfl (by omega) (by omega)⟩
theorem DrawNodesPath_ok {ok : Nat → Prop} {w0 : World} {v0 : Value} {l : List UInt8} (h : Rd ok w0 (.sl (bytesL l)) [v0]) (hl : l.length ≤ 1000000000) :
    Calls Try.prog 16 #[v0] w0 (Ret fun r w' => ∃ A c n id, r = .tuple #[.agg #[.int .i64 (Nd.next n), .slice A (Nd.list n).length c], .int .i64 id] ∧ NdB n 300000000 ∧ Rd (okR ok w0) w' n.toD [.int .i64 (Nd.next n), .slice A (Nd.list n).length c] ∧ Below w0.heap.size w0 w') := by
  have s := (St.start ok w0).begin h
  clear h
  refine calls_enter (n := 18) Try.func16 rfl rfl rfl ?_
  repeat (refine VS_seq ?_)
  refine VS_region_lit ?_
  refine VL_does (d := 2) (does_alloc s rfl ty30 rfl ?_) rfl rfl
  clear s; intro b2 w s
  refine VL_run (d := 3) (run_assign rfl (by conv => lhs; whnf)) rfl rfl ?_
  refine VL_nil ?_
  repeat (refine VS_seq ?_)
  refine VS_region_lit ?_
  refine VL_run (d := 7) (run_move rfl (by conv => lhs; whnf)) rfl rfl ?_
  refine VL_does (d := 8) (does_call1 rfl (by kernel_rfl) rfl (l1Open_ok (s.dat (i := 0) rfl) hl) ?_) rfl rfl
  rintro v8 w8 ⟨b, v, l', rfl, hlen, hd, hb, hge, hblk⟩
  replace s := s.opened hd hb hge hblk; clear hd hb hge hblk
  refine VL_run (d := 4) (run_assign rfl (by conv => lhs; whnf)) rfl rfl ?_
  refine VL_nil ?_
  repeat (refine VS_seq ?_)
  refine VS_region_lit ?_
  refine VL_run (d := 10) (run_move rfl (by conv => lhs; whnf)) rfl rfl ?_
  refine VL_does (d := 11) (does_call1 rfl (by kernel_rfl) rfl (by exact l61AnyNodes_ok (s.rdrM (i := 0) rfl (by (repeat (exact .head _))) hlen (by omega)) (by omega)) ?_) rfl rfl
  rintro v11 w11 ⟨A1, z1, ct, n, x, rfl, hnb, hxw, hd, hd2, ha⟩
  (obtain ⟨p1, hp1a, hp1b, s⟩ := s.aftR2 (i := 0) rfl ha hd hd2); simp only [List.set_cons_zero, List.set_cons_succ] at s; clear ha hd hd2
  obtain ⟨B3, d3, B4, d4, rfl, -, -, -, -⟩ := Tr.opn (s.dat (i := 1) rfl)
  refine VL_run (d := 9) (run_move rfl (by conv => lhs; whnf)) rfl rfl ?_
  refine VL_run (d := 12) (run_extract rfl rfl rfl) rfl rfl ?_
  refine VL_run (d := 13) (run_extract rfl rfl rfl) rfl rfl ?_
  refine VL_does (d := 5) (does_alloc s rfl ty30 rfl ?_) rfl rfl
  clear s; intro b5 w s
  refine VL_does (d := 6) (does_alloc s rfl ty26 rfl ?_) rfl rfl
  clear s; intro b6 w s
  (refine VL_doesU (does_store s rfl ty30 rfl rfl (i := 1) rfl rfl rfl (by (intro u hu; simp only [List.mem_cons, List.not_mem_nil, or_false] at hu; rcases hu with rfl | rfl | rfl | rfl | rfl <;> rfl)) rfl ?_) rfl rfl rfl)
  clear s; intro w s
  try simp only [List.set_cons_zero, List.set_cons_succ, patch, List.take_succ_cons, List.take_zero, List.drop_succ_cons, List.drop_zero, List.drop_nil, List.nil_append, List.cons_append, List.append_nil, List.length_cons, List.length_nil, Nat.reduceAdd, Nat.zero_add] at s
  (refine VL_doesU (does_store s rfl ty26 rfl rfl (i := 0) rfl rfl rfl (by (intro u hu; simp only [List.mem_cons, List.not_mem_nil, or_false] at hu; rcases hu with rfl | rfl | rfl | rfl | rfl <;> rfl)) rfl ?_) rfl rfl rfl)
  clear s; intro w s
  try simp only [List.set_cons_zero, List.set_cons_succ, patch, List.take_succ_cons, List.take_zero, List.drop_succ_cons, List.drop_zero, List.drop_nil, List.nil_append, List.cons_append, List.append_nil, List.length_cons, List.length_nil, Nat.reduceAdd, Nat.zero_add] at s
  refine VL_nil ?_
  repeat (refine VS_seq ?_)
  refine VS_drawSub (C' := [.blk b5 [.int .i64 (Nd.next n), .slice A1 (Nd.list n).length z1] 30] ) (F' :=  []) 5 s mixed ?_
  clear s; intro s
  refine VA_take 0 (d := 14) rfl (by kernel_rfl) rfl (fun w g => see_ownA (cs := [_, _]) g rfl ty30 rfl (i := 0) rfl rfl rfl) (s.sees (fun b_ c_ t_ h_ => (show ∀ x_ ∈ ([.blk b5 [.int .i64 (Nd.next n), .slice A1 (Nd.list n).length z1] 30] : List It), x_ ∈ _ from by (repeat (first | exact sub_nil | refine sub_cons (by (repeat (first | exact .head _ | refine .tail _ ?_))) ?_))) _ h_) (by (repeat (exact sub_nil)))) ?_
  refine VA_take 1 (d := 15) rfl (by kernel_rfl) rfl (fun w g => run_move rfl (by conv => lhs; whnf)) (s.sees (fun b_ c_ t_ h_ => (show ∀ x_ ∈ ([.blk b5 [.int .i64 (Nd.next n), .slice A1 (Nd.list n).length z1] 30] : List It), x_ ∈ _ from by (repeat (first | exact sub_nil | refine sub_cons (by (repeat (first | exact .head _ | refine .tail _ ?_))) ?_))) _ h_) (by (repeat (exact sub_nil)))) ?_
  refine VA_one (i := 2) (by kernel_rfl) ?_
  refine VO_does (d := 16) rfl (does_call2 rfl (by kernel_rfl) rfl rfl (by exact pick_ok _ (s.rdrM (i := 2) rfl (by (repeat (first | exact .head _ | refine .tail _ ?_))) hlen (by omega)) (by omega) (by omega)) ?_) rfl rfl
  rintro v16 w16 ⟨m, rfl, hm0, hm1, ha⟩
  (obtain ⟨p2, hp2a, hp2b, s⟩ := s.aft (i := 2) rfl ha); simp only [List.set_cons_zero, List.set_cons_succ] at s; clear ha
  refine ⟨fun _ => s.sees (fun b_ c_ t_ h_ => (show ∀ x_ ∈ ([.blk b5 [.int .i64 (Nd.next n), .slice A1 (Nd.list n).length z1] 30] : List It), x_ ∈ _ from by (repeat (first | exact sub_nil | refine sub_cons (by (repeat (first | exact .head _ | refine .tail _ ?_))) ?_))) _ h_) (by (repeat (exact sub_nil))), ?_⟩
  refine VA_take 3 (d := 17) rfl (by kernel_rfl) rfl (fun w g => run_sub rfl rfl rfl (by omega)) (s.sees (fun b_ c_ t_ h_ => (show ∀ x_ ∈ ([.blk b5 [.int .i64 (Nd.next n), .slice A1 (Nd.list n).length z1] 30] : List It), x_ ∈ _ from by (repeat (first | exact sub_nil | refine sub_cons (by (repeat (first | exact .head _ | refine .tail _ ?_))) ?_))) _ h_) (by (repeat (exact sub_nil)))) ?_
  refine VA_one (i := 4) (by kernel_rfl) ?_
  (refine VO_doesU rfl (does_store s rfl ty30 rfl rfl (i := 3) rfl rfl rfl (by (intro u hu; simp only [List.mem_cons, List.not_mem_nil, or_false] at hu; rcases hu with rfl | rfl | rfl | rfl | rfl <;> rfl)) rfl ?_) rfl rfl rfl)
  clear s; intro w s
  try simp only [List.set_cons_zero, List.set_cons_succ, patch, List.take_succ_cons, List.take_zero, List.drop_succ_cons, List.drop_zero, List.drop_nil, List.nil_append, List.cons_append, List.append_nil, List.length_cons, List.length_nil, Nat.reduceAdd, Nat.zero_add] at s
  refine ⟨fun _ => s.sees (fun b_ c_ t_ h_ => (show ∀ x_ ∈ ([.blk b5 [.int .i64 (Nd.next n), .slice A1 (Nd.list n).length z1] 30] : List It), x_ ∈ _ from by (repeat (first | exact sub_nil | refine sub_cons (by (repeat (first | exact .head _ | refine .tail _ ?_))) ?_))) _ h_) (by (repeat (exact sub_nil))), ?_⟩
  refine VA_one (i := 5) (by kernel_rfl) ?_
  refine VO_run (d := 3) rfl (run_assign rfl (by conv => lhs; whnf)) rfl rfl ((fun h => nomatch (show true = false from h))) ?_
  refine VA_done (by kernel_rfl) ?_
  refine VS_ret ?_
  repeat (first | refine blockV_ret ?_ | refine backV_ret ?_ | refine backV2_ret ?_ | refine backV3_ret ?_ | refine thenV_ret ?_ | refine metV2_ret ?_)
  (refine fin_two (fn := Try.f16) rfl (res_ownA (cs := [_, _]) s ty30 rfl (i := 3) rfl rfl rfl) (res_tmp (by conv => lhs; whnf)) ?_)
  exact ⟨A1, z1, n, _, rfl, hnb, s.tell (s.dat (i := 0) rfl), s.below⟩
theorem DrawNodesId_ok {ok : Nat → Prop} {w0 : World} {v0 : Value} {l : List UInt8} (h : Rd ok w0 (.sl (bytesL l)) [v0]) (hl : l.length ≤ 1000000000) :
    Calls Try.prog 21 #[v0] w0 (Ret fun r w' => ∃ A c n q u, r = .tuple #[.agg #[.int .i64 (Nd.next n), .slice A (Nd.list n).length c], u] ∧ NdB n 300000000 ∧ List.length q ≤ 4 ∧ Rd (okR ok w0) w' n.toD [.int .i64 (Nd.next n), .slice A (Nd.list n).length c] ∧ Rd (okR ok w0) w' (.sl (strsD q)) [u] ∧ Below w0.heap.size w0 w') := by
  have s := (St.start ok w0).begin h
  clear h
  refine calls_enter (n := 18) Try.func21 rfl rfl rfl ?_
  repeat (refine VS_seq ?_)
  refine VS_region_lit ?_
  refine VL_does (d := 2) (does_alloc s rfl ty30 rfl ?_) rfl rfl
  clear s; intro b2 w s
  refine VL_run (d := 3) (run_assign rfl (by conv => lhs; whnf)) rfl rfl ?_
  refine VL_nil ?_
  repeat (refine VS_seq ?_)
  refine VS_region_lit ?_
  refine VL_run (d := 7) (run_move rfl (by conv => lhs; whnf)) rfl rfl ?_
  refine VL_does (d := 8) (does_call1 rfl (by kernel_rfl) rfl (l1Open_ok (s.dat (i := 0) rfl) hl) ?_) rfl rfl
  rintro v8 w8 ⟨b, v, l', rfl, hlen, hd, hb, hge, hblk⟩
  replace s := s.opened hd hb hge hblk; clear hd hb hge hblk
  refine VL_run (d := 4) (run_assign rfl (by conv => lhs; whnf)) rfl rfl ?_
  refine VL_nil ?_
  repeat (refine VS_seq ?_)
  refine VS_region_lit ?_
  refine VL_run (d := 10) (run_move rfl (by conv => lhs; whnf)) rfl rfl ?_
  refine VL_does (d := 11) (does_call1 rfl (by kernel_rfl) rfl (by exact l61AnyNodes_ok (s.rdrM (i := 0) rfl (by (repeat (exact .head _))) hlen (by omega)) (by omega)) ?_) rfl rfl
  rintro v11 w11 ⟨A1, z1, ct, n, x, rfl, hnb, hxw, hd, hd2, ha⟩
  (obtain ⟨p1, hp1a, hp1b, s⟩ := s.aftR2 (i := 0) rfl ha hd hd2); simp only [List.set_cons_zero, List.set_cons_succ] at s; clear ha hd hd2
  obtain ⟨B3, d3, B4, d4, rfl, -, -, -, -⟩ := Tr.opn (s.dat (i := 1) rfl)
  refine VL_run (d := 9) (run_move rfl (by conv => lhs; whnf)) rfl rfl ?_
  refine VL_run (d := 12) (run_extract rfl rfl rfl) rfl rfl ?_
  refine VL_run (d := 13) (run_extract rfl rfl rfl) rfl rfl ?_
  refine VL_does (d := 5) (does_alloc s rfl ty30 rfl ?_) rfl rfl
  clear s; intro b5 w s
  refine VL_does (d := 6) (does_alloc s rfl ty26 rfl ?_) rfl rfl
  clear s; intro b6 w s
  (refine VL_doesU (does_store s rfl ty30 rfl rfl (i := 1) rfl rfl rfl (by (intro u hu; simp only [List.mem_cons, List.not_mem_nil, or_false] at hu; rcases hu with rfl | rfl | rfl | rfl | rfl <;> rfl)) rfl ?_) rfl rfl rfl)
  clear s; intro w s
  try simp only [List.set_cons_zero, List.set_cons_succ, patch, List.take_succ_cons, List.take_zero, List.drop_succ_cons, List.drop_zero, List.drop_nil, List.nil_append, List.cons_append, List.append_nil, List.length_cons, List.length_nil, Nat.reduceAdd, Nat.zero_add] at s
  (refine VL_doesU (does_store s rfl ty26 rfl rfl (i := 0) rfl rfl rfl (by (intro u hu; simp only [List.mem_cons, List.not_mem_nil, or_false] at hu; rcases hu with rfl | rfl | rfl | rfl | rfl <;> rfl)) rfl ?_) rfl rfl rfl)
  clear s; intro w s
  try simp only [List.set_cons_zero, List.set_cons_succ, patch, List.take_succ_cons, List.take_zero, List.drop_succ_cons, List.drop_zero, List.drop_nil, List.nil_append, List.cons_append, List.append_nil, List.length_cons, List.length_nil, Nat.reduceAdd, Nat.zero_add] at s
  refine VL_nil ?_
  repeat (refine VS_seq ?_)
  refine VS_drawSub (C' := [.blk b5 [.int .i64 (Nd.next n), .slice A1 (Nd.list n).length z1] 30, .blk b6 (trC x B3 d3 B4 d4) 26] ) (F' :=  []) 5 s mixed ?_
  clear s; intro s
  refine VA_take 0 (d := 14) rfl (by kernel_rfl) rfl (fun w g => see_ownA (cs := [_, _]) g rfl ty30 rfl (i := 0) rfl rfl rfl) (s.sees (fun b_ c_ t_ h_ => (show ∀ x_ ∈ ([.blk b5 [.int .i64 (Nd.next n), .slice A1 (Nd.list n).length z1] 30, .blk b6 (trC x B3 d3 B4 d4) 26] : List It), x_ ∈ _ from by (repeat (first | exact sub_nil | refine sub_cons (by (repeat (first | exact .head _ | refine .tail _ ?_))) ?_))) _ h_) (by (repeat (exact sub_nil)))) ?_
  refine VA_take 1 (d := 15) rfl (by kernel_rfl) rfl (fun w g => run_move rfl (by conv => lhs; whnf)) (s.sees (fun b_ c_ t_ h_ => (show ∀ x_ ∈ ([.blk b5 [.int .i64 (Nd.next n), .slice A1 (Nd.list n).length z1] 30, .blk b6 (trC x B3 d3 B4 d4) 26] : List It), x_ ∈ _ from by (repeat (first | exact sub_nil | refine sub_cons (by (repeat (first | exact .head _ | refine .tail _ ?_))) ?_))) _ h_) (by (repeat (exact sub_nil)))) ?_
  refine VA_take 2 (d := 16) rfl (by kernel_rfl) rfl (fun w g => see_ownA (cs := [_, _, _, _, _]) g rfl ty26 rfl (i := 1) rfl rfl rfl) (s.sees (fun b_ c_ t_ h_ => (show ∀ x_ ∈ ([.blk b5 [.int .i64 (Nd.next n), .slice A1 (Nd.list n).length z1] 30, .blk b6 (trC x B3 d3 B4 d4) 26] : List It), x_ ∈ _ from by (repeat (first | exact sub_nil | refine sub_cons (by (repeat (first | exact .head _ | refine .tail _ ?_))) ?_))) _ h_) (by (repeat (exact sub_nil)))) ?_
  refine VA_one (i := 3) (by kernel_rfl) ?_
  refine VO_does (d := 17) rfl (does_call2 rfl (by kernel_rfl) rfl rfl (by exact l4Path_ok x (s.rdrM (i := 2) rfl (by (repeat (first | exact .head _ | refine .tail _ ?_))) hlen (by omega)) (s.fa (.dat (trC x B3 d3 B4 d4) x.toD) (by (repeat (first | exact .head _ | refine .tail _ ?_)))) (by omega) (by omega)) ?_) rfl rfl
  rintro v17 w17 ⟨q, hq1, hq2, hq3, hd, ha⟩
  (obtain ⟨p2, hp2a, hp2b, s⟩ := s.aftR (i := 2) rfl ha hd); simp only [List.set_cons_zero, List.set_cons_succ] at s; clear ha hd
  refine ⟨fun _ => s.sees (fun b_ c_ t_ h_ => (show ∀ x_ ∈ ([.blk b5 [.int .i64 (Nd.next n), .slice A1 (Nd.list n).length z1] 30, .blk b6 (trC x B3 d3 B4 d4) 26] : List It), x_ ∈ _ from by (repeat (first | exact sub_nil | refine sub_cons (by (repeat (first | exact .head _ | refine .tail _ ?_))) ?_))) _ h_) (by (repeat (exact sub_nil))), ?_⟩
  refine VA_one (i := 4) (by kernel_rfl) ?_
  (refine VO_doesU rfl (does_store s rfl ty30 rfl rfl (i := 3) rfl rfl rfl (by (intro u hu; simp only [List.mem_cons, List.not_mem_nil, or_false] at hu; rcases hu with rfl | rfl | rfl | rfl | rfl <;> rfl)) rfl ?_) rfl rfl rfl)
  clear s; intro w s
  try simp only [List.set_cons_zero, List.set_cons_succ, patch, List.take_succ_cons, List.take_zero, List.drop_succ_cons, List.drop_zero, List.drop_nil, List.nil_append, List.cons_append, List.append_nil, List.length_cons, List.length_nil, Nat.reduceAdd, Nat.zero_add] at s
  refine ⟨fun _ => s.sees (fun b_ c_ t_ h_ => (show ∀ x_ ∈ ([.blk b5 [.int .i64 (Nd.next n), .slice A1 (Nd.list n).length z1] 30, .blk b6 (trC x B3 d3 B4 d4) 26] : List It), x_ ∈ _ from by (repeat (first | exact sub_nil | refine sub_cons (by (repeat (first | exact .head _ | refine .tail _ ?_))) ?_))) _ h_) (by (repeat (exact sub_nil))), ?_⟩
  refine VA_one (i := 5) (by kernel_rfl) ?_
  refine VO_run (d := 3) rfl (run_assign rfl (by conv => lhs; whnf)) rfl rfl ((fun h => nomatch (show true = false from h))) ?_
  refine VA_done (by kernel_rfl) ?_
  refine VS_ret ?_
  repeat (first | refine blockV_ret ?_ | refine backV_ret ?_ | refine backV2_ret ?_ | refine backV3_ret ?_ | refine thenV_ret ?_ | refine metV2_ret ?_)
  (refine fin_two (fn := Try.f21) rfl (res_ownA (cs := [_, _]) s ty30 rfl (i := 3) rfl rfl rfl) (res_tmp (by conv => lhs; whnf)) ?_)
  exact ⟨A1, z1, n, q, _, rfl, hnb, hq2, s.tell (s.dat (i := 1) rfl), s.tell (s.dat (i := 0) rfl), s.below⟩
end Go.Proofs.Ytkefaelmamgjiaa
