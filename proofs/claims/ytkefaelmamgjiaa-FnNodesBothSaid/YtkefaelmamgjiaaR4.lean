/- draws: l4Calls, l4Tree. -/
import Derived.Test.YtkefaelmamgjiaaR3
set_option linter.unusedVariables false
set_option linter.unusedSimpArgs false
set_option maxHeartbeats 4000000
namespace Go.Proofs.Ytkefaelmamgjiaa
open Go.RowKit

theorem treeDoR_small {t : Tr} (c : Cl) (ht : t.wt ≤ 2000000) : (treeDoR t c).1.wt ≤ 2000000 := by
  unfold treeDoR
  cases h : t.ok with
  | false => simp [Tr.zero_wt]
  | true =>
    cases hc : c.ok with
    | false => exact ht
    | true => exact (doR_fit (c := c) h (pathOk_wt (Cl.ok_path hc)).1).1
theorem clB.fit {M : Nat} {c : Cl} (h : clB M c) (hM : M ≤ 1000000000) : c.Fit := ⟨Nat.le_trans h.1 hM, Nat.le_trans h.2.1 hM, Nat.le_trans h.2.2 (by decide)⟩
theorem l4Calls_ok {ok : Nat → Prop} {w0 : World} {b : Nat} {v : Value} {p : Int} {l : List UInt8} (t : Tr) (n : Int) {cs : List Value} (h : Rdr ok w0 b v p l) (h2 : Rd ok w0 t.toD cs) (hp : p ≤ 1000000) (ht : t.wt ≤ 2000000) (hn : 0 ≤ n) (hn2 : n ≤ 100) :
    Calls Try.prog 116 #[.pointer (some ⟨b, 0, none⟩), .agg cs.toArray, .int .i64 n] w0 (Ret fun r w' => ∃ cc x, r = .agg (List.toArray cc) ∧ Tr.wt x ≤ 2000000 ∧ Rd (okR ok w0) w' x.toD cc ∧ Aft w0 w' b v p (50 * n)) := by
  obtain ⟨A3, n3, A4, n4, rfl, hl3, hl4, h3, h4⟩ := Tr.opn h2
  have hlen := h.len
  have hlow := h.low
  have s := (h.start.know (f := .dat (trC t A3 n3 A4 n4) t.toD) (h.rd h2))
  clear h h2 h3 h4
  refine calls_enter (n := 25) Try.func116 rfl rfl rfl ?_
  repeat (refine VS_seq ?_)
  refine VS_region_lit ?_
  refine VL_does (d := 4) (does_box s rfl rfl rfl ?_) rfl rfl
  clear s; intro b4 w s
  refine VL_does (d := 6) (does_alloc s rfl ty26 rfl ?_) rfl rfl
  clear s; intro b6 w s
  refine VL_nil ?_
  repeat (first | refine VS_seq ?_ | refine VS_block ?_)
  refine VS_loop [2, 7, 8, 9, 10, 11, 12, 13, 14, 15, 16, 17, 18, 19, 20, 21, 22, 23] (fun k : Int => [(2, .int .i64 k)]) (fun k w => ∃ x B3 d3 B4 d4 p1, St ok ⟨w0, [b]⟩ [.blk b6 tr0 26, .blk b4 (trC x B3 d3 B4 d4) 26, .blk b (rdC v p1) 121] [.dat (trC x B3 d3 B4 d4) x.toD, .dat [v] (.sl (bytesL l))] w ∧ x.wt ≤ 2000000 ∧ p ≤ p1 ∧ p1 + 50 * k ≤ p + 50 * n ∧ 0 ≤ k ∧ k ≤ n) (fun k => k.toNat) n ⟨t, _, _, _, _, p, s, ht, by omega, by omega, hn, by omega⟩ (by repeat (first | exact Has.nil _ | refine Has.cons rfl ?_)) ?_
  clear s
  rintro k w j ⟨x, B3, d3, B4, d4, p1, s, hxw, hp1, hp2, hk, hk2⟩
  repeat (refine VS_seq ?_)
  refine VS_region_lit ?_
  refine VL_run (d := 9) (run_move rfl (by conv => lhs; whnf)) rfl rfl ?_
  refine VL_run (d := 10) (run_gtI rfl rfl rfl) rfl rfl ?_
  refine VL_nil ?_
  refine VS_cond rfl (fun c0 => ?_) (fun c0 => ?_) <;> (try simp only [decide_eq_true_eq, decide_eq_false_iff_not, Bool.not_eq_true', Bool.not_eq_false', ne_eq, Decidable.not_not, cond_true, cond_false, Bool.and_eq_true, Bool.or_eq_true, Bool.and_eq_false_iff, Bool.or_eq_false_iff, Bool.not_true, Bool.not_false, reduceCtorEq] at c0)
  · repeat (first | refine VS_seq ?_ | refine VS_block ?_ | refine VS_skip ?_)
    refine VS_drawSub (C' := [.blk b4 (trC x B3 d3 B4 d4) 26] ) (F' :=  []) 9 s mixed ?_
    clear s; intro s
    refine VA_take 0 (d := 14) rfl (by kernel_rfl) rfl (fun w g => see_ownA (cs := [_, _, _, _, _]) g rfl ty26 rfl (i := 0) rfl rfl rfl) (s.sees (fun b_ c_ t_ h_ => (show ∀ x_ ∈ ([.blk b4 (trC x B3 d3 B4 d4) 26] : List It), x_ ∈ _ from by (repeat (first | exact sub_nil | refine sub_cons (by (repeat (first | exact .head _ | refine .tail _ ?_))) ?_))) _ h_) (by (repeat (exact sub_nil)))) ?_
    refine VA_take 1 (d := 15) rfl (by kernel_rfl) rfl (fun w g => run_move rfl (by conv => lhs; whnf)) (s.sees (fun b_ c_ t_ h_ => (show ∀ x_ ∈ ([.blk b4 (trC x B3 d3 B4 d4) 26] : List It), x_ ∈ _ from by (repeat (first | exact sub_nil | refine sub_cons (by (repeat (first | exact .head _ | refine .tail _ ?_))) ?_))) _ h_) (by (repeat (exact sub_nil)))) ?_
    refine VA_take 2 (d := 16) rfl (by kernel_rfl) rfl (fun w g => see_ownA (cs := [_, _, _, _, _]) g rfl ty26 rfl (i := 0) rfl rfl rfl) (s.sees (fun b_ c_ t_ h_ => (show ∀ x_ ∈ ([.blk b4 (trC x B3 d3 B4 d4) 26] : List It), x_ ∈ _ from by (repeat (first | exact sub_nil | refine sub_cons (by (repeat (first | exact .head _ | refine .tail _ ?_))) ?_))) _ h_) (by (repeat (exact sub_nil)))) ?_
    refine VA_two (i := 3) (j := 8) (by kernel_rfl) ?_ ?_
    · refine VO_does (d := 17) rfl (does_call2 rfl (by kernel_rfl) rfl rfl (by exact l4Call_ok x (s.rdrM (i := 2) rfl (by (repeat (first | exact .head _ | refine .tail _ ?_))) hlen (by omega)) (s.fa (.dat (trC x B3 d3 B4 d4) x.toD) (by (repeat (exact .head _)))) (by omega) (by omega)) ?_) rfl rfl
      rintro v17 w17 ⟨cc, c, rfl, hcB, hd, ha⟩
      (obtain ⟨p2, hp2a, hp2b, s⟩ := s.aftR (i := 2) rfl ha hd); simp only [List.set_cons_zero, List.set_cons_succ] at s; clear ha hd
      refine ⟨fun _ => s.sees (fun b_ c_ t_ h_ => (show ∀ x_ ∈ ([.blk b4 (trC x B3 d3 B4 d4) 26] : List It), x_ ∈ _ from by (repeat (first | exact sub_nil | refine sub_cons (by (repeat (first | exact .head _ | refine .tail _ ?_))) ?_))) _ h_) (by (repeat (exact sub_nil))), ?_⟩
      refine VA_two (i := 4) (j := 8) (by kernel_rfl) ?_ ?_
      · refine VO_does (d := 18) rfl (does_call2 rfl (by kernel_rfl) rfl rfl (TreeDo_ok x c (s.fa (.dat (trC x B3 d3 B4 d4) x.toD) (by (repeat (first | exact .head _ | refine .tail _ ?_)))) (s.fa (.dat cc c.toD) (by (repeat (exact .head _)))) (show x.wt ≤ 1000000000 by omega) (hcB.fit (by omega))) ?_) rfl rfl
        rintro v18 w18 ⟨cs', rfl, hr, hb⟩
        replace s := s.ret hb hr; clear hb hr
        refine ⟨fun _ => s.sees (fun b_ c_ t_ h_ => (show ∀ x_ ∈ ([.blk b4 (trC x B3 d3 B4 d4) 26] : List It), x_ ∈ _ from by (repeat (first | exact sub_nil | refine sub_cons (by (repeat (first | exact .head _ | refine .tail _ ?_))) ?_))) _ h_) (by (repeat (exact sub_nil))), ?_⟩
        obtain ⟨E3, e3, E4, e4, rfl, -, -, -, -⟩ := Tr.opn (s.dat (i := 0) rfl)
        refine VA_take 5 (d := 13) rfl (by kernel_rfl) rfl (fun w g => run_move rfl (by conv => lhs; whnf)) (s.sees (fun b_ c_ t_ h_ => (show ∀ x_ ∈ ([.blk b4 (trC x B3 d3 B4 d4) 26] : List It), x_ ∈ _ from by (repeat (first | exact sub_nil | refine sub_cons (by (repeat (first | exact .head _ | refine .tail _ ?_))) ?_))) _ h_) (by (repeat (exact sub_nil)))) ?_
        refine VA_take 6 (d := 19) rfl (by kernel_rfl) rfl (fun w g => run_extract rfl rfl rfl) (s.sees (fun b_ c_ t_ h_ => (show ∀ x_ ∈ ([.blk b4 (trC x B3 d3 B4 d4) 26] : List It), x_ ∈ _ from by (repeat (first | exact sub_nil | refine sub_cons (by (repeat (first | exact .head _ | refine .tail _ ?_))) ?_))) _ h_) (by (repeat (exact sub_nil)))) ?_
        refine VA_two (i := 7) (j := 8) (by kernel_rfl) ?_ ?_
        · refine VO_run (d := 20) rfl (run_extract rfl rfl rfl) rfl rfl (fun _ => s.sees (fun b_ c_ t_ h_ => (show ∀ x_ ∈ ([.blk b4 (trC x B3 d3 B4 d4) 26] : List It), x_ ∈ _ from by (repeat (first | exact sub_nil | refine sub_cons (by (repeat (first | exact .head _ | refine .tail _ ?_))) ?_))) _ h_) (by (repeat (exact sub_nil)))) ?_
          refine VA_one (i := 8) (by kernel_rfl) ?_
          refine VO_does (d := 7) rfl (does_alloc s rfl ty26 rfl ?_) rfl rfl
          clear s; intro b7 w s
          refine ⟨fun _ => s.sees (fun b_ c_ t_ h_ => (show ∀ x_ ∈ ([.blk b4 (trC x B3 d3 B4 d4) 26] : List It), x_ ∈ _ from by (repeat (first | exact sub_nil | refine sub_cons (by (repeat (first | exact .head _ | refine .tail _ ?_))) ?_))) _ h_) (by (repeat (exact sub_nil))), ?_⟩
          refine VA_one (i := 9) (by kernel_rfl) ?_
          (refine VO_doesU rfl (does_store s rfl ty26 rfl rfl (i := 0) rfl rfl rfl (by (intro u hu; simp only [List.mem_cons, List.not_mem_nil, or_false] at hu; rcases hu with rfl | rfl | rfl | rfl | rfl <;> rfl)) rfl ?_) rfl rfl rfl)
          clear s; intro w s
          try simp only [List.set_cons_zero, List.set_cons_succ, patch, List.take_succ_cons, List.take_zero, List.drop_succ_cons, List.drop_zero, List.drop_nil, List.nil_append, List.cons_append, List.append_nil, List.length_cons, List.length_nil, Nat.reduceAdd, Nat.zero_add] at s
          refine ⟨(fun h => nomatch (show true = false from h)), ?_⟩
          refine VA_one (i := 10) (by kernel_rfl) ?_
          refine VO_run (d := 8) rfl (run_assign rfl (by conv => lhs; whnf)) rfl rfl ((fun h => nomatch (show true = false from h))) ?_
          refine VA_done (by kernel_rfl) ?_
          repeat (refine VS_seq ?_)
          refine VS_region_lit ?_
          refine VL_run (d := 21) (run_move rfl (by conv => lhs; whnf)) rfl rfl ?_
          refine VL_run (d := 22) (run_eqI rfl rfl rfl) rfl rfl ?_
          refine VL_nil ?_
          refine VS_cond rfl (fun c1 => ?_) (fun c1 => ?_) <;> (try simp only [decide_eq_true_eq, decide_eq_false_iff_not, Bool.not_eq_true', Bool.not_eq_false', ne_eq, Decidable.not_not, cond_true, cond_false, Bool.and_eq_true, Bool.or_eq_true, Bool.and_eq_false_iff, Bool.or_eq_false_iff, Bool.not_true, Bool.not_false, reduceCtorEq] at c1)
          · refine VS_region_lit ?_
            refine VL_run (d := 23) (run_load_ownA (cs := [_, _, _, _, _]) s rfl ty26 rfl (i := 0) rfl rfl rfl) rfl rfl ?_
            (refine VL_doesU (does_store s rfl ty26 rfl rfl (i := 2) rfl rfl rfl (by (intro u hu; simp only [List.mem_cons, List.not_mem_nil, or_false] at hu; rcases hu with rfl | rfl | rfl | rfl | rfl <;> rfl)) rfl ?_) rfl rfl rfl)
            clear s; intro w s
            try simp only [List.set_cons_zero, List.set_cons_succ, patch, List.take_succ_cons, List.take_zero, List.drop_succ_cons, List.drop_zero, List.drop_nil, List.nil_append, List.cons_append, List.append_nil, List.length_cons, List.length_nil, Nat.reduceAdd, Nat.zero_add] at s
            refine VL_nil ?_
            repeat (refine VS_nil_block ?_)
            refine VS_region_lit ?_
            refine VL_run (d := 11) (run_move rfl (by conv => lhs; whnf)) rfl rfl ?_
            refine VL_run (d := 12) (run_sub rfl rfl rfl (by omega)) rfl rfl ?_
            refine VL_run (d := 2) (run_assign rfl (by conv => lhs; whnf)) rfl rfl ?_
            refine VL_nil ?_
            refine VS_back (k - 1) ?_ (by repeat (first | exact Has.nil _ | refine Has.cons rfl ?_)) (by repeat (first | exact Out.mix _ _ _ | refine Out.upd rfl ?_)) ?_
            · have hs := treeDoR_small c hxw
              first
                | exact ⟨x, B3, d3, B4, d4, p2, (s.drop 0).less (by (repeat (first | exact sub_nil | refine sub_cons (by (repeat (first | exact .head _ | refine .tail _ ?_))) ?_))), hxw, by omega, by omega, by omega, by omega⟩
                | exact ⟨(treeDoR x c).1, E3, e3, E4, e4, p2, (s.drop 0).less (by (repeat (first | exact sub_nil | refine sub_cons (by (repeat (first | exact .head _ | refine .tail _ ?_))) ?_))), hs, by omega, by omega, by omega, by omega⟩
            · omega
          · repeat (first | refine VS_skip ?_ | refine VS_nil_block ?_)
            refine VS_region_lit ?_
            refine VL_run (d := 11) (run_move rfl (by conv => lhs; whnf)) rfl rfl ?_
            refine VL_run (d := 12) (run_sub rfl rfl rfl (by omega)) rfl rfl ?_
            refine VL_run (d := 2) (run_assign rfl (by conv => lhs; whnf)) rfl rfl ?_
            refine VL_nil ?_
            refine VS_back (k - 1) ?_ (by repeat (first | exact Has.nil _ | refine Has.cons rfl ?_)) (by repeat (first | exact Out.mix _ _ _ | refine Out.upd rfl ?_)) ?_
            · have hs := treeDoR_small c hxw
              first
                | exact ⟨x, B3, d3, B4, d4, p2, (s.drop 0).less (by (repeat (first | exact sub_nil | refine sub_cons (by (repeat (first | exact .head _ | refine .tail _ ?_))) ?_))), hxw, by omega, by omega, by omega, by omega⟩
                | exact ⟨(treeDoR x c).1, E3, e3, E4, e4, p2, (s.drop 0).less (by (repeat (first | exact sub_nil | refine sub_cons (by (repeat (first | exact .head _ | refine .tail _ ?_))) ?_))), hs, by omega, by omega, by omega, by omega⟩
            · omega
        · refine VO_does (d := 7) rfl (does_alloc s rfl ty26 rfl ?_) rfl rfl
          clear s; intro b7 w s
          refine ⟨fun _ => s.sees (fun b_ c_ t_ h_ => (show ∀ x_ ∈ ([.blk b4 (trC x B3 d3 B4 d4) 26] : List It), x_ ∈ _ from by (repeat (first | exact sub_nil | refine sub_cons (by (repeat (first | exact .head _ | refine .tail _ ?_))) ?_))) _ h_) (by (repeat (exact sub_nil))), ?_⟩
          refine VA_two (i := 7) (j := 9) (by kernel_rfl) ?_ ?_
          · refine VO_run (d := 20) rfl (run_extract rfl rfl rfl) rfl rfl (fun _ => s.sees (fun b_ c_ t_ h_ => (show ∀ x_ ∈ ([.blk b4 (trC x B3 d3 B4 d4) 26] : List It), x_ ∈ _ from by (repeat (first | exact sub_nil | refine sub_cons (by (repeat (first | exact .head _ | refine .tail _ ?_))) ?_))) _ h_) (by (repeat (exact sub_nil)))) ?_
            refine VA_one (i := 9) (by kernel_rfl) ?_
            (refine VO_doesU rfl (does_store s rfl ty26 rfl rfl (i := 0) rfl rfl rfl (by (intro u hu; simp only [List.mem_cons, List.not_mem_nil, or_false] at hu; rcases hu with rfl | rfl | rfl | rfl | rfl <;> rfl)) rfl ?_) rfl rfl rfl)
            clear s; intro w s
            try simp only [List.set_cons_zero, List.set_cons_succ, patch, List.take_succ_cons, List.take_zero, List.drop_succ_cons, List.drop_zero, List.drop_nil, List.nil_append, List.cons_append, List.append_nil, List.length_cons, List.length_nil, Nat.reduceAdd, Nat.zero_add] at s
            refine ⟨(fun h => nomatch (show true = false from h)), ?_⟩
            refine VA_one (i := 10) (by kernel_rfl) ?_
            refine VO_run (d := 8) rfl (run_assign rfl (by conv => lhs; whnf)) rfl rfl ((fun h => nomatch (show true = false from h))) ?_
            refine VA_done (by kernel_rfl) ?_
            repeat (refine VS_seq ?_)
            refine VS_region_lit ?_
            refine VL_run (d := 21) (run_move rfl (by conv => lhs; whnf)) rfl rfl ?_
            refine VL_run (d := 22) (run_eqI rfl rfl rfl) rfl rfl ?_
            refine VL_nil ?_
            refine VS_cond rfl (fun c1 => ?_) (fun c1 => ?_) <;> (try simp only [decide_eq_true_eq, decide_eq_false_iff_not, Bool.not_eq_true', Bool.not_eq_false', ne_eq, Decidable.not_not, cond_true, cond_false, Bool.and_eq_true, Bool.or_eq_true, Bool.and_eq_false_iff, Bool.or_eq_false_iff, Bool.not_true, Bool.not_false, reduceCtorEq] at c1)
            · refine VS_region_lit ?_
              refine VL_run (d := 23) (run_load_ownA (cs := [_, _, _, _, _]) s rfl ty26 rfl (i := 0) rfl rfl rfl) rfl rfl ?_
              (refine VL_doesU (does_store s rfl ty26 rfl rfl (i := 2) rfl rfl rfl (by (intro u hu; simp only [List.mem_cons, List.not_mem_nil, or_false] at hu; rcases hu with rfl | rfl | rfl | rfl | rfl <;> rfl)) rfl ?_) rfl rfl rfl)
              clear s; intro w s
              try simp only [List.set_cons_zero, List.set_cons_succ, patch, List.take_succ_cons, List.take_zero, List.drop_succ_cons, List.drop_zero, List.drop_nil, List.nil_append, List.cons_append, List.append_nil, List.length_cons, List.length_nil, Nat.reduceAdd, Nat.zero_add] at s
              refine VL_nil ?_
              repeat (refine VS_nil_block ?_)
              refine VS_region_lit ?_
              refine VL_run (d := 11) (run_move rfl (by conv => lhs; whnf)) rfl rfl ?_
              refine VL_run (d := 12) (run_sub rfl rfl rfl (by omega)) rfl rfl ?_
              refine VL_run (d := 2) (run_assign rfl (by conv => lhs; whnf)) rfl rfl ?_
              refine VL_nil ?_
              refine VS_back (k - 1) ?_ (by repeat (first | exact Has.nil _ | refine Has.cons rfl ?_)) (by repeat (first | exact Out.mix _ _ _ | refine Out.upd rfl ?_)) ?_
              · have hs := treeDoR_small c hxw
                first
                  | exact ⟨x, B3, d3, B4, d4, p2, (s.drop 0).less (by (repeat (first | exact sub_nil | refine sub_cons (by (repeat (first | exact .head _ | refine .tail _ ?_))) ?_))), hxw, by omega, by omega, by omega, by omega⟩
                  | exact ⟨(treeDoR x c).1, E3, e3, E4, e4, p2, (s.drop 0).less (by (repeat (first | exact sub_nil | refine sub_cons (by (repeat (first | exact .head _ | refine .tail _ ?_))) ?_))), hs, by omega, by omega, by omega, by omega⟩
              · omega
            · repeat (first | refine VS_skip ?_ | refine VS_nil_block ?_)
              refine VS_region_lit ?_
              refine VL_run (d := 11) (run_move rfl (by conv => lhs; whnf)) rfl rfl ?_
              refine VL_run (d := 12) (run_sub rfl rfl rfl (by omega)) rfl rfl ?_
              refine VL_run (d := 2) (run_assign rfl (by conv => lhs; whnf)) rfl rfl ?_
              refine VL_nil ?_
              refine VS_back (k - 1) ?_ (by repeat (first | exact Has.nil _ | refine Has.cons rfl ?_)) (by repeat (first | exact Out.mix _ _ _ | refine Out.upd rfl ?_)) ?_
              · have hs := treeDoR_small c hxw
                first
                  | exact ⟨x, B3, d3, B4, d4, p2, (s.drop 0).less (by (repeat (first | exact sub_nil | refine sub_cons (by (repeat (first | exact .head _ | refine .tail _ ?_))) ?_))), hxw, by omega, by omega, by omega, by omega⟩
                  | exact ⟨(treeDoR x c).1, E3, e3, E4, e4, p2, (s.drop 0).less (by (repeat (first | exact sub_nil | refine sub_cons (by (repeat (first | exact .head _ | refine .tail _ ?_))) ?_))), hs, by omega, by omega, by omega, by omega⟩
              · omega
          · (refine VO_doesU rfl (does_store s rfl ty26 rfl rfl (i := 0) rfl rfl rfl (by (intro u hu; simp only [List.mem_cons, List.not_mem_nil, or_false] at hu; rcases hu with rfl | rfl | rfl | rfl | rfl <;> rfl)) rfl ?_) rfl rfl rfl)
            clear s; intro w s
            try simp only [List.set_cons_zero, List.set_cons_succ, patch, List.take_succ_cons, List.take_zero, List.drop_succ_cons, List.drop_zero, List.drop_nil, List.nil_append, List.cons_append, List.append_nil, List.length_cons, List.length_nil, Nat.reduceAdd, Nat.zero_add] at s
            refine ⟨(fun h => nomatch (show true = false from h)), ?_⟩
            refine VA_one (i := 7) (by kernel_rfl) ?_
            refine VO_run (d := 20) rfl (run_extract rfl rfl rfl) rfl rfl ((fun h => nomatch (show true = false from h))) ?_
            refine VA_one (i := 10) (by kernel_rfl) ?_
            refine VO_run (d := 8) rfl (run_assign rfl (by conv => lhs; whnf)) rfl rfl ((fun h => nomatch (show true = false from h))) ?_
            refine VA_done (by kernel_rfl) ?_
            repeat (refine VS_seq ?_)
            refine VS_region_lit ?_
            refine VL_run (d := 21) (run_move rfl (by conv => lhs; whnf)) rfl rfl ?_
            refine VL_run (d := 22) (run_eqI rfl rfl rfl) rfl rfl ?_
            refine VL_nil ?_
            refine VS_cond rfl (fun c1 => ?_) (fun c1 => ?_) <;> (try simp only [decide_eq_true_eq, decide_eq_false_iff_not, Bool.not_eq_true', Bool.not_eq_false', ne_eq, Decidable.not_not, cond_true, cond_false, Bool.and_eq_true, Bool.or_eq_true, Bool.and_eq_false_iff, Bool.or_eq_false_iff, Bool.not_true, Bool.not_false, reduceCtorEq] at c1)
            · refine VS_region_lit ?_
              refine VL_run (d := 23) (run_load_ownA (cs := [_, _, _, _, _]) s rfl ty26 rfl (i := 0) rfl rfl rfl) rfl rfl ?_
              (refine VL_doesU (does_store s rfl ty26 rfl rfl (i := 2) rfl rfl rfl (by (intro u hu; simp only [List.mem_cons, List.not_mem_nil, or_false] at hu; rcases hu with rfl | rfl | rfl | rfl | rfl <;> rfl)) rfl ?_) rfl rfl rfl)
              clear s; intro w s
              try simp only [List.set_cons_zero, List.set_cons_succ, patch, List.take_succ_cons, List.take_zero, List.drop_succ_cons, List.drop_zero, List.drop_nil, List.nil_append, List.cons_append, List.append_nil, List.length_cons, List.length_nil, Nat.reduceAdd, Nat.zero_add] at s
              refine VL_nil ?_
              repeat (refine VS_nil_block ?_)
              refine VS_region_lit ?_
              refine VL_run (d := 11) (run_move rfl (by conv => lhs; whnf)) rfl rfl ?_
              refine VL_run (d := 12) (run_sub rfl rfl rfl (by omega)) rfl rfl ?_
              refine VL_run (d := 2) (run_assign rfl (by conv => lhs; whnf)) rfl rfl ?_
              refine VL_nil ?_
              refine VS_back (k - 1) ?_ (by repeat (first | exact Has.nil _ | refine Has.cons rfl ?_)) (by repeat (first | exact Out.mix _ _ _ | refine Out.upd rfl ?_)) ?_
              · have hs := treeDoR_small c hxw
                first
                  | exact ⟨x, B3, d3, B4, d4, p2, (s.drop 0).less (by (repeat (first | exact sub_nil | refine sub_cons (by (repeat (first | exact .head _ | refine .tail _ ?_))) ?_))), hxw, by omega, by omega, by omega, by omega⟩
                  | exact ⟨(treeDoR x c).1, E3, e3, E4, e4, p2, (s.drop 0).less (by (repeat (first | exact sub_nil | refine sub_cons (by (repeat (first | exact .head _ | refine .tail _ ?_))) ?_))), hs, by omega, by omega, by omega, by omega⟩
              · omega
            · repeat (first | refine VS_skip ?_ | refine VS_nil_block ?_)
              refine VS_region_lit ?_
              refine VL_run (d := 11) (run_move rfl (by conv => lhs; whnf)) rfl rfl ?_
              refine VL_run (d := 12) (run_sub rfl rfl rfl (by omega)) rfl rfl ?_
              refine VL_run (d := 2) (run_assign rfl (by conv => lhs; whnf)) rfl rfl ?_
              refine VL_nil ?_
              refine VS_back (k - 1) ?_ (by repeat (first | exact Has.nil _ | refine Has.cons rfl ?_)) (by repeat (first | exact Out.mix _ _ _ | refine Out.upd rfl ?_)) ?_
              · have hs := treeDoR_small c hxw
                first
                  | exact ⟨x, B3, d3, B4, d4, p2, (s.drop 0).less (by (repeat (first | exact sub_nil | refine sub_cons (by (repeat (first | exact .head _ | refine .tail _ ?_))) ?_))), hxw, by omega, by omega, by omega, by omega⟩
                  | exact ⟨(treeDoR x c).1, E3, e3, E4, e4, p2, (s.drop 0).less (by (repeat (first | exact sub_nil | refine sub_cons (by (repeat (first | exact .head _ | refine .tail _ ?_))) ?_))), hs, by omega, by omega, by omega, by omega⟩
              · omega
      · refine VO_does (d := 7) rfl (does_alloc s rfl ty26 rfl ?_) rfl rfl
        clear s; intro b7 w s
        refine ⟨fun _ => s.sees (fun b_ c_ t_ h_ => (show ∀ x_ ∈ ([.blk b4 (trC x B3 d3 B4 d4) 26] : List It), x_ ∈ _ from by (repeat (first | exact sub_nil | refine sub_cons (by (repeat (first | exact .head _ | refine .tail _ ?_))) ?_))) _ h_) (by (repeat (exact sub_nil))), ?_⟩
        refine VA_one (i := 4) (by kernel_rfl) ?_
        refine VO_does (d := 18) rfl (does_call2 rfl (by kernel_rfl) rfl rfl (TreeDo_ok x c (s.fa (.dat (trC x B3 d3 B4 d4) x.toD) (by (repeat (first | exact .head _ | refine .tail _ ?_)))) (s.fa (.dat cc c.toD) (by (repeat (exact .head _)))) (show x.wt ≤ 1000000000 by omega) (hcB.fit (by omega))) ?_) rfl rfl
        rintro v18 w18 ⟨cs', rfl, hr, hb⟩
        replace s := s.ret hb hr; clear hb hr
        refine ⟨fun _ => s.sees (fun b_ c_ t_ h_ => (show ∀ x_ ∈ ([.blk b4 (trC x B3 d3 B4 d4) 26] : List It), x_ ∈ _ from by (repeat (first | exact sub_nil | refine sub_cons (by (repeat (first | exact .head _ | refine .tail _ ?_))) ?_))) _ h_) (by (repeat (exact sub_nil))), ?_⟩
        obtain ⟨E3, e3, E4, e4, rfl, -, -, -, -⟩ := Tr.opn (s.dat (i := 0) rfl)
        refine VA_take 5 (d := 13) rfl (by kernel_rfl) rfl (fun w g => run_move rfl (by conv => lhs; whnf)) (s.sees (fun b_ c_ t_ h_ => (show ∀ x_ ∈ ([.blk b4 (trC x B3 d3 B4 d4) 26] : List It), x_ ∈ _ from by (repeat (first | exact sub_nil | refine sub_cons (by (repeat (first | exact .head _ | refine .tail _ ?_))) ?_))) _ h_) (by (repeat (exact sub_nil)))) ?_
        refine VA_take 6 (d := 19) rfl (by kernel_rfl) rfl (fun w g => run_extract rfl rfl rfl) (s.sees (fun b_ c_ t_ h_ => (show ∀ x_ ∈ ([.blk b4 (trC x B3 d3 B4 d4) 26] : List It), x_ ∈ _ from by (repeat (first | exact sub_nil | refine sub_cons (by (repeat (first | exact .head _ | refine .tail _ ?_))) ?_))) _ h_) (by (repeat (exact sub_nil)))) ?_
        refine VA_two (i := 7) (j := 9) (by kernel_rfl) ?_ ?_
        · refine VO_run (d := 20) rfl (run_extract rfl rfl rfl) rfl rfl (fun _ => s.sees (fun b_ c_ t_ h_ => (show ∀ x_ ∈ ([.blk b4 (trC x B3 d3 B4 d4) 26] : List It), x_ ∈ _ from by (repeat (first | exact sub_nil | refine sub_cons (by (repeat (first | exact .head _ | refine .tail _ ?_))) ?_))) _ h_) (by (repeat (exact sub_nil)))) ?_
          refine VA_one (i := 9) (by kernel_rfl) ?_
          (refine VO_doesU rfl (does_store s rfl ty26 rfl rfl (i := 0) rfl rfl rfl (by (intro u hu; simp only [List.mem_cons, List.not_mem_nil, or_false] at hu; rcases hu with rfl | rfl | rfl | rfl | rfl <;> rfl)) rfl ?_) rfl rfl rfl)
          clear s; intro w s
          try simp only [List.set_cons_zero, List.set_cons_succ, patch, List.take_succ_cons, List.take_zero, List.drop_succ_cons, List.drop_zero, List.drop_nil, List.nil_append, List.cons_append, List.append_nil, List.length_cons, List.length_nil, Nat.reduceAdd, Nat.zero_add] at s
          refine ⟨(fun h => nomatch (show true = false from h)), ?_⟩
          refine VA_one (i := 10) (by kernel_rfl) ?_
          refine VO_run (d := 8) rfl (run_assign rfl (by conv => lhs; whnf)) rfl rfl ((fun h => nomatch (show true = false from h))) ?_
          refine VA_done (by kernel_rfl) ?_
          repeat (refine VS_seq ?_)
          refine VS_region_lit ?_
          refine VL_run (d := 21) (run_move rfl (by conv => lhs; whnf)) rfl rfl ?_
          refine VL_run (d := 22) (run_eqI rfl rfl rfl) rfl rfl ?_
          refine VL_nil ?_
          refine VS_cond rfl (fun c1 => ?_) (fun c1 => ?_) <;> (try simp only [decide_eq_true_eq, decide_eq_false_iff_not, Bool.not_eq_true', Bool.not_eq_false', ne_eq, Decidable.not_not, cond_true, cond_false, Bool.and_eq_true, Bool.or_eq_true, Bool.and_eq_false_iff, Bool.or_eq_false_iff, Bool.not_true, Bool.not_false, reduceCtorEq] at c1)
          · refine VS_region_lit ?_
            refine VL_run (d := 23) (run_load_ownA (cs := [_, _, _, _, _]) s rfl ty26 rfl (i := 0) rfl rfl rfl) rfl rfl ?_
            (refine VL_doesU (does_store s rfl ty26 rfl rfl (i := 2) rfl rfl rfl (by (intro u hu; simp only [List.mem_cons, List.not_mem_nil, or_false] at hu; rcases hu with rfl | rfl | rfl | rfl | rfl <;> rfl)) rfl ?_) rfl rfl rfl)
            clear s; intro w s
            try simp only [List.set_cons_zero, List.set_cons_succ, patch, List.take_succ_cons, List.take_zero, List.drop_succ_cons, List.drop_zero, List.drop_nil, List.nil_append, List.cons_append, List.append_nil, List.length_cons, List.length_nil, Nat.reduceAdd, Nat.zero_add] at s
            refine VL_nil ?_
            repeat (refine VS_nil_block ?_)
            refine VS_region_lit ?_
            refine VL_run (d := 11) (run_move rfl (by conv => lhs; whnf)) rfl rfl ?_
            refine VL_run (d := 12) (run_sub rfl rfl rfl (by omega)) rfl rfl ?_
            refine VL_run (d := 2) (run_assign rfl (by conv => lhs; whnf)) rfl rfl ?_
            refine VL_nil ?_
            refine VS_back (k - 1) ?_ (by repeat (first | exact Has.nil _ | refine Has.cons rfl ?_)) (by repeat (first | exact Out.mix _ _ _ | refine Out.upd rfl ?_)) ?_
            · have hs := treeDoR_small c hxw
              first
                | exact ⟨x, B3, d3, B4, d4, p2, (s.drop 0).less (by (repeat (first | exact sub_nil | refine sub_cons (by (repeat (first | exact .head _ | refine .tail _ ?_))) ?_))), hxw, by omega, by omega, by omega, by omega⟩
                | exact ⟨(treeDoR x c).1, E3, e3, E4, e4, p2, (s.drop 0).less (by (repeat (first | exact sub_nil | refine sub_cons (by (repeat (first | exact .head _ | refine .tail _ ?_))) ?_))), hs, by omega, by omega, by omega, by omega⟩
            · omega
          · repeat (first | refine VS_skip ?_ | refine VS_nil_block ?_)
            refine VS_region_lit ?_
            refine VL_run (d := 11) (run_move rfl (by conv => lhs; whnf)) rfl rfl ?_
            refine VL_run (d := 12) (run_sub rfl rfl rfl (by omega)) rfl rfl ?_
            refine VL_run (d := 2) (run_assign rfl (by conv => lhs; whnf)) rfl rfl ?_
            refine VL_nil ?_
            refine VS_back (k - 1) ?_ (by repeat (first | exact Has.nil _ | refine Has.cons rfl ?_)) (by repeat (first | exact Out.mix _ _ _ | refine Out.upd rfl ?_)) ?_
            · have hs := treeDoR_small c hxw
              first
                | exact ⟨x, B3, d3, B4, d4, p2, (s.drop 0).less (by (repeat (first | exact sub_nil | refine sub_cons (by (repeat (first | exact .head _ | refine .tail _ ?_))) ?_))), hxw, by omega, by omega, by omega, by omega⟩
                | exact ⟨(treeDoR x c).1, E3, e3, E4, e4, p2, (s.drop 0).less (by (repeat (first | exact sub_nil | refine sub_cons (by (repeat (first | exact .head _ | refine .tail _ ?_))) ?_))), hs, by omega, by omega, by omega, by omega⟩
            · omega
        · (refine VO_doesU rfl (does_store s rfl ty26 rfl rfl (i := 0) rfl rfl rfl (by (intro u hu; simp only [List.mem_cons, List.not_mem_nil, or_false] at hu; rcases hu with rfl | rfl | rfl | rfl | rfl <;> rfl)) rfl ?_) rfl rfl rfl)
          clear s; intro w s
          try simp only [List.set_cons_zero, List.set_cons_succ, patch, List.take_succ_cons, List.take_zero, List.drop_succ_cons, List.drop_zero, List.drop_nil, List.nil_append, List.cons_append, List.append_nil, List.length_cons, List.length_nil, Nat.reduceAdd, Nat.zero_add] at s
          refine ⟨(fun h => nomatch (show true = false from h)), ?_⟩
          refine VA_one (i := 7) (by kernel_rfl) ?_
          refine VO_run (d := 20) rfl (run_extract rfl rfl rfl) rfl rfl ((fun h => nomatch (show true = false from h))) ?_
          refine VA_one (i := 10) (by kernel_rfl) ?_
          refine VO_run (d := 8) rfl (run_assign rfl (by conv => lhs; whnf)) rfl rfl ((fun h => nomatch (show true = false from h))) ?_
          refine VA_done (by kernel_rfl) ?_
          repeat (refine VS_seq ?_)
          refine VS_region_lit ?_
          refine VL_run (d := 21) (run_move rfl (by conv => lhs; whnf)) rfl rfl ?_
          refine VL_run (d := 22) (run_eqI rfl rfl rfl) rfl rfl ?_
          refine VL_nil ?_
          refine VS_cond rfl (fun c1 => ?_) (fun c1 => ?_) <;> (try simp only [decide_eq_true_eq, decide_eq_false_iff_not, Bool.not_eq_true', Bool.not_eq_false', ne_eq, Decidable.not_not, cond_true, cond_false, Bool.and_eq_true, Bool.or_eq_true, Bool.and_eq_false_iff, Bool.or_eq_false_iff, Bool.not_true, Bool.not_false, reduceCtorEq] at c1)
          · refine VS_region_lit ?_
            refine VL_run (d := 23) (run_load_ownA (cs := [_, _, _, _, _]) s rfl ty26 rfl (i := 0) rfl rfl rfl) rfl rfl ?_
            (refine VL_doesU (does_store s rfl ty26 rfl rfl (i := 2) rfl rfl rfl (by (intro u hu; simp only [List.mem_cons, List.not_mem_nil, or_false] at hu; rcases hu with rfl | rfl | rfl | rfl | rfl <;> rfl)) rfl ?_) rfl rfl rfl)
            clear s; intro w s
            try simp only [List.set_cons_zero, List.set_cons_succ, patch, List.take_succ_cons, List.take_zero, List.drop_succ_cons, List.drop_zero, List.drop_nil, List.nil_append, List.cons_append, List.append_nil, List.length_cons, List.length_nil, Nat.reduceAdd, Nat.zero_add] at s
            refine VL_nil ?_
            repeat (refine VS_nil_block ?_)
            refine VS_region_lit ?_
            refine VL_run (d := 11) (run_move rfl (by conv => lhs; whnf)) rfl rfl ?_
            refine VL_run (d := 12) (run_sub rfl rfl rfl (by omega)) rfl rfl ?_
            refine VL_run (d := 2) (run_assign rfl (by conv => lhs; whnf)) rfl rfl ?_
            refine VL_nil ?_
            refine VS_back (k - 1) ?_ (by repeat (first | exact Has.nil _ | refine Has.cons rfl ?_)) (by repeat (first | exact Out.mix _ _ _ | refine Out.upd rfl ?_)) ?_
            · have hs := treeDoR_small c hxw
              first
                | exact ⟨x, B3, d3, B4, d4, p2, (s.drop 0).less (by (repeat (first | exact sub_nil | refine sub_cons (by (repeat (first | exact .head _ | refine .tail _ ?_))) ?_))), hxw, by omega, by omega, by omega, by omega⟩
                | exact ⟨(treeDoR x c).1, E3, e3, E4, e4, p2, (s.drop 0).less (by (repeat (first | exact sub_nil | refine sub_cons (by (repeat (first | exact .head _ | refine .tail _ ?_))) ?_))), hs, by omega, by omega, by omega, by omega⟩
            · omega
          · repeat (first | refine VS_skip ?_ | refine VS_nil_block ?_)
            refine VS_region_lit ?_
            refine VL_run (d := 11) (run_move rfl (by conv => lhs; whnf)) rfl rfl ?_
            refine VL_run (d := 12) (run_sub rfl rfl rfl (by omega)) rfl rfl ?_
            refine VL_run (d := 2) (run_assign rfl (by conv => lhs; whnf)) rfl rfl ?_
            refine VL_nil ?_
            refine VS_back (k - 1) ?_ (by repeat (first | exact Has.nil _ | refine Has.cons rfl ?_)) (by repeat (first | exact Out.mix _ _ _ | refine Out.upd rfl ?_)) ?_
            · have hs := treeDoR_small c hxw
              first
                | exact ⟨x, B3, d3, B4, d4, p2, (s.drop 0).less (by (repeat (first | exact sub_nil | refine sub_cons (by (repeat (first | exact .head _ | refine .tail _ ?_))) ?_))), hxw, by omega, by omega, by omega, by omega⟩
                | exact ⟨(treeDoR x c).1, E3, e3, E4, e4, p2, (s.drop 0).less (by (repeat (first | exact sub_nil | refine sub_cons (by (repeat (first | exact .head _ | refine .tail _ ?_))) ?_))), hs, by omega, by omega, by omega, by omega⟩
            · omega
    · refine VO_does (d := 7) rfl (does_alloc s rfl ty26 rfl ?_) rfl rfl
      clear s; intro b7 w s
      refine ⟨fun _ => s.sees (fun b_ c_ t_ h_ => (show ∀ x_ ∈ ([.blk b4 (trC x B3 d3 B4 d4) 26] : List It), x_ ∈ _ from by (repeat (first | exact sub_nil | refine sub_cons (by (repeat (first | exact .head _ | refine .tail _ ?_))) ?_))) _ h_) (by (repeat (exact sub_nil))), ?_⟩
      refine VA_one (i := 3) (by kernel_rfl) ?_
      refine VO_does (d := 17) rfl (does_call2 rfl (by kernel_rfl) rfl rfl (by exact l4Call_ok x (s.rdrM (i := 3) rfl (by (repeat (first | exact .head _ | refine .tail _ ?_))) hlen (by omega)) (s.fa (.dat (trC x B3 d3 B4 d4) x.toD) (by (repeat (exact .head _)))) (by omega) (by omega)) ?_) rfl rfl
      rintro v17 w17 ⟨cc, c, rfl, hcB, hd, ha⟩
      (obtain ⟨p2, hp2a, hp2b, s⟩ := s.aftR (i := 3) rfl ha hd); simp only [List.set_cons_zero, List.set_cons_succ] at s; clear ha hd
      refine ⟨fun _ => s.sees (fun b_ c_ t_ h_ => (show ∀ x_ ∈ ([.blk b4 (trC x B3 d3 B4 d4) 26] : List It), x_ ∈ _ from by (repeat (first | exact sub_nil | refine sub_cons (by (repeat (first | exact .head _ | refine .tail _ ?_))) ?_))) _ h_) (by (repeat (exact sub_nil))), ?_⟩
      refine VA_one (i := 4) (by kernel_rfl) ?_
      refine VO_does (d := 18) rfl (does_call2 rfl (by kernel_rfl) rfl rfl (TreeDo_ok x c (s.fa (.dat (trC x B3 d3 B4 d4) x.toD) (by (repeat (first | exact .head _ | refine .tail _ ?_)))) (s.fa (.dat cc c.toD) (by (repeat (exact .head _)))) (show x.wt ≤ 1000000000 by omega) (hcB.fit (by omega))) ?_) rfl rfl
      rintro v18 w18 ⟨cs', rfl, hr, hb⟩
      replace s := s.ret hb hr; clear hb hr
      refine ⟨fun _ => s.sees (fun b_ c_ t_ h_ => (show ∀ x_ ∈ ([.blk b4 (trC x B3 d3 B4 d4) 26] : List It), x_ ∈ _ from by (repeat (first | exact sub_nil | refine sub_cons (by (repeat (first | exact .head _ | refine .tail _ ?_))) ?_))) _ h_) (by (repeat (exact sub_nil))), ?_⟩
      obtain ⟨E3, e3, E4, e4, rfl, -, -, -, -⟩ := Tr.opn (s.dat (i := 0) rfl)
      refine VA_take 5 (d := 13) rfl (by kernel_rfl) rfl (fun w g => run_move rfl (by conv => lhs; whnf)) (s.sees (fun b_ c_ t_ h_ => (show ∀ x_ ∈ ([.blk b4 (trC x B3 d3 B4 d4) 26] : List It), x_ ∈ _ from by (repeat (first | exact sub_nil | refine sub_cons (by (repeat (first | exact .head _ | refine .tail _ ?_))) ?_))) _ h_) (by (repeat (exact sub_nil)))) ?_
      refine VA_take 6 (d := 19) rfl (by kernel_rfl) rfl (fun w g => run_extract rfl rfl rfl) (s.sees (fun b_ c_ t_ h_ => (show ∀ x_ ∈ ([.blk b4 (trC x B3 d3 B4 d4) 26] : List It), x_ ∈ _ from by (repeat (first | exact sub_nil | refine sub_cons (by (repeat (first | exact .head _ | refine .tail _ ?_))) ?_))) _ h_) (by (repeat (exact sub_nil)))) ?_
      refine VA_two (i := 7) (j := 9) (by kernel_rfl) ?_ ?_
      · refine VO_run (d := 20) rfl (run_extract rfl rfl rfl) rfl rfl (fun _ => s.sees (fun b_ c_ t_ h_ => (show ∀ x_ ∈ ([.blk b4 (trC x B3 d3 B4 d4) 26] : List It), x_ ∈ _ from by (repeat (first | exact sub_nil | refine sub_cons (by (repeat (first | exact .head _ | refine .tail _ ?_))) ?_))) _ h_) (by (repeat (exact sub_nil)))) ?_
        refine VA_one (i := 9) (by kernel_rfl) ?_
        (refine VO_doesU rfl (does_store s rfl ty26 rfl rfl (i := 0) rfl rfl rfl (by (intro u hu; simp only [List.mem_cons, List.not_mem_nil, or_false] at hu; rcases hu with rfl | rfl | rfl | rfl | rfl <;> rfl)) rfl ?_) rfl rfl rfl)
        clear s; intro w s
        try simp only [List.set_cons_zero, List.set_cons_succ, patch, List.take_succ_cons, List.take_zero, List.drop_succ_cons, List.drop_zero, List.drop_nil, List.nil_append, List.cons_append, List.append_nil, List.length_cons, List.length_nil, Nat.reduceAdd, Nat.zero_add] at s
        refine ⟨(fun h => nomatch (show true = false from h)), ?_⟩
        refine VA_one (i := 10) (by kernel_rfl) ?_
        refine VO_run (d := 8) rfl (run_assign rfl (by conv => lhs; whnf)) rfl rfl ((fun h => nomatch (show true = false from h))) ?_
        refine VA_done (by kernel_rfl) ?_
        repeat (refine VS_seq ?_)
        refine VS_region_lit ?_
        refine VL_run (d := 21) (run_move rfl (by conv => lhs; whnf)) rfl rfl ?_
        refine VL_run (d := 22) (run_eqI rfl rfl rfl) rfl rfl ?_
        refine VL_nil ?_
        refine VS_cond rfl (fun c1 => ?_) (fun c1 => ?_) <;> (try simp only [decide_eq_true_eq, decide_eq_false_iff_not, Bool.not_eq_true', Bool.not_eq_false', ne_eq, Decidable.not_not, cond_true, cond_false, Bool.and_eq_true, Bool.or_eq_true, Bool.and_eq_false_iff, Bool.or_eq_false_iff, Bool.not_true, Bool.not_false, reduceCtorEq] at c1)
        · refine VS_region_lit ?_
          refine VL_run (d := 23) (run_load_ownA (cs := [_, _, _, _, _]) s rfl ty26 rfl (i := 0) rfl rfl rfl) rfl rfl ?_
          (refine VL_doesU (does_store s rfl ty26 rfl rfl (i := 2) rfl rfl rfl (by (intro u hu; simp only [List.mem_cons, List.not_mem_nil, or_false] at hu; rcases hu with rfl | rfl | rfl | rfl | rfl <;> rfl)) rfl ?_) rfl rfl rfl)
          clear s; intro w s
          try simp only [List.set_cons_zero, List.set_cons_succ, patch, List.take_succ_cons, List.take_zero, List.drop_succ_cons, List.drop_zero, List.drop_nil, List.nil_append, List.cons_append, List.append_nil, List.length_cons, List.length_nil, Nat.reduceAdd, Nat.zero_add] at s
          refine VL_nil ?_
          repeat (refine VS_nil_block ?_)
          refine VS_region_lit ?_
          refine VL_run (d := 11) (run_move rfl (by conv => lhs; whnf)) rfl rfl ?_
          refine VL_run (d := 12) (run_sub rfl rfl rfl (by omega)) rfl rfl ?_
          refine VL_run (d := 2) (run_assign rfl (by conv => lhs; whnf)) rfl rfl ?_
          refine VL_nil ?_
          refine VS_back (k - 1) ?_ (by repeat (first | exact Has.nil _ | refine Has.cons rfl ?_)) (by repeat (first | exact Out.mix _ _ _ | refine Out.upd rfl ?_)) ?_
          · have hs := treeDoR_small c hxw
            first
              | exact ⟨x, B3, d3, B4, d4, p2, (s.drop 0).less (by (repeat (first | exact sub_nil | refine sub_cons (by (repeat (first | exact .head _ | refine .tail _ ?_))) ?_))), hxw, by omega, by omega, by omega, by omega⟩
              | exact ⟨(treeDoR x c).1, E3, e3, E4, e4, p2, (s.drop 0).less (by (repeat (first | exact sub_nil | refine sub_cons (by (repeat (first | exact .head _ | refine .tail _ ?_))) ?_))), hs, by omega, by omega, by omega, by omega⟩
          · omega
        · repeat (first | refine VS_skip ?_ | refine VS_nil_block ?_)
          refine VS_region_lit ?_
          refine VL_run (d := 11) (run_move rfl (by conv => lhs; whnf)) rfl rfl ?_
          refine VL_run (d := 12) (run_sub rfl rfl rfl (by omega)) rfl rfl ?_
          refine VL_run (d := 2) (run_assign rfl (by conv => lhs; whnf)) rfl rfl ?_
          refine VL_nil ?_
          refine VS_back (k - 1) ?_ (by repeat (first | exact Has.nil _ | refine Has.cons rfl ?_)) (by repeat (first | exact Out.mix _ _ _ | refine Out.upd rfl ?_)) ?_
          · have hs := treeDoR_small c hxw
            first
              | exact ⟨x, B3, d3, B4, d4, p2, (s.drop 0).less (by (repeat (first | exact sub_nil | refine sub_cons (by (repeat (first | exact .head _ | refine .tail _ ?_))) ?_))), hxw, by omega, by omega, by omega, by omega⟩
              | exact ⟨(treeDoR x c).1, E3, e3, E4, e4, p2, (s.drop 0).less (by (repeat (first | exact sub_nil | refine sub_cons (by (repeat (first | exact .head _ | refine .tail _ ?_))) ?_))), hs, by omega, by omega, by omega, by omega⟩
          · omega
      · (refine VO_doesU rfl (does_store s rfl ty26 rfl rfl (i := 0) rfl rfl rfl (by (intro u hu; simp only [List.mem_cons, List.not_mem_nil, or_false] at hu; rcases hu with rfl | rfl | rfl | rfl | rfl <;> rfl)) rfl ?_) rfl rfl rfl)
        clear s; intro w s
        try simp only [List.set_cons_zero, List.set_cons_succ, patch, List.take_succ_cons, List.take_zero, List.drop_succ_cons, List.drop_zero, List.drop_nil, List.nil_append, List.cons_append, List.append_nil, List.length_cons, List.length_nil, Nat.reduceAdd, Nat.zero_add] at s
        refine ⟨(fun h => nomatch (show true = false from h)), ?_⟩
        refine VA_one (i := 7) (by kernel_rfl) ?_
        refine VO_run (d := 20) rfl (run_extract rfl rfl rfl) rfl rfl ((fun h => nomatch (show true = false from h))) ?_
        refine VA_one (i := 10) (by kernel_rfl) ?_
        refine VO_run (d := 8) rfl (run_assign rfl (by conv => lhs; whnf)) rfl rfl ((fun h => nomatch (show true = false from h))) ?_
        refine VA_done (by kernel_rfl) ?_
        repeat (refine VS_seq ?_)
        refine VS_region_lit ?_
        refine VL_run (d := 21) (run_move rfl (by conv => lhs; whnf)) rfl rfl ?_
        refine VL_run (d := 22) (run_eqI rfl rfl rfl) rfl rfl ?_
        refine VL_nil ?_
        refine VS_cond rfl (fun c1 => ?_) (fun c1 => ?_) <;> (try simp only [decide_eq_true_eq, decide_eq_false_iff_not, Bool.not_eq_true', Bool.not_eq_false', ne_eq, Decidable.not_not, cond_true, cond_false, Bool.and_eq_true, Bool.or_eq_true, Bool.and_eq_false_iff, Bool.or_eq_false_iff, Bool.not_true, Bool.not_false, reduceCtorEq] at c1)
        · refine VS_region_lit ?_
          refine VL_run (d := 23) (run_load_ownA (cs := [_, _, _, _, _]) s rfl ty26 rfl (i := 0) rfl rfl rfl) rfl rfl ?_
          (refine VL_doesU (does_store s rfl ty26 rfl rfl (i := 2) rfl rfl rfl (by (intro u hu; simp only [List.mem_cons, List.not_mem_nil, or_false] at hu; rcases hu with rfl | rfl | rfl | rfl | rfl <;> rfl)) rfl ?_) rfl rfl rfl)
          clear s; intro w s
          try simp only [List.set_cons_zero, List.set_cons_succ, patch, List.take_succ_cons, List.take_zero, List.drop_succ_cons, List.drop_zero, List.drop_nil, List.nil_append, List.cons_append, List.append_nil, List.length_cons, List.length_nil, Nat.reduceAdd, Nat.zero_add] at s
          refine VL_nil ?_
          repeat (refine VS_nil_block ?_)
          refine VS_region_lit ?_
          refine VL_run (d := 11) (run_move rfl (by conv => lhs; whnf)) rfl rfl ?_
          refine VL_run (d := 12) (run_sub rfl rfl rfl (by omega)) rfl rfl ?_
          refine VL_run (d := 2) (run_assign rfl (by conv => lhs; whnf)) rfl rfl ?_
          refine VL_nil ?_
          refine VS_back (k - 1) ?_ (by repeat (first | exact Has.nil _ | refine Has.cons rfl ?_)) (by repeat (first | exact Out.mix _ _ _ | refine Out.upd rfl ?_)) ?_
          · have hs := treeDoR_small c hxw
            first
              | exact ⟨x, B3, d3, B4, d4, p2, (s.drop 0).less (by (repeat (first | exact sub_nil | refine sub_cons (by (repeat (first | exact .head _ | refine .tail _ ?_))) ?_))), hxw, by omega, by omega, by omega, by omega⟩
              | exact ⟨(treeDoR x c).1, E3, e3, E4, e4, p2, (s.drop 0).less (by (repeat (first | exact sub_nil | refine sub_cons (by (repeat (first | exact .head _ | refine .tail _ ?_))) ?_))), hs, by omega, by omega, by omega, by omega⟩
          · omega
        · repeat (first | refine VS_skip ?_ | refine VS_nil_block ?_)
          refine VS_region_lit ?_
          refine VL_run (d := 11) (run_move rfl (by conv => lhs; whnf)) rfl rfl ?_
          refine VL_run (d := 12) (run_sub rfl rfl rfl (by omega)) rfl rfl ?_
          refine VL_run (d := 2) (run_assign rfl (by conv => lhs; whnf)) rfl rfl ?_
          refine VL_nil ?_
          refine VS_back (k - 1) ?_ (by repeat (first | exact Has.nil _ | refine Has.cons rfl ?_)) (by repeat (first | exact Out.mix _ _ _ | refine Out.upd rfl ?_)) ?_
          · have hs := treeDoR_small c hxw
            first
              | exact ⟨x, B3, d3, B4, d4, p2, (s.drop 0).less (by (repeat (first | exact sub_nil | refine sub_cons (by (repeat (first | exact .head _ | refine .tail _ ?_))) ?_))), hxw, by omega, by omega, by omega, by omega⟩
              | exact ⟨(treeDoR x c).1, E3, e3, E4, e4, p2, (s.drop 0).less (by (repeat (first | exact sub_nil | refine sub_cons (by (repeat (first | exact .head _ | refine .tail _ ?_))) ?_))), hs, by omega, by omega, by omega, by omega⟩
          · omega
  · refine VS_exit ?_
    repeat (first | refine blockV_hit ?_ | refine backV_exit ?_)
    repeat (refine VS_seq ?_)
    refine VS_region_lit ?_
    refine VL_run (d := 24) (run_load_ownA (cs := [_, _, _, _, _]) s rfl ty26 rfl (i := 1) rfl rfl rfl) rfl rfl ?_
    (refine VL_doesU (does_store s rfl ty26 rfl rfl (i := 0) rfl rfl rfl (by (intro u hu; simp only [List.mem_cons, List.not_mem_nil, or_false] at hu; rcases hu with rfl | rfl | rfl | rfl | rfl <;> rfl)) rfl ?_) rfl rfl rfl)
    clear s; intro w s
    try simp only [List.set_cons_zero, List.set_cons_succ, patch, List.take_succ_cons, List.take_zero, List.drop_succ_cons, List.drop_zero, List.drop_nil, List.nil_append, List.cons_append, List.append_nil, List.length_cons, List.length_nil, Nat.reduceAdd, Nat.zero_add] at s
    refine VL_nil ?_
    refine VS_ret ?_
    repeat (first | refine blockV_ret ?_ | refine backV_ret ?_ | refine backV2_ret ?_ | refine backV3_ret ?_ | refine thenV_ret ?_ | refine metV2_ret ?_)
    refine fin_one (fn := Try.f116) rfl (res_ownA (cs := [_, _, _, _, _]) s ty26 rfl (i := 0) rfl rfl rfl) ?_
    exact ⟨_, x, rfl, hxw, s.tellR (s.dat (i := 0) rfl), s.aftOut (i := 2) rfl (by omega) (by omega)⟩
theorem l4Tree_ok {ok : Nat → Prop} {w0 : World} {b : Nat} {v : Value} {p : Int} {l : List UInt8} (h : Rdr ok w0 b v p l) (hp : p ≤ 100000) :
    Calls Try.prog 83 #[.pointer (some ⟨b, 0, none⟩)] w0 (Ret fun r w' => ∃ cc x, r = .agg (List.toArray cc) ∧ Tr.wt x ≤ 2000000 ∧ Rd (okR ok w0) w' x.toD cc ∧ Aft w0 w' b v p 500) := by
  have hlen := h.len
  have hlow := h.low
  have s := h.start
  clear h
  refine calls_enter (n := 47) Try.func83 rfl rfl rfl ?_
  repeat (refine VS_seq ?_)
  refine VS_region_lit ?_
  refine VL_does (d := 2) (does_alloc s rfl ty26 rfl ?_) rfl rfl
  clear s; intro b2 w s
  refine VL_nil ?_
  repeat (refine VS_seq ?_)
  refine VS_region_lit ?_
  refine VL_run (d := 8) (run_move rfl (by conv => lhs; whnf)) rfl rfl ?_
  refine VL_does (d := 9) (does_call2 rfl (by kernel_rfl) rfl rfl (by exact pick_ok _ (s.rdrM (i := 1) rfl (by (repeat (exact .head _))) hlen (by omega)) (by omega) (by omega)) ?_) rfl rfl
  rintro v9 w9 ⟨n, rfl, hn0, hn1, ha⟩
  (obtain ⟨p1, hp1a, hp1b, s⟩ := s.aft (i := 1) rfl ha); simp only [List.set_cons_zero, List.set_cons_succ] at s; clear ha
  refine VL_run (d := 10) (run_move rfl (by conv => lhs; whnf)) rfl rfl ?_
  refine VL_does (d := 11) (does_call2 rfl (by kernel_rfl) rfl rfl (by exact pick_ok _ (s.rdrM (i := 1) rfl (by (repeat (exact .head _))) hlen (by omega)) (by omega) (by omega)) ?_) rfl rfl
  rintro v11 w11 ⟨n2, rfl, hm0, hm1, ha⟩
  (obtain ⟨p2, hp2a, hp2b, s⟩ := s.aft (i := 1) rfl ha); simp only [List.set_cons_zero, List.set_cons_succ] at s; clear ha
  have hmul : 0 ≤ n * n2 ∧ n * n2 ≤ 7 * 1 := ⟨Int.mul_nonneg hn0 hm0, Int.mul_le_mul (show n ≤ 7 by omega) (show n2 ≤ 1 by omega) hm0 (by decide)⟩
  refine VL_run (d := 12) (run_mul rfl rfl rfl (by omega)) rfl rfl ?_
  refine VL_run (d := 13) (run_build (cs := [.bool _, .int .i64 _, .string ⟨#[]⟩, .slice none 0 0, .slice none 0 0]) rfl ty26 st26 rfl) rfl rfl ?_
  refine VL_does (d := 3) (does_alloc s rfl ty26 rfl ?_) rfl rfl
  clear s; intro b3 w s
  (refine VL_doesU (does_store s rfl ty26 rfl rfl (i := 0) rfl rfl rfl (by (intro u hu; simp only [List.mem_cons, List.not_mem_nil, or_false] at hu; rcases hu with rfl | rfl | rfl | rfl | rfl <;> rfl)) rfl ?_) rfl rfl rfl)
  clear s; intro w s
  try simp only [List.set_cons_zero, List.set_cons_succ, patch, List.take_succ_cons, List.take_zero, List.drop_succ_cons, List.drop_zero, List.drop_nil, List.nil_append, List.cons_append, List.append_nil, List.length_cons, List.length_nil, Nat.reduceAdd, Nat.zero_add] at s
  refine VL_nil ?_
  repeat (refine VS_seq ?_)
  refine VS_region_lit ?_
  refine VL_run (d := 14) (run_move rfl (by conv => lhs; whnf)) rfl rfl ?_
  refine VL_does (d := 15) (does_call2 rfl (by kernel_rfl) rfl rfl (by exact pick_ok _ (s.rdrM (i := 2) rfl (by (repeat (exact .head _))) hlen (by omega)) (by omega) (by omega)) ?_) rfl rfl
  rintro v15 w15 ⟨n3, rfl, hl0, hl1, ha⟩
  (obtain ⟨p3, hp3a, hp3b, s⟩ := s.aft (i := 2) rfl ha); simp only [List.set_cons_zero, List.set_cons_succ] at s; clear ha
  refine VL_run (d := 4) (run_assign rfl (by conv => lhs; whnf)) rfl rfl ?_
  refine VL_nil ?_
  repeat (refine VS_block ?_)
  refine VS_loop [4, 5, 6, 7, 16, 17, 18, 19, 20, 21, 22, 23, 24, 25, 26, 27, 28, 29, 30, 31, 32, 33, 34, 35, 36, 37, 38, 39, 40, 41] (fun k : Int => [(4, .int .i64 k)]) (fun k w => ∃ x B3 d3 B4 d4 p1, St ok ⟨w0, [b]⟩ [.blk b3 (trC x B3 d3 B4 d4) 26, .blk b2 tr0 26, .blk b (rdC v p1) 121] [.dat (trC x B3 d3 B4 d4) x.toD, .dat [v] (.sl (bytesL l))] w ∧ x.wt ≤ 2000000 ∧ p ≤ p1 ∧ p1 + 20 * k ≤ p + 230 ∧ 0 ≤ k ∧ k ≤ 11) (fun k => k.toNat) n3 ⟨.mk true (n * n2) ⟨#[]⟩ [] [], none, 0, none, 0, p3, (s.know (f := .dat (trC (.mk true (n * n2) ⟨#[]⟩ [] []) none 0 none 0) (Tr.mk true (n * n2) ⟨#[]⟩ [] []).toD) (Rd_mk5 rfl rfl rfl ⟨none, 0, rfl, Nat.le_refl _, trivial⟩ ⟨none, 0, rfl, Nat.le_refl _, trivial⟩)), (show 1 ≤ 2000000 by decide), by omega, by omega, hl0, by omega⟩ (by repeat (first | exact Has.nil _ | refine Has.cons rfl ?_)) ?_
  clear s
  rintro k w j ⟨x, B3, d3, B4, d4, p4, s, hxw, hp4a, hp4b, hk, hk2⟩
  repeat (refine VS_seq ?_)
  refine VS_region_lit ?_
  refine VL_run (d := 16) (run_move rfl (by conv => lhs; whnf)) rfl rfl ?_
  refine VL_run (d := 17) (run_gtI rfl rfl rfl) rfl rfl ?_
  refine VL_nil ?_
  refine VS_cond rfl (fun c0 => ?_) (fun c0 => ?_) <;> (try simp only [decide_eq_true_eq, decide_eq_false_iff_not, Bool.not_eq_true', Bool.not_eq_false', ne_eq, Decidable.not_not, cond_true, cond_false, Bool.and_eq_true, Bool.or_eq_true, Bool.and_eq_false_iff, Bool.or_eq_false_iff, Bool.not_true, Bool.not_false, reduceCtorEq] at c0)
  · repeat (first | refine VS_seq ?_ | refine VS_block ?_ | refine VS_skip ?_)
    refine VS_join1 [5, 20, 21, 22, 23, 24, 25, 26] (fun b5 : Nat => [(5, .pointer (some ⟨b5, 0, none⟩))]) (fun b5 w => ∃ c A1 k1 A2 k2 p6, clB (4 * 2000000 + 24) c ∧ p4 ≤ p6 ∧ p6 ≤ p4 + 18 ∧ St ok ⟨w0, [b]⟩ [.blk b5 (clC c A1 k1 A2 k2) 70, .blk b3 (trC x B3 d3 B4 d4) 26, .blk b2 tr0 26, .blk b (rdC v p6) 121] [.dat [.slice A1 c.path.length k1] (.sl (strsD c.path)), .dat [.slice A2 c.to.length k2] (.sl (strsD c.to)), .dat (trC x B3 d3 B4 d4) x.toD, .dat [v] (.sl (bytesL l))] w) ?_ ?_
    · refine VS_drawSub (C' := [.blk b3 (trC x B3 d3 B4 d4) 26] ) (F' :=  []) 8 s mixed ?_
      clear s; intro s
      refine VA_take 0 (d := 20) rfl (by kernel_rfl) rfl (fun w g => run_move rfl (by conv => lhs; whnf)) (s.sees (fun b_ c_ t_ h_ => (show ∀ x_ ∈ ([.blk b3 (trC x B3 d3 B4 d4) 26] : List It), x_ ∈ _ from by (repeat (first | exact sub_nil | refine sub_cons (by (repeat (exact .head _))) ?_))) _ h_) (by (repeat (exact sub_nil)))) ?_
      refine VA_take 3 (d := 23) rfl (by kernel_rfl) rfl (fun w g => run_move rfl (by conv => lhs; whnf)) (s.sees (fun b_ c_ t_ h_ => (show ∀ x_ ∈ ([.blk b3 (trC x B3 d3 B4 d4) 26] : List It), x_ ∈ _ from by (repeat (first | exact sub_nil | refine sub_cons (by (repeat (exact .head _))) ?_))) _ h_) (by (repeat (exact sub_nil)))) ?_
      refine VA_take 4 (d := 24) rfl (by kernel_rfl) rfl (fun w g => see_ownA (cs := [_, _, _, _, _]) g rfl ty26 rfl (i := 0) rfl rfl rfl) (s.sees (fun b_ c_ t_ h_ => (show ∀ x_ ∈ ([.blk b3 (trC x B3 d3 B4 d4) 26] : List It), x_ ∈ _ from by (repeat (first | exact sub_nil | refine sub_cons (by (repeat (exact .head _))) ?_))) _ h_) (by (repeat (exact sub_nil)))) ?_
      refine VA_two (i := 1) (j := 7) (by kernel_rfl) ?_ ?_
      · refine VO_does (d := 21) rfl (does_call2 rfl (by kernel_rfl) rfl rfl (by exact pick_ok _ (s.rdrM (i := 2) rfl (by (repeat (first | exact .head _ | refine .tail _ ?_))) hlen (by omega)) (by omega) (by omega)) ?_) rfl rfl
        rintro v21 w21 ⟨n, rfl, hn0, hn1, ha⟩
        (obtain ⟨p5, hp5a, hp5b, s⟩ := s.aft (i := 2) rfl ha); simp only [List.set_cons_zero, List.set_cons_succ] at s; clear ha
        refine ⟨fun _ => s.sees (fun b_ c_ t_ h_ => (show ∀ x_ ∈ ([.blk b3 (trC x B3 d3 B4 d4) 26] : List It), x_ ∈ _ from by (repeat (first | exact sub_nil | refine sub_cons (by (repeat (exact .head _))) ?_))) _ h_) (by (repeat (exact sub_nil))), ?_⟩
        refine VA_take 2 (d := 22) rfl (by kernel_rfl) rfl (fun w g => run_add rfl rfl rfl (by omega)) (s.sees (fun b_ c_ t_ h_ => (show ∀ x_ ∈ ([.blk b3 (trC x B3 d3 B4 d4) 26] : List It), x_ ∈ _ from by (repeat (first | exact sub_nil | refine sub_cons (by (repeat (exact .head _))) ?_))) _ h_) (by (repeat (exact sub_nil)))) ?_
        refine VA_two (i := 5) (j := 7) (by kernel_rfl) ?_ ?_
        · refine VO_does (d := 25) rfl (does_call2 rfl (by kernel_rfl) rfl rfl (by exact l4Path_ok x (s.rdrM (i := 2) rfl (by (repeat (first | exact .head _ | refine .tail _ ?_))) hlen (by omega)) (s.fa (.dat (trC x B3 d3 B4 d4) x.toD) (by (repeat (exact .head _)))) (by omega) (by omega)) ?_) rfl rfl
          rintro v25 w25 ⟨q, hq1, hq2, hq3, hd, ha⟩
          (obtain ⟨p6, hp6a, hp6b, s⟩ := s.aftR (i := 2) rfl ha hd); simp only [List.set_cons_zero, List.set_cons_succ] at s; clear ha hd; (obtain ⟨A1, k1, e1, -⟩ := Rd_strs (s.dat (i := 0) rfl)); obtain rfl := List.singleton_inj.1 e1
          refine ⟨fun _ => s.sees (fun b_ c_ t_ h_ => (show ∀ x_ ∈ ([.blk b3 (trC x B3 d3 B4 d4) 26] : List It), x_ ∈ _ from by (repeat (first | exact sub_nil | refine sub_cons (by (repeat (exact .head _))) ?_))) _ h_) (by (repeat (exact sub_nil))), ?_⟩
          refine VA_take 6 (d := 26) rfl (by kernel_rfl) rfl (fun w g => run_build (cs := [.int .i64 _, .slice _ _ _, .slice none 0 0, .int .i64 0, .string ⟨#[]⟩]) rfl ty70 st70 rfl) (s.sees (fun b_ c_ t_ h_ => (show ∀ x_ ∈ ([.blk b3 (trC x B3 d3 B4 d4) 26] : List It), x_ ∈ _ from by (repeat (first | exact sub_nil | refine sub_cons (by (repeat (exact .head _))) ?_))) _ h_) (by (repeat (exact sub_nil)))) ?_
          refine VA_one (i := 7) (by kernel_rfl) ?_
          refine VO_does (d := 5) rfl (does_alloc s rfl ty70 rfl ?_) rfl rfl
          clear s; intro b5 w s
          refine ⟨fun _ => s.sees (fun b_ c_ t_ h_ => (show ∀ x_ ∈ ([.blk b3 (trC x B3 d3 B4 d4) 26] : List It), x_ ∈ _ from by (repeat (first | exact sub_nil | refine sub_cons (by (repeat (first | exact .head _ | refine .tail _ ?_))) ?_))) _ h_) (by (repeat (exact sub_nil))), ?_⟩
          refine VA_one (i := 8) (by kernel_rfl) ?_
          (refine VO_doesU rfl (does_store s rfl ty70 rfl rfl (i := 0) rfl rfl rfl (by (intro u hu; simp only [List.mem_cons, List.not_mem_nil, or_false] at hu; rcases hu with rfl | rfl | rfl | rfl | rfl <;> rfl)) rfl ?_) rfl rfl rfl)
          clear s; intro w s
          try simp only [List.set_cons_zero, List.set_cons_succ, patch, List.take_succ_cons, List.take_zero, List.drop_succ_cons, List.drop_zero, List.drop_nil, List.nil_append, List.cons_append, List.append_nil, List.length_cons, List.length_nil, Nat.reduceAdd, Nat.zero_add] at s
          refine ⟨(fun h => nomatch (show true = false from h)), ?_⟩
          refine VA_done (by kernel_rfl) ?_
          refine VS_met (_) ?_ (by repeat (first | exact Has.nil _ | refine Has.cons rfl ?_)) (by repeat (first | exact Out.refl _ _ | refine Out.upd rfl ?_))
          exact ⟨⟨1 + n, q, [], 0, ⟨#[]⟩⟩, A1, k1, none, 0, _, ⟨(show namesWt q ≤ _ by omega), Nat.zero_le _, Nat.zero_le _⟩, by omega, by omega, (s.know (f := .dat [.slice none 0 0] (.sl (strsD []))) ⟨none, 0, rfl, by simp, trivial⟩).less (by (repeat (first | exact sub_nil | refine sub_cons (by (repeat (first | exact .head _ | refine .tail _ ?_))) ?_)))⟩
        · refine VO_does (d := 5) rfl (does_alloc s rfl ty70 rfl ?_) rfl rfl
          clear s; intro b5 w s
          refine ⟨fun _ => s.sees (fun b_ c_ t_ h_ => (show ∀ x_ ∈ ([.blk b3 (trC x B3 d3 B4 d4) 26] : List It), x_ ∈ _ from by (repeat (first | exact sub_nil | refine sub_cons (by (repeat (first | exact .head _ | refine .tail _ ?_))) ?_))) _ h_) (by (repeat (exact sub_nil))), ?_⟩
          refine VA_one (i := 5) (by kernel_rfl) ?_
          refine VO_does (d := 25) rfl (does_call2 rfl (by kernel_rfl) rfl rfl (by exact l4Path_ok x (s.rdrM (i := 3) rfl (by (repeat (first | exact .head _ | refine .tail _ ?_))) hlen (by omega)) (s.fa (.dat (trC x B3 d3 B4 d4) x.toD) (by (repeat (exact .head _)))) (by omega) (by omega)) ?_) rfl rfl
          rintro v25 w25 ⟨q, hq1, hq2, hq3, hd, ha⟩
          (obtain ⟨p6, hp6a, hp6b, s⟩ := s.aftR (i := 3) rfl ha hd); simp only [List.set_cons_zero, List.set_cons_succ] at s; clear ha hd; (obtain ⟨A1, k1, e1, -⟩ := Rd_strs (s.dat (i := 0) rfl)); obtain rfl := List.singleton_inj.1 e1
          refine ⟨fun _ => s.sees (fun b_ c_ t_ h_ => (show ∀ x_ ∈ ([.blk b3 (trC x B3 d3 B4 d4) 26] : List It), x_ ∈ _ from by (repeat (first | exact sub_nil | refine sub_cons (by (repeat (first | exact .head _ | refine .tail _ ?_))) ?_))) _ h_) (by (repeat (exact sub_nil))), ?_⟩
          refine VA_take 6 (d := 26) rfl (by kernel_rfl) rfl (fun w g => run_build (cs := [.int .i64 _, .slice _ _ _, .slice none 0 0, .int .i64 0, .string ⟨#[]⟩]) rfl ty70 st70 rfl) (s.sees (fun b_ c_ t_ h_ => (show ∀ x_ ∈ ([.blk b3 (trC x B3 d3 B4 d4) 26] : List It), x_ ∈ _ from by (repeat (first | exact sub_nil | refine sub_cons (by (repeat (first | exact .head _ | refine .tail _ ?_))) ?_))) _ h_) (by (repeat (exact sub_nil)))) ?_
          refine VA_one (i := 8) (by kernel_rfl) ?_
          (refine VO_doesU rfl (does_store s rfl ty70 rfl rfl (i := 0) rfl rfl rfl (by (intro u hu; simp only [List.mem_cons, List.not_mem_nil, or_false] at hu; rcases hu with rfl | rfl | rfl | rfl | rfl <;> rfl)) rfl ?_) rfl rfl rfl)
          clear s; intro w s
          try simp only [List.set_cons_zero, List.set_cons_succ, patch, List.take_succ_cons, List.take_zero, List.drop_succ_cons, List.drop_zero, List.drop_nil, List.nil_append, List.cons_append, List.append_nil, List.length_cons, List.length_nil, Nat.reduceAdd, Nat.zero_add] at s
          refine ⟨(fun h => nomatch (show true = false from h)), ?_⟩
          refine VA_done (by kernel_rfl) ?_
          refine VS_met (_) ?_ (by repeat (first | exact Has.nil _ | refine Has.cons rfl ?_)) (by repeat (first | exact Out.refl _ _ | refine Out.upd rfl ?_))
          exact ⟨⟨1 + n, q, [], 0, ⟨#[]⟩⟩, A1, k1, none, 0, _, ⟨(show namesWt q ≤ _ by omega), Nat.zero_le _, Nat.zero_le _⟩, by omega, by omega, (s.know (f := .dat [.slice none 0 0] (.sl (strsD []))) ⟨none, 0, rfl, by simp, trivial⟩).less (by (repeat (first | exact sub_nil | refine sub_cons (by (repeat (first | exact .head _ | refine .tail _ ?_))) ?_)))⟩
      · refine VO_does (d := 5) rfl (does_alloc s rfl ty70 rfl ?_) rfl rfl
        clear s; intro b5 w s
        refine ⟨fun _ => s.sees (fun b_ c_ t_ h_ => (show ∀ x_ ∈ ([.blk b3 (trC x B3 d3 B4 d4) 26] : List It), x_ ∈ _ from by (repeat (first | exact sub_nil | refine sub_cons (by (repeat (first | exact .head _ | refine .tail _ ?_))) ?_))) _ h_) (by (repeat (exact sub_nil))), ?_⟩
        refine VA_one (i := 1) (by kernel_rfl) ?_
        refine VO_does (d := 21) rfl (does_call2 rfl (by kernel_rfl) rfl rfl (by exact pick_ok _ (s.rdrM (i := 3) rfl (by (repeat (first | exact .head _ | refine .tail _ ?_))) hlen (by omega)) (by omega) (by omega)) ?_) rfl rfl
        rintro v21 w21 ⟨n, rfl, hn0, hn1, ha⟩
        (obtain ⟨p5, hp5a, hp5b, s⟩ := s.aft (i := 3) rfl ha); simp only [List.set_cons_zero, List.set_cons_succ] at s; clear ha
        refine ⟨fun _ => s.sees (fun b_ c_ t_ h_ => (show ∀ x_ ∈ ([.blk b3 (trC x B3 d3 B4 d4) 26] : List It), x_ ∈ _ from by (repeat (first | exact sub_nil | refine sub_cons (by (repeat (first | exact .head _ | refine .tail _ ?_))) ?_))) _ h_) (by (repeat (exact sub_nil))), ?_⟩
        refine VA_take 2 (d := 22) rfl (by kernel_rfl) rfl (fun w g => run_add rfl rfl rfl (by omega)) (s.sees (fun b_ c_ t_ h_ => (show ∀ x_ ∈ ([.blk b3 (trC x B3 d3 B4 d4) 26] : List It), x_ ∈ _ from by (repeat (first | exact sub_nil | refine sub_cons (by (repeat (first | exact .head _ | refine .tail _ ?_))) ?_))) _ h_) (by (repeat (exact sub_nil)))) ?_
        refine VA_one (i := 5) (by kernel_rfl) ?_
        refine VO_does (d := 25) rfl (does_call2 rfl (by kernel_rfl) rfl rfl (by exact l4Path_ok x (s.rdrM (i := 3) rfl (by (repeat (first | exact .head _ | refine .tail _ ?_))) hlen (by omega)) (s.fa (.dat (trC x B3 d3 B4 d4) x.toD) (by (repeat (exact .head _)))) (by omega) (by omega)) ?_) rfl rfl
        rintro v25 w25 ⟨q, hq1, hq2, hq3, hd, ha⟩
        (obtain ⟨p6, hp6a, hp6b, s⟩ := s.aftR (i := 3) rfl ha hd); simp only [List.set_cons_zero, List.set_cons_succ] at s; clear ha hd; (obtain ⟨A1, k1, e1, -⟩ := Rd_strs (s.dat (i := 0) rfl)); obtain rfl := List.singleton_inj.1 e1
        refine ⟨fun _ => s.sees (fun b_ c_ t_ h_ => (show ∀ x_ ∈ ([.blk b3 (trC x B3 d3 B4 d4) 26] : List It), x_ ∈ _ from by (repeat (first | exact sub_nil | refine sub_cons (by (repeat (first | exact .head _ | refine .tail _ ?_))) ?_))) _ h_) (by (repeat (exact sub_nil))), ?_⟩
        refine VA_take 6 (d := 26) rfl (by kernel_rfl) rfl (fun w g => run_build (cs := [.int .i64 _, .slice _ _ _, .slice none 0 0, .int .i64 0, .string ⟨#[]⟩]) rfl ty70 st70 rfl) (s.sees (fun b_ c_ t_ h_ => (show ∀ x_ ∈ ([.blk b3 (trC x B3 d3 B4 d4) 26] : List It), x_ ∈ _ from by (repeat (first | exact sub_nil | refine sub_cons (by (repeat (first | exact .head _ | refine .tail _ ?_))) ?_))) _ h_) (by (repeat (exact sub_nil)))) ?_
        refine VA_one (i := 8) (by kernel_rfl) ?_
        (refine VO_doesU rfl (does_store s rfl ty70 rfl rfl (i := 0) rfl rfl rfl (by (intro u hu; simp only [List.mem_cons, List.not_mem_nil, or_false] at hu; rcases hu with rfl | rfl | rfl | rfl | rfl <;> rfl)) rfl ?_) rfl rfl rfl)
        clear s; intro w s
        try simp only [List.set_cons_zero, List.set_cons_succ, patch, List.take_succ_cons, List.take_zero, List.drop_succ_cons, List.drop_zero, List.drop_nil, List.nil_append, List.cons_append, List.append_nil, List.length_cons, List.length_nil, Nat.reduceAdd, Nat.zero_add] at s
        refine ⟨(fun h => nomatch (show true = false from h)), ?_⟩
        refine VA_done (by kernel_rfl) ?_
        refine VS_met (_) ?_ (by repeat (first | exact Has.nil _ | refine Has.cons rfl ?_)) (by repeat (first | exact Out.refl _ _ | refine Out.upd rfl ?_))
        exact ⟨⟨1 + n, q, [], 0, ⟨#[]⟩⟩, A1, k1, none, 0, _, ⟨(show namesWt q ≤ _ by omega), Nat.zero_le _, Nat.zero_le _⟩, by omega, by omega, (s.know (f := .dat [.slice none 0 0] (.sl (strsD []))) ⟨none, 0, rfl, by simp, trivial⟩).less (by (repeat (first | exact sub_nil | refine sub_cons (by (repeat (first | exact .head _ | refine .tail _ ?_))) ?_)))⟩
    clear s
    rintro b5 w j ⟨c, A1, k1, A2, k2, p6, hcB, hp6a, hp6b, s⟩
    repeat (refine VS_seq ?_)
    refine VS_region_lit ?_
    refine VL_run (d := 27) (run_fieldAddr rfl fo70_0 rfl) rfl rfl ?_
    refine VL_run (d := 28) (run_load_own1 s rfl ty3 rfl (i := 0) rfl rfl) rfl rfl ?_
    refine VL_run (d := 29) (run_eqI rfl rfl rfl) rfl rfl ?_
    refine VL_nil ?_
    refine VS_join1 [30, 31, 32] (fun _ : Unit => []) (fun _ w => ∃ c A1 k1 A2 k2 p7, clB (4 * 2000000 + 24) c ∧ p6 ≤ p7 ∧ p7 ≤ p6 + 2 ∧ St ok ⟨w0, [b]⟩ [.blk b5 (clC c A1 k1 A2 k2) 70, .blk b3 (trC x B3 d3 B4 d4) 26, .blk b2 tr0 26, .blk b (rdC v p7) 121] [.dat [.slice A1 c.path.length k1] (.sl (strsD c.path)), .dat [.slice A2 c.to.length k2] (.sl (strsD c.to)), .dat (trC x B3 d3 B4 d4) x.toD, .dat [v] (.sl (bytesL l))] w) ?_ ?_
    · refine VS_cond rfl (fun c1 => ?_) (fun c1 => ?_) <;> (try simp only [decide_eq_true_eq, decide_eq_false_iff_not, Bool.not_eq_true', Bool.not_eq_false', ne_eq, Decidable.not_not, cond_true, cond_false, Bool.and_eq_true, Bool.or_eq_true, Bool.and_eq_false_iff, Bool.or_eq_false_iff, Bool.not_true, Bool.not_false, reduceCtorEq] at c1)
      · refine VS_region_lit ?_
        refine VL_run (d := 30) (run_move rfl (by conv => lhs; whnf)) rfl rfl ?_
        refine VL_does (d := 31) (does_call1 rfl (by kernel_rfl) rfl (by exact l4Data_ok (s.rdrM (i := 3) rfl (by (repeat (first | exact .head _ | refine .tail _ ?_))) hlen (by omega)) (by omega)) ?_) rfl rfl
        rintro v31 w31 ⟨d, rfl, hdd, ha⟩
        (obtain ⟨p7, hp7a, hp7b, s⟩ := s.aft (i := 3) rfl ha); simp only [List.set_cons_zero, List.set_cons_succ] at s; clear ha
        refine VL_run (d := 32) (run_fieldAddr rfl fo70_4 rfl) rfl rfl ?_
        (refine VL_doesU (does_store s rfl ty9 rfl rfl (i := 0) rfl rfl rfl (by (intro u hu; simp only [List.mem_cons, List.not_mem_nil, or_false] at hu; subst hu; rfl)) rfl ?_) rfl rfl rfl)
        clear s; intro w s
        try simp only [List.set_cons_zero, List.set_cons_succ, patch, List.take_succ_cons, List.take_zero, List.drop_succ_cons, List.drop_zero, List.drop_nil, List.nil_append, List.cons_append, List.append_nil, List.length_cons, List.length_nil, Nat.reduceAdd, Nat.zero_add] at s
        refine VL_nil ?_
        refine VS_met (()) ?_ (by repeat (exact Has.nil _)) (by repeat (first | exact Out.refl _ _ | refine Out.upd rfl ?_))
        obtain ⟨hB1, hB2, hB3⟩ := hcB
        first
          | exact ⟨{ c with data := d }, A1, k1, A2, k2, p7, ⟨hB1, hB2, Nat.le_trans hdd (by decide)⟩, by omega, by omega, s.less (by (repeat (first | exact sub_nil | refine sub_cons (by (repeat (first | exact .head _ | refine .tail _ ?_))) ?_)))⟩
          | exact ⟨c, A1, k1, A2, k2, p6, ⟨hB1, hB2, hB3⟩, by omega, by omega, s.less (by (repeat (first | exact sub_nil | refine sub_cons (by (repeat (first | exact .head _ | refine .tail _ ?_))) ?_)))⟩
      · repeat (refine VS_skip ?_)
        refine VS_met (()) ?_ (by repeat (exact Has.nil _)) (by repeat (exact Out.refl _ _))
        obtain ⟨hB1, hB2, hB3⟩ := hcB
        first
          | exact ⟨{ c with data := d }, A1, k1, A2, k2, p7, ⟨hB1, hB2, Nat.le_trans hdd (by decide)⟩, by omega, by omega, s.less (by (repeat (first | exact sub_nil | refine sub_cons (by (repeat (first | exact .head _ | refine .tail _ ?_))) ?_)))⟩
          | exact ⟨c, A1, k1, A2, k2, p6, ⟨hB1, hB2, hB3⟩, by omega, by omega, s.less (by (repeat (first | exact sub_nil | refine sub_cons (by (repeat (first | exact .head _ | refine .tail _ ?_))) ?_)))⟩
    clear s hcB
    rintro _ w j ⟨c, A1, k1, A2, k2, p7, hcB, hp7a, hp7b, s⟩
    repeat (refine VS_seq ?_)
    refine VS_region_lit ?_
    refine VL_run (d := 34) (run_load_ownA (cs := [_, _, _, _, _]) s rfl ty26 rfl (i := 1) rfl rfl rfl) rfl rfl ?_
    refine VL_run (d := 35) (run_load_ownA (cs := [_, _, _, _, _]) s rfl ty70 rfl (i := 0) rfl rfl rfl) rfl rfl ?_
    refine VL_does (d := 36) (does_call2 rfl (by kernel_rfl) rfl rfl (TreeDo_ok x c (s.dat (i := 2) rfl) (Cl.shut (s.dat (i := 0) rfl) (s.dat (i := 1) rfl)) (show x.wt ≤ 1000000000 by omega) (hcB.fit (by omega))) ?_) rfl rfl
    rintro v36 w36 ⟨cs', rfl, hr, hb⟩
    replace s := s.ret hb hr; clear hb hr
    obtain ⟨E3, e3, E4, e4, rfl, -, -, -, -⟩ := Tr.opn (s.dat (i := 0) rfl)
    refine VL_run (d := 33) (run_move rfl (by conv => lhs; whnf)) rfl rfl ?_
    refine VL_run (d := 37) (run_extract rfl rfl rfl) rfl rfl ?_
    refine VL_run (d := 38) (run_extract rfl rfl rfl) rfl rfl ?_
    refine VL_does (d := 6) (does_alloc s rfl ty26 rfl ?_) rfl rfl
    clear s; intro b6 w s
    (refine VL_doesU (does_store s rfl ty26 rfl rfl (i := 0) rfl rfl rfl (by (intro u hu; simp only [List.mem_cons, List.not_mem_nil, or_false] at hu; rcases hu with rfl | rfl | rfl | rfl | rfl <;> rfl)) rfl ?_) rfl rfl rfl)
    clear s; intro w s
    try simp only [List.set_cons_zero, List.set_cons_succ, patch, List.take_succ_cons, List.take_zero, List.drop_succ_cons, List.drop_zero, List.drop_nil, List.nil_append, List.cons_append, List.append_nil, List.length_cons, List.length_nil, Nat.reduceAdd, Nat.zero_add] at s
    refine VL_run (d := 7) (run_assign rfl (by conv => lhs; whnf)) rfl rfl ?_
    refine VL_nil ?_
    repeat (refine VS_seq ?_)
    refine VS_region_lit ?_
    refine VL_run (d := 39) (run_move rfl (by conv => lhs; whnf)) rfl rfl ?_
    refine VL_run (d := 40) (run_eqI rfl rfl rfl) rfl rfl ?_
    refine VL_nil ?_
    refine VS_cond rfl (fun c2 => ?_) (fun c2 => ?_) <;> (try simp only [decide_eq_true_eq, decide_eq_false_iff_not, Bool.not_eq_true', Bool.not_eq_false', ne_eq, Decidable.not_not, cond_true, cond_false, Bool.and_eq_true, Bool.or_eq_true, Bool.and_eq_false_iff, Bool.or_eq_false_iff, Bool.not_true, Bool.not_false, reduceCtorEq] at c2)
    · refine VS_region_lit ?_
      refine VL_run (d := 41) (run_load_ownA (cs := [_, _, _, _, _]) s rfl ty26 rfl (i := 0) rfl rfl rfl) rfl rfl ?_
      (refine VL_doesU (does_store s rfl ty26 rfl rfl (i := 2) rfl rfl rfl (by (intro u hu; simp only [List.mem_cons, List.not_mem_nil, or_false] at hu; rcases hu with rfl | rfl | rfl | rfl | rfl <;> rfl)) rfl ?_) rfl rfl rfl)
      clear s; intro w s
      try simp only [List.set_cons_zero, List.set_cons_succ, patch, List.take_succ_cons, List.take_zero, List.drop_succ_cons, List.drop_zero, List.drop_nil, List.nil_append, List.cons_append, List.append_nil, List.length_cons, List.length_nil, Nat.reduceAdd, Nat.zero_add] at s
      refine VL_nil ?_
      repeat (refine VS_nil_block ?_)
      refine VS_region_lit ?_
      refine VL_run (d := 18) (run_move rfl (by conv => lhs; whnf)) rfl rfl ?_
      refine VL_run (d := 19) (run_sub rfl rfl rfl (by omega)) rfl rfl ?_
      refine VL_run (d := 4) (run_assign rfl (by conv => lhs; whnf)) rfl rfl ?_
      refine VL_nil ?_
      refine VS_back (k - 1) ?_ (by repeat (first | exact Has.nil _ | refine Has.cons rfl ?_)) (by repeat (first | exact Out.mix _ _ _ | refine Out.upd rfl ?_ | refine Out.mix_in rfl ?_)) ?_
      · have hs := treeDoR_small c hxw
        first
          | exact ⟨x, B3, d3, B4, d4, p7, ((s.drop 0).drop 0).less (by (repeat (first | exact sub_nil | refine sub_cons (by (repeat (first | exact .head _ | refine .tail _ ?_))) ?_))), hxw, by omega, by omega, by omega, by omega⟩
          | exact ⟨(treeDoR x c).1, E3, e3, E4, e4, p7, ((s.drop 0).drop 0).less (by (repeat (first | exact sub_nil | refine sub_cons (by (repeat (first | exact .head _ | refine .tail _ ?_))) ?_))), hs, by omega, by omega, by omega, by omega⟩
      · omega
    · repeat (first | refine VS_skip ?_ | refine VS_nil_block ?_)
      refine VS_region_lit ?_
      refine VL_run (d := 18) (run_move rfl (by conv => lhs; whnf)) rfl rfl ?_
      refine VL_run (d := 19) (run_sub rfl rfl rfl (by omega)) rfl rfl ?_
      refine VL_run (d := 4) (run_assign rfl (by conv => lhs; whnf)) rfl rfl ?_
      refine VL_nil ?_
      refine VS_back (k - 1) ?_ (by repeat (first | exact Has.nil _ | refine Has.cons rfl ?_)) (by repeat (first | exact Out.mix _ _ _ | refine Out.upd rfl ?_ | refine Out.mix_in rfl ?_)) ?_
      · have hs := treeDoR_small c hxw
        first
          | exact ⟨x, B3, d3, B4, d4, p7, ((s.drop 0).drop 0).less (by (repeat (first | exact sub_nil | refine sub_cons (by (repeat (first | exact .head _ | refine .tail _ ?_))) ?_))), hxw, by omega, by omega, by omega, by omega⟩
          | exact ⟨(treeDoR x c).1, E3, e3, E4, e4, p7, ((s.drop 0).drop 0).less (by (repeat (first | exact sub_nil | refine sub_cons (by (repeat (first | exact .head _ | refine .tail _ ?_))) ?_))), hs, by omega, by omega, by omega, by omega⟩
      · omega
  · refine VS_exit ?_
    repeat (first | refine blockV_hit ?_ | refine backV_exit ?_)
    repeat (refine VS_seq ?_)
    refine VS_drawSub (C' := [.blk b3 (trC x B3 d3 B4 d4) 26] ) (F' :=  []) 4 s mixed ?_
    clear s; intro s
    refine VA_take 0 (d := 42) rfl (by kernel_rfl) rfl (fun w g => run_move rfl (by conv => lhs; whnf)) (s.sees (fun b_ c_ t_ h_ => (show ∀ x_ ∈ ([.blk b3 (trC x B3 d3 B4 d4) 26] : List It), x_ ∈ _ from by (repeat (first | exact sub_nil | refine sub_cons (by (repeat (exact .head _))) ?_))) _ h_) (by (repeat (exact sub_nil)))) ?_
    refine VA_take 1 (d := 43) rfl (by kernel_rfl) rfl (fun w g => see_ownA (cs := [_, _, _, _, _]) g rfl ty26 rfl (i := 0) rfl rfl rfl) (s.sees (fun b_ c_ t_ h_ => (show ∀ x_ ∈ ([.blk b3 (trC x B3 d3 B4 d4) 26] : List It), x_ ∈ _ from by (repeat (first | exact sub_nil | refine sub_cons (by (repeat (exact .head _))) ?_))) _ h_) (by (repeat (exact sub_nil)))) ?_
    refine VA_one (i := 2) (by kernel_rfl) ?_
    refine VO_run (d := 44) rfl (run_move rfl (by conv => lhs; whnf)) rfl rfl (fun _ => s.sees (fun b_ c_ t_ h_ => (show ∀ x_ ∈ ([.blk b3 (trC x B3 d3 B4 d4) 26] : List It), x_ ∈ _ from by (repeat (first | exact sub_nil | refine sub_cons (by (repeat (exact .head _))) ?_))) _ h_) (by (repeat (exact sub_nil)))) ?_
    refine VA_one (i := 3) (by kernel_rfl) ?_
    refine VO_does (d := 45) rfl (does_call2 rfl (by kernel_rfl) rfl rfl (by exact pick_ok _ (s.rdrM (i := 2) rfl (by (repeat (first | exact .head _ | refine .tail _ ?_))) hlen (by omega)) (by omega) (by omega)) ?_) rfl rfl
    rintro v45 w45 ⟨n4, rfl, hn4, hn5, ha⟩
    (obtain ⟨p5, hp5a, hp5b, s⟩ := s.aft (i := 2) rfl ha); simp only [List.set_cons_zero, List.set_cons_succ] at s; clear ha
    refine ⟨fun _ => s.sees (fun b_ c_ t_ h_ => (show ∀ x_ ∈ ([.blk b3 (trC x B3 d3 B4 d4) 26] : List It), x_ ∈ _ from by (repeat (first | exact sub_nil | refine sub_cons (by (repeat (exact .head _))) ?_))) _ h_) (by (repeat (exact sub_nil))), ?_⟩
    refine VA_one (i := 4) (by kernel_rfl) ?_
    refine VO_does (d := 46) rfl (does_call3 rfl (by kernel_rfl) rfl rfl rfl (by exact l4Calls_ok x n4 (s.rdrM (i := 2) rfl (by (repeat (first | exact .head _ | refine .tail _ ?_))) hlen (by omega)) (s.fa (.dat (trC x B3 d3 B4 d4) x.toD) (by (repeat (exact .head _)))) (by omega) (by omega) hn4 (by omega)) ?_) rfl rfl
    rintro v46 w46 ⟨cc, y, rfl, hyw, hd, ha⟩
    (obtain ⟨p6, hp6a, hp6b, s⟩ := s.aftR (i := 2) rfl ha hd); simp only [List.set_cons_zero, List.set_cons_succ] at s; clear ha hd
    refine ⟨(fun h => nomatch (show true = false from h)), ?_⟩
    obtain ⟨E3, e3, E4, e4, rfl, -, -, -, -⟩ := Tr.opn (s.dat (i := 0) rfl)
    refine VA_one (i := 5) (by kernel_rfl) ?_
    (refine VO_doesU rfl (does_store s rfl ty26 rfl rfl (i := 1) rfl rfl rfl (by (intro u hu; simp only [List.mem_cons, List.not_mem_nil, or_false] at hu; rcases hu with rfl | rfl | rfl | rfl | rfl <;> rfl)) rfl ?_) rfl rfl rfl)
    clear s; intro w s
    try simp only [List.set_cons_zero, List.set_cons_succ, patch, List.take_succ_cons, List.take_zero, List.drop_succ_cons, List.drop_zero, List.drop_nil, List.nil_append, List.cons_append, List.append_nil, List.length_cons, List.length_nil, Nat.reduceAdd, Nat.zero_add] at s
    refine ⟨(fun h => nomatch (show true = false from h)), ?_⟩
    refine VA_done (by kernel_rfl) ?_
    refine VS_ret ?_
    repeat (first | refine blockV_ret ?_ | refine backV_ret ?_ | refine backV2_ret ?_ | refine backV3_ret ?_ | refine thenV_ret ?_ | refine metV2_ret ?_)
    refine fin_one (fn := Try.f83) rfl (res_ownA (cs := [_, _, _, _, _]) s ty26 rfl (i := 1) rfl rfl rfl) ?_
    exact ⟨_, y, rfl, hyw, s.tellR (s.dat (i := 0) rfl), s.aftOut (i := 2) rfl (by omega) (by omega)⟩
end Go.Proofs.Ytkefaelmamgjiaa
