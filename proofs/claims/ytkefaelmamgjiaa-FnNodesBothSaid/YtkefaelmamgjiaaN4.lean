/- nodes (spec), as draws use them: l33Copy, l33Put, l33Moved, NodesStart, NodesOk, NodesDo. -/
import Derived.Test.YtkefaelmamgjiaaN3
import Derived.Test.YtkefaelmamgjiaaR4
set_option linter.unusedVariables false
set_option linter.unusedSimpArgs false
set_option maxHeartbeats 4000000
namespace Go.Proofs.Ytkefaelmamgjiaa
open Go.RowKit

/-- A slice that a callee made: the caller may write into it. -/
def RowNew (ok : Nat → Prop) (w0 w : World) (v : Value) (e : TypeId) (size : Nat) (ds : List D) : Prop :=
  (It.row v e size ds).holds (fun b => okR ok w0 b ∧ v.ownBlock ≠ some b) w ∧ ∀ b, v.ownBlock = some b → w0.heap.size ≤ b
section
variable {ok : Nat → Prop} {W0 : Start} {w w' : World} {C : List It} {F : List Fa} {v : Value} {e : TypeId} {size : Nat} {ds : List D}
theorem St.rowNew {w0 : World} (s : St ok (w0 : Start) C F w) {i : Nat} (hi : C[i]? = some (.row v e size ds)) : RowNew ok w0 w v e size ds := by
  have hm := List.mem_of_getElem? hi
  refine ⟨It.keep (Keeps.refl _ _) (fun b _ hb => ⟨hb.1, hb.2 _ hm⟩) (s.own _ hm) (fun _ _ => rfl), fun b hb => ?_⟩
  exact (s.mine _ hm b hb).elim (fun h => (List.not_mem_nil h).elim) id
theorem St.retRow (s : St ok W0 C F w) (hb : Below w.heap.size w w') (h : RowNew (okS ok W0.heap.size C) w w' v e size ds) : St ok W0 (.row v e size ds :: C) F w' := by
  refine s.more hb (It.keep (Keeps.refl _ _) (fun b _ hb => ?_) h.1 (fun _ _ => rfl)) (fun b hb => h.2 b hb)
  obtain ⟨h1, h2⟩ := hb
  rcases h1 with h1 | h1
  · refine ⟨h1.1, fun x hx => ?_⟩
    rcases List.mem_cons.1 hx with rfl | hx
    · exact h2
    · exact h1.2 x hx
  · refine ⟨.inr (Nat.le_trans s.size h1), fun x hx e => ?_⟩
    rcases List.mem_cons.1 hx with rfl | hx
    · exact h2 e
    · have := It.lt (s.own x hx) b e
      omega
theorem RowNew.rd {w0 : World} (h : RowNew ok w0 w v e size ds) : Rd (okR ok w0) w (.sl ds) [v] :=
  row_dat (e := e) (size := size) (It.keep (Keeps.refl _ _) (fun b _ hb => hb.1) h.1 (fun _ _ => rfl)) fun b hb => .inr (h.2 b hb)
theorem RowNew.form {w0 : World} (h : RowNew ok w0 w v e size ds) : ∃ A c, v = .slice A ds.length c := by
  obtain ⟨A, c, h1, -, -⟩ := h.rd
  exact ⟨A, c, by simpa using h1⟩
end
abbrev nd0 : List Value := [.int .i64 0, .slice none 0 0]
theorem l33Copy_ok (n : Nd) {ok : Nat → Prop} {w0 : World} {cs : List Value} (h : Rd ok w0 n.toD cs) (hn : NdB n 1000000000) :
    Calls Try.prog 131 #[.agg cs.toArray] w0 (Ret fun v w' => ∃ u, v = .agg #[.int .i64 n.next, u] ∧ RowNew ok w0 w' u 37 2 (nodeDs n.list) ∧ Below w0.heap.size w0 w') := by
  obtain ⟨A, c, rfl, hl, h3⟩ := Nd.opn h
  have hlen := hn.2.2.1
  have s := (St.start ok w0).begin h3
  clear h
  refine calls_enter (n := 36) Try.func131 rfl rfl rfl ?_
  repeat (refine VS_seq ?_)
  refine VS_region_lit ?_
  refine VL_does (d := 1) (does_box s rfl rfl rfl ?_) rfl rfl
  clear s; intro b1 w s
  refine VL_does (d := 2) (does_alloc s rfl ty30 rfl ?_) rfl rfl
  clear s; intro b2 w s
  refine VL_nil ?_
  repeat (refine VS_seq ?_)
  refine VS_region_lit ?_
  refine VL_run (d := 5) (run_fieldAddr rfl fo30_0 rfl) rfl rfl ?_
  refine VL_run (d := 6) (run_load_own1 s rfl ty3 rfl (i := 1) rfl rfl) rfl rfl ?_
  refine VL_run (d := 7) (run_build (cs := [.int .i64 _, .slice none 0 0]) rfl ty30 st30 rfl) rfl rfl ?_
  refine VL_does (d := 3) (does_alloc s rfl ty30 rfl ?_) rfl rfl
  clear s; intro b3 w s
  (refine VL_doesU (does_store s rfl ty30 rfl rfl (i := 0) rfl rfl rfl (by (intro u hu; simp only [List.mem_cons, List.not_mem_nil, or_false] at hu; rcases hu with rfl | rfl | rfl | rfl | rfl <;> rfl)) rfl ?_) rfl rfl rfl)
  clear s; intro w s
  try simp only [List.set_cons_zero, List.set_cons_succ, patch, List.take_succ_cons, List.take_zero, List.drop_succ_cons, List.drop_zero, List.drop_nil, List.nil_append, List.cons_append, List.append_nil, List.length_cons, List.length_nil, Nat.reduceAdd, Nat.zero_add] at s
  refine VL_nil ?_
  have s := s.nilrow 37 2
  repeat (refine VS_seq ?_)
  refine VS_region_lit ?_
  refine VL_run (d := 4) (run_assign rfl (by conv => lhs; whnf)) rfl rfl ?_
  refine VL_nil ?_
  repeat (refine VS_block ?_)
  refine VS_loop [4, 8, 9, 10, 11, 12, 13, 14, 15, 16, 17, 18, 19, 20, 21, 22, 23, 24, 25, 26, 27, 28, 29, 30, 31, 32, 33, 34] (fun k : Nat => [(4, .int .i64 k)]) (fun k w => k ≤ n.list.length ∧ ∃ A6 m6 c6, St ok w0 [.row (.slice A6 m6 c6) 37 2 (nodeDs (n.list.take k)), .blk b3 [.int .i64 n.next, .slice A6 m6 c6] 30, .blk b2 nd0 30, .blk b1 [.int .i64 n.next, .slice A n.list.length c] 30] [.dat [.slice A n.list.length c] (.sl (nodeDs n.list))] w) (fun k => n.list.length - k) 0 ⟨by omega, none, 0, 0, s⟩ (by repeat (first | exact Has.nil _ | refine Has.cons rfl ?_)) ?_
  clear s
  rintro k w j ⟨hk, A6, m6, c6, s⟩
  repeat (refine VS_seq ?_)
  refine VS_region_lit ?_
  refine VL_run (d := 8) (run_move rfl (by conv => lhs; whnf)) rfl rfl ?_
  refine VL_run (d := 9) (run_fieldAddr rfl fo30_1 rfl) rfl rfl ?_
  refine VL_run (d := 10) (run_load_own1 s rfl ty28 rfl (i := 3) rfl rfl) rfl rfl ?_
  refine VL_run (d := 11) (run_lenSlice rfl ⟨_, Try.underlying28⟩ rfl) rfl rfl ?_
  refine VL_run (d := 12) (run_ltI rfl rfl rfl) rfl rfl ?_
  refine VL_nil ?_
  refine VS_cond rfl (fun c0 => ?_) (fun c0 => ?_) <;> (try simp only [decide_eq_true_eq, decide_eq_false_iff_not, Bool.not_eq_true', Bool.not_eq_false', ne_eq, Decidable.not_not, cond_true, cond_false, Bool.and_eq_true, Bool.or_eq_true, Bool.and_eq_false_iff, Bool.or_eq_false_iff, Bool.not_true, Bool.not_false, reduceCtorEq] at c0)
  · repeat (first | refine VS_seq ?_ | refine VS_block ?_ | refine VS_skip ?_)
    have hk' : k < n.list.length := by omega
    have hp := hn.plen hk'
    obtain ⟨ad, A5, c5, rfl, -, s⟩ := s.openN (i := 0) rfl k hk'
    refine VS_drawS 19 s mixed ?_
    clear s; intro s
    refine VA_take 0 (d := 15) rfl (by kernel_rfl) rfl (fun w g => run_fieldAddr rfl fo30_1 rfl) s.see ?_
    refine VA_take 1 (d := 16) rfl (by kernel_rfl) rfl (fun w g => see_own1 g rfl ty28 rfl (i := 1) rfl rfl) s.see ?_
    refine VA_take 2 (d := 17) rfl (by kernel_rfl) rfl (fun w g => run_fieldAddr rfl fo30_1 rfl) s.see ?_
    refine VA_take 3 (d := 18) rfl (by kernel_rfl) rfl (fun w g => see_own1 g rfl ty28 rfl (i := 3) rfl rfl) s.see ?_
    refine VA_take 4 (d := 19) rfl (by kernel_rfl) rfl (fun w g => run_move rfl (by conv => lhs; whnf)) s.see ?_
    refine VA_take 5 (d := 20) rfl (by kernel_rfl) rfl (fun w g => run_indexAddr rfl Try.underlying28 ty37 rfl rfl (by omega) (by omega)) s.see ?_
    refine VA_take 6 (d := 21) rfl (by kernel_rfl) rfl (fun w g => run_fieldAddr rfl fo37_0 rfl) s.see ?_
    refine VA_take 7 (d := 22) rfl (by kernel_rfl) rfl (fun w g => see_at1 g rfl ty3 rfl (i := 0) rfl rfl) s.see ?_
    refine VA_take 9 (d := 24) rfl (by kernel_rfl) rfl (fun w g => run_fieldAddr rfl fo30_1 rfl) s.see ?_
    refine VA_take 10 (d := 25) rfl (by kernel_rfl) rfl (fun w g => see_own1 g rfl ty28 rfl (i := 3) rfl rfl) s.see ?_
    refine VA_take 11 (d := 26) rfl (by kernel_rfl) rfl (fun w g => run_move rfl (by conv => lhs; whnf)) s.see ?_
    refine VA_take 12 (d := 27) rfl (by kernel_rfl) rfl (fun w g => run_indexAddr rfl Try.underlying28 ty37 rfl rfl (by omega) (by omega)) s.see ?_
    refine VA_take 13 (d := 28) rfl (by kernel_rfl) rfl (fun w g => run_fieldAddr rfl fo37_1 rfl) s.see ?_
    refine VA_take 14 (d := 29) rfl (by kernel_rfl) rfl (fun w g => see_at1 g rfl ty23 rfl (i := 0) rfl rfl) s.see ?_
    refine VA_one (i := 8) (by kernel_rfl) ?_
    refine VO_does (d := 23) rfl (does_slice0 s rfl Try.underlying23 ty9 ?_) rfl rfl
    clear s; intro g23 w s
    refine ⟨fun _ => s.sees (by intro b c t h; exact .tail _ h) (by intro f h; exact h), ?_⟩
    refine VA_one (i := 15) (by kernel_rfl) ?_
    (refine VO_does (d := 30) rfl (does_appendD s rfl Try.underlying23 ty9 (by decide) (by decide) (i := 0) rfl rfl rfl (s.dat (i := 1) rfl) (strsD_wd _) (by simp <;> omega) (by (simp only [List.nil_append]; exact rfl)) (show _ = n.list[k].2.length by simp) ?_) rfl rfl)
    clear s; intro A30 c30 w s
    try simp only [List.set_cons_zero, List.set_cons_succ, patch, List.take_succ_cons, List.take_zero, List.drop_succ_cons, List.drop_zero, List.drop_nil, List.nil_append, List.cons_append, List.append_nil, List.length_cons, List.length_nil, Nat.reduceAdd, Nat.zero_add] at s
    refine ⟨fun _ => s.sees (by intro b c t h; exact .tail _ h) (by intro f h; exact h), ?_⟩
    replace s := s.freeze (k := 0) rfl; simp only [List.eraseIdx_cons_zero] at s
    refine VA_take 16 (d := 31) rfl (by kernel_rfl) rfl (fun w g => run_build (cs := [.int .i64 _, .slice _ _ _]) rfl ty37 st37 rfl) (by (exact s.sees (by intro b c t h; exact h) (by intro f h; exact .tail _ h))) ?_
    refine VA_one (i := 17) (by kernel_rfl) ?_
    refine VO_does (d := 32) rfl (does_slice1 s rfl Try.underlying28 ty37 (by decide) (by decide) rfl rfl (show Rd _ _ (nodeD n.list[k]) _ from Rd_mk2 rfl (s.dat (i := 0) rfl)) rfl ?_) rfl rfl
    clear s; intro g32 w s
    refine ⟨fun _ => s.sees (by intro b c t h; exact .tail _ h) (by intro f h; exact .tail _ h), ?_⟩
    refine VA_one (i := 18) (by kernel_rfl) ?_
    (refine VO_does (d := 33) rfl (does_appendR s rfl Try.underlying28 ty37 (by decide) (by decide) (i := 0) rfl rfl rfl (by simp <;> omega) (show _ = nodeDs (n.list.take (k + 1)) by rw [← take_snoc hk']; exact nodeDs_snoc _ _) (show _ = k + 1 by simp; omega) ?_) rfl rfl)
    clear s; intro A33 c33 w s
    try simp only [List.set_cons_zero, List.set_cons_succ, patch, List.take_succ_cons, List.take_zero, List.drop_succ_cons, List.drop_zero, List.drop_nil, List.nil_append, List.cons_append, List.append_nil, List.length_cons, List.length_nil, Nat.reduceAdd, Nat.zero_add] at s
    refine ⟨fun _ => s.sees (by intro b c t h; first | exact h | exact .tail _ h | exact .tail _ (.tail _ h) | exact .tail _ (.tail _ (.tail _ h)) | (simp only [List.mem_cons, List.not_mem_nil, or_false, List.set_cons_zero, List.set_cons_succ, reduceCtorEq, false_or] at h ⊢ <;> exact h)) (by intro f h; exact .tail _ h), ?_⟩
    refine VA_one (i := 19) (by kernel_rfl) ?_
    refine VO_run (d := 34) rfl (run_fieldAddr rfl fo30_1 rfl) rfl rfl ((fun h => nomatch (show true = false from h))) ?_
    refine VA_one (i := 20) (by kernel_rfl) ?_
    (refine VO_doesU rfl (does_store s rfl ty28 rfl rfl (i := 1) rfl rfl rfl (by (intro u hu; simp only [List.mem_cons, List.not_mem_nil, or_false] at hu; subst hu; rfl)) rfl ?_) rfl rfl rfl)
    clear s; intro w s
    try simp only [List.set_cons_zero, List.set_cons_succ, patch, List.take_succ_cons, List.take_zero, List.drop_succ_cons, List.drop_zero, List.drop_nil, List.nil_append, List.cons_append, List.append_nil, List.length_cons, List.length_nil, Nat.reduceAdd, Nat.zero_add] at s
    refine ⟨(fun h => nomatch (show true = false from h)), ?_⟩
    refine VA_done (by kernel_rfl) ?_
    repeat (refine VS_nil_block ?_)
    refine VS_region_lit ?_
    refine VL_run (d := 13) (run_move rfl (by conv => lhs; whnf)) rfl rfl ?_
    refine VL_run (d := 14) (run_add rfl rfl rfl (by omega)) rfl rfl ?_
    refine VL_run (d := 4) (run_assign rfl (by conv => lhs; whnf)) rfl rfl ?_
    refine VL_nil ?_
    refine VS_back (k + 1) ?_ (by repeat (first | exact Has.nil _ | refine Has.cons rfl ?_)) (by repeat (first | exact Out.mix _ _ _ | refine Out.upd rfl ?_)) ?_
    · exact ⟨by omega, _, _, _, s.less (by (repeat (first | exact sub_nil | refine sub_cons (by (repeat (first | exact .head _ | refine .tail _ ?_))) ?_)))⟩
    · omega
  · refine VS_exit ?_
    repeat (first | refine blockV_hit ?_ | refine backV_exit ?_)
    repeat (refine VS_seq ?_)
    refine VS_region_lit ?_
    refine VL_run (d := 35) (run_load_ownA (cs := [_, _]) s rfl ty30 rfl (i := 1) rfl rfl rfl) rfl rfl ?_
    (refine VL_doesU (does_store s rfl ty30 rfl rfl (i := 2) rfl rfl rfl (by (intro u hu; simp only [List.mem_cons, List.not_mem_nil, or_false] at hu; rcases hu with rfl | rfl | rfl | rfl | rfl <;> rfl)) rfl ?_) rfl rfl rfl)
    clear s; intro w s
    try simp only [List.set_cons_zero, List.set_cons_succ, patch, List.take_succ_cons, List.take_zero, List.drop_succ_cons, List.drop_zero, List.drop_nil, List.nil_append, List.cons_append, List.append_nil, List.length_cons, List.length_nil, Nat.reduceAdd, Nat.zero_add] at s
    refine VL_nil ?_
    refine VS_ret ?_
    repeat (first | refine blockV_ret ?_ | refine backV_ret ?_ | refine backV2_ret ?_ | refine backV3_ret ?_ | refine thenV_ret ?_ | refine metV2_ret ?_)
    refine fin_one (fn := Try.f131) rfl (res_ownA (cs := [_, _]) s ty30 rfl (i := 2) rfl rfl rfl) ?_
    rw [show k = n.list.length by omega, List.take_length] at s
    exact ⟨_, rfl, s.rowNew (i := 0) rfl, s.below⟩
theorem l33Put_ok (xs : List (Int × List ByteArray)) (x : Int × List ByteArray) {ok : Nat → Prop} {w0 : World} {v1 : Value} {cs : List Value} (h1 : Rd ok w0 (.sl (nodeDs xs)) [v1]) (h2 : Rd ok w0 (nodeD x) cs) (hxs : xs.length ≤ 1000000000) (hp : ∀ y ∈ xs, namesWt y.2 ≤ 1000000000) (hx : namesWt x.2 ≤ 1000000000) :
    Calls Try.prog 146 #[v1, .agg cs.toArray] w0 (Ret fun v w' => ∃ k, k ≤ xs.length ∧ Rd (okR ok w0) w' (.sl (nodeDs (xs.take k ++ [x] ++ xs.drop k))) [v] ∧ Below w0.heap.size w0 w') := by
  obtain ⟨A, c, e1, hl⟩ := Rd_sl1 h1
  rw [nodeDs_length] at hl e1
  obtain rfl := List.singleton_inj.1 e1
  obtain ⟨A5, c5, rfl, hl5, h6⟩ := node_opn h2
  have s := (((St.start ok w0).begin h6).begin h2).begin h1
  have hxl := namesWt_len x.2
  refine calls_enter (n := 34) Try.func146 rfl rfl rfl ?_
  repeat (refine VS_seq ?_)
  refine VS_region_lit ?_
  refine VL_does (d := 3) (does_box s rfl rfl rfl ?_) rfl rfl
  clear s; intro b3 w s
  refine VL_run (d := 4) (run_assign rfl (by conv => lhs; whnf)) rfl rfl ?_
  refine VL_nil ?_
  repeat (refine VS_seq ?_)
  refine VS_region_lit ?_
  refine VL_run (d := 5) (run_assign rfl (by conv => lhs; whnf)) rfl rfl ?_
  refine VL_nil ?_
  repeat (first | refine VS_seq ?_ | refine VS_block ?_)
  refine VS_loop [5, 6, 7, 8, 9, 10, 11, 12, 13, 14, 15, 16, 17, 18, 19, 20, 21] (fun k : Nat => [(5, .int .i64 k)]) (fun k w => St ok w0 [.blk b3 [.int .i64 x.1, .slice A5 x.2.length c5] 37] [.dat [.slice A xs.length c] (.sl (nodeDs xs)), .dat [.int .i64 x.1, .slice A5 x.2.length c5] (nodeD x), .dat [.slice A5 x.2.length c5] (.sl (strsD x.2))] w ∧ k ≤ xs.length) (fun k => xs.length - k) 0 ⟨s, by omega⟩ (by repeat (first | exact Has.nil _ | refine Has.cons rfl ?_)) ?_
  clear s
  rintro k w j ⟨s, hk⟩
  repeat (refine VS_seq ?_)
  refine VS_join1 [6, 7, 8, 9, 10, 11, 12, 13, 14, 15, 16, 17, 18, 19] (fun bb : Bool => [(19, .bool bb)]) (fun bb w => (bb = true → k < xs.length) ∧ St ok w0 [.blk b3 [.int .i64 x.1, .slice A5 x.2.length c5] 37] [.dat [.slice A xs.length c] (.sl (nodeDs xs)), .dat [.int .i64 x.1, .slice A5 x.2.length c5] (nodeD x), .dat [.slice A5 x.2.length c5] (.sl (strsD x.2))] w) ?_ ?_
  · refine VS_drawS 14 s mixed ?_
    clear s; intro s
    refine VA_take 0 (d := 6) rfl (by kernel_rfl) rfl (fun w g => run_move rfl (by conv => lhs; whnf)) s.see ?_
    refine VA_take 1 (d := 7) rfl (by kernel_rfl) rfl (fun w g => run_move rfl (by conv => lhs; whnf)) s.see ?_
    refine VA_take 2 (d := 8) rfl (by kernel_rfl) rfl (fun w g => run_lenSlice rfl ⟨_, Try.underlying28⟩ rfl) s.see ?_
    refine VA_take 3 (d := 9) rfl (by kernel_rfl) rfl (fun w g => run_ltI rfl rfl rfl) s.see ?_
    refine VA_take 4 (d := 10) rfl (by kernel_rfl) rfl (fun w g => run_move rfl (by conv => lhs; whnf)) s.see ?_
    refine VA_split 10 (by conv => lhs; whnf) (fun h10 => ?_) (fun h10 => ?_) <;> (try simp only [decide_eq_true_eq, decide_eq_false_iff_not, Bool.not_eq_true', Bool.not_eq_false', ne_eq, Decidable.not_not, cond_true, cond_false, Bool.and_eq_true, Bool.or_eq_true, Bool.and_eq_false_iff, Bool.or_eq_false_iff, Bool.not_true, Bool.not_false, reduceCtorEq] at h10)
    · refine VA_take 5 (d := 11) rfl (by kernel_rfl) rfl (fun w g => run_move rfl (by conv => lhs; whnf)) s.see ?_
      refine VA_take 6 (d := 12) rfl (by kernel_rfl) rfl (fun w g => run_move rfl (by conv => lhs; whnf)) s.see ?_
      refine VA_take 10 (d := 16) rfl (by kernel_rfl) rfl (fun w g => run_fieldAddr rfl fo37_1 rfl) s.see ?_
      refine VA_take 11 (d := 17) rfl (by kernel_rfl) rfl (fun w g => see_own1 g rfl ty23 rfl (i := 0) rfl rfl) s.see ?_
      refine VA_one (i := 7) (by kernel_rfl) ?_
      have hk' : k < xs.length := (by omega); have hpk := Nat.le_trans (namesWt_len _) (hp _ (List.getElem_mem hk')); obtain ⟨ad, A7, c7, rfl, -, s⟩ := s.openN (i := 0) rfl k hk'
      refine VO_run (d := 13) rfl (run_indexAddr rfl Try.underlying28 ty37 rfl rfl (by omega) (by omega)) rfl rfl (fun _ => s.sees (by intro b c t h; exact h) (by intro f h; exact .tail _ (.tail _ h))) ?_
      refine VA_take 8 (d := 14) rfl (by kernel_rfl) rfl (fun w g => run_fieldAddr rfl fo37_1 rfl) (by (exact s.sees (by intro b c t h; exact h) (by intro f h; exact .tail _ (.tail _ h)))) ?_
      refine VA_one (i := 9) (by kernel_rfl) ?_
      (refine VO_run (d := 15) rfl (run_load_at1 s rfl ty23 rfl (i := 0) rfl rfl) rfl rfl (fun _ => s.sees (by intro b c t h; exact h) (by intro f h; exact .tail _ (.tail _ h))) ?_)
      refine VA_one (i := 12) (by kernel_rfl) ?_
      refine VO_does (d := 18) rfl (does_call2 rfl (by kernel_rfl) rfl rfl (l11Less_ok _ _ (s.dat (i := 1) rfl) (s.dat (i := 4) rfl) (by omega) (by omega)) ?_) rfl rfl
      rintro _ w ⟨rfl, hb⟩
      replace s := s.step hb
      clear hb
      refine ⟨fun _ => s.sees (by intro b c t h; exact h) (by intro f h; exact .tail _ (.tail _ h)), ?_⟩
      (refine VA_take 13 (d := 19) rfl (by kernel_rfl) rfl (fun w g => run_pickT rfl rfl rfl) (by (exact s.sees (by intro b c t h; exact h) (by intro f h; exact .tail _ (.tail _ h)))) ?_)
      refine VA_done (by kernel_rfl) ?_
      refine VS_met (_) ?_ (by repeat (first | exact Has.nil _ | refine Has.cons rfl ?_)) (by repeat (first | exact Out.refl _ _ | refine Out.upd rfl ?_))
      exact ⟨(fun h => by omega), s.less (by (repeat (first | exact sub_nil | refine sub_cons (by (repeat (first | exact .head _ | refine .tail _ ?_))) ?_)))⟩
    · refine VA_not 5 (d := 11) rfl (by kernel_rfl) rfl s.see ?_
      refine VA_not 6 (d := 12) rfl (by kernel_rfl) rfl s.see ?_
      refine VA_not 7 (d := 13) rfl (by kernel_rfl) rfl s.see ?_
      refine VA_not 8 (d := 14) rfl (by kernel_rfl) rfl s.see ?_
      refine VA_not 9 (d := 15) rfl (by kernel_rfl) rfl s.see ?_
      refine VA_not 10 (d := 16) rfl (by kernel_rfl) rfl s.see ?_
      refine VA_not 11 (d := 17) rfl (by kernel_rfl) rfl s.see ?_
      refine VA_not 12 (d := 18) rfl (by kernel_rfl) rfl s.see ?_
      refine VA_take 13 (d := 19) rfl (by kernel_rfl) rfl (fun w g => run_pickF rfl rfl rfl) s.see ?_
      refine VA_done (by kernel_rfl) ?_
      refine VS_met (_) ?_ (by repeat (first | exact Has.nil _ | refine Has.cons rfl ?_)) (by repeat (first | exact Out.refl _ _ | refine Out.upd rfl ?_))
      exact ⟨(fun h => by cases h), s.less (by (repeat (first | exact sub_nil | refine sub_cons (by (repeat (first | exact .head _ | refine .tail _ ?_))) ?_)))⟩
  clear s
  rintro bb w j ⟨hbb, s⟩
  refine VS_cond rfl (fun c0 => ?_) (fun c0 => ?_) <;> (try simp only [decide_eq_true_eq, decide_eq_false_iff_not, Bool.not_eq_true', Bool.not_eq_false', ne_eq, Decidable.not_not, cond_true, cond_false, Bool.and_eq_true, Bool.or_eq_true, Bool.and_eq_false_iff, Bool.or_eq_false_iff, Bool.not_true, Bool.not_false, reduceCtorEq] at c0)
  · have hk' := hbb c0
    repeat (first | refine VS_block ?_ | refine VS_skip ?_)
    refine VS_region_lit ?_
    refine VL_run (d := 20) (run_move rfl (by conv => lhs; whnf)) rfl rfl ?_
    refine VL_run (d := 21) (run_add rfl rfl rfl (by omega)) rfl rfl ?_
    refine VL_run (d := 5) (run_assign rfl (by conv => lhs; whnf)) rfl rfl ?_
    refine VL_nil ?_
    repeat (refine VS_nil_block ?_)
    refine VS_back (k + 1) ?_ (by repeat (first | exact Has.nil _ | refine Has.cons rfl ?_)) (by repeat (first | exact Out.mix _ _ _ | refine Out.upd rfl ?_ | refine Out.mix_in rfl ?_)) ?_
    · exact ⟨s, by omega⟩
    · omega
  · refine VS_exit ?_
    repeat (first | refine blockV_hit ?_ | refine backV_exit ?_)
    repeat (refine VS_seq ?_)
    have s := (s.partN (i := 0) rfl 0 k (by omega) (by omega) (xs.take k) (by simp)).partN (i := 1) rfl k xs.length (by omega) (by omega) (xs.drop k) (List.take_of_length_le (by simp))
    refine VS_drawS 12 s mixed ?_
    clear s; intro s
    refine VA_take 1 (d := 23) rfl (by kernel_rfl) rfl (fun w g => run_move rfl (by conv => lhs; whnf)) s.see ?_
    refine VA_take 2 (d := 24) rfl (by kernel_rfl) rfl (fun w g => run_move rfl (by conv => lhs; whnf)) s.see ?_
    refine VA_take 3 (d := 25) rfl (by kernel_rfl) rfl (fun w g => run_sliceSlH (h := k) rfl Try.underlying28 ty37 rfl rfl (by omega) (by omega)) s.see ?_
    refine VA_take 5 (d := 27) rfl (by kernel_rfl) rfl (fun w g => see_ownA (cs := [_, _]) g rfl ty37 rfl (i := 0) rfl rfl rfl) s.see ?_
    refine VA_take 8 (d := 30) rfl (by kernel_rfl) rfl (fun w g => run_move rfl (by conv => lhs; whnf)) s.see ?_
    refine VA_take 9 (d := 31) rfl (by kernel_rfl) rfl (fun w g => run_move rfl (by conv => lhs; whnf)) s.see ?_
    refine VA_take 10 (d := 32) rfl (by kernel_rfl) rfl (fun w g => run_sliceSlL (l := k) rfl Try.underlying28 ty37 rfl rfl (by omega) (by omega) (by omega)) s.see ?_
    refine VA_two (i := 0) (j := 6) (by kernel_rfl) ?_ ?_
    · refine VO_does (d := 22) rfl (does_slice0 s rfl Try.underlying28 ty37 ?_) rfl rfl
      clear s; intro g22 w s
      refine ⟨fun _ => s.sees (by intro b c t h; exact .tail _ h) (by intro f h; exact h), ?_⟩
      refine VA_two (i := 4) (j := 6) (by kernel_rfl) ?_ ?_
      · (refine VO_does (d := 26) rfl (does_appendD s rfl Try.underlying28 ty37 (by decide) (by decide) (i := 0) rfl rfl rfl (s.fa (.dat [.slice (if c = 0 then A else A.map (·.add (0 * 2))) (k - 0) (c - 0)] (.sl (nodeDs (xs.take k)))) (by (repeat (first | exact .head _ | refine .tail _ ?_)))) (nodeDs_wd _) (by simp <;> omega) (show _ = nodeDs (xs.take k) by simp) (show _ = k by simp; omega) ?_) rfl rfl)
        clear s; intro A26 c26 w s
        try simp only [List.set_cons_zero, List.set_cons_succ, patch, List.take_succ_cons, List.take_zero, List.drop_succ_cons, List.drop_zero, List.drop_nil, List.nil_append, List.cons_append, List.append_nil, List.length_cons, List.length_nil, Nat.reduceAdd, Nat.zero_add] at s
        refine ⟨fun _ => s.sees (by intro b c t h; exact .tail _ h) (by intro f h; exact h), ?_⟩
        refine VA_one (i := 6) (by kernel_rfl) ?_
        refine VO_does (d := 28) rfl (does_slice1 s rfl Try.underlying28 ty37 (by decide) (by decide) rfl rfl (show Rd _ _ (nodeD x) _ from s.fa (.dat [.int .i64 x.1, .slice A5 x.2.length c5] (nodeD x)) (by (repeat (first | exact .head _ | refine .tail _ ?_)))) rfl ?_) rfl rfl
        clear s; intro g28 w s
        refine ⟨fun _ => s.sees (by intro b c t h; exact .tail _ (.tail _ h)) (by intro f h; exact h), ?_⟩
        replace s := s.freeze (k := 0) rfl; simp only [List.eraseIdx_cons_zero] at s
        refine VA_one (i := 7) (by kernel_rfl) ?_
        (refine VO_does (d := 29) rfl (does_appendD s rfl Try.underlying28 ty37 (by decide) (by decide) (i := 0) rfl rfl rfl (s.fa (.dat [.slice (some ⟨g28, 0, none⟩) 1 1] (.sl [nodeD x])) (by (repeat (exact .head _)))) (nodeDs_wd [x]) (by simp <;> omega) (nodeDs_snoc _ _) (show _ = k + 1 by simp; omega) ?_) rfl rfl)
        clear s; intro A29 c29 w s
        try simp only [List.set_cons_zero, List.set_cons_succ, patch, List.take_succ_cons, List.take_zero, List.drop_succ_cons, List.drop_zero, List.drop_nil, List.nil_append, List.cons_append, List.append_nil, List.length_cons, List.length_nil, Nat.reduceAdd, Nat.zero_add] at s
        refine ⟨fun _ => s.sees (by intro b c t h; exact .tail _ h) (by intro f h; exact .tail _ h), ?_⟩
        refine VA_one (i := 11) (by kernel_rfl) ?_
        (refine VO_does (d := 33) rfl (does_appendD s rfl Try.underlying28 ty37 (by decide) (by decide) (i := 0) rfl rfl rfl (s.fa (.dat [.slice (if c = k then A else A.map (·.add (k * 2))) (xs.length - k) (c - k)] (.sl (nodeDs (xs.drop k)))) (by (repeat (first | exact .head _ | refine .tail _ ?_)))) (nodeDs_wd _) (by simp <;> omega) (show _ = nodeDs (xs.take k ++ [x] ++ xs.drop k) by simp [nodeDs]) (show _ = xs.length + 1 by simp; omega) ?_) rfl rfl)
        clear s; intro A33 c33 w s
        try simp only [List.set_cons_zero, List.set_cons_succ, patch, List.take_succ_cons, List.take_zero, List.drop_succ_cons, List.drop_zero, List.drop_nil, List.nil_append, List.cons_append, List.append_nil, List.length_cons, List.length_nil, Nat.reduceAdd, Nat.zero_add] at s
        refine ⟨fun _ => s.sees (by intro b c t h; exact .tail _ h) (by intro f h; exact .tail _ h), ?_⟩
        refine VA_one (i := 12) (by kernel_rfl) ?_
        refine VO_run (d := 4) rfl (run_assign rfl (by conv => lhs; whnf)) rfl rfl ((fun h => nomatch (show true = false from h))) ?_
        refine VA_done (by kernel_rfl) ?_
        refine VS_ret ?_
        repeat (first | refine blockV_ret ?_ | refine backV_ret ?_ | refine backV2_ret ?_ | refine backV3_ret ?_ | refine thenV_ret ?_ | refine metV2_ret ?_)
        refine fin_one (fn := Try.f146) rfl (res_tmp (by conv => lhs; whnf)) ?_
        have s := s.freeze (k := 0) rfl
        exact ⟨k, hk, s.tell (s.dat (i := 0) rfl), s.below⟩
      · refine VO_does (d := 28) rfl (does_slice1 s rfl Try.underlying28 ty37 (by decide) (by decide) rfl rfl (show Rd _ _ (nodeD x) _ from s.fa (.dat [.int .i64 x.1, .slice A5 x.2.length c5] (nodeD x)) (by (repeat (first | exact .head _ | refine .tail _ ?_)))) rfl ?_) rfl rfl
        clear s; intro g28 w s
        refine ⟨fun _ => s.sees (by intro b c t h; exact .tail _ (.tail _ h)) (by intro f h; exact h), ?_⟩
        replace s := s.freeze (k := 0) rfl; simp only [List.eraseIdx_cons_zero] at s
        refine VA_one (i := 4) (by kernel_rfl) ?_
        (refine VO_does (d := 26) rfl (does_appendD s rfl Try.underlying28 ty37 (by decide) (by decide) (i := 0) rfl rfl rfl (s.fa (.dat [.slice (if c = 0 then A else A.map (·.add (0 * 2))) (k - 0) (c - 0)] (.sl (nodeDs (xs.take k)))) (by (repeat (first | exact .head _ | refine .tail _ ?_)))) (nodeDs_wd _) (by simp <;> omega) (show _ = nodeDs (xs.take k) by simp) (show _ = k by simp; omega) ?_) rfl rfl)
        clear s; intro A26 c26 w s
        try simp only [List.set_cons_zero, List.set_cons_succ, patch, List.take_succ_cons, List.take_zero, List.drop_succ_cons, List.drop_zero, List.drop_nil, List.nil_append, List.cons_append, List.append_nil, List.length_cons, List.length_nil, Nat.reduceAdd, Nat.zero_add] at s
        refine ⟨fun _ => s.sees (by intro b c t h; exact .tail _ h) (by intro f h; exact .tail _ h), ?_⟩
        refine VA_one (i := 7) (by kernel_rfl) ?_
        (refine VO_does (d := 29) rfl (does_appendD s rfl Try.underlying28 ty37 (by decide) (by decide) (i := 0) rfl rfl rfl (s.fa (.dat [.slice (some ⟨g28, 0, none⟩) 1 1] (.sl [nodeD x])) (by (repeat (exact .head _)))) (nodeDs_wd [x]) (by simp <;> omega) (nodeDs_snoc _ _) (show _ = k + 1 by simp; omega) ?_) rfl rfl)
        clear s; intro A29 c29 w s
        try simp only [List.set_cons_zero, List.set_cons_succ, patch, List.take_succ_cons, List.take_zero, List.drop_succ_cons, List.drop_zero, List.drop_nil, List.nil_append, List.cons_append, List.append_nil, List.length_cons, List.length_nil, Nat.reduceAdd, Nat.zero_add] at s
        refine ⟨fun _ => s.sees (by intro b c t h; exact .tail _ h) (by intro f h; exact .tail _ h), ?_⟩
        refine VA_one (i := 11) (by kernel_rfl) ?_
        (refine VO_does (d := 33) rfl (does_appendD s rfl Try.underlying28 ty37 (by decide) (by decide) (i := 0) rfl rfl rfl (s.fa (.dat [.slice (if c = k then A else A.map (·.add (k * 2))) (xs.length - k) (c - k)] (.sl (nodeDs (xs.drop k)))) (by (repeat (first | exact .head _ | refine .tail _ ?_)))) (nodeDs_wd _) (by simp <;> omega) (show _ = nodeDs (xs.take k ++ [x] ++ xs.drop k) by simp [nodeDs]) (show _ = xs.length + 1 by simp; omega) ?_) rfl rfl)
        clear s; intro A33 c33 w s
        try simp only [List.set_cons_zero, List.set_cons_succ, patch, List.take_succ_cons, List.take_zero, List.drop_succ_cons, List.drop_zero, List.drop_nil, List.nil_append, List.cons_append, List.append_nil, List.length_cons, List.length_nil, Nat.reduceAdd, Nat.zero_add] at s
        refine ⟨fun _ => s.sees (by intro b c t h; exact .tail _ h) (by intro f h; exact .tail _ h), ?_⟩
        refine VA_one (i := 12) (by kernel_rfl) ?_
        refine VO_run (d := 4) rfl (run_assign rfl (by conv => lhs; whnf)) rfl rfl ((fun h => nomatch (show true = false from h))) ?_
        refine VA_done (by kernel_rfl) ?_
        refine VS_ret ?_
        repeat (first | refine blockV_ret ?_ | refine backV_ret ?_ | refine backV2_ret ?_ | refine backV3_ret ?_ | refine thenV_ret ?_ | refine metV2_ret ?_)
        refine fin_one (fn := Try.f146) rfl (res_tmp (by conv => lhs; whnf)) ?_
        have s := s.freeze (k := 0) rfl
        exact ⟨k, hk, s.tell (s.dat (i := 0) rfl), s.below⟩
    · refine VO_does (d := 28) rfl (does_slice1 s rfl Try.underlying28 ty37 (by decide) (by decide) rfl rfl (show Rd _ _ (nodeD x) _ from s.fa (.dat [.int .i64 x.1, .slice A5 x.2.length c5] (nodeD x)) (by (repeat (first | exact .head _ | refine .tail _ ?_)))) rfl ?_) rfl rfl
      clear s; intro g28 w s
      refine ⟨fun _ => s.sees (by intro b c t h; exact .tail _ h) (by intro f h; exact h), ?_⟩
      replace s := s.freeze (k := 0) rfl; simp only [List.eraseIdx_cons_zero] at s
      refine VA_one (i := 0) (by kernel_rfl) ?_
      refine VO_does (d := 22) rfl (does_slice0 s rfl Try.underlying28 ty37 ?_) rfl rfl
      clear s; intro g22 w s
      refine ⟨fun _ => s.sees (by intro b c t h; exact .tail _ h) (by intro f h; exact .tail _ h), ?_⟩
      refine VA_one (i := 4) (by kernel_rfl) ?_
      (refine VO_does (d := 26) rfl (does_appendD s rfl Try.underlying28 ty37 (by decide) (by decide) (i := 0) rfl rfl rfl (s.fa (.dat [.slice (if c = 0 then A else A.map (·.add (0 * 2))) (k - 0) (c - 0)] (.sl (nodeDs (xs.take k)))) (by (repeat (first | exact .head _ | refine .tail _ ?_)))) (nodeDs_wd _) (by simp <;> omega) (show _ = nodeDs (xs.take k) by simp) (show _ = k by simp; omega) ?_) rfl rfl)
      clear s; intro A26 c26 w s
      try simp only [List.set_cons_zero, List.set_cons_succ, patch, List.take_succ_cons, List.take_zero, List.drop_succ_cons, List.drop_zero, List.drop_nil, List.nil_append, List.cons_append, List.append_nil, List.length_cons, List.length_nil, Nat.reduceAdd, Nat.zero_add] at s
      refine ⟨fun _ => s.sees (by intro b c t h; exact .tail _ h) (by intro f h; exact .tail _ h), ?_⟩
      refine VA_one (i := 7) (by kernel_rfl) ?_
      (refine VO_does (d := 29) rfl (does_appendD s rfl Try.underlying28 ty37 (by decide) (by decide) (i := 0) rfl rfl rfl (s.fa (.dat [.slice (some ⟨g28, 0, none⟩) 1 1] (.sl [nodeD x])) (by (repeat (exact .head _)))) (nodeDs_wd [x]) (by simp <;> omega) (nodeDs_snoc _ _) (show _ = k + 1 by simp; omega) ?_) rfl rfl)
      clear s; intro A29 c29 w s
      try simp only [List.set_cons_zero, List.set_cons_succ, patch, List.take_succ_cons, List.take_zero, List.drop_succ_cons, List.drop_zero, List.drop_nil, List.nil_append, List.cons_append, List.append_nil, List.length_cons, List.length_nil, Nat.reduceAdd, Nat.zero_add] at s
      refine ⟨fun _ => s.sees (by intro b c t h; exact .tail _ h) (by intro f h; exact .tail _ h), ?_⟩
      refine VA_one (i := 11) (by kernel_rfl) ?_
      (refine VO_does (d := 33) rfl (does_appendD s rfl Try.underlying28 ty37 (by decide) (by decide) (i := 0) rfl rfl rfl (s.fa (.dat [.slice (if c = k then A else A.map (·.add (k * 2))) (xs.length - k) (c - k)] (.sl (nodeDs (xs.drop k)))) (by (repeat (first | exact .head _ | refine .tail _ ?_)))) (nodeDs_wd _) (by simp <;> omega) (show _ = nodeDs (xs.take k ++ [x] ++ xs.drop k) by simp [nodeDs]) (show _ = xs.length + 1 by simp; omega) ?_) rfl rfl)
      clear s; intro A33 c33 w s
      try simp only [List.set_cons_zero, List.set_cons_succ, patch, List.take_succ_cons, List.take_zero, List.drop_succ_cons, List.drop_zero, List.drop_nil, List.nil_append, List.cons_append, List.append_nil, List.length_cons, List.length_nil, Nat.reduceAdd, Nat.zero_add] at s
      refine ⟨fun _ => s.sees (by intro b c t h; exact .tail _ h) (by intro f h; exact .tail _ h), ?_⟩
      refine VA_one (i := 12) (by kernel_rfl) ?_
      refine VO_run (d := 4) rfl (run_assign rfl (by conv => lhs; whnf)) rfl rfl ((fun h => nomatch (show true = false from h))) ?_
      refine VA_done (by kernel_rfl) ?_
      refine VS_ret ?_
      repeat (first | refine blockV_ret ?_ | refine backV_ret ?_ | refine backV2_ret ?_ | refine backV3_ret ?_ | refine thenV_ret ?_ | refine metV2_ret ?_)
      refine fin_one (fn := Try.f146) rfl (res_tmp (by conv => lhs; whnf)) ?_
      have s := s.freeze (k := 0) rfl
      exact ⟨k, hk, s.tell (s.dat (i := 0) rfl), s.below⟩
end Go.Proofs.Ytkefaelmamgjiaa
