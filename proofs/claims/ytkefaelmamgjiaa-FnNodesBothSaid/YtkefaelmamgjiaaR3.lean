/- draws: l4Call. -/
import Derived.Test.YtkefaelmamgjiaaR2
set_option linter.unusedVariables false
set_option linter.unusedSimpArgs false
set_option maxHeartbeats 4000000
namespace Go.Proofs.Ytkefaelmamgjiaa
open Go.RowKit

abbrev cl0 : List Value := [.int .i64 0, .slice none 0 0, .slice none 0 0, .int .i64 0, .string ⟨#[]⟩]
def clB (M : Nat) (c : Cl) : Prop := namesWt c.path ≤ M ∧ namesWt c.to ≤ M ∧ c.data.size ≤ 25
theorem namesWt_dropLast (q : List ByteArray) : namesWt q.dropLast ≤ namesWt q := by
  by_cases h : q = []
  · subst h; exact Nat.le_refl _
  · have e := List.dropLast_concat_getLast h
    have := namesWt_app q.dropLast [q.getLast h]
    rw [e] at this
    omega
theorem seven_mem {x : ByteArray} (h : x ∈ [⟨#[]⟩, ⟨#[65]⟩, ⟨#[116, 111, 111, 108, 111, 110, 103]⟩, ⟨#[120]⟩, (⟨#[121]⟩ : ByteArray)]) : x.size ≤ 7 := by
  simp only [List.mem_cons, List.not_mem_nil, or_false] at h
  rcases h with rfl | rfl | rfl | rfl | rfl <;> decide
section
variable {ok : Nat → Prop} {W0 : Start} {w : World} {C : List It} {F : List Fa}
theorem St.openI (s : St ok W0 C F w) {i : Nat} {A : Option Addr} {m c : Nat} {xs : List Int} (hi : F[i]? = some (.dat [.slice A m c] (.sl (intsD xs)))) (k : Nat) (hk : k < xs.length) :
    ∃ ad, A = some ad ∧ St ok W0 C (.at (ad.add (k * 1)) [.int .i64 xs[k]] :: F) w := by
  obtain ⟨ad, cs, h1, s⟩ := s.openE hi (by decide) (intsD_wd _) k (by simpa [intsD] using hk)
  have h2 := s.dat (i := 1) rfl
  have h3 : (intsD xs)[k]'(by simpa [intsD] using hk) = .int .i64 xs[k] := by simp [intsD]
  rw [h3] at h2
  simp only [Rd] at h2
  subst h2
  exact ⟨ad, h1, s.less fun f hf => by
    rcases List.mem_cons.1 hf with rfl | h
    · exact .head _
    · exact .tail _ (.tail _ h)⟩
end
theorem l4Call_ok {ok : Nat → Prop} {w0 : World} {b : Nat} {v : Value} {p : Int} {l : List UInt8} (t : Tr) {cs : List Value} (h : Rdr ok w0 b v p l) (h2 : Rd ok w0 t.toD cs) (hp : p ≤ 10000000) (ht : t.wt ≤ 10000000) :
    Calls Try.prog 84 #[.pointer (some ⟨b, 0, none⟩), .agg cs.toArray] w0 (Ret fun r w' => ∃ cc c, r = .agg (List.toArray cc) ∧ clB (4 * t.wt + 32) c ∧ Rd (okR ok w0) w' c.toD cc ∧ Aft w0 w' b v p 50) := by
  obtain ⟨A3, n3, A4, n4, rfl, hl3, hl4, h3, h4⟩ := Tr.opn h2
  have hlen := h.len
  have hlow := h.low
  have s := (h.start.know (f := .dat (trC t A3 n3 A4 n4) t.toD) (h.rd h2))
  clear h h2 h3 h4
  obtain ⟨M, hM⟩ : ∃ M, M = 4 * t.wt + 24 := ⟨_, rfl⟩
  have hM2 : M + 8 = 4 * t.wt + 32 := by omega
  rw [← hM2]
  refine calls_enter (n := 101) Try.func84 rfl rfl rfl ?_
  repeat (refine VS_seq ?_)
  refine VS_region_lit ?_
  refine VL_does (d := 3) (does_box s rfl rfl rfl ?_) rfl rfl
  clear s; intro b3 w s
  refine VL_does (d := 4) (does_alloc s rfl ty70 rfl ?_) rfl rfl
  clear s; intro b4 w s
  refine VL_nil ?_
  repeat (refine VS_seq ?_)
  refine VS_join1 [5, 6, 7, 8, 9, 10, 11, 12] (fun b5 : Nat => [(5, .pointer (some ⟨b5, 0, none⟩))]) (fun b5 w => ∃ c A1 k1 A2 k2 p2, clB M c ∧ p ≤ p2 ∧ p2 ≤ p + 18 ∧ St ok ⟨w0, [b]⟩ [.blk b5 (clC c A1 k1 A2 k2) 70, .blk b4 cl0 70, .blk b3 (trC t A3 n3 A4 n4) 26, .blk b (rdC v p2) 121] [.dat [.slice A1 c.path.length k1] (.sl (strsD c.path)), .dat [.slice A2 c.to.length k2] (.sl (strsD c.to)), .dat (trC t A3 n3 A4 n4) t.toD, .dat [v] (.sl (bytesL l))] w) ?_ ?_
  · refine VS_drawSub (C' := [.blk b3 (trC t A3 n3 A4 n4) 26] ) (F' :=  []) 8 s mixed ?_
    clear s; intro s
    refine VA_take 0 (d := 6) rfl (by kernel_rfl) rfl (fun w g => run_move rfl (by conv => lhs; whnf)) (s.sees (fun b_ c_ t_ h_ => (show ∀ x_ ∈ ([.blk b3 (trC t A3 n3 A4 n4) 26] : List It), x_ ∈ _ from by (repeat (first | exact sub_nil | refine sub_cons (by (repeat (first | exact .head _ | refine .tail _ ?_))) ?_))) _ h_) (by (repeat (exact sub_nil)))) ?_
    refine VA_take 3 (d := 9) rfl (by kernel_rfl) rfl (fun w g => run_move rfl (by conv => lhs; whnf)) (s.sees (fun b_ c_ t_ h_ => (show ∀ x_ ∈ ([.blk b3 (trC t A3 n3 A4 n4) 26] : List It), x_ ∈ _ from by (repeat (first | exact sub_nil | refine sub_cons (by (repeat (first | exact .head _ | refine .tail _ ?_))) ?_))) _ h_) (by (repeat (exact sub_nil)))) ?_
    refine VA_take 4 (d := 10) rfl (by kernel_rfl) rfl (fun w g => see_ownA (cs := [_, _, _, _, _]) g rfl ty26 rfl (i := 0) rfl rfl rfl) (s.sees (fun b_ c_ t_ h_ => (show ∀ x_ ∈ ([.blk b3 (trC t A3 n3 A4 n4) 26] : List It), x_ ∈ _ from by (repeat (first | exact sub_nil | refine sub_cons (by (repeat (first | exact .head _ | refine .tail _ ?_))) ?_))) _ h_) (by (repeat (exact sub_nil)))) ?_
    refine VA_two (i := 1) (j := 7) (by kernel_rfl) ?_ ?_
    · refine VO_does (d := 7) rfl (does_call2 rfl (by kernel_rfl) rfl rfl (by exact pick_ok _ (s.rdrM (i := 2) rfl (by (repeat (first | exact .head _ | refine .tail _ ?_))) hlen (by omega)) (by omega) (by omega)) ?_) rfl rfl
      rintro v7 w7 ⟨n, rfl, hn0, hn1, ha⟩
      (obtain ⟨p1, hp1a, hp1b, s⟩ := s.aft (i := 2) rfl ha); simp only [List.set_cons_zero, List.set_cons_succ] at s; clear ha
      refine ⟨fun _ => s.sees (fun b_ c_ t_ h_ => (show ∀ x_ ∈ ([.blk b3 (trC t A3 n3 A4 n4) 26] : List It), x_ ∈ _ from by (repeat (first | exact sub_nil | refine sub_cons (by (repeat (first | exact .head _ | refine .tail _ ?_))) ?_))) _ h_) (by (repeat (exact sub_nil))), ?_⟩
      refine VA_take 2 (d := 8) rfl (by kernel_rfl) rfl (fun w g => run_add rfl rfl rfl (by omega)) (s.sees (fun b_ c_ t_ h_ => (show ∀ x_ ∈ ([.blk b3 (trC t A3 n3 A4 n4) 26] : List It), x_ ∈ _ from by (repeat (first | exact sub_nil | refine sub_cons (by (repeat (first | exact .head _ | refine .tail _ ?_))) ?_))) _ h_) (by (repeat (exact sub_nil)))) ?_
      refine VA_two (i := 5) (j := 7) (by kernel_rfl) ?_ ?_
      · refine VO_does (d := 11) rfl (does_call2 rfl (by kernel_rfl) rfl rfl (by exact l4Path_ok t (s.rdrM (i := 2) rfl (by (repeat (first | exact .head _ | refine .tail _ ?_))) hlen (by omega)) (s.fa (.dat (trC t A3 n3 A4 n4) t.toD) (by (repeat (exact .head _)))) (by omega) (by omega)) ?_) rfl rfl
        rintro v11 w11 ⟨q, hq1, hq2, hq3, hd, ha⟩
        (obtain ⟨p2, hp2a, hp2b, s⟩ := s.aftR (i := 2) rfl ha hd); simp only [List.set_cons_zero, List.set_cons_succ] at s; clear ha hd; (obtain ⟨A1, k1, e1, -⟩ := Rd_strs (s.dat (i := 0) rfl)); obtain rfl := List.singleton_inj.1 e1
        refine ⟨fun _ => s.sees (fun b_ c_ t_ h_ => (show ∀ x_ ∈ ([.blk b3 (trC t A3 n3 A4 n4) 26] : List It), x_ ∈ _ from by (repeat (first | exact sub_nil | refine sub_cons (by (repeat (first | exact .head _ | refine .tail _ ?_))) ?_))) _ h_) (by (repeat (exact sub_nil))), ?_⟩
        refine VA_take 6 (d := 12) rfl (by kernel_rfl) rfl (fun w g => run_build (cs := [.int .i64 _, .slice _ _ _, .slice none 0 0, .int .i64 0, .string ⟨#[]⟩]) rfl ty70 st70 rfl) (s.sees (fun b_ c_ t_ h_ => (show ∀ x_ ∈ ([.blk b3 (trC t A3 n3 A4 n4) 26] : List It), x_ ∈ _ from by (repeat (first | exact sub_nil | refine sub_cons (by (repeat (first | exact .head _ | refine .tail _ ?_))) ?_))) _ h_) (by (repeat (exact sub_nil)))) ?_
        refine VA_one (i := 7) (by kernel_rfl) ?_
        refine VO_does (d := 5) rfl (does_alloc s rfl ty70 rfl ?_) rfl rfl
        clear s; intro b5 w s
        refine ⟨fun _ => s.sees (fun b_ c_ t_ h_ => (show ∀ x_ ∈ ([.blk b3 (trC t A3 n3 A4 n4) 26] : List It), x_ ∈ _ from by (repeat (first | exact sub_nil | refine sub_cons (by (repeat (first | exact .head _ | refine .tail _ ?_))) ?_))) _ h_) (by (repeat (exact sub_nil))), ?_⟩
        refine VA_one (i := 8) (by kernel_rfl) ?_
        (refine VO_doesU rfl (does_store s rfl ty70 rfl rfl (i := 0) rfl rfl rfl (by (intro u hu; simp only [List.mem_cons, List.not_mem_nil, or_false] at hu; rcases hu with rfl | rfl | rfl | rfl | rfl <;> rfl)) rfl ?_) rfl rfl rfl)
        clear s; intro w s
        try simp only [List.set_cons_zero, List.set_cons_succ, patch, List.take_succ_cons, List.take_zero, List.drop_succ_cons, List.drop_zero, List.drop_nil, List.nil_append, List.cons_append, List.append_nil, List.length_cons, List.length_nil, Nat.reduceAdd, Nat.zero_add] at s
        refine ⟨(fun h => nomatch (show true = false from h)), ?_⟩
        refine VA_done (by kernel_rfl) ?_
        refine VS_met (_) ?_ (by repeat (first | exact Has.nil _ | refine Has.cons rfl ?_)) (by repeat (first | exact Out.refl _ _ | refine Out.upd rfl ?_))
        exact ⟨⟨1 + n, q, [], 0, ⟨#[]⟩⟩, A1, k1, none, 0, _, ⟨(show namesWt q ≤ M by omega), Nat.zero_le _, Nat.zero_le _⟩, by omega, by omega, (s.know (f := .dat [.slice none 0 0] (.sl (strsD []))) ⟨none, 0, rfl, by simp, trivial⟩).less (by (repeat (first | exact sub_nil | refine sub_cons (by (repeat (first | exact .head _ | refine .tail _ ?_))) ?_)))⟩
      · refine VO_does (d := 5) rfl (does_alloc s rfl ty70 rfl ?_) rfl rfl
        clear s; intro b5 w s
        refine ⟨fun _ => s.sees (fun b_ c_ t_ h_ => (show ∀ x_ ∈ ([.blk b3 (trC t A3 n3 A4 n4) 26] : List It), x_ ∈ _ from by (repeat (first | exact sub_nil | refine sub_cons (by (repeat (first | exact .head _ | refine .tail _ ?_))) ?_))) _ h_) (by (repeat (exact sub_nil))), ?_⟩
        refine VA_one (i := 5) (by kernel_rfl) ?_
        refine VO_does (d := 11) rfl (does_call2 rfl (by kernel_rfl) rfl rfl (by exact l4Path_ok t (s.rdrM (i := 3) rfl (by (repeat (first | exact .head _ | refine .tail _ ?_))) hlen (by omega)) (s.fa (.dat (trC t A3 n3 A4 n4) t.toD) (by (repeat (exact .head _)))) (by omega) (by omega)) ?_) rfl rfl
        rintro v11 w11 ⟨q, hq1, hq2, hq3, hd, ha⟩
        (obtain ⟨p2, hp2a, hp2b, s⟩ := s.aftR (i := 3) rfl ha hd); simp only [List.set_cons_zero, List.set_cons_succ] at s; clear ha hd; (obtain ⟨A1, k1, e1, -⟩ := Rd_strs (s.dat (i := 0) rfl)); obtain rfl := List.singleton_inj.1 e1
        refine ⟨fun _ => s.sees (fun b_ c_ t_ h_ => (show ∀ x_ ∈ ([.blk b3 (trC t A3 n3 A4 n4) 26] : List It), x_ ∈ _ from by (repeat (first | exact sub_nil | refine sub_cons (by (repeat (first | exact .head _ | refine .tail _ ?_))) ?_))) _ h_) (by (repeat (exact sub_nil))), ?_⟩
        refine VA_take 6 (d := 12) rfl (by kernel_rfl) rfl (fun w g => run_build (cs := [.int .i64 _, .slice _ _ _, .slice none 0 0, .int .i64 0, .string ⟨#[]⟩]) rfl ty70 st70 rfl) (s.sees (fun b_ c_ t_ h_ => (show ∀ x_ ∈ ([.blk b3 (trC t A3 n3 A4 n4) 26] : List It), x_ ∈ _ from by (repeat (first | exact sub_nil | refine sub_cons (by (repeat (first | exact .head _ | refine .tail _ ?_))) ?_))) _ h_) (by (repeat (exact sub_nil)))) ?_
        refine VA_one (i := 8) (by kernel_rfl) ?_
        (refine VO_doesU rfl (does_store s rfl ty70 rfl rfl (i := 0) rfl rfl rfl (by (intro u hu; simp only [List.mem_cons, List.not_mem_nil, or_false] at hu; rcases hu with rfl | rfl | rfl | rfl | rfl <;> rfl)) rfl ?_) rfl rfl rfl)
        clear s; intro w s
        try simp only [List.set_cons_zero, List.set_cons_succ, patch, List.take_succ_cons, List.take_zero, List.drop_succ_cons, List.drop_zero, List.drop_nil, List.nil_append, List.cons_append, List.append_nil, List.length_cons, List.length_nil, Nat.reduceAdd, Nat.zero_add] at s
        refine ⟨(fun h => nomatch (show true = false from h)), ?_⟩
        refine VA_done (by kernel_rfl) ?_
        refine VS_met (_) ?_ (by repeat (first | exact Has.nil _ | refine Has.cons rfl ?_)) (by repeat (first | exact Out.refl _ _ | refine Out.upd rfl ?_))
        exact ⟨⟨1 + n, q, [], 0, ⟨#[]⟩⟩, A1, k1, none, 0, _, ⟨(show namesWt q ≤ M by omega), Nat.zero_le _, Nat.zero_le _⟩, by omega, by omega, (s.know (f := .dat [.slice none 0 0] (.sl (strsD []))) ⟨none, 0, rfl, by simp, trivial⟩).less (by (repeat (first | exact sub_nil | refine sub_cons (by (repeat (first | exact .head _ | refine .tail _ ?_))) ?_)))⟩
    · refine VO_does (d := 5) rfl (does_alloc s rfl ty70 rfl ?_) rfl rfl
      clear s; intro b5 w s
      refine ⟨fun _ => s.sees (fun b_ c_ t_ h_ => (show ∀ x_ ∈ ([.blk b3 (trC t A3 n3 A4 n4) 26] : List It), x_ ∈ _ from by (repeat (first | exact sub_nil | refine sub_cons (by (repeat (first | exact .head _ | refine .tail _ ?_))) ?_))) _ h_) (by (repeat (exact sub_nil))), ?_⟩
      refine VA_one (i := 1) (by kernel_rfl) ?_
      refine VO_does (d := 7) rfl (does_call2 rfl (by kernel_rfl) rfl rfl (by exact pick_ok _ (s.rdrM (i := 3) rfl (by (repeat (first | exact .head _ | refine .tail _ ?_))) hlen (by omega)) (by omega) (by omega)) ?_) rfl rfl
      rintro v7 w7 ⟨n, rfl, hn0, hn1, ha⟩
      (obtain ⟨p1, hp1a, hp1b, s⟩ := s.aft (i := 3) rfl ha); simp only [List.set_cons_zero, List.set_cons_succ] at s; clear ha
      refine ⟨fun _ => s.sees (fun b_ c_ t_ h_ => (show ∀ x_ ∈ ([.blk b3 (trC t A3 n3 A4 n4) 26] : List It), x_ ∈ _ from by (repeat (first | exact sub_nil | refine sub_cons (by (repeat (first | exact .head _ | refine .tail _ ?_))) ?_))) _ h_) (by (repeat (exact sub_nil))), ?_⟩
      refine VA_take 2 (d := 8) rfl (by kernel_rfl) rfl (fun w g => run_add rfl rfl rfl (by omega)) (s.sees (fun b_ c_ t_ h_ => (show ∀ x_ ∈ ([.blk b3 (trC t A3 n3 A4 n4) 26] : List It), x_ ∈ _ from by (repeat (first | exact sub_nil | refine sub_cons (by (repeat (first | exact .head _ | refine .tail _ ?_))) ?_))) _ h_) (by (repeat (exact sub_nil)))) ?_
      refine VA_one (i := 5) (by kernel_rfl) ?_
      refine VO_does (d := 11) rfl (does_call2 rfl (by kernel_rfl) rfl rfl (by exact l4Path_ok t (s.rdrM (i := 3) rfl (by (repeat (first | exact .head _ | refine .tail _ ?_))) hlen (by omega)) (s.fa (.dat (trC t A3 n3 A4 n4) t.toD) (by (repeat (exact .head _)))) (by omega) (by omega)) ?_) rfl rfl
      rintro v11 w11 ⟨q, hq1, hq2, hq3, hd, ha⟩
      (obtain ⟨p2, hp2a, hp2b, s⟩ := s.aftR (i := 3) rfl ha hd); simp only [List.set_cons_zero, List.set_cons_succ] at s; clear ha hd; (obtain ⟨A1, k1, e1, -⟩ := Rd_strs (s.dat (i := 0) rfl)); obtain rfl := List.singleton_inj.1 e1
      refine ⟨fun _ => s.sees (fun b_ c_ t_ h_ => (show ∀ x_ ∈ ([.blk b3 (trC t A3 n3 A4 n4) 26] : List It), x_ ∈ _ from by (repeat (first | exact sub_nil | refine sub_cons (by (repeat (first | exact .head _ | refine .tail _ ?_))) ?_))) _ h_) (by (repeat (exact sub_nil))), ?_⟩
      refine VA_take 6 (d := 12) rfl (by kernel_rfl) rfl (fun w g => run_build (cs := [.int .i64 _, .slice _ _ _, .slice none 0 0, .int .i64 0, .string ⟨#[]⟩]) rfl ty70 st70 rfl) (s.sees (fun b_ c_ t_ h_ => (show ∀ x_ ∈ ([.blk b3 (trC t A3 n3 A4 n4) 26] : List It), x_ ∈ _ from by (repeat (first | exact sub_nil | refine sub_cons (by (repeat (first | exact .head _ | refine .tail _ ?_))) ?_))) _ h_) (by (repeat (exact sub_nil)))) ?_
      refine VA_one (i := 8) (by kernel_rfl) ?_
      (refine VO_doesU rfl (does_store s rfl ty70 rfl rfl (i := 0) rfl rfl rfl (by (intro u hu; simp only [List.mem_cons, List.not_mem_nil, or_false] at hu; rcases hu with rfl | rfl | rfl | rfl | rfl <;> rfl)) rfl ?_) rfl rfl rfl)
      clear s; intro w s
      try simp only [List.set_cons_zero, List.set_cons_succ, patch, List.take_succ_cons, List.take_zero, List.drop_succ_cons, List.drop_zero, List.drop_nil, List.nil_append, List.cons_append, List.append_nil, List.length_cons, List.length_nil, Nat.reduceAdd, Nat.zero_add] at s
      refine ⟨(fun h => nomatch (show true = false from h)), ?_⟩
      refine VA_done (by kernel_rfl) ?_
      refine VS_met (_) ?_ (by repeat (first | exact Has.nil _ | refine Has.cons rfl ?_)) (by repeat (first | exact Out.refl _ _ | refine Out.upd rfl ?_))
      exact ⟨⟨1 + n, q, [], 0, ⟨#[]⟩⟩, A1, k1, none, 0, _, ⟨(show namesWt q ≤ M by omega), Nat.zero_le _, Nat.zero_le _⟩, by omega, by omega, (s.know (f := .dat [.slice none 0 0] (.sl (strsD []))) ⟨none, 0, rfl, by simp, trivial⟩).less (by (repeat (first | exact sub_nil | refine sub_cons (by (repeat (first | exact .head _ | refine .tail _ ?_))) ?_)))⟩
  clear s
  rintro b5 w j ⟨c, A1, k1, A2, k2, p2, hcB, hp2a, hp2b, s⟩
  repeat (refine VS_seq ?_)
  refine VS_region_lit ?_
  refine VL_run (d := 13) (run_fieldAddr rfl fo70_0 rfl) rfl rfl ?_
  refine VL_run (d := 14) (run_load_own1 s rfl ty3 rfl (i := 0) rfl rfl) rfl rfl ?_
  refine VL_nil ?_
  repeat (first | refine VS_seq ?_ | refine VS_block ?_)
  refine VS_region_lit ?_
  refine VL_run (d := 16) (run_eqI rfl rfl rfl) rfl rfl ?_
  refine VL_run (d := 15) (run_assign rfl (by conv => lhs; whnf)) rfl rfl ?_
  refine VL_nil ?_
  refine VS_join1 [15, 17] (fun bb : Bool => [(15, .bool bb)]) (fun bb w => St ok ⟨w0, [b]⟩ [.blk b5 (clC c A1 k1 A2 k2) 70, .blk b4 cl0 70, .blk b3 (trC t A3 n3 A4 n4) 26, .blk b (rdC v p2) 121] [.dat [.slice A1 c.path.length k1] (.sl (strsD c.path)), .dat [.slice A2 c.to.length k2] (.sl (strsD c.to)), .dat (trC t A3 n3 A4 n4) t.toD, .dat [v] (.sl (bytesL l))] w) ?_ ?_
  · refine VS_cond rfl (fun c0 => ?_) (fun c0 => ?_) <;> (try simp only [decide_eq_true_eq, decide_eq_false_iff_not, Bool.not_eq_true', Bool.not_eq_false', ne_eq, Decidable.not_not, cond_true, cond_false, Bool.and_eq_true, Bool.or_eq_true, Bool.and_eq_false_iff, Bool.or_eq_false_iff, Bool.not_true, Bool.not_false, reduceCtorEq] at c0)
    · repeat (refine VS_skip ?_)
      refine VS_met (_) ?_ (by repeat (first | exact Has.nil _ | refine Has.cons rfl ?_)) (by repeat (exact Out.refl _ _))
      exact s.less (by (repeat (first | exact sub_nil | refine sub_cons (by (repeat (first | exact .head _ | refine .tail _ ?_))) ?_)))
    · refine VS_region_lit ?_
      refine VL_run (d := 17) (run_eqI rfl rfl rfl) rfl rfl ?_
      refine VL_run (d := 15) (run_assign rfl (by conv => lhs; whnf)) rfl rfl ?_
      refine VL_nil ?_
      refine VS_met (_) ?_ (by repeat (first | exact Has.nil _ | refine Has.cons rfl ?_)) (by repeat (first | exact Out.refl _ _ | refine Out.upd rfl ?_))
      exact s.less (by (repeat (first | exact sub_nil | refine sub_cons (by (repeat (first | exact .head _ | refine .tail _ ?_))) ?_)))
  clear s
  rintro b15 w j s
  refine VS_join1 [18, 19, 20, 21, 22, 23, 24, 25, 26, 27, 28, 29, 30, 31, 32, 33, 34, 35, 36, 37, 38, 39, 40, 41, 42, 43, 44, 45, 46, 47, 48, 49, 50, 51, 52, 53, 54, 55, 56, 57, 58] (fun _ : Unit => []) (fun _ w => ∃ c A1 k1 A2 k2 p3, clB M c ∧ p2 ≤ p3 ∧ p3 ≤ p2 + 20 ∧ St ok ⟨w0, [b]⟩ [.blk b5 (clC c A1 k1 A2 k2) 70, .blk b4 cl0 70, .blk b3 (trC t A3 n3 A4 n4) 26, .blk b (rdC v p3) 121] [.dat [.slice A1 c.path.length k1] (.sl (strsD c.path)), .dat [.slice A2 c.to.length k2] (.sl (strsD c.to)), .dat (trC t A3 n3 A4 n4) t.toD, .dat [v] (.sl (bytesL l))] w) ?_ ?_
  · refine VS_cond rfl (fun c1 => ?_) (fun c1 => ?_) <;> (try simp only [decide_eq_true_eq, decide_eq_false_iff_not, Bool.not_eq_true', Bool.not_eq_false', ne_eq, Decidable.not_not, cond_true, cond_false, Bool.and_eq_true, Bool.or_eq_true, Bool.and_eq_false_iff, Bool.or_eq_false_iff, Bool.not_true, Bool.not_false, reduceCtorEq] at c1)
    · refine VS_region_lit ?_
      refine VL_run (d := 18) (run_move rfl (by conv => lhs; whnf)) rfl rfl ?_
      refine VL_does (d := 19) (does_call2 rfl (by kernel_rfl) rfl rfl (by exact pick_ok _ (s.rdrM (i := 3) rfl (by (repeat (first | exact .head _ | refine .tail _ ?_))) hlen (by omega)) (by omega) (by omega)) ?_) rfl rfl
      rintro v19 w19 ⟨n, rfl, hn0, hn1, ha⟩
      (obtain ⟨p3, hp3a, hp3b, s⟩ := s.aft (i := 3) rfl ha); simp only [List.set_cons_zero, List.set_cons_succ] at s; clear ha
      refine VL_run (d := 20) (run_fieldAddr rfl fo70_3 rfl) rfl rfl ?_
      (refine VL_doesU (does_store s rfl ty3 rfl rfl (i := 0) rfl rfl rfl (by (intro u hu; simp only [List.mem_cons, List.not_mem_nil, or_false] at hu; subst hu; rfl)) rfl ?_) rfl rfl rfl)
      clear s; intro w s
      try simp only [List.set_cons_zero, List.set_cons_succ, patch, List.take_succ_cons, List.take_zero, List.drop_succ_cons, List.drop_zero, List.drop_nil, List.nil_append, List.cons_append, List.append_nil, List.length_cons, List.length_nil, Nat.reduceAdd, Nat.zero_add] at s
      refine VL_nil ?_
      refine VS_met (()) ?_ (by repeat (exact Has.nil _)) (by repeat (first | exact Out.refl _ _ | refine Out.upd rfl ?_))
      obtain ⟨hB1, hB2, hB3⟩ := hcB
      first
        | exact ⟨{ c with off := n }, A1, k1, A2, k2, p3, ⟨hB1, hB2, hB3⟩, by omega, by omega, s.less (by (repeat (first | exact sub_nil | refine sub_cons (by (repeat (first | exact .head _ | refine .tail _ ?_))) ?_)))⟩
        | exact ⟨{ c with off := n * n2, data := x }, A1, k1, A2, k2, p5, ⟨hB1, hB2, Nat.le_trans hx (by decide)⟩, by omega, by omega, s.less (by (repeat (first | exact sub_nil | refine sub_cons (by (repeat (first | exact .head _ | refine .tail _ ?_))) ?_)))⟩
        | exact ⟨{ c with off := n * n2 }, A1, k1, A2, k2, p4, ⟨hB1, hB2, hB3⟩, by omega, by omega, s.less (by (repeat (first | exact sub_nil | refine sub_cons (by (repeat (first | exact .head _ | refine .tail _ ?_))) ?_)))⟩
        | exact ⟨{ c with to := q.dropLast ++ [nm] }, A1, k1, _, _, p5, ⟨hB1, (show namesWt (q.dropLast ++ [nm]) ≤ M by rw [namesWt_app]; simp only [namesWt]; omega), hB3⟩, by omega, by omega, s.less (by (repeat (first | exact sub_nil | refine sub_cons (by (repeat (first | exact .head _ | refine .tail _ ?_))) ?_)))⟩
        | exact ⟨{ c with to := q }, A1, k1, _, _, p4, ⟨hB1, (show namesWt q ≤ M by omega), hB3⟩, by omega, by omega, s.less (by (repeat (first | exact sub_nil | refine sub_cons (by (repeat (first | exact .head _ | refine .tail _ ?_))) ?_)))⟩
        | exact ⟨c, A1, k1, A2, k2, p2, ⟨hB1, hB2, hB3⟩, by omega, by omega, s.less (by (repeat (first | exact sub_nil | refine sub_cons (by (repeat (first | exact .head _ | refine .tail _ ?_))) ?_)))⟩
    · repeat (refine VS_seq ?_)
      refine VS_region_lit ?_
      refine VL_run (d := 22) (run_eqI rfl rfl rfl) rfl rfl ?_
      refine VL_run (d := 21) (run_assign rfl (by conv => lhs; whnf)) rfl rfl ?_
      refine VL_nil ?_
      refine VS_join1 [21, 23] (fun bb : Bool => [(21, .bool bb)]) (fun bb w => St ok ⟨w0, [b]⟩ [.blk b5 (clC c A1 k1 A2 k2) 70, .blk b4 cl0 70, .blk b3 (trC t A3 n3 A4 n4) 26, .blk b (rdC v p2) 121] [.dat [.slice A1 c.path.length k1] (.sl (strsD c.path)), .dat [.slice A2 c.to.length k2] (.sl (strsD c.to)), .dat (trC t A3 n3 A4 n4) t.toD, .dat [v] (.sl (bytesL l))] w) ?_ ?_
      · refine VS_cond rfl (fun c2 => ?_) (fun c2 => ?_) <;> (try simp only [decide_eq_true_eq, decide_eq_false_iff_not, Bool.not_eq_true', Bool.not_eq_false', ne_eq, Decidable.not_not, cond_true, cond_false, Bool.and_eq_true, Bool.or_eq_true, Bool.and_eq_false_iff, Bool.or_eq_false_iff, Bool.not_true, Bool.not_false, reduceCtorEq] at c2)
        · repeat (refine VS_skip ?_)
          refine VS_met (_) ?_ (by repeat (first | exact Has.nil _ | refine Has.cons rfl ?_)) (by repeat (exact Out.refl _ _))
          exact s.less (by (repeat (first | exact sub_nil | refine sub_cons (by (repeat (first | exact .head _ | refine .tail _ ?_))) ?_)))
        · refine VS_region_lit ?_
          refine VL_run (d := 23) (run_eqI rfl rfl rfl) rfl rfl ?_
          refine VL_run (d := 21) (run_assign rfl (by conv => lhs; whnf)) rfl rfl ?_
          refine VL_nil ?_
          refine VS_met (_) ?_ (by repeat (first | exact Has.nil _ | refine Has.cons rfl ?_)) (by repeat (first | exact Out.refl _ _ | refine Out.upd rfl ?_))
          exact s.less (by (repeat (first | exact sub_nil | refine sub_cons (by (repeat (first | exact .head _ | refine .tail _ ?_))) ?_)))
      clear s
      rintro b21 w j s
      refine VS_cond rfl (fun c3 => ?_) (fun c3 => ?_) <;> (try simp only [decide_eq_true_eq, decide_eq_false_iff_not, Bool.not_eq_true', Bool.not_eq_false', ne_eq, Decidable.not_not, cond_true, cond_false, Bool.and_eq_true, Bool.or_eq_true, Bool.and_eq_false_iff, Bool.or_eq_false_iff, Bool.not_true, Bool.not_false, reduceCtorEq] at c3)
      · repeat (refine VS_seq ?_)
        refine VS_region_lit ?_
        refine VL_run (d := 24) (run_move rfl (by conv => lhs; whnf)) rfl rfl ?_
        refine VL_does (d := 25) (does_call2 rfl (by kernel_rfl) rfl rfl (by exact pick_ok _ (s.rdrM (i := 3) rfl (by (repeat (first | exact .head _ | refine .tail _ ?_))) hlen (by omega)) (by omega) (by omega)) ?_) rfl rfl
        rintro v25 w25 ⟨n, rfl, hn0, hn1, ha⟩
        (obtain ⟨p3, hp3a, hp3b, s⟩ := s.aft (i := 3) rfl ha); simp only [List.set_cons_zero, List.set_cons_succ] at s; clear ha
        refine VL_run (d := 26) (run_move rfl (by conv => lhs; whnf)) rfl rfl ?_
        refine VL_does (d := 27) (does_call2 rfl (by kernel_rfl) rfl rfl (by exact pick_ok _ (s.rdrM (i := 3) rfl (by (repeat (first | exact .head _ | refine .tail _ ?_))) hlen (by omega)) (by omega) (by omega)) ?_) rfl rfl
        rintro v27 w27 ⟨n2, rfl, hm0, hm1, ha⟩
        (obtain ⟨p4, hp4a, hp4b, s⟩ := s.aft (i := 3) rfl ha); simp only [List.set_cons_zero, List.set_cons_succ] at s; clear ha
        have hmul : 0 ≤ n * n2 ∧ n * n2 ≤ 9 := ⟨Int.mul_nonneg hn0 hm0, Int.le_trans (Int.mul_le_mul (show n ≤ 3 by omega) (show n2 ≤ 3 by omega) hm0 (by decide)) (by decide)⟩
        refine VL_run (d := 28) (run_mul rfl rfl rfl (by omega)) rfl rfl ?_
        refine VL_run (d := 29) (run_fieldAddr rfl fo70_3 rfl) rfl rfl ?_
        (refine VL_doesU (does_store s rfl ty3 rfl rfl (i := 0) rfl rfl rfl (by (intro u hu; simp only [List.mem_cons, List.not_mem_nil, or_false] at hu; subst hu; rfl)) rfl ?_) rfl rfl rfl)
        clear s; intro w s
        try simp only [List.set_cons_zero, List.set_cons_succ, patch, List.take_succ_cons, List.take_zero, List.drop_succ_cons, List.drop_zero, List.drop_nil, List.nil_append, List.cons_append, List.append_nil, List.length_cons, List.length_nil, Nat.reduceAdd, Nat.zero_add] at s
        refine VL_nil ?_
        repeat (refine VS_seq ?_)
        refine VS_region_lit ?_
        refine VL_run (d := 30) (run_fieldAddr rfl fo70_0 rfl) rfl rfl ?_
        refine VL_run (d := 31) (run_load_own1 s rfl ty3 rfl (i := 0) rfl rfl) rfl rfl ?_
        refine VL_run (d := 32) (run_eqI rfl rfl rfl) rfl rfl ?_
        refine VL_nil ?_
        refine VS_cond rfl (fun c4 => ?_) (fun c4 => ?_) <;> (try simp only [decide_eq_true_eq, decide_eq_false_iff_not, Bool.not_eq_true', Bool.not_eq_false', ne_eq, Decidable.not_not, cond_true, cond_false, Bool.and_eq_true, Bool.or_eq_true, Bool.and_eq_false_iff, Bool.or_eq_false_iff, Bool.not_true, Bool.not_false, reduceCtorEq] at c4)
        · refine VS_region_lit ?_
          refine VL_run (d := 33) (run_move rfl (by conv => lhs; whnf)) rfl rfl ?_
          refine VL_does (d := 34) (does_call1 rfl (by kernel_rfl) rfl (by exact l4Data_ok (s.rdrM (i := 3) rfl (by (repeat (first | exact .head _ | refine .tail _ ?_))) hlen (by omega)) (by omega)) ?_) rfl rfl
          rintro v34 w34 ⟨x, rfl, hx, ha⟩
          (obtain ⟨p5, hp5a, hp5b, s⟩ := s.aft (i := 3) rfl ha); simp only [List.set_cons_zero, List.set_cons_succ] at s; clear ha
          refine VL_run (d := 35) (run_fieldAddr rfl fo70_4 rfl) rfl rfl ?_
          (refine VL_doesU (does_store s rfl ty9 rfl rfl (i := 0) rfl rfl rfl (by (intro u hu; simp only [List.mem_cons, List.not_mem_nil, or_false] at hu; subst hu; rfl)) rfl ?_) rfl rfl rfl)
          clear s; intro w s
          try simp only [List.set_cons_zero, List.set_cons_succ, patch, List.take_succ_cons, List.take_zero, List.drop_succ_cons, List.drop_zero, List.drop_nil, List.nil_append, List.cons_append, List.append_nil, List.length_cons, List.length_nil, Nat.reduceAdd, Nat.zero_add] at s
          refine VL_nil ?_
          refine VS_met (()) ?_ (by repeat (exact Has.nil _)) (by repeat (first | exact Out.refl _ _ | refine Out.upd rfl ?_ | refine Out.mix_in rfl ?_))
          obtain ⟨hB1, hB2, hB3⟩ := hcB
          first
            | exact ⟨{ c with off := n }, A1, k1, A2, k2, p3, ⟨hB1, hB2, hB3⟩, by omega, by omega, s.less (by (repeat (first | exact sub_nil | refine sub_cons (by (repeat (first | exact .head _ | refine .tail _ ?_))) ?_)))⟩
            | exact ⟨{ c with off := n * n2, data := x }, A1, k1, A2, k2, p5, ⟨hB1, hB2, Nat.le_trans hx (by decide)⟩, by omega, by omega, s.less (by (repeat (first | exact sub_nil | refine sub_cons (by (repeat (first | exact .head _ | refine .tail _ ?_))) ?_)))⟩
            | exact ⟨{ c with off := n * n2 }, A1, k1, A2, k2, p4, ⟨hB1, hB2, hB3⟩, by omega, by omega, s.less (by (repeat (first | exact sub_nil | refine sub_cons (by (repeat (first | exact .head _ | refine .tail _ ?_))) ?_)))⟩
            | exact ⟨{ c with to := q.dropLast ++ [nm] }, A1, k1, _, _, p5, ⟨hB1, (show namesWt (q.dropLast ++ [nm]) ≤ M by rw [namesWt_app]; simp only [namesWt]; omega), hB3⟩, by omega, by omega, s.less (by (repeat (first | exact sub_nil | refine sub_cons (by (repeat (first | exact .head _ | refine .tail _ ?_))) ?_)))⟩
            | exact ⟨{ c with to := q }, A1, k1, _, _, p4, ⟨hB1, (show namesWt q ≤ M by omega), hB3⟩, by omega, by omega, s.less (by (repeat (first | exact sub_nil | refine sub_cons (by (repeat (first | exact .head _ | refine .tail _ ?_))) ?_)))⟩
            | exact ⟨c, A1, k1, A2, k2, p2, ⟨hB1, hB2, hB3⟩, by omega, by omega, s.less (by (repeat (first | exact sub_nil | refine sub_cons (by (repeat (first | exact .head _ | refine .tail _ ?_))) ?_)))⟩
        · repeat (refine VS_skip ?_)
          refine VS_met (()) ?_ (by repeat (exact Has.nil _)) (by repeat (first | exact Out.refl _ _ | refine Out.upd rfl ?_ | refine Out.mix_in rfl ?_))
          obtain ⟨hB1, hB2, hB3⟩ := hcB
          first
            | exact ⟨{ c with off := n }, A1, k1, A2, k2, p3, ⟨hB1, hB2, hB3⟩, by omega, by omega, s.less (by (repeat (first | exact sub_nil | refine sub_cons (by (repeat (first | exact .head _ | refine .tail _ ?_))) ?_)))⟩
            | exact ⟨{ c with off := n * n2, data := x }, A1, k1, A2, k2, p5, ⟨hB1, hB2, Nat.le_trans hx (by decide)⟩, by omega, by omega, s.less (by (repeat (first | exact sub_nil | refine sub_cons (by (repeat (first | exact .head _ | refine .tail _ ?_))) ?_)))⟩
            | exact ⟨{ c with off := n * n2 }, A1, k1, A2, k2, p4, ⟨hB1, hB2, hB3⟩, by omega, by omega, s.less (by (repeat (first | exact sub_nil | refine sub_cons (by (repeat (first | exact .head _ | refine .tail _ ?_))) ?_)))⟩
            | exact ⟨{ c with to := q.dropLast ++ [nm] }, A1, k1, _, _, p5, ⟨hB1, (show namesWt (q.dropLast ++ [nm]) ≤ M by rw [namesWt_app]; simp only [namesWt]; omega), hB3⟩, by omega, by omega, s.less (by (repeat (first | exact sub_nil | refine sub_cons (by (repeat (first | exact .head _ | refine .tail _ ?_))) ?_)))⟩
            | exact ⟨{ c with to := q }, A1, k1, _, _, p4, ⟨hB1, (show namesWt q ≤ M by omega), hB3⟩, by omega, by omega, s.less (by (repeat (first | exact sub_nil | refine sub_cons (by (repeat (first | exact .head _ | refine .tail _ ?_))) ?_)))⟩
            | exact ⟨c, A1, k1, A2, k2, p2, ⟨hB1, hB2, hB3⟩, by omega, by omega, s.less (by (repeat (first | exact sub_nil | refine sub_cons (by (repeat (first | exact .head _ | refine .tail _ ?_))) ?_)))⟩
      · repeat (refine VS_seq ?_)
        refine VS_region_lit ?_
        refine VL_run (d := 37) (run_eqI rfl rfl rfl) rfl rfl ?_
        refine VL_run (d := 36) (run_assign rfl (by conv => lhs; whnf)) rfl rfl ?_
        refine VL_nil ?_
        refine VS_cond rfl (fun c5 => ?_) (fun c5 => ?_) <;> (try simp only [decide_eq_true_eq, decide_eq_false_iff_not, Bool.not_eq_true', Bool.not_eq_false', ne_eq, Decidable.not_not, cond_true, cond_false, Bool.and_eq_true, Bool.or_eq_true, Bool.and_eq_false_iff, Bool.or_eq_false_iff, Bool.not_true, Bool.not_false, reduceCtorEq] at c5)
        · repeat (refine VS_seq ?_)
          refine VS_region_lit ?_
          refine VL_run (d := 38) (run_move rfl (by conv => lhs; whnf)) rfl rfl ?_
          refine VL_run (d := 39) (run_load_ownA (cs := [_, _, _, _, _]) s rfl ty26 rfl (i := 2) rfl rfl rfl) rfl rfl ?_
          refine VL_does (d := 40) (does_call2 rfl (by kernel_rfl) rfl rfl (by exact l4Path_ok t (s.rdrM (i := 3) rfl (by (repeat (first | exact .head _ | refine .tail _ ?_))) hlen (by omega)) (s.fa (.dat (trC t A3 n3 A4 n4) t.toD) (by (repeat (first | exact .head _ | refine .tail _ ?_)))) (by omega) (by omega)) ?_) rfl rfl
          rintro v40 w40 ⟨q, hq1, hq2, hq3, hd, ha⟩
          (obtain ⟨p3, hp3a, hp3b, s⟩ := s.aftR (i := 3) rfl ha hd); simp only [List.set_cons_zero, List.set_cons_succ] at s; clear ha hd; (obtain ⟨E1, e1, e2, hE⟩ := Rd_strs (s.dat (i := 0) rfl)); obtain rfl := List.singleton_inj.1 e2
          refine VL_run (d := 41) (run_fieldAddr rfl fo70_2 rfl) rfl rfl ?_
          (refine VL_doesU (does_store s rfl ty23 rfl rfl (i := 0) rfl rfl rfl (by (intro u hu; simp only [List.mem_cons, List.not_mem_nil, or_false] at hu; subst hu; rfl)) rfl ?_) rfl rfl rfl)
          clear s; intro w s
          try simp only [List.set_cons_zero, List.set_cons_succ, patch, List.take_succ_cons, List.take_zero, List.drop_succ_cons, List.drop_zero, List.drop_nil, List.nil_append, List.cons_append, List.append_nil, List.length_cons, List.length_nil, Nat.reduceAdd, Nat.zero_add] at s
          refine VL_nil ?_
          repeat (refine VS_seq ?_)
          have hql := List.length_pos_iff.2 hq1
          have hqd := namesWt_dropLast q
          refine VS_region_lit ?_
          refine VL_run (d := 42) (run_move rfl (by conv => lhs; whnf)) rfl rfl ?_
          refine VL_does (d := 43) (does_call2 rfl (by kernel_rfl) rfl rfl (by exact pick_ok _ (s.rdrM (i := 3) rfl (by (repeat (first | exact .head _ | refine .tail _ ?_))) hlen (by omega)) (by omega) (by omega)) ?_) rfl rfl
          rintro v43 w43 ⟨n, rfl, hn0, hn1, ha⟩
          (obtain ⟨p4, hp4a, hp4b, s⟩ := s.aft (i := 3) rfl ha); simp only [List.set_cons_zero, List.set_cons_succ] at s; clear ha
          refine VL_run (d := 44) (run_eqI rfl rfl rfl) rfl rfl ?_
          refine VL_nil ?_
          refine VS_cond rfl (fun c6 => ?_) (fun c6 => ?_) <;> (try simp only [decide_eq_true_eq, decide_eq_false_iff_not, Bool.not_eq_true', Bool.not_eq_false', ne_eq, Decidable.not_not, cond_true, cond_false, Bool.and_eq_true, Bool.or_eq_true, Bool.and_eq_false_iff, Bool.or_eq_false_iff, Bool.not_true, Bool.not_false, reduceCtorEq] at c6)
          · have s := s.partS (i := 0) rfl 0 (q.length - 1) (by omega) (by omega) q.dropLast (by simp [List.dropLast_eq_take])
            refine VS_region_lit ?_
            refine VL_does (d := 45) (does_slice0 s rfl Try.underlying23 ty9 ?_) rfl rfl
            clear s; intro g45 w s
            refine VL_run (d := 46) (run_fieldAddr rfl fo70_2 rfl) rfl rfl ?_
            refine VL_run (d := 47) (run_load_own1 s rfl ty23 rfl (i := 1) rfl rfl) rfl rfl ?_
            refine VL_run (d := 48) (run_fieldAddr rfl fo70_2 rfl) rfl rfl ?_
            refine VL_run (d := 49) (run_load_own1 s rfl ty23 rfl (i := 1) rfl rfl) rfl rfl ?_
            refine VL_run (d := 50) (run_lenSlice rfl ⟨_, Try.underlying23⟩ rfl) rfl rfl ?_
            refine VL_run (d := 51) (run_sub rfl rfl rfl (by omega)) rfl rfl ?_
            refine VL_run (d := 52) (run_sliceSlH (h := (q.length - 1)) rfl Try.underlying23 ty9 rfl rfl (by omega) (by omega)) rfl rfl ?_
            (refine VL_does (d := 53) (does_appendD s rfl Try.underlying23 ty9 (by decide) (by decide) (i := 0) rfl rfl rfl (s.dat (i := 0) rfl) (strsD_wd _) (by simp <;> omega) (by (simp only [List.nil_append]; exact rfl)) (show _ = q.dropLast.length by simp) ?_) rfl rfl)
            clear s; intro A53 c53 w s
            try simp only [List.set_cons_zero, List.set_cons_succ, patch, List.take_succ_cons, List.take_zero, List.drop_succ_cons, List.drop_zero, List.drop_nil, List.nil_append, List.cons_append, List.append_nil, List.length_cons, List.length_nil, Nat.reduceAdd, Nat.zero_add] at s
            refine VL_run (d := 54) (run_move rfl (by conv => lhs; whnf)) rfl rfl ?_
            refine VL_does (d := 55) (does_call1 rfl (by kernel_rfl) rfl (by exact l4Name_ok (s.rdrM (i := 4) rfl (by (repeat (first | exact .head _ | refine .tail _ ?_))) hlen (by omega)) (by omega)) ?_) rfl rfl
            rintro v55 w55 ⟨nm, rfl, hnm, ha⟩
            (obtain ⟨p5, hp5a, hp5b, s⟩ := s.aft (i := 4) rfl ha); simp only [List.set_cons_zero, List.set_cons_succ] at s; clear ha
            refine VL_does (d := 56) (does_slice1 s rfl Try.underlying23 ty9 (by decide) (by decide) rfl rfl (show Rd _ _ (.str nm) [.string nm] from rfl) rfl ?_) rfl rfl
            clear s; intro g56 w s
            (refine VL_does (d := 57) (does_appendR s rfl Try.underlying23 ty9 (by decide) (by decide) (i := 0) rfl rfl rfl (by simp <;> omega) (show _ = strsD (q.dropLast ++ [nm]) by simp [strsD]) (show _ = (q.dropLast ++ [nm]).length by simp) ?_) rfl rfl)
            clear s; intro A57 c57 w s
            try simp only [List.set_cons_zero, List.set_cons_succ, patch, List.take_succ_cons, List.take_zero, List.drop_succ_cons, List.drop_zero, List.drop_nil, List.nil_append, List.cons_append, List.append_nil, List.length_cons, List.length_nil, Nat.reduceAdd, Nat.zero_add] at s
            replace s := s.freezeR (k := 0) (i := 3) rfl rfl; simp only [List.eraseIdx_cons_zero] at s
            refine VL_run (d := 58) (run_fieldAddr rfl fo70_2 rfl) rfl rfl ?_
            (refine VL_doesU (does_store s rfl ty23 rfl rfl (i := 0) rfl rfl rfl (by (intro u hu; simp only [List.mem_cons, List.not_mem_nil, or_false] at hu; subst hu; rfl)) rfl ?_) rfl rfl rfl)
            clear s; intro w s
            try simp only [List.set_cons_zero, List.set_cons_succ, patch, List.take_succ_cons, List.take_zero, List.drop_succ_cons, List.drop_zero, List.drop_nil, List.nil_append, List.cons_append, List.append_nil, List.length_cons, List.length_nil, Nat.reduceAdd, Nat.zero_add] at s
            refine VL_nil ?_
            refine VS_met (()) ?_ (by repeat (exact Has.nil _)) (by repeat (first | exact Out.refl _ _ | refine Out.upd rfl ?_ | refine Out.mix_in rfl ?_))
            obtain ⟨hB1, hB2, hB3⟩ := hcB
            first
              | exact ⟨{ c with off := n }, A1, k1, A2, k2, p3, ⟨hB1, hB2, hB3⟩, by omega, by omega, s.less (by (repeat (first | exact sub_nil | refine sub_cons (by (repeat (first | exact .head _ | refine .tail _ ?_))) ?_)))⟩
              | exact ⟨{ c with off := n * n2, data := x }, A1, k1, A2, k2, p5, ⟨hB1, hB2, Nat.le_trans hx (by decide)⟩, by omega, by omega, s.less (by (repeat (first | exact sub_nil | refine sub_cons (by (repeat (first | exact .head _ | refine .tail _ ?_))) ?_)))⟩
              | exact ⟨{ c with off := n * n2 }, A1, k1, A2, k2, p4, ⟨hB1, hB2, hB3⟩, by omega, by omega, s.less (by (repeat (first | exact sub_nil | refine sub_cons (by (repeat (first | exact .head _ | refine .tail _ ?_))) ?_)))⟩
              | exact ⟨{ c with to := q.dropLast ++ [nm] }, A1, k1, _, _, p5, ⟨hB1, (show namesWt (q.dropLast ++ [nm]) ≤ M by rw [namesWt_app]; simp only [namesWt]; omega), hB3⟩, by omega, by omega, s.less (by (repeat (first | exact sub_nil | refine sub_cons (by (repeat (first | exact .head _ | refine .tail _ ?_))) ?_)))⟩
              | exact ⟨{ c with to := q }, A1, k1, _, _, p4, ⟨hB1, (show namesWt q ≤ M by omega), hB3⟩, by omega, by omega, s.less (by (repeat (first | exact sub_nil | refine sub_cons (by (repeat (first | exact .head _ | refine .tail _ ?_))) ?_)))⟩
              | exact ⟨c, A1, k1, A2, k2, p2, ⟨hB1, hB2, hB3⟩, by omega, by omega, s.less (by (repeat (first | exact sub_nil | refine sub_cons (by (repeat (first | exact .head _ | refine .tail _ ?_))) ?_)))⟩
          · repeat (refine VS_skip ?_)
            refine VS_met (()) ?_ (by repeat (exact Has.nil _)) (by repeat (first | exact Out.refl _ _ | refine Out.upd rfl ?_ | refine Out.mix_in rfl ?_))
            obtain ⟨hB1, hB2, hB3⟩ := hcB
            first
              | exact ⟨{ c with off := n }, A1, k1, A2, k2, p3, ⟨hB1, hB2, hB3⟩, by omega, by omega, s.less (by (repeat (first | exact sub_nil | refine sub_cons (by (repeat (first | exact .head _ | refine .tail _ ?_))) ?_)))⟩
              | exact ⟨{ c with off := n * n2, data := x }, A1, k1, A2, k2, p5, ⟨hB1, hB2, Nat.le_trans hx (by decide)⟩, by omega, by omega, s.less (by (repeat (first | exact sub_nil | refine sub_cons (by (repeat (first | exact .head _ | refine .tail _ ?_))) ?_)))⟩
              | exact ⟨{ c with off := n * n2 }, A1, k1, A2, k2, p4, ⟨hB1, hB2, hB3⟩, by omega, by omega, s.less (by (repeat (first | exact sub_nil | refine sub_cons (by (repeat (first | exact .head _ | refine .tail _ ?_))) ?_)))⟩
              | exact ⟨{ c with to := q.dropLast ++ [nm] }, A1, k1, _, _, p5, ⟨hB1, (show namesWt (q.dropLast ++ [nm]) ≤ M by rw [namesWt_app]; simp only [namesWt]; omega), hB3⟩, by omega, by omega, s.less (by (repeat (first | exact sub_nil | refine sub_cons (by (repeat (first | exact .head _ | refine .tail _ ?_))) ?_)))⟩
              | exact ⟨{ c with to := q }, A1, k1, _, _, p4, ⟨hB1, (show namesWt q ≤ M by omega), hB3⟩, by omega, by omega, s.less (by (repeat (first | exact sub_nil | refine sub_cons (by (repeat (first | exact .head _ | refine .tail _ ?_))) ?_)))⟩
              | exact ⟨c, A1, k1, A2, k2, p2, ⟨hB1, hB2, hB3⟩, by omega, by omega, s.less (by (repeat (first | exact sub_nil | refine sub_cons (by (repeat (first | exact .head _ | refine .tail _ ?_))) ?_)))⟩
        · repeat (refine VS_skip ?_)
          refine VS_met (()) ?_ (by repeat (exact Has.nil _)) (by repeat (first | exact Out.refl _ _ | refine Out.upd rfl ?_ | refine Out.mix_in rfl ?_))
          obtain ⟨hB1, hB2, hB3⟩ := hcB
          first
            | exact ⟨{ c with off := n }, A1, k1, A2, k2, p3, ⟨hB1, hB2, hB3⟩, by omega, by omega, s.less (by (repeat (first | exact sub_nil | refine sub_cons (by (repeat (first | exact .head _ | refine .tail _ ?_))) ?_)))⟩
            | exact ⟨{ c with off := n * n2, data := x }, A1, k1, A2, k2, p5, ⟨hB1, hB2, Nat.le_trans hx (by decide)⟩, by omega, by omega, s.less (by (repeat (first | exact sub_nil | refine sub_cons (by (repeat (first | exact .head _ | refine .tail _ ?_))) ?_)))⟩
            | exact ⟨{ c with off := n * n2 }, A1, k1, A2, k2, p4, ⟨hB1, hB2, hB3⟩, by omega, by omega, s.less (by (repeat (first | exact sub_nil | refine sub_cons (by (repeat (first | exact .head _ | refine .tail _ ?_))) ?_)))⟩
            | exact ⟨{ c with to := q.dropLast ++ [nm] }, A1, k1, _, _, p5, ⟨hB1, (show namesWt (q.dropLast ++ [nm]) ≤ M by rw [namesWt_app]; simp only [namesWt]; omega), hB3⟩, by omega, by omega, s.less (by (repeat (first | exact sub_nil | refine sub_cons (by (repeat (first | exact .head _ | refine .tail _ ?_))) ?_)))⟩
            | exact ⟨{ c with to := q }, A1, k1, _, _, p4, ⟨hB1, (show namesWt q ≤ M by omega), hB3⟩, by omega, by omega, s.less (by (repeat (first | exact sub_nil | refine sub_cons (by (repeat (first | exact .head _ | refine .tail _ ?_))) ?_)))⟩
            | exact ⟨c, A1, k1, A2, k2, p2, ⟨hB1, hB2, hB3⟩, by omega, by omega, s.less (by (repeat (first | exact sub_nil | refine sub_cons (by (repeat (first | exact .head _ | refine .tail _ ?_))) ?_)))⟩
  clear s hcB
  rintro _ w j ⟨c, A1, k1, A2, k2, p3, hcB, hp3a, hp3b, s⟩
  have hcp : c.path.length ≤ 100000000 := by have := namesWt_len c.path; have := hcB.1; omega
  repeat (refine VS_seq ?_)
  refine VS_region_lit ?_
  refine VL_run (d := 59) (run_move rfl (by conv => lhs; whnf)) rfl rfl ?_
  refine VL_does (d := 60) (does_call2 rfl (by kernel_rfl) rfl rfl (by exact pick_ok _ (s.rdrM (i := 3) rfl (by (repeat (first | exact .head _ | refine .tail _ ?_))) hlen (by omega)) (by omega) (by omega)) ?_) rfl rfl
  rintro v60 w60 ⟨n, rfl, hn0, hn1, ha⟩
  (obtain ⟨p4, hp4a, hp4b, s⟩ := s.aft (i := 3) rfl ha); simp only [List.set_cons_zero, List.set_cons_succ] at s; clear ha
  refine VL_nil ?_
  repeat (first | refine VS_seq ?_ | refine VS_block ?_)
  refine VS_region_lit ?_
  refine VL_run (d := 62) (run_eqI rfl rfl rfl) rfl rfl ?_
  refine VL_run (d := 61) (run_assign rfl (by conv => lhs; whnf)) rfl rfl ?_
  refine VL_nil ?_
  refine VS_join1 [63, 64, 65, 66, 67, 68, 69, 70, 71, 72, 73, 74, 75, 76, 77, 78, 79, 80, 81, 82, 83, 84, 85, 86, 87, 88, 89, 90, 91, 92, 93, 94, 95, 96, 97, 98, 99] (fun _ : Unit => []) (fun _ w => ∃ c A1 k1 A2 k2 p5, clB (M + 8) c ∧ p4 ≤ p5 ∧ p5 ≤ p4 + 1 ∧ St ok ⟨w0, [b]⟩ [.blk b5 (clC c A1 k1 A2 k2) 70, .blk b4 cl0 70, .blk b3 (trC t A3 n3 A4 n4) 26, .blk b (rdC v p5) 121] [.dat [.slice A1 c.path.length k1] (.sl (strsD c.path)), .dat [.slice A2 c.to.length k2] (.sl (strsD c.to)), .dat (trC t A3 n3 A4 n4) t.toD, .dat [v] (.sl (bytesL l))] w) ?_ ?_
  · refine VS_cond rfl (fun c7 => ?_) (fun c7 => ?_) <;> (try simp only [decide_eq_true_eq, decide_eq_false_iff_not, Bool.not_eq_true', Bool.not_eq_false', ne_eq, Decidable.not_not, cond_true, cond_false, Bool.and_eq_true, Bool.or_eq_true, Bool.and_eq_false_iff, Bool.or_eq_false_iff, Bool.not_true, Bool.not_false, reduceCtorEq] at c7)
    · refine VS_region_lit ?_
      refine VL_does (d := 63) (does_sliceN (cs := [.int .i64 0, .int .i64 7, .int .i64 (-1)]) (ds := intsD [0, 7, -1])  s rfl Try.underlying140 ty3 (by decide) (by decide)  (fun A hA => fill_1x3 _ _ _ rfl rfl rfl A hA) (intsL_rd _) (intsD_wd _) rfl ?_) rfl rfl
      clear s; intro g63 w s
      replace s := s.freezeR (k := 0) (i := 3) rfl rfl; simp only [List.eraseIdx_cons_zero] at s
      refine VL_run (d := 64) (run_move rfl (by conv => lhs; whnf)) rfl rfl ?_
      refine VL_does (d := 65) (does_call2 rfl (by kernel_rfl) rfl rfl (by exact pick_ok _ (s.rdrM (i := 3) rfl (by (repeat (first | exact .head _ | refine .tail _ ?_))) hlen (by omega)) (by omega) (by omega)) ?_) rfl rfl
      rintro v65 w65 ⟨m, rfl, hm0, hm1, ha⟩
      (obtain ⟨p5, hp5a, hp5b, s⟩ := s.aft (i := 3) rfl ha); simp only [List.set_cons_zero, List.set_cons_succ] at s; clear ha; (obtain ⟨ad, e1, s⟩ := s.openI (i := 0) rfl m.toNat (by simp only [List.length_cons, List.length_nil]; omega)); obtain rfl := Option.some.inj e1
      refine VL_run (d := 66) (run_indexAddrN (q := m.toNat) rfl Try.underlying140 ty3 rfl rfl (by omega) (by omega)) rfl rfl ?_
      refine VL_run (d := 67) (run_load_at0 s rfl ty3 rfl (i := 0) rfl rfl) rfl rfl ?_
      refine VL_run (d := 68) (run_fieldAddr rfl fo70_0 rfl) rfl rfl ?_
      (refine VL_doesU (does_store s rfl ty3 rfl rfl (i := 0) rfl rfl rfl (by (intro u hu; simp only [List.mem_cons, List.not_mem_nil, or_false] at hu; subst hu; rfl)) rfl ?_) rfl rfl rfl)
      clear s; intro w s
      try simp only [List.set_cons_zero, List.set_cons_succ, patch, List.take_succ_cons, List.take_zero, List.drop_succ_cons, List.drop_zero, List.drop_nil, List.nil_append, List.cons_append, List.append_nil, List.length_cons, List.length_nil, Nat.reduceAdd, Nat.zero_add] at s
      refine VL_nil ?_
      refine VS_met (()) ?_ (by repeat (exact Has.nil _)) (by repeat (first | exact Out.refl _ _ | refine Out.upd rfl ?_))
      obtain ⟨hB1, hB2, hB3⟩ := hcB
      have hB4 := Nat.le_trans hB1 (Nat.le_add_right M 8)
      have hB5 := Nat.le_trans hB2 (Nat.le_add_right M 8)
      first
        | exact ⟨{ c with kind := [0, 7, -1][m.toNat]'(by simp only [List.length_cons, List.length_nil]; omega) }, A1, k1, A2, k2, p5, ⟨hB4, hB5, hB3⟩, by omega, by omega, s.less (by (repeat (first | exact sub_nil | refine sub_cons (by (repeat (first | exact .head _ | refine .tail _ ?_))) ?_)))⟩
        | exact ⟨{ c with off := [-1, 8, 24, 25][m.toNat]'(by simp only [List.length_cons, List.length_nil]; omega) }, A1, k1, A2, k2, p5, ⟨hB4, hB5, hB3⟩, by omega, by omega, s.less (by (repeat (first | exact sub_nil | refine sub_cons (by (repeat (first | exact .head _ | refine .tail _ ?_))) ?_)))⟩
        | exact ⟨{ c with data := z }, A1, k1, A2, k2, p5, ⟨hB4, hB5, Nat.le_trans hz (by show _ * 1 ≤ 25; omega)⟩, by omega, by omega, s.less (by (repeat (first | exact sub_nil | refine sub_cons (by (repeat (first | exact .head _ | refine .tail _ ?_))) ?_)))⟩
        | exact ⟨{ c with path := c.path ++ [x] }, _, _, A2, k2, p5, ⟨(show namesWt (c.path ++ [x]) ≤ M + 8 by have := seven_mem hx; rw [namesWt_app]; simp only [namesWt]; omega), hB5, hB3⟩, by omega, by omega, s.less (by (repeat (first | exact sub_nil | refine sub_cons (by (repeat (first | exact .head _ | refine .tail _ ?_))) ?_)))⟩
        | exact ⟨{ c with path := [] }, _, _, A2, k2, p4, ⟨Nat.zero_le _, hB5, hB3⟩, by omega, by omega, s.less (by (repeat (first | exact sub_nil | refine sub_cons (by (repeat (first | exact .head _ | refine .tail _ ?_))) ?_)))⟩
        | exact ⟨c, A1, k1, A2, k2, p4, ⟨hB4, hB5, hB3⟩, by omega, by omega, s.less (by (repeat (first | exact sub_nil | refine sub_cons (by (repeat (first | exact .head _ | refine .tail _ ?_))) ?_)))⟩
    · repeat (refine VS_seq ?_)
      refine VS_region_lit ?_
      refine VL_run (d := 70) (run_eqI rfl rfl rfl) rfl rfl ?_
      refine VL_run (d := 69) (run_assign rfl (by conv => lhs; whnf)) rfl rfl ?_
      refine VL_nil ?_
      refine VS_cond rfl (fun c8 => ?_) (fun c8 => ?_) <;> (try simp only [decide_eq_true_eq, decide_eq_false_iff_not, Bool.not_eq_true', Bool.not_eq_false', ne_eq, Decidable.not_not, cond_true, cond_false, Bool.and_eq_true, Bool.or_eq_true, Bool.and_eq_false_iff, Bool.or_eq_false_iff, Bool.not_true, Bool.not_false, reduceCtorEq] at c8)
      · refine VS_region_lit ?_
        refine VL_does (d := 71) (does_slice0 s rfl Try.underlying23 ty9 ?_) rfl rfl
        clear s; intro g71 w s
        replace s := s.freezeR (k := 0) (i := 3) rfl rfl; simp only [List.eraseIdx_cons_zero] at s
        refine VL_run (d := 72) (run_fieldAddr rfl fo70_1 rfl) rfl rfl ?_
        (refine VL_doesU (does_store s rfl ty23 rfl rfl (i := 0) rfl rfl rfl (by (intro u hu; simp only [List.mem_cons, List.not_mem_nil, or_false] at hu; subst hu; rfl)) rfl ?_) rfl rfl rfl)
        clear s; intro w s
        try simp only [List.set_cons_zero, List.set_cons_succ, patch, List.take_succ_cons, List.take_zero, List.drop_succ_cons, List.drop_zero, List.drop_nil, List.nil_append, List.cons_append, List.append_nil, List.length_cons, List.length_nil, Nat.reduceAdd, Nat.zero_add] at s
        refine VL_nil ?_
        refine VS_met (()) ?_ (by repeat (exact Has.nil _)) (by repeat (first | exact Out.refl _ _ | refine Out.upd rfl ?_))
        obtain ⟨hB1, hB2, hB3⟩ := hcB
        have hB4 := Nat.le_trans hB1 (Nat.le_add_right M 8)
        have hB5 := Nat.le_trans hB2 (Nat.le_add_right M 8)
        first
          | exact ⟨{ c with kind := [0, 7, -1][m.toNat]'(by simp only [List.length_cons, List.length_nil]; omega) }, A1, k1, A2, k2, p5, ⟨hB4, hB5, hB3⟩, by omega, by omega, s.less (by (repeat (first | exact sub_nil | refine sub_cons (by (repeat (first | exact .head _ | refine .tail _ ?_))) ?_)))⟩
          | exact ⟨{ c with off := [-1, 8, 24, 25][m.toNat]'(by simp only [List.length_cons, List.length_nil]; omega) }, A1, k1, A2, k2, p5, ⟨hB4, hB5, hB3⟩, by omega, by omega, s.less (by (repeat (first | exact sub_nil | refine sub_cons (by (repeat (first | exact .head _ | refine .tail _ ?_))) ?_)))⟩
          | exact ⟨{ c with data := z }, A1, k1, A2, k2, p5, ⟨hB4, hB5, Nat.le_trans hz (by show _ * 1 ≤ 25; omega)⟩, by omega, by omega, s.less (by (repeat (first | exact sub_nil | refine sub_cons (by (repeat (first | exact .head _ | refine .tail _ ?_))) ?_)))⟩
          | exact ⟨{ c with path := c.path ++ [x] }, _, _, A2, k2, p5, ⟨(show namesWt (c.path ++ [x]) ≤ M + 8 by have := seven_mem hx; rw [namesWt_app]; simp only [namesWt]; omega), hB5, hB3⟩, by omega, by omega, s.less (by (repeat (first | exact sub_nil | refine sub_cons (by (repeat (first | exact .head _ | refine .tail _ ?_))) ?_)))⟩
          | exact ⟨{ c with path := [] }, _, _, A2, k2, p4, ⟨Nat.zero_le _, hB5, hB3⟩, by omega, by omega, s.less (by (repeat (first | exact sub_nil | refine sub_cons (by (repeat (first | exact .head _ | refine .tail _ ?_))) ?_)))⟩
          | exact ⟨c, A1, k1, A2, k2, p4, ⟨hB4, hB5, hB3⟩, by omega, by omega, s.less (by (repeat (first | exact sub_nil | refine sub_cons (by (repeat (first | exact .head _ | refine .tail _ ?_))) ?_)))⟩
      · repeat (refine VS_seq ?_)
        refine VS_region_lit ?_
        refine VL_run (d := 74) (run_eqI rfl rfl rfl) rfl rfl ?_
        refine VL_run (d := 73) (run_assign rfl (by conv => lhs; whnf)) rfl rfl ?_
        refine VL_nil ?_
        refine VS_cond rfl (fun c9 => ?_) (fun c9 => ?_) <;> (try simp only [decide_eq_true_eq, decide_eq_false_iff_not, Bool.not_eq_true', Bool.not_eq_false', ne_eq, Decidable.not_not, cond_true, cond_false, Bool.and_eq_true, Bool.or_eq_true, Bool.and_eq_false_iff, Bool.or_eq_false_iff, Bool.not_true, Bool.not_false, reduceCtorEq] at c9)
        · refine VS_region_lit ?_
          refine VL_does (d := 75) (does_slice0 s rfl Try.underlying23 ty9 ?_) rfl rfl
          clear s; intro g75 w s
          refine VL_run (d := 76) (run_fieldAddr rfl fo70_1 rfl) rfl rfl ?_
          refine VL_run (d := 77) (run_load_own1 s rfl ty23 rfl (i := 1) rfl rfl) rfl rfl ?_
          (refine VL_does (d := 78) (does_appendD s rfl Try.underlying23 ty9 (by decide) (by decide) (i := 0) rfl rfl rfl (s.fa (.dat [.slice A1 c.path.length k1] (.sl (strsD c.path))) (by (repeat (exact .head _)))) (strsD_wd _) (by simp <;> omega) (by (simp only [List.nil_append]; exact rfl)) (show _ = c.path.length by simp) ?_) rfl rfl)
          clear s; intro A78 c78 w s
          try simp only [List.set_cons_zero, List.set_cons_succ, patch, List.take_succ_cons, List.take_zero, List.drop_succ_cons, List.drop_zero, List.drop_nil, List.nil_append, List.cons_append, List.append_nil, List.length_cons, List.length_nil, Nat.reduceAdd, Nat.zero_add] at s
          refine VL_run (d := 79) (run_move rfl (by conv => lhs; whnf)) rfl rfl ?_
          refine VL_does (d := 80) (does_sliceN (cs := [.string ⟨#[]⟩, .string ⟨#[65]⟩, .string ⟨#[116, 111, 111, 108, 111, 110, 103]⟩, .string ⟨#[120]⟩, .string ⟨#[121]⟩]) (ds := strsD [⟨#[]⟩, ⟨#[65]⟩, ⟨#[116, 111, 111, 108, 111, 110, 103]⟩, ⟨#[120]⟩, ⟨#[121]⟩])  s rfl Try.underlying23 ty9 (by decide) (by decide)  (fun A hA => fill_1x5 _ _ _ _ _ rfl rfl rfl rfl rfl A hA) (strsL_rd _) (strsD_wd _) rfl ?_) rfl rfl
          clear s; intro g80 w s
          replace s := s.freezeR (k := 0) (i := 4) rfl rfl; simp only [List.eraseIdx_cons_zero] at s
          refine VL_does (d := 81) (does_call2 rfl (by kernel_rfl) rfl rfl (by exact of_ok _ (s.rdrM (i := 4) rfl (by (repeat (first | exact .head _ | refine .tail _ ?_))) hlen (by omega)) (s.dat (i := 0) rfl) (by omega) (by simp) (by simp)) ?_) rfl rfl
          rintro v81 w81 ⟨x, rfl, hx, ha⟩
          (obtain ⟨p5, hp5a, hp5b, s⟩ := s.aft (i := 4) rfl ha); simp only [List.set_cons_zero, List.set_cons_succ] at s; clear ha
          refine VL_does (d := 82) (does_slice1 s rfl Try.underlying23 ty9 (by decide) (by decide) rfl rfl (show Rd _ _ (.str x) [.string x] from rfl) rfl ?_) rfl rfl
          clear s; intro g82 w s
          (refine VL_does (d := 83) (does_appendR s rfl Try.underlying23 ty9 (by decide) (by decide) (i := 0) rfl rfl rfl (by simp <;> omega) (show _ = strsD (c.path ++ [x]) by simp [strsD]) (show _ = (c.path ++ [x]).length by simp) ?_) rfl rfl)
          clear s; intro A83 c83 w s
          try simp only [List.set_cons_zero, List.set_cons_succ, patch, List.take_succ_cons, List.take_zero, List.drop_succ_cons, List.drop_zero, List.drop_nil, List.nil_append, List.cons_append, List.append_nil, List.length_cons, List.length_nil, Nat.reduceAdd, Nat.zero_add] at s
          replace s := s.freezeR (k := 0) (i := 3) rfl rfl; simp only [List.eraseIdx_cons_zero] at s
          refine VL_run (d := 84) (run_fieldAddr rfl fo70_1 rfl) rfl rfl ?_
          (refine VL_doesU (does_store s rfl ty23 rfl rfl (i := 0) rfl rfl rfl (by (intro u hu; simp only [List.mem_cons, List.not_mem_nil, or_false] at hu; subst hu; rfl)) rfl ?_) rfl rfl rfl)
          clear s; intro w s
          try simp only [List.set_cons_zero, List.set_cons_succ, patch, List.take_succ_cons, List.take_zero, List.drop_succ_cons, List.drop_zero, List.drop_nil, List.nil_append, List.cons_append, List.append_nil, List.length_cons, List.length_nil, Nat.reduceAdd, Nat.zero_add] at s
          refine VL_nil ?_
          refine VS_met (()) ?_ (by repeat (exact Has.nil _)) (by repeat (first | exact Out.refl _ _ | refine Out.upd rfl ?_))
          obtain ⟨hB1, hB2, hB3⟩ := hcB
          have hB4 := Nat.le_trans hB1 (Nat.le_add_right M 8)
          have hB5 := Nat.le_trans hB2 (Nat.le_add_right M 8)
          first
            | exact ⟨{ c with kind := [0, 7, -1][m.toNat]'(by simp only [List.length_cons, List.length_nil]; omega) }, A1, k1, A2, k2, p5, ⟨hB4, hB5, hB3⟩, by omega, by omega, s.less (by (repeat (first | exact sub_nil | refine sub_cons (by (repeat (first | exact .head _ | refine .tail _ ?_))) ?_)))⟩
            | exact ⟨{ c with off := [-1, 8, 24, 25][m.toNat]'(by simp only [List.length_cons, List.length_nil]; omega) }, A1, k1, A2, k2, p5, ⟨hB4, hB5, hB3⟩, by omega, by omega, s.less (by (repeat (first | exact sub_nil | refine sub_cons (by (repeat (first | exact .head _ | refine .tail _ ?_))) ?_)))⟩
            | exact ⟨{ c with data := z }, A1, k1, A2, k2, p5, ⟨hB4, hB5, Nat.le_trans hz (by show _ * 1 ≤ 25; omega)⟩, by omega, by omega, s.less (by (repeat (first | exact sub_nil | refine sub_cons (by (repeat (first | exact .head _ | refine .tail _ ?_))) ?_)))⟩
            | exact ⟨{ c with path := c.path ++ [x] }, _, _, A2, k2, p5, ⟨(show namesWt (c.path ++ [x]) ≤ M + 8 by have := seven_mem hx; rw [namesWt_app]; simp only [namesWt]; omega), hB5, hB3⟩, by omega, by omega, s.less (by (repeat (first | exact sub_nil | refine sub_cons (by (repeat (first | exact .head _ | refine .tail _ ?_))) ?_)))⟩
            | exact ⟨{ c with path := [] }, _, _, A2, k2, p4, ⟨Nat.zero_le _, hB5, hB3⟩, by omega, by omega, s.less (by (repeat (first | exact sub_nil | refine sub_cons (by (repeat (first | exact .head _ | refine .tail _ ?_))) ?_)))⟩
            | exact ⟨c, A1, k1, A2, k2, p4, ⟨hB4, hB5, hB3⟩, by omega, by omega, s.less (by (repeat (first | exact sub_nil | refine sub_cons (by (repeat (first | exact .head _ | refine .tail _ ?_))) ?_)))⟩
        · repeat (refine VS_seq ?_)
          refine VS_region_lit ?_
          refine VL_run (d := 86) (run_eqI rfl rfl rfl) rfl rfl ?_
          refine VL_run (d := 85) (run_assign rfl (by conv => lhs; whnf)) rfl rfl ?_
          refine VL_nil ?_
          refine VS_cond rfl (fun c10 => ?_) (fun c10 => ?_) <;> (try simp only [decide_eq_true_eq, decide_eq_false_iff_not, Bool.not_eq_true', Bool.not_eq_false', ne_eq, Decidable.not_not, cond_true, cond_false, Bool.and_eq_true, Bool.or_eq_true, Bool.and_eq_false_iff, Bool.or_eq_false_iff, Bool.not_true, Bool.not_false, reduceCtorEq] at c10)
          · refine VS_region_lit ?_
            refine VL_does (d := 87) (does_sliceN (cs := [.int .i64 (-1), .int .i64 8, .int .i64 24, .int .i64 25]) (ds := intsD [-1, 8, 24, 25])  s rfl Try.underlying140 ty3 (by decide) (by decide)  (fun A hA => fill_1x4 _ _ _ _ rfl rfl rfl rfl A hA) (intsL_rd _) (intsD_wd _) rfl ?_) rfl rfl
            clear s; intro g87 w s
            replace s := s.freezeR (k := 0) (i := 3) rfl rfl; simp only [List.eraseIdx_cons_zero] at s
            refine VL_run (d := 88) (run_move rfl (by conv => lhs; whnf)) rfl rfl ?_
            refine VL_does (d := 89) (does_call2 rfl (by kernel_rfl) rfl rfl (by exact pick_ok _ (s.rdrM (i := 3) rfl (by (repeat (first | exact .head _ | refine .tail _ ?_))) hlen (by omega)) (by omega) (by omega)) ?_) rfl rfl
            rintro v89 w89 ⟨m, rfl, hm0, hm1, ha⟩
            (obtain ⟨p5, hp5a, hp5b, s⟩ := s.aft (i := 3) rfl ha); simp only [List.set_cons_zero, List.set_cons_succ] at s; clear ha; (obtain ⟨ad, e1, s⟩ := s.openI (i := 0) rfl m.toNat (by simp only [List.length_cons, List.length_nil]; omega)); obtain rfl := Option.some.inj e1
            refine VL_run (d := 90) (run_indexAddrN (q := m.toNat) rfl Try.underlying140 ty3 rfl rfl (by omega) (by omega)) rfl rfl ?_
            refine VL_run (d := 91) (run_load_at0 s rfl ty3 rfl (i := 0) rfl rfl) rfl rfl ?_
            refine VL_run (d := 92) (run_fieldAddr rfl fo70_3 rfl) rfl rfl ?_
            (refine VL_doesU (does_store s rfl ty3 rfl rfl (i := 0) rfl rfl rfl (by (intro u hu; simp only [List.mem_cons, List.not_mem_nil, or_false] at hu; subst hu; rfl)) rfl ?_) rfl rfl rfl)
            clear s; intro w s
            try simp only [List.set_cons_zero, List.set_cons_succ, patch, List.take_succ_cons, List.take_zero, List.drop_succ_cons, List.drop_zero, List.drop_nil, List.nil_append, List.cons_append, List.append_nil, List.length_cons, List.length_nil, Nat.reduceAdd, Nat.zero_add] at s
            refine VL_nil ?_
            refine VS_met (()) ?_ (by repeat (exact Has.nil _)) (by repeat (first | exact Out.refl _ _ | refine Out.upd rfl ?_))
            obtain ⟨hB1, hB2, hB3⟩ := hcB
            have hB4 := Nat.le_trans hB1 (Nat.le_add_right M 8)
            have hB5 := Nat.le_trans hB2 (Nat.le_add_right M 8)
            first
              | exact ⟨{ c with kind := [0, 7, -1][m.toNat]'(by simp only [List.length_cons, List.length_nil]; omega) }, A1, k1, A2, k2, p5, ⟨hB4, hB5, hB3⟩, by omega, by omega, s.less (by (repeat (first | exact sub_nil | refine sub_cons (by (repeat (first | exact .head _ | refine .tail _ ?_))) ?_)))⟩
              | exact ⟨{ c with off := [-1, 8, 24, 25][m.toNat]'(by simp only [List.length_cons, List.length_nil]; omega) }, A1, k1, A2, k2, p5, ⟨hB4, hB5, hB3⟩, by omega, by omega, s.less (by (repeat (first | exact sub_nil | refine sub_cons (by (repeat (first | exact .head _ | refine .tail _ ?_))) ?_)))⟩
              | exact ⟨{ c with data := z }, A1, k1, A2, k2, p5, ⟨hB4, hB5, Nat.le_trans hz (by show _ * 1 ≤ 25; omega)⟩, by omega, by omega, s.less (by (repeat (first | exact sub_nil | refine sub_cons (by (repeat (first | exact .head _ | refine .tail _ ?_))) ?_)))⟩
              | exact ⟨{ c with path := c.path ++ [x] }, _, _, A2, k2, p5, ⟨(show namesWt (c.path ++ [x]) ≤ M + 8 by have := seven_mem hx; rw [namesWt_app]; simp only [namesWt]; omega), hB5, hB3⟩, by omega, by omega, s.less (by (repeat (first | exact sub_nil | refine sub_cons (by (repeat (first | exact .head _ | refine .tail _ ?_))) ?_)))⟩
              | exact ⟨{ c with path := [] }, _, _, A2, k2, p4, ⟨Nat.zero_le _, hB5, hB3⟩, by omega, by omega, s.less (by (repeat (first | exact sub_nil | refine sub_cons (by (repeat (first | exact .head _ | refine .tail _ ?_))) ?_)))⟩
              | exact ⟨c, A1, k1, A2, k2, p4, ⟨hB4, hB5, hB3⟩, by omega, by omega, s.less (by (repeat (first | exact sub_nil | refine sub_cons (by (repeat (first | exact .head _ | refine .tail _ ?_))) ?_)))⟩
          · repeat (refine VS_seq ?_)
            refine VS_region_lit ?_
            refine VL_run (d := 94) (run_eqI rfl rfl rfl) rfl rfl ?_
            refine VL_run (d := 93) (run_assign rfl (by conv => lhs; whnf)) rfl rfl ?_
            refine VL_nil ?_
            refine VS_cond rfl (fun c11 => ?_) (fun c11 => ?_) <;> (try simp only [decide_eq_true_eq, decide_eq_false_iff_not, Bool.not_eq_true', Bool.not_eq_false', ne_eq, Decidable.not_not, cond_true, cond_false, Bool.and_eq_true, Bool.or_eq_true, Bool.and_eq_false_iff, Bool.or_eq_false_iff, Bool.not_true, Bool.not_false, reduceCtorEq] at c11)
            · refine VS_region_lit ?_
              refine VL_run (d := 95) (run_move rfl (by conv => lhs; whnf)) rfl rfl ?_
              refine VL_does (d := 96) (does_call2 rfl (by kernel_rfl) rfl rfl (by exact pick_ok _ (s.rdrM (i := 3) rfl (by (repeat (first | exact .head _ | refine .tail _ ?_))) hlen (by omega)) (by omega) (by omega)) ?_) rfl rfl
              rintro v96 w96 ⟨m, rfl, hm0, hm1, ha⟩
              (obtain ⟨p5, hp5a, hp5b, s⟩ := s.aft (i := 3) rfl ha); simp only [List.set_cons_zero, List.set_cons_succ] at s; clear ha
              refine VL_run (d := 97) (run_add rfl rfl rfl (by omega)) rfl rfl ?_
              refine VL_does (d := 98) (does_call2 rfl (by kernel_rfl) rfl rfl (l1Many_ok _ _ (by decide) (by omega)) ?_) rfl rfl
              rintro v98 w98 ⟨z, rfl, hz, hb⟩
              replace s := s.step hb; clear hb
              refine VL_run (d := 99) (run_fieldAddr rfl fo70_4 rfl) rfl rfl ?_
              (refine VL_doesU (does_store s rfl ty9 rfl rfl (i := 0) rfl rfl rfl (by (intro u hu; simp only [List.mem_cons, List.not_mem_nil, or_false] at hu; subst hu; rfl)) rfl ?_) rfl rfl rfl)
              clear s; intro w s
              try simp only [List.set_cons_zero, List.set_cons_succ, patch, List.take_succ_cons, List.take_zero, List.drop_succ_cons, List.drop_zero, List.drop_nil, List.nil_append, List.cons_append, List.append_nil, List.length_cons, List.length_nil, Nat.reduceAdd, Nat.zero_add] at s
              refine VL_nil ?_
              refine VS_met (()) ?_ (by repeat (exact Has.nil _)) (by repeat (first | exact Out.refl _ _ | refine Out.upd rfl ?_))
              obtain ⟨hB1, hB2, hB3⟩ := hcB
              have hB4 := Nat.le_trans hB1 (Nat.le_add_right M 8)
              have hB5 := Nat.le_trans hB2 (Nat.le_add_right M 8)
              first
                | exact ⟨{ c with kind := [0, 7, -1][m.toNat]'(by simp only [List.length_cons, List.length_nil]; omega) }, A1, k1, A2, k2, p5, ⟨hB4, hB5, hB3⟩, by omega, by omega, s.less (by (repeat (first | exact sub_nil | refine sub_cons (by (repeat (first | exact .head _ | refine .tail _ ?_))) ?_)))⟩
                | exact ⟨{ c with off := [-1, 8, 24, 25][m.toNat]'(by simp only [List.length_cons, List.length_nil]; omega) }, A1, k1, A2, k2, p5, ⟨hB4, hB5, hB3⟩, by omega, by omega, s.less (by (repeat (first | exact sub_nil | refine sub_cons (by (repeat (first | exact .head _ | refine .tail _ ?_))) ?_)))⟩
                | exact ⟨{ c with data := z }, A1, k1, A2, k2, p5, ⟨hB4, hB5, Nat.le_trans hz (by show _ * 1 ≤ 25; omega)⟩, by omega, by omega, s.less (by (repeat (first | exact sub_nil | refine sub_cons (by (repeat (first | exact .head _ | refine .tail _ ?_))) ?_)))⟩
                | exact ⟨{ c with path := c.path ++ [x] }, _, _, A2, k2, p5, ⟨(show namesWt (c.path ++ [x]) ≤ M + 8 by have := seven_mem hx; rw [namesWt_app]; simp only [namesWt]; omega), hB5, hB3⟩, by omega, by omega, s.less (by (repeat (first | exact sub_nil | refine sub_cons (by (repeat (first | exact .head _ | refine .tail _ ?_))) ?_)))⟩
                | exact ⟨{ c with path := [] }, _, _, A2, k2, p4, ⟨Nat.zero_le _, hB5, hB3⟩, by omega, by omega, s.less (by (repeat (first | exact sub_nil | refine sub_cons (by (repeat (first | exact .head _ | refine .tail _ ?_))) ?_)))⟩
                | exact ⟨c, A1, k1, A2, k2, p4, ⟨hB4, hB5, hB3⟩, by omega, by omega, s.less (by (repeat (first | exact sub_nil | refine sub_cons (by (repeat (first | exact .head _ | refine .tail _ ?_))) ?_)))⟩
            · repeat (refine VS_skip ?_)
              refine VS_met (()) ?_ (by repeat (exact Has.nil _)) (by repeat (first | exact Out.refl _ _ | refine Out.upd rfl ?_))
              obtain ⟨hB1, hB2, hB3⟩ := hcB
              have hB4 := Nat.le_trans hB1 (Nat.le_add_right M 8)
              have hB5 := Nat.le_trans hB2 (Nat.le_add_right M 8)
              first
                | exact ⟨{ c with kind := [0, 7, -1][m.toNat]'(by simp only [List.length_cons, List.length_nil]; omega) }, A1, k1, A2, k2, p5, ⟨hB4, hB5, hB3⟩, by omega, by omega, s.less (by (repeat (first | exact sub_nil | refine sub_cons (by (repeat (first | exact .head _ | refine .tail _ ?_))) ?_)))⟩
                | exact ⟨{ c with off := [-1, 8, 24, 25][m.toNat]'(by simp only [List.length_cons, List.length_nil]; omega) }, A1, k1, A2, k2, p5, ⟨hB4, hB5, hB3⟩, by omega, by omega, s.less (by (repeat (first | exact sub_nil | refine sub_cons (by (repeat (first | exact .head _ | refine .tail _ ?_))) ?_)))⟩
                | exact ⟨{ c with data := z }, A1, k1, A2, k2, p5, ⟨hB4, hB5, Nat.le_trans hz (by show _ * 1 ≤ 25; omega)⟩, by omega, by omega, s.less (by (repeat (first | exact sub_nil | refine sub_cons (by (repeat (first | exact .head _ | refine .tail _ ?_))) ?_)))⟩
                | exact ⟨{ c with path := c.path ++ [x] }, _, _, A2, k2, p5, ⟨(show namesWt (c.path ++ [x]) ≤ M + 8 by have := seven_mem hx; rw [namesWt_app]; simp only [namesWt]; omega), hB5, hB3⟩, by omega, by omega, s.less (by (repeat (first | exact sub_nil | refine sub_cons (by (repeat (first | exact .head _ | refine .tail _ ?_))) ?_)))⟩
                | exact ⟨{ c with path := [] }, _, _, A2, k2, p4, ⟨Nat.zero_le _, hB5, hB3⟩, by omega, by omega, s.less (by (repeat (exact sub_nil)))⟩
                | exact ⟨c, A1, k1, A2, k2, p4, ⟨hB4, hB5, hB3⟩, by omega, by omega, s.less (by (repeat (first | exact sub_nil | refine sub_cons (by (repeat (first | exact .head _ | refine .tail _ ?_))) ?_)))⟩
  clear s hcB hcp
  rintro _ w j ⟨c, A1, k1, A2, k2, p5, hcB, hp5a, hp5b, s⟩
  repeat (refine VS_seq ?_)
  refine VS_region_lit ?_
  refine VL_run (d := 100) (run_load_ownA (cs := [_, _, _, _, _]) s rfl ty70 rfl (i := 0) rfl rfl rfl) rfl rfl ?_
  (refine VL_doesU (does_store s rfl ty70 rfl rfl (i := 1) rfl rfl rfl (by (intro u hu; simp only [List.mem_cons, List.not_mem_nil, or_false] at hu; rcases hu with rfl | rfl | rfl | rfl | rfl <;> rfl)) rfl ?_) rfl rfl rfl)
  clear s; intro w s
  try simp only [List.set_cons_zero, List.set_cons_succ, patch, List.take_succ_cons, List.take_zero, List.drop_succ_cons, List.drop_zero, List.drop_nil, List.nil_append, List.cons_append, List.append_nil, List.length_cons, List.length_nil, Nat.reduceAdd, Nat.zero_add] at s
  refine VL_nil ?_
  refine VS_ret ?_
  repeat (first | refine blockV_ret ?_ | refine backV_ret ?_ | refine backV2_ret ?_ | refine backV3_ret ?_ | refine thenV_ret ?_ | refine metV2_ret ?_)
  refine fin_one (fn := Try.f84) rfl (res_ownA (cs := [_, _, _, _, _]) s ty70 rfl (i := 1) rfl rfl rfl) ?_
  exact ⟨_, c, rfl, hcB, s.tellR (Cl.shut (s.dat (i := 0) rfl) (s.dat (i := 1) rfl)), s.aftOut (i := 3) rfl (by omega) (by omega)⟩
end Go.Proofs.Ytkefaelmamgjiaa
