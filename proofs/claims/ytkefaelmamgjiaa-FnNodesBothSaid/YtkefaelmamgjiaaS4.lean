/- spec: l33Paths, l1At, l2Parent, l2Fits. -/
import Derived.Test.YtkefaelmamgjiaaS3
set_option linter.unusedVariables false
set_option linter.unusedSimpArgs false
set_option maxHeartbeats 1000000
namespace Go.Proofs.Ytkefaelmamgjiaa
open Go.RowKit

theorem findFrom_lt (ns : List ByteArray) (n : ByteArray) : ∀ m i, ns.length - i = m → findFrom ns n i < ns.length := by
  intro m
  induction m with
  | zero =>
    intro i hi
    rw [findFrom, dif_neg (by omega)]
    omega
  | succ m ih =>
    intro i hi
    rw [findFrom, dif_pos (by omega)]
    split
    · omega
    · exact ih (i + 1) (by omega)
theorem findFrom_ge (ns : List ByteArray) (n : ByteArray) : ∀ m i, ns.length - i = m → -1 ≤ findFrom ns n i := by
  intro m
  induction m with
  | zero =>
    intro i hi
    rw [findFrom, dif_neg (by omega)]
    omega
  | succ m ih =>
    intro i hi
    rw [findFrom, dif_pos (by omega)]
    split
    · omega
    · exact ih (i + 1) (by omega)
/-- What is at a path. -/
def Tr.at : List ByteArray → Tr → Option Tr
  | [], t => some t
  | n :: p, t => if findFrom t.names n 0 < 0 then none else match t.kids[(findFrom t.names n 0).toNat]? with
    | some k => Tr.at p k
    | none => none
theorem l1At_ok (m : Nat) : ∀ (p : List ByteArray) (hm : p.length = m) (t : Tr) {ok : Nat → Prop} {w0 : World} {cs : List Value} {v2 : Value} (h : Rd ok w0 t.toD cs) (h2 : Rd ok w0 (.sl (strsD p)) [v2]) (ht : t.Fit) (he : t.Even) (hp : p.length ≤ 1000000000000),
    Calls Try.prog 108 #[.agg cs.toArray, v2] w0 (Ret fun v w' => ∃ cs', v = .tuple #[.agg cs'.toArray, .bool (Tr.at p t).isSome] ∧ Rd (okR ok w0) w' ((Tr.at p t).getD Tr.zero).toD cs' ∧ Below w0.heap.size w0 w') := by
  induction m using Nat.strongRecOn with
  | _ m ih =>
  intro p hm t ok w0 cs v2 h h2 ht he hp
  obtain ⟨A3, c3, A4, c4, rfl, hl3, hl4, h3, h4⟩ := Tr.opn h
  obtain ⟨A, c, e1, hl1⟩ := Rd_strs h2
  obtain rfl := List.singleton_inj.1 e1
  have f1 := ht.names
  have f2 := ht.kids
  have f3 := he.len
  clear h
  have s := (((St.start ok w0).begin h2).begin h4).begin h3
  refine calls_enter (n := 29) Try.func108 rfl rfl rfl ?_
  repeat (refine VS_seq ?_)
  refine VS_region_lit ?_
  refine VL_does (d := 2) (does_box s rfl rfl rfl ?_) rfl rfl
  clear s; intro b2 w s
  refine VL_does (d := 4) (does_alloc s rfl ty26 rfl ?_) rfl rfl
  clear s; intro b4 w s
  refine VL_run (d := 5) (run_assign rfl (by conv => lhs; whnf)) rfl rfl ?_
  refine VL_nil ?_
  repeat (refine VS_seq ?_)
  refine VS_region_lit ?_
  refine VL_run (d := 7) (run_move rfl (by conv => lhs; whnf)) rfl rfl ?_
  refine VL_run (d := 8) (run_lenSlice rfl ⟨_, Try.underlying23⟩ rfl) rfl rfl ?_
  refine VL_run (d := 9) (run_eqI rfl rfl rfl) rfl rfl ?_
  refine VL_nil ?_
  refine VS_cond rfl (fun c0 => ?_) (fun c0 => ?_) <;> (try simp only [decide_eq_true_eq, decide_eq_false_iff_not, Bool.not_eq_true', Bool.not_eq_false', ne_eq, Decidable.not_not, cond_true, cond_false, Bool.and_eq_true, Bool.or_eq_true, Bool.and_eq_false_iff, Bool.or_eq_false_iff, Bool.not_true, Bool.not_false, reduceCtorEq] at c0)
  · repeat (refine VS_seq ?_)
    refine VS_region_lit ?_
    refine VL_run (d := 10) (run_load_ownA (cs := [_, _, _, _, _]) s rfl ty26 rfl (i := 1) rfl rfl rfl) rfl rfl ?_
    (refine VL_doesU (does_store s rfl ty26 rfl rfl (i := 0) rfl rfl rfl (by (intro u hu; simp only [List.mem_cons, List.not_mem_nil, or_false] at hu; rcases hu with rfl | rfl | rfl | rfl | rfl <;> rfl)) rfl ?_) rfl rfl rfl)
    clear s; intro w s
    try simp only [List.set_cons_zero, List.set_cons_succ, patch, List.take_succ_cons, List.take_zero, List.drop_succ_cons, List.drop_zero, List.drop_nil, List.nil_append, List.cons_append, List.append_nil, List.length_cons, List.length_nil, Nat.reduceAdd, Nat.zero_add] at s
    refine VL_run (d := 5) (run_assign rfl (by conv => lhs; whnf)) rfl rfl ?_
    refine VL_nil ?_
    refine VS_ret ?_
    repeat (first | refine blockV_ret ?_ | refine backV_ret ?_ | refine backV2_ret ?_ | refine backV3_ret ?_ | refine thenV_ret ?_ | refine metV2_ret ?_)
    (refine fin_two (fn := Try.f108) rfl (res_ownA (cs := [_, _, _, _, _]) s ty26 rfl (i := 0) rfl rfl rfl) (res_tmp (by conv => lhs; whnf)) ?_)
    obtain rfl : p = [] := List.eq_nil_of_length_eq_zero (by omega)
    exact ⟨_, rfl, s.tell (Tr.shut' (s.dat (i := 0) rfl) (s.dat (i := 1) rfl)), s.below⟩
  · obtain ⟨n, p, rfl⟩ := List.exists_cons_of_ne_nil (l := p) (fun h => c0 (by rw [h]; rfl))
    obtain ⟨ad, rfl, s⟩ := s.openS (i := 2) rfl 0 (by simp)
    repeat (first | refine VS_seq ?_ | refine VS_skip ?_)
    refine VS_drawS 5 s mixed ?_
    clear s; intro s
    refine VA_take 0 (d := 11) rfl (by kernel_rfl) rfl (fun w g => see_ownA (cs := [_, _, _, _, _]) g rfl ty26 rfl (i := 1) rfl rfl rfl) s.see ?_
    refine VA_take 1 (d := 12) rfl (by kernel_rfl) rfl (fun w g => run_move rfl (by conv => lhs; whnf)) s.see ?_
    refine VA_take 2 (d := 13) rfl (by kernel_rfl) rfl (fun w g => run_indexAddr rfl Try.underlying23 ty9 rfl rfl (by omega) (by omega)) s.see ?_
    refine VA_take 3 (d := 14) rfl (by kernel_rfl) rfl (fun w g => see_at1 g rfl ty9 rfl (i := 0) rfl rfl) s.see ?_
    refine VA_one (i := 4) (by kernel_rfl) ?_
    refine VO_does (d := 15) rfl (does_call2 rfl (by kernel_rfl) rfl rfl (l1Find_ok t n (Tr.shut' (s.dat (i := 1) rfl) (s.dat (i := 2) rfl)) f1) ?_) rfl rfl
    rintro _ w ⟨rfl, hb⟩
    replace s := s.step hb
    clear hb
    refine ⟨fun _ => s.sees (by intro b c t h; exact h) (by intro f h; exact h), ?_⟩
    refine VA_one (i := 5) (by kernel_rfl) ?_
    refine VO_run (d := 6) rfl (run_assign rfl (by conv => lhs; whnf)) rfl rfl ((fun h => nomatch (show true = false from h))) ?_
    refine VA_done (by kernel_rfl) ?_
    repeat (refine VS_seq ?_)
    refine VS_region_lit ?_
    refine VL_run (d := 16) (run_move rfl (by conv => lhs; whnf)) rfl rfl ?_
    refine VL_run (d := 17) (run_ltI rfl rfl rfl) rfl rfl ?_
    refine VL_nil ?_
    refine VS_cond rfl (fun c1 => ?_) (fun c1 => ?_) <;> (try simp only [decide_eq_true_eq, decide_eq_false_iff_not, Bool.not_eq_true', Bool.not_eq_false', ne_eq, Decidable.not_not, cond_true, cond_false, Bool.and_eq_true, Bool.or_eq_true, Bool.and_eq_false_iff, Bool.or_eq_false_iff, Bool.not_true, Bool.not_false, reduceCtorEq] at c1)
    · repeat (refine VS_seq ?_)
      refine VS_region_lit ?_
      refine VL_run (d := 18) (run_build (cs := [.bool false, .int .i64 0, .string ⟨#[]⟩, .slice none 0 0, .slice none 0 0]) rfl ty26 st26 rfl) rfl rfl ?_
      (refine VL_doesU (does_store s rfl ty26 rfl rfl (i := 0) rfl rfl rfl (by (intro u hu; simp only [List.mem_cons, List.not_mem_nil, or_false] at hu; rcases hu with rfl | rfl | rfl | rfl | rfl <;> rfl)) rfl ?_) rfl rfl rfl)
      clear s; intro w s
      try simp only [List.set_cons_zero, List.set_cons_succ, patch, List.take_succ_cons, List.take_zero, List.drop_succ_cons, List.drop_zero, List.drop_nil, List.nil_append, List.cons_append, List.append_nil, List.length_cons, List.length_nil, Nat.reduceAdd, Nat.zero_add] at s
      refine VL_run (d := 5) (run_assign rfl (by conv => lhs; whnf)) rfl rfl ?_
      refine VL_nil ?_
      refine VS_ret ?_
      repeat (first | refine blockV_ret ?_ | refine backV_ret ?_ | refine backV2_ret ?_ | refine backV3_ret ?_ | refine thenV_ret ?_ | refine metV2_ret ?_)
      (refine fin_two (fn := Try.f108) rfl (res_ownA (cs := [_, _, _, _, _]) s ty26 rfl (i := 0) rfl rfl rfl) (res_tmp (by conv => lhs; whnf)) ?_)
      have hno : Tr.at (n :: p) t = none := by rw [Tr.at, if_pos c1]
      refine ⟨[_, _, _, _, _], by rw [hno]; rfl, ?_, s.below⟩
      rw [hno]
      exact s.tell (Rd_mk5 rfl rfl rfl ⟨none, 0, rfl, by simp, trivial⟩ ⟨none, 0, rfl, by simp, trivial⟩)
    · repeat (first | refine VS_seq ?_ | refine VS_skip ?_)
      obtain ⟨k, hk⟩ : ∃ k : Nat, findFrom t.names n 0 = k := ⟨_, (Int.toNat_of_nonneg (by omega)).symm⟩
      have hlt := findFrom_lt t.names n _ 0 rfl
      have hk' : k < t.kids.length := by omega
      obtain ⟨ad4, A5, c5, A6, c6, rfl, hl5, hl6, s⟩ := s.openT (i := 2) rfl k hk'
      have hat : Tr.at (n :: p) t = Tr.at p t.kids[k] := by
        rw [Tr.at, if_neg c1, hk, Int.toNat_natCast, List.getElem?_eq_getElem hk']
      rw [hat]
      simp only [List.length_cons] at hm hp
      have s := s.partS (i := 5) rfl 1 (p.length + 1) (by omega) (by simp) p (by simp)
      refine VS_drawS 10 s mixed ?_
      clear s; intro s
      refine VA_take 0 (d := 19) rfl (by kernel_rfl) rfl (fun w g => run_fieldAddr rfl fo26_4 rfl) s.see ?_
      refine VA_take 1 (d := 20) rfl (by kernel_rfl) rfl (fun w g => see_own1 g rfl ty24 rfl (i := 1) rfl rfl) s.see ?_
      refine VA_take 2 (d := 21) rfl (by kernel_rfl) rfl (fun w g => run_move rfl (by conv => lhs; whnf)) s.see ?_
      refine VA_take 3 (d := 22) rfl (by kernel_rfl) rfl (fun w g => run_indexAddrN (q := k) rfl Try.underlying24 ty26 rfl rfl (by omega) (by omega)) s.see ?_
      refine VA_take 4 (d := 23) rfl (by kernel_rfl) rfl (fun w g => see_atA g rfl ty26 rfl (i := 1) rfl rfl) s.see ?_
      refine VA_take 5 (d := 24) rfl (by kernel_rfl) rfl (fun w g => run_move rfl (by conv => lhs; whnf)) s.see ?_
      refine VA_take 6 (d := 25) rfl (by kernel_rfl) rfl (fun w g => run_sliceSlL (l := 1) rfl Try.underlying23 ty9 rfl rfl (by omega) (by omega) (by omega)) s.see ?_
      refine VA_one (i := 7) (by kernel_rfl) ?_
      refine VO_does (d := 26) rfl (does_call2 rfl (by kernel_rfl) rfl rfl (ih p.length (by omega) p rfl _ (s.dat (i := 2) rfl) (s.dat (i := 0) rfl) (ht.kid _ (List.getElem_mem hk')) (he.kid _ (List.getElem_mem hk')) (by omega)) ?_) rfl rfl
      rintro v26 w1 ⟨cs', rfl, hr, hb⟩
      replace s := s.ret hb hr; clear hb hr
      refine ⟨fun _ => s.sees (by intro b c t h; exact h) (by intro f h; exact .tail _ h), ?_⟩
      obtain ⟨B3, d3, B4, d4, rfl, -, -, -, -⟩ := Tr.opn (s.dat (i := 0) rfl)
      refine VA_take 8 (d := 27) rfl (by kernel_rfl) rfl (fun w g => run_extract rfl rfl rfl) (by (exact s.sees (by intro b c t h; exact h) (by intro f h; exact .tail _ h))) ?_
      refine VA_take 9 (d := 28) rfl (by kernel_rfl) rfl (fun w g => run_extract rfl rfl rfl) (by (exact s.sees (by intro b c t h; exact h) (by intro f h; exact .tail _ h))) ?_
      refine VA_one (i := 10) (by kernel_rfl) ?_
      (refine VO_doesU rfl (does_store s rfl ty26 rfl rfl (i := 0) rfl rfl rfl (by (intro u hu; simp only [List.mem_cons, List.not_mem_nil, or_false] at hu; rcases hu with rfl | rfl | rfl | rfl | rfl <;> rfl)) rfl ?_) rfl rfl rfl)
      clear s; intro w s
      try simp only [List.set_cons_zero, List.set_cons_succ, patch, List.take_succ_cons, List.take_zero, List.drop_succ_cons, List.drop_zero, List.drop_nil, List.nil_append, List.cons_append, List.append_nil, List.length_cons, List.length_nil, Nat.reduceAdd, Nat.zero_add] at s
      refine ⟨(fun h => nomatch (show true = false from h)), ?_⟩
      refine VA_one (i := 11) (by kernel_rfl) ?_
      refine VO_run (d := 5) rfl (run_assign rfl (by conv => lhs; whnf)) rfl rfl (fun _ => s.sees (by intro b c t h; (simp only [List.mem_cons, List.not_mem_nil, or_false, List.set_cons_zero, List.set_cons_succ, reduceCtorEq, false_or] at h ⊢ <;> simp_all)) (by intro f h; exact .tail _ h)) ?_
      refine VA_done (by kernel_rfl) ?_
      refine VS_ret ?_
      repeat (first | refine blockV_ret ?_ | refine backV_ret ?_ | refine backV2_ret ?_ | refine backV3_ret ?_ | refine thenV_ret ?_ | refine metV2_ret ?_)
      (refine fin_two (fn := Try.f108) rfl (res_ownA (cs := [_, _, _, _, _]) s ty26 rfl (i := 0) rfl rfl rfl) (res_tmp (by conv => lhs; whnf)) ?_)
      exact ⟨_, rfl, s.tell (s.dat (i := 0) rfl), s.below⟩
/-- Whether a path's parent is a directory. -/
def parentC (t : Tr) (p : List ByteArray) : Int := match Tr.at p.dropLast t with
  | none => 3
  | some q => bif q.dir then 0 else 4
theorem l2Parent_ok (p : List ByteArray) (hne : p ≠ []) (t : Tr) {ok : Nat → Prop} {w0 : World} {cs : List Value} {v2 : Value} (h : Rd ok w0 t.toD cs) (h2 : Rd ok w0 (.sl (strsD p)) [v2]) (ht : t.Fit) (he : t.Even) (hp : p.length ≤ 1000000000000) :
    Calls Try.prog 107 #[.agg cs.toArray, v2] w0 (Ret fun v w' => v = .int .i64 (parentC t p) ∧ Below w0.heap.size w0 w') := by
  obtain ⟨A3, c3, A4, c4, rfl, hl3, hl4, h3, h4⟩ := Tr.opn h
  obtain ⟨A, c, e1, hl1⟩ := Rd_strs h2
  obtain rfl := List.singleton_inj.1 e1
  have f1 := ht.names
  have f2 := ht.kids
  have f3 : 0 < p.length := List.length_pos_iff.2 hne
  clear h
  have s := (((St.start ok w0).begin h2).begin h4).begin h3
  have s := s.partS (i := 2) rfl 0 (p.length - 1) (by omega) (by omega) p.dropLast (by simp [List.dropLast_eq_take])
  refine calls_enter (n := 24) Try.func107 rfl rfl rfl ?_
  repeat (refine VS_seq ?_)
  refine VS_region_lit ?_
  refine VL_does (d := 2) (does_box s rfl rfl rfl ?_) rfl rfl
  clear s; intro b2 w s
  refine VL_run (d := 4) (run_assign rfl (by conv => lhs; whnf)) rfl rfl ?_
  refine VL_nil ?_
  repeat (refine VS_seq ?_)
  refine VS_drawS 13 s mixed ?_
  clear s; intro s
  refine VA_take 0 (d := 8) rfl (by kernel_rfl) rfl (fun w g => see_ownA (cs := [_, _, _, _, _]) g rfl ty26 rfl (i := 0) rfl rfl rfl) s.see ?_
  refine VA_take 1 (d := 9) rfl (by kernel_rfl) rfl (fun w g => run_move rfl (by conv => lhs; whnf)) s.see ?_
  refine VA_take 2 (d := 10) rfl (by kernel_rfl) rfl (fun w g => run_move rfl (by conv => lhs; whnf)) s.see ?_
  refine VA_take 3 (d := 11) rfl (by kernel_rfl) rfl (fun w g => run_lenSlice rfl ⟨_, Try.underlying23⟩ rfl) s.see ?_
  refine VA_take 4 (d := 12) rfl (by kernel_rfl) rfl (fun w g => run_sub rfl rfl rfl (by omega)) s.see ?_
  refine VA_take 5 (d := 13) rfl (by kernel_rfl) rfl (fun w g => run_sliceSlH (h := (p.length - 1)) rfl Try.underlying23 ty9 rfl rfl (by omega) (by omega)) s.see ?_
  refine VA_two (i := 6) (j := 10) (by kernel_rfl) ?_ ?_
  · refine VO_does (d := 14) rfl (does_call2 rfl (by kernel_rfl) rfl rfl (l1At_ok _ p.dropLast rfl t (Tr.shut' (s.dat (i := 1) rfl) (s.dat (i := 2) rfl)) (s.dat (i := 0) rfl) ht he (by simp; omega)) ?_) rfl rfl
    rintro v14 w1 ⟨cs', rfl, hr, hb⟩
    replace s := s.ret hb hr; clear hb hr
    refine ⟨fun _ => s.sees (by intro b c t h; exact h) (by intro f h; exact .tail _ h), ?_⟩
    obtain ⟨B3, d3, B4, d4, rfl, -, -, -, -⟩ := Tr.opn (s.dat (i := 0) rfl)
    refine VA_take 7 (d := 7) rfl (by kernel_rfl) rfl (fun w g => run_move rfl (by conv => lhs; whnf)) (by (exact s.sees (by intro b c t h; exact h) (by intro f h; exact .tail _ h))) ?_
    refine VA_take 8 (d := 15) rfl (by kernel_rfl) rfl (fun w g => run_extract rfl rfl rfl) (by (exact s.sees (by intro b c t h; exact h) (by intro f h; exact .tail _ h))) ?_
    refine VA_take 9 (d := 16) rfl (by kernel_rfl) rfl (fun w g => run_extract rfl rfl rfl) (by (exact s.sees (by intro b c t h; exact h) (by intro f h; exact .tail _ h))) ?_
    refine VA_one (i := 10) (by kernel_rfl) ?_
    refine VO_does (d := 5) rfl (does_alloc s rfl ty26 rfl ?_) rfl rfl
    clear s; intro b5 w s
    refine ⟨fun _ => s.sees (by intro b c t h; exact .tail _ h) (by intro f h; exact .tail _ h), ?_⟩
    refine VA_one (i := 11) (by kernel_rfl) ?_
    (refine VO_doesU rfl (does_store s rfl ty26 rfl rfl (i := 0) rfl rfl rfl (by (intro u hu; simp only [List.mem_cons, List.not_mem_nil, or_false] at hu; rcases hu with rfl | rfl | rfl | rfl | rfl <;> rfl)) rfl ?_) rfl rfl rfl)
    clear s; intro w s
    try simp only [List.set_cons_zero, List.set_cons_succ, patch, List.take_succ_cons, List.take_zero, List.drop_succ_cons, List.drop_zero, List.drop_nil, List.nil_append, List.cons_append, List.append_nil, List.length_cons, List.length_nil, Nat.reduceAdd, Nat.zero_add] at s
    refine ⟨fun _ => s.sees (by intro b c t h; exact .tail _ h) (by intro f h; exact .tail _ h), ?_⟩
    refine VA_take 12 (d := 6) rfl (by kernel_rfl) rfl (fun w g => run_assign rfl (by conv => lhs; whnf)) (by (exact s.sees (by intro b c t h; exact .tail _ h) (by intro f h; exact .tail _ h))) ?_
    refine VA_done (by kernel_rfl) ?_
    repeat (first | refine VS_seq ?_ | refine VS_block ?_)
    refine VS_region_lit ?_
    refine VL_run (d := 18) (run_move rfl (by conv => lhs; whnf)) rfl rfl ?_
    refine VL_run (d := 19) (run_not rfl rfl) rfl rfl ?_
    refine VL_run (d := 17) (run_assign rfl (by conv => lhs; whnf)) rfl rfl ?_
    refine VL_nil ?_
    refine VS_cond rfl (fun c0 => ?_) (fun c0 => ?_) <;> (try simp only [decide_eq_true_eq, decide_eq_false_iff_not, Bool.not_eq_true', Bool.not_eq_false', ne_eq, Decidable.not_not, cond_true, cond_false, Bool.and_eq_true, Bool.or_eq_true, Bool.and_eq_false_iff, Bool.or_eq_false_iff, Bool.not_true, Bool.not_false, reduceCtorEq] at c0)
    · repeat (refine VS_seq ?_)
      refine VS_region_lit ?_
      refine VL_run (d := 4) (run_assign rfl (by conv => lhs; whnf)) rfl rfl ?_
      refine VL_nil ?_
      refine VS_ret ?_
      repeat (refine blockV_ret ?_)
      refine fin_one (fn := Try.f107) rfl (res_tmp (by conv => lhs; whnf)) ?_
      refine ⟨?_, s.below⟩
      unfold parentC
      clear s
      cases hx : Tr.at p.dropLast t <;> simp_all
    · repeat (refine VS_seq ?_)
      refine VS_region_lit ?_
      refine VL_run (d := 21) (run_fieldAddr rfl fo26_0 rfl) rfl rfl ?_
      refine VL_run (d := 22) (run_load_own1 s rfl ty4 rfl (i := 0) rfl rfl) rfl rfl ?_
      refine VL_run (d := 23) (run_not rfl rfl) rfl rfl ?_
      refine VL_run (d := 20) (run_assign rfl (by conv => lhs; whnf)) rfl rfl ?_
      refine VL_nil ?_
      refine VS_cond rfl (fun c1 => ?_) (fun c1 => ?_) <;> (try simp only [decide_eq_true_eq, decide_eq_false_iff_not, Bool.not_eq_true', Bool.not_eq_false', ne_eq, Decidable.not_not, cond_true, cond_false, Bool.and_eq_true, Bool.or_eq_true, Bool.and_eq_false_iff, Bool.or_eq_false_iff, Bool.not_true, Bool.not_false, reduceCtorEq] at c1)
      · repeat (refine VS_seq ?_)
        refine VS_region_lit ?_
        refine VL_run (d := 4) (run_assign rfl (by conv => lhs; whnf)) rfl rfl ?_
        refine VL_nil ?_
        refine VS_ret ?_
        repeat (refine blockV_ret ?_)
        refine fin_one (fn := Try.f107) rfl (res_tmp (by conv => lhs; whnf)) ?_
        refine ⟨?_, s.below⟩
        unfold parentC
        clear s
        cases hx : Tr.at p.dropLast t <;> simp_all
      · repeat (first | refine VS_seq ?_ | refine VS_skip ?_)
        refine VS_region_lit ?_
        refine VL_run (d := 4) (run_assign rfl (by conv => lhs; whnf)) rfl rfl ?_
        refine VL_nil ?_
        refine VS_ret ?_
        repeat (first | refine blockV_ret ?_ | refine backV_ret ?_ | refine backV2_ret ?_ | refine backV3_ret ?_ | refine thenV_ret ?_ | refine metV2_ret ?_)
        refine fin_one (fn := Try.f107) rfl (res_tmp (by conv => lhs; whnf)) ?_
        refine ⟨?_, s.below⟩
        unfold parentC
        clear s
        cases hx : Tr.at p.dropLast t <;> simp_all
  · refine VO_does (d := 5) rfl (does_alloc s rfl ty26 rfl ?_) rfl rfl
    clear s; intro b5 w s
    refine ⟨fun _ => s.sees (by intro b c t h; exact .tail _ h) (by intro f h; exact h), ?_⟩
    refine VA_one (i := 6) (by kernel_rfl) ?_
    refine VO_does (d := 14) rfl (does_call2 rfl (by kernel_rfl) rfl rfl (l1At_ok _ p.dropLast rfl t (Tr.shut' (s.dat (i := 1) rfl) (s.dat (i := 2) rfl)) (s.dat (i := 0) rfl) ht he (by simp; omega)) ?_) rfl rfl
    rintro v14 w1 ⟨cs', rfl, hr, hb⟩
    replace s := s.ret hb hr; clear hb hr
    refine ⟨fun _ => s.sees (by intro b c t h; exact .tail _ h) (by intro f h; exact .tail _ h), ?_⟩
    obtain ⟨B3, d3, B4, d4, rfl, -, -, -, -⟩ := Tr.opn (s.dat (i := 0) rfl)
    refine VA_take 7 (d := 7) rfl (by kernel_rfl) rfl (fun w g => run_move rfl (by conv => lhs; whnf)) (by (exact s.sees (by intro b c t h; exact .tail _ h) (by intro f h; exact .tail _ h))) ?_
    refine VA_take 8 (d := 15) rfl (by kernel_rfl) rfl (fun w g => run_extract rfl rfl rfl) (by (exact s.sees (by intro b c t h; exact .tail _ h) (by intro f h; exact .tail _ h))) ?_
    refine VA_take 9 (d := 16) rfl (by kernel_rfl) rfl (fun w g => run_extract rfl rfl rfl) (by (exact s.sees (by intro b c t h; exact .tail _ h) (by intro f h; exact .tail _ h))) ?_
    refine VA_one (i := 11) (by kernel_rfl) ?_
    (refine VO_doesU rfl (does_store s rfl ty26 rfl rfl (i := 0) rfl rfl rfl (by (intro u hu; simp only [List.mem_cons, List.not_mem_nil, or_false] at hu; rcases hu with rfl | rfl | rfl | rfl | rfl <;> rfl)) rfl ?_) rfl rfl rfl)
    clear s; intro w s
    try simp only [List.set_cons_zero, List.set_cons_succ, patch, List.take_succ_cons, List.take_zero, List.drop_succ_cons, List.drop_zero, List.drop_nil, List.nil_append, List.cons_append, List.append_nil, List.length_cons, List.length_nil, Nat.reduceAdd, Nat.zero_add] at s
    refine ⟨fun _ => s.sees (by intro b c t h; exact .tail _ h) (by intro f h; exact .tail _ h), ?_⟩
    refine VA_take 12 (d := 6) rfl (by kernel_rfl) rfl (fun w g => run_assign rfl (by conv => lhs; whnf)) (by (exact s.sees (by intro b c t h; exact .tail _ h) (by intro f h; exact .tail _ h))) ?_
    refine VA_done (by kernel_rfl) ?_
    repeat (first | refine VS_seq ?_ | refine VS_block ?_)
    refine VS_region_lit ?_
    refine VL_run (d := 18) (run_move rfl (by conv => lhs; whnf)) rfl rfl ?_
    refine VL_run (d := 19) (run_not rfl rfl) rfl rfl ?_
    refine VL_run (d := 17) (run_assign rfl (by conv => lhs; whnf)) rfl rfl ?_
    refine VL_nil ?_
    refine VS_cond rfl (fun c0 => ?_) (fun c0 => ?_) <;> (try simp only [decide_eq_true_eq, decide_eq_false_iff_not, Bool.not_eq_true', Bool.not_eq_false', ne_eq, Decidable.not_not, cond_true, cond_false, Bool.and_eq_true, Bool.or_eq_true, Bool.and_eq_false_iff, Bool.or_eq_false_iff, Bool.not_true, Bool.not_false, reduceCtorEq] at c0)
    · repeat (refine VS_seq ?_)
      refine VS_region_lit ?_
      refine VL_run (d := 4) (run_assign rfl (by conv => lhs; whnf)) rfl rfl ?_
      refine VL_nil ?_
      refine VS_ret ?_
      repeat (refine blockV_ret ?_)
      refine fin_one (fn := Try.f107) rfl (res_tmp (by conv => lhs; whnf)) ?_
      refine ⟨?_, s.below⟩
      unfold parentC
      clear s
      cases hx : Tr.at p.dropLast t <;> simp_all
    · repeat (refine VS_seq ?_)
      refine VS_region_lit ?_
      refine VL_run (d := 21) (run_fieldAddr rfl fo26_0 rfl) rfl rfl ?_
      refine VL_run (d := 22) (run_load_own1 s rfl ty4 rfl (i := 0) rfl rfl) rfl rfl ?_
      refine VL_run (d := 23) (run_not rfl rfl) rfl rfl ?_
      refine VL_run (d := 20) (run_assign rfl (by conv => lhs; whnf)) rfl rfl ?_
      refine VL_nil ?_
      refine VS_cond rfl (fun c1 => ?_) (fun c1 => ?_) <;> (try simp only [decide_eq_true_eq, decide_eq_false_iff_not, Bool.not_eq_true', Bool.not_eq_false', ne_eq, Decidable.not_not, cond_true, cond_false, Bool.and_eq_true, Bool.or_eq_true, Bool.and_eq_false_iff, Bool.or_eq_false_iff, Bool.not_true, Bool.not_false, reduceCtorEq] at c1)
      · repeat (refine VS_seq ?_)
        refine VS_region_lit ?_
        refine VL_run (d := 4) (run_assign rfl (by conv => lhs; whnf)) rfl rfl ?_
        refine VL_nil ?_
        refine VS_ret ?_
        repeat (refine blockV_ret ?_)
        refine fin_one (fn := Try.f107) rfl (res_tmp (by conv => lhs; whnf)) ?_
        refine ⟨?_, s.below⟩
        unfold parentC
        clear s
        cases hx : Tr.at p.dropLast t <;> simp_all
      · repeat (first | refine VS_seq ?_ | refine VS_skip ?_)
        refine VS_region_lit ?_
        refine VL_run (d := 4) (run_assign rfl (by conv => lhs; whnf)) rfl rfl ?_
        refine VL_nil ?_
        refine VS_ret ?_
        repeat (first | refine blockV_ret ?_ | refine backV_ret ?_ | refine backV2_ret ?_ | refine backV3_ret ?_ | refine thenV_ret ?_ | refine metV2_ret ?_)
        refine fin_one (fn := Try.f107) rfl (res_tmp (by conv => lhs; whnf)) ?_
        refine ⟨?_, s.below⟩
        unfold parentC
        clear s
        cases hx : Tr.at p.dropLast t <;> simp_all
theorem l2Fits_ok (x t : Tr) {ok : Nat → Prop} {w0 : World} {cs ct : List Value} (h : Rd ok w0 x.toD cs) (h2 : Rd ok w0 t.toD ct) (hx : x.Fit) :
    Calls Try.prog 121 #[.agg cs.toArray, .agg ct.toArray] w0 (Ret fun v w' => ∃ cs', v = .tuple #[.agg cs'.toArray, .int .i64 (bif x.ok then 0 else 6)] ∧ Rd (okR ok w0) w' (bif x.ok then x else t).toD cs' ∧ Below w0.heap.size w0 w') := by
  obtain ⟨A3, c3, A4, c4, rfl, hl3, hl4, h3, h4⟩ := Tr.opn h
  obtain ⟨B3, d3, B4, d4, rfl, _, _, g3, g4⟩ := Tr.opn h2
  have s := (((((St.start ok w0).begin g4).begin g3).begin h4).begin h3)
  refine calls_enter (n := 11) Try.func121 rfl rfl rfl ?_
  repeat (refine VS_seq ?_)
  refine VS_region_lit ?_
  refine VL_does (d := 2) (does_box s rfl rfl rfl ?_) rfl rfl
  clear s; intro b2 w s
  refine VL_does (d := 3) (does_box s rfl rfl rfl ?_) rfl rfl
  clear s; intro b3 w s
  refine VL_does (d := 4) (does_alloc s rfl ty26 rfl ?_) rfl rfl
  clear s; intro b4 w s
  refine VL_run (d := 5) (run_assign rfl (by conv => lhs; whnf)) rfl rfl ?_
  refine VL_nil ?_
  repeat (refine VS_seq ?_)
  refine VS_region_lit ?_
  refine VL_run (d := 6) (run_load_ownA (cs := [_, _, _, _, _]) s rfl ty26 rfl (i := 2) rfl rfl rfl) rfl rfl ?_
  refine VL_does (d := 7) (does_call1 rfl (by kernel_rfl) rfl (TreeOk_ok x (Tr.shut' (s.dat (i := 0) rfl) (s.dat (i := 1) rfl)) hx) ?_) rfl rfl
  rintro _ w ⟨rfl, hb⟩
  replace s := s.step hb
  clear hb
  refine VL_run (d := 8) (run_not rfl rfl) rfl rfl ?_
  refine VL_nil ?_
  refine VS_cond rfl (fun c0 => ?_) (fun c0 => ?_) <;> (try simp only [decide_eq_true_eq, decide_eq_false_iff_not, Bool.not_eq_true', Bool.not_eq_false', ne_eq, Decidable.not_not, cond_true, cond_false, Bool.and_eq_true, Bool.or_eq_true, Bool.and_eq_false_iff, Bool.or_eq_false_iff, Bool.not_true, Bool.not_false, reduceCtorEq] at c0)
  · repeat (refine VS_seq ?_)
    refine VS_region_lit ?_
    refine VL_run (d := 9) (run_load_ownA (cs := [_, _, _, _, _]) s rfl ty26 rfl (i := 1) rfl rfl rfl) rfl rfl ?_
    (refine VL_doesU (does_store s rfl ty26 rfl rfl (i := 0) rfl rfl rfl (by (intro u hu; simp only [List.mem_cons, List.not_mem_nil, or_false] at hu; rcases hu with rfl | rfl | rfl | rfl | rfl <;> rfl)) rfl ?_) rfl rfl rfl)
    clear s; intro w s
    try simp only [List.set_cons_zero, List.set_cons_succ, patch, List.take_succ_cons, List.take_zero, List.drop_succ_cons, List.drop_zero, List.drop_nil, List.nil_append, List.cons_append, List.append_nil, List.length_cons, List.length_nil, Nat.reduceAdd, Nat.zero_add] at s
    refine VL_run (d := 5) (run_assign rfl (by conv => lhs; whnf)) rfl rfl ?_
    refine VL_nil ?_
    refine VS_ret ?_
    repeat (first | refine blockV_ret ?_ | refine backV_ret ?_ | refine backV2_ret ?_ | refine backV3_ret ?_ | refine thenV_ret ?_ | refine metV2_ret ?_)
    (refine fin_two (fn := Try.f121) rfl (res_ownA (cs := [_, _, _, _, _]) s ty26 rfl (i := 0) rfl rfl rfl) (res_tmp (by conv => lhs; whnf)) ?_)
    rw [c0]
    exact ⟨_, rfl, s.tell (Tr.shut' (s.dat (i := 2) rfl) (s.dat (i := 3) rfl)), s.below⟩
  · repeat (first | refine VS_seq ?_ | refine VS_skip ?_)
    refine VS_region_lit ?_
    refine VL_run (d := 10) (run_load_ownA (cs := [_, _, _, _, _]) s rfl ty26 rfl (i := 2) rfl rfl rfl) rfl rfl ?_
    (refine VL_doesU (does_store s rfl ty26 rfl rfl (i := 0) rfl rfl rfl (by (intro u hu; simp only [List.mem_cons, List.not_mem_nil, or_false] at hu; rcases hu with rfl | rfl | rfl | rfl | rfl <;> rfl)) rfl ?_) rfl rfl rfl)
    clear s; intro w s
    try simp only [List.set_cons_zero, List.set_cons_succ, patch, List.take_succ_cons, List.take_zero, List.drop_succ_cons, List.drop_zero, List.drop_nil, List.nil_append, List.cons_append, List.append_nil, List.length_cons, List.length_nil, Nat.reduceAdd, Nat.zero_add] at s
    refine VL_run (d := 5) (run_assign rfl (by conv => lhs; whnf)) rfl rfl ?_
    refine VL_nil ?_
    refine VS_ret ?_
    repeat (first | refine blockV_ret ?_ | refine backV_ret ?_ | refine backV2_ret ?_ | refine backV3_ret ?_ | refine thenV_ret ?_ | refine metV2_ret ?_)
    (refine fin_two (fn := Try.f121) rfl (res_ownA (cs := [_, _, _, _, _]) s ty26 rfl (i := 0) rfl rfl rfl) (res_tmp (by conv => lhs; whnf)) ?_)
    rw [c0]
    exact ⟨_, rfl, s.tell (Tr.shut' (s.dat (i := 0) rfl) (s.dat (i := 1) rfl)), s.below⟩
mutual
/-- The paths of all parts below. -/
def Tr.paths : Tr → List ByteArray → List (List ByteArray)
  | .mk _ _ _ ns ks, p => Tr.pathsZ ks ns p
def Tr.pathsZ : List Tr → List ByteArray → List ByteArray → List (List ByteArray)
  | k :: ks, n :: ns, p => (p ++ [n]) :: (k.paths (p ++ [n]) ++ Tr.pathsZ ks ns p)
  | _, _, _ => []
end
theorem Tr.paths_eq (t : Tr) (p : List ByteArray) : t.paths p = Tr.pathsZ t.kids t.names p := by cases t; simp only [Tr.paths, Tr.kids, Tr.names]
mutual
theorem Tr.paths_count : ∀ (t : Tr) (p : List ByteArray), (t.paths p).length ≤ t.count
  | .mk _ _ _ ns ks, p => by simp only [Tr.paths, Tr.count]; exact Tr.pathsZ_count ks ns p
theorem Tr.pathsZ_count : ∀ (ks : List Tr) (ns p : List ByteArray), (Tr.pathsZ ks ns p).length ≤ ks.length + Tr.counts ks
  | [], _, _ => by simp [Tr.pathsZ]
  | k :: ks, [], _ => by simp [Tr.pathsZ]
  | k :: ks, n :: ns, p => by
    have := Tr.paths_count k (p ++ [n])
    have := Tr.pathsZ_count ks ns p
    simp only [Tr.pathsZ, List.length_cons, List.length_append, Tr.counts]
    omega
end
theorem pathsZ_drop {ks : List Tr} {ns : List ByteArray} {k : Nat} (h : k < ks.length) (h2 : k < ns.length) (p : List ByteArray) :
    Tr.pathsZ (ks.drop k) (ns.drop k) p = (p ++ [ns[k]]) :: (ks[k].paths (p ++ [ns[k]]) ++ Tr.pathsZ (ks.drop (k + 1)) (ns.drop (k + 1)) p) := by
  rw [List.drop_eq_getElem_cons h, List.drop_eq_getElem_cons h2, Tr.pathsZ]
theorem l33Paths_ok (t : Tr) : ∀ (p : List ByteArray) {ok : Nat → Prop} {w0 : World} {cs : List Value} {v1 : Value} (h1 : Rd ok w0 (.sl (strsD p)) [v1]) (h : Rd ok w0 t.toD cs) (ht : t.Fit) (he : t.Even) (hp : p.length + t.wt ≤ 1000000000000),
    Calls Try.prog 51 #[v1, .agg cs.toArray] w0 (Ret fun v w' => Rd (okR ok w0) w' (.sl (pathsD (t.paths p))) [v] ∧ Below w0.heap.size w0 w') := by
  induction t using Tr.ind with
  | h t ih =>
  intro p ok w0 cs v1 h1 h ht he hp
  obtain ⟨A3, c3, A4, c4, rfl, hl3, hl4, h3, h4⟩ := Tr.opn h
  obtain ⟨A, c, e1, hl1⟩ := Rd_strs h1
  obtain rfl := List.singleton_inj.1 e1
  have f1 := ht.names
  have f2 := ht.kids
  have f3 := he.len
  have f4 := t.count_wt
  have f5 := t.paths_count p
  have f6 := t.wt_eq
  have f7 : t.wt ≤ 1000000000 := ht
  rw [Tr.paths_eq] at f5 ⊢
  clear h
  have s := (((St.start ok w0).begin h1).begin h4).begin h3
  refine calls_enter (n := 36) Try.func51 rfl rfl rfl ?_
  repeat (refine VS_seq ?_)
  refine VS_region_lit ?_
  refine VL_does (d := 3) (does_box s rfl rfl rfl ?_) rfl rfl
  clear s; intro b3 w s
  refine VL_run (d := 4) (run_assign rfl (by conv => lhs; whnf)) rfl rfl ?_
  refine VL_nil ?_
  repeat (refine VS_seq ?_)
  refine VS_region_lit ?_
  refine VL_does (d := 8) (does_slice0 s rfl Try.underlying74 ty23 ?_) rfl rfl
  clear s; intro g8 w s
  refine VL_run (d := 5) (run_assign rfl (by conv => lhs; whnf)) rfl rfl ?_
  refine VL_nil ?_
  repeat (refine VS_seq ?_)
  refine VS_region_lit ?_
  refine VL_run (d := 6) (run_assign rfl (by conv => lhs; whnf)) rfl rfl ?_
  refine VL_nil ?_
  repeat (refine VS_block ?_)
  refine VS_loop2 [5, 6, 7, 9, 10, 11, 12, 13, 14, 15, 16, 17, 18, 19, 20, 21, 22, 23, 24, 25, 26, 27, 28, 29, 30, 31, 32, 33, 34] (fun (k : Nat) (v : Value) => [(6, .int .i64 k), (5, v)]) (fun k v w => k ≤ t.names.length ∧ ∃ A5 m5 c5 ps, v = .slice A5 m5 c5 ∧ St ok w0 [.row (.slice A5 m5 c5) 23 1 (pathsD ps), .blk b3 (trC t A3 c3 A4 c4) 26] [.dat [.slice A3 t.names.length c3] (.sl (strsD t.names)), .dat [.slice A4 t.kids.length c4] (.sl (Tr.toDs t.kids)), .dat [.slice A p.length c] (.sl (strsD p))] w ∧ ps ++ Tr.pathsZ (t.kids.drop k) (t.names.drop k) p = Tr.pathsZ t.kids t.names p) (fun k _ => t.names.length - k) 0 _ ⟨by omega, _, _, _, [], rfl, s, rfl⟩ (by repeat (first | exact Has.nil _ | refine Has.cons rfl ?_)) ?_
  clear s
  rintro k v w j ⟨hk, A5, m5, c5, ps, rfl, s, hf⟩
  repeat (refine VS_seq ?_)
  refine VS_region_lit ?_
  refine VL_run (d := 9) (run_move rfl (by conv => lhs; whnf)) rfl rfl ?_
  refine VL_run (d := 10) (run_fieldAddr rfl fo26_3 rfl) rfl rfl ?_
  refine VL_run (d := 11) (run_load_own1 s rfl ty23 rfl (i := 1) rfl rfl) rfl rfl ?_
  refine VL_run (d := 12) (run_lenSlice rfl ⟨_, Try.underlying23⟩ rfl) rfl rfl ?_
  refine VL_run (d := 13) (run_ltI rfl rfl rfl) rfl rfl ?_
  refine VL_nil ?_
  refine VS_cond rfl (fun c0 => ?_) (fun c0 => ?_) <;> (try simp only [decide_eq_true_eq, decide_eq_false_iff_not, Bool.not_eq_true', Bool.not_eq_false', ne_eq, Decidable.not_not, cond_true, cond_false, Bool.and_eq_true, Bool.or_eq_true, Bool.and_eq_false_iff, Bool.or_eq_false_iff, Bool.not_true, Bool.not_false, reduceCtorEq] at c0)
  · repeat (first | refine VS_seq ?_ | refine VS_block ?_ | refine VS_skip ?_)
    have hk' : k < t.names.length := by omega
    have hd := pathsZ_drop (show k < t.kids.length by omega) hk' p
    have hlen := congrArg List.length hf
    rw [hd] at hf hlen
    simp only [List.length_append, List.length_cons] at hlen
    have hkw := wts_mem (List.getElem_mem (show k < t.kids.length by omega))
    obtain ⟨ad, rfl, s⟩ := s.openS (i := 0) rfl k hk'
    obtain ⟨ad4, B5, d5, B6, d6, rfl, hl5, hl6, s⟩ := s.openT (i := 2) rfl k (by omega)
    refine VS_region_lit ?_
    refine VL_run (d := 16) (run_move rfl (by conv => lhs; whnf)) rfl rfl ?_
    refine VL_run (d := 17) (run_fieldAddr rfl fo26_3 rfl) rfl rfl ?_
    refine VL_run (d := 18) (run_load_own1 s rfl ty23 rfl (i := 1) rfl rfl) rfl rfl ?_
    refine VL_run (d := 19) (run_move rfl (by conv => lhs; whnf)) rfl rfl ?_
    refine VL_run (d := 20) (run_indexAddr rfl Try.underlying23 ty9 rfl rfl (by omega) (by omega)) rfl rfl ?_
    refine VL_run (d := 21) (run_load_at0 s rfl ty9 rfl (i := 2) rfl rfl) rfl rfl ?_
    refine VL_does (d := 22) (does_call2 rfl (by kernel_rfl) rfl rfl (l3Path_ok p t.names[k] (s.dat (i := 5) rfl) (by omega)) ?_) rfl rfl
    rintro v22 w1 ⟨hr, hb⟩
    replace s := s.ret hb hr; clear hb hr; obtain ⟨A22, c22, e22, -⟩ := Rd_strs (s.dat (i := 0) rfl); obtain rfl := List.singleton_inj.1 e22
    refine VL_run (d := 7) (run_assign rfl (by conv => lhs; whnf)) rfl rfl ?_
    refine VL_nil ?_
    refine VS_drawS 12 s mixed ?_
    clear s; intro s
    refine VA_take 0 (d := 23) rfl (by kernel_rfl) rfl (fun w g => run_move rfl (by conv => lhs; whnf)) s.see ?_
    refine VA_take 1 (d := 24) rfl (by kernel_rfl) rfl (fun w g => run_move rfl (by conv => lhs; whnf)) s.see ?_
    refine VA_take 4 (d := 27) rfl (by kernel_rfl) rfl (fun w g => run_move rfl (by conv => lhs; whnf)) s.see ?_
    refine VA_take 5 (d := 28) rfl (by kernel_rfl) rfl (fun w g => run_fieldAddr rfl fo26_4 rfl) s.see ?_
    refine VA_take 6 (d := 29) rfl (by kernel_rfl) rfl (fun w g => see_own1 g rfl ty24 rfl (i := 1) rfl rfl) s.see ?_
    refine VA_take 7 (d := 30) rfl (by kernel_rfl) rfl (fun w g => run_move rfl (by conv => lhs; whnf)) s.see ?_
    refine VA_take 8 (d := 31) rfl (by kernel_rfl) rfl (fun w g => run_indexAddr rfl Try.underlying24 ty26 rfl rfl (by omega) (by omega)) s.see ?_
    refine VA_take 9 (d := 32) rfl (by kernel_rfl) rfl (fun w g => see_atA g rfl ty26 rfl (i := 1) rfl rfl) s.see ?_
    refine VA_one (i := 2) (by kernel_rfl) ?_
    refine VO_does (d := 25) rfl (does_slice1 s rfl Try.underlying74 ty23 (by decide) (by decide) rfl rfl (s.dat (i := 0) rfl) rfl ?_) rfl rfl
    clear s; intro g25 w s
    refine ⟨fun _ => s.sees (by intro b c t h; exact .tail _ h) (by intro f h; exact h), ?_⟩
    refine VA_one (i := 3) (by kernel_rfl) ?_
    (refine VO_does (d := 26) rfl (does_appendR s rfl Try.underlying74 ty23 (by decide) (by decide) (i := 0) rfl rfl rfl (by simp; omega) (pathsD_snoc _ _) (show _ = ps.length + 1 by simp) ?_) rfl rfl)
    clear s; intro A26 c26 w s
    try simp only [List.set_cons_zero, List.set_cons_succ, patch, List.take_succ_cons, List.take_zero, List.drop_succ_cons, List.drop_zero, List.drop_nil, List.nil_append, List.cons_append, List.append_nil, List.length_cons, List.length_nil, Nat.reduceAdd, Nat.zero_add] at s
    refine ⟨fun _ => s.sees (by intro b c t h; first | exact h | exact .tail _ h | exact .tail _ (.tail _ h) | exact .tail _ (.tail _ (.tail _ h)) | (simp only [List.mem_cons, List.not_mem_nil, or_false, List.set_cons_zero, List.set_cons_succ, reduceCtorEq, false_or] at h ⊢ <;> exact h)) (by intro f h; exact h), ?_⟩
    refine VA_one (i := 10) (by kernel_rfl) ?_
    refine VO_does (d := 33) rfl (does_call2 rfl (by kernel_rfl) rfl rfl (ih _ (List.getElem_mem _) _ (s.dat (i := 0) rfl) (s.dat (i := 2) rfl) (ht.kid _ (List.getElem_mem _)) (he.kid _ (List.getElem_mem _)) (by simp; omega)) ?_) rfl rfl
    rintro v33 w1 ⟨hr, hb⟩
    replace s := s.ret hb hr; clear hb hr; obtain ⟨A33, c33, e33, -⟩ := Rd_paths (s.dat (i := 0) rfl); obtain rfl := List.singleton_inj.1 e33
    refine ⟨fun _ => s.sees (by intro b c t h; first | exact h | exact .tail _ h | exact .tail _ (.tail _ h) | exact .tail _ (.tail _ (.tail _ h)) | (simp only [List.mem_cons, List.not_mem_nil, or_false, List.set_cons_zero, List.set_cons_succ, reduceCtorEq, false_or] at h ⊢ <;> exact h)) (by intro f h; exact .tail _ h), ?_⟩
    refine VA_one (i := 11) (by kernel_rfl) ?_
    (refine VO_does (d := 34) rfl (does_appendD s rfl Try.underlying74 ty23 (by decide) (by decide) (i := 0) rfl rfl rfl (s.dat (i := 0) rfl) (pathsD_wd _) (by simp; omega) (pathsD_append _ _) rfl ?_) rfl rfl)
    clear s; intro A34 c34 w s
    try simp only [List.set_cons_zero, List.set_cons_succ, patch, List.take_succ_cons, List.take_zero, List.drop_succ_cons, List.drop_zero, List.drop_nil, List.nil_append, List.cons_append, List.append_nil, List.length_cons, List.length_nil, Nat.reduceAdd, Nat.zero_add] at s
    refine ⟨fun _ => s.sees (by intro b c t h; first | exact h | exact .tail _ h | exact .tail _ (.tail _ h) | exact .tail _ (.tail _ (.tail _ h)) | (simp only [List.mem_cons, List.not_mem_nil, or_false, List.set_cons_zero, List.set_cons_succ, reduceCtorEq, false_or] at h ⊢ <;> exact h)) (by intro f h; exact .tail _ h), ?_⟩
    refine VA_one (i := 12) (by kernel_rfl) ?_
    refine VO_run (d := 5) rfl (run_assign rfl (by conv => lhs; whnf)) rfl rfl ((fun h => nomatch (show true = false from h))) ?_
    refine VA_done (by kernel_rfl) ?_
    repeat (refine VS_nil_block ?_)
    refine VS_region_lit ?_
    refine VL_run (d := 14) (run_move rfl (by conv => lhs; whnf)) rfl rfl ?_
    refine VL_run (d := 15) (run_add rfl rfl rfl (by omega)) rfl rfl ?_
    refine VL_run (d := 6) (run_assign rfl (by conv => lhs; whnf)) rfl rfl ?_
    refine VL_nil ?_
    refine VS_back2 (k + 1) (_) ?_ (by repeat (first | exact Has.nil _ | refine Has.cons rfl ?_)) (by repeat (first | exact Out.mix _ _ _ | refine Out.upd rfl ?_)) ?_
    · refine ⟨by omega, _, _, _, _, rfl, (s.less (by simp)), ?_⟩
      rw [← hf]
      simp
    · omega
  · refine VS_exit ?_
    repeat (first | refine blockV_hit ?_ | refine backV_exit ?_)
    repeat (refine VS_seq ?_)
    refine VS_region_lit ?_
    refine VL_run (d := 35) (run_move rfl (by conv => lhs; whnf)) rfl rfl ?_
    refine VL_run (d := 4) (run_assign rfl (by conv => lhs; whnf)) rfl rfl ?_
    refine VL_nil ?_
    refine VS_ret ?_
    repeat (first | refine blockV_ret ?_ | refine backV_ret ?_ | refine backV2_ret ?_ | refine backV3_ret ?_ | refine thenV_ret ?_ | refine metV2_ret ?_)
    refine fin_one (fn := Try.f51) rfl (res_tmp (by conv => lhs; whnf)) ?_
    have s := s.freeze (k := 0) rfl
    rw [List.drop_of_length_le (by omega), List.drop_of_length_le (by omega), show Tr.pathsZ [] [] p = [] from by simp [Tr.pathsZ], List.append_nil] at hf
    subst hf
    exact ⟨s.tell (s.dat (i := 0) rfl), s.below⟩
end Go.Proofs.Ytkefaelmamgjiaa
