/- spec: l2File, l2Rename, l2Do, TreeDo. -/
import Derived.Test.YtkefaelmamgjiaaL2
set_option linter.unusedVariables false
set_option linter.unusedSimpArgs false
set_option maxHeartbeats 4000000
namespace Go.Proofs.Ytkefaelmamgjiaa
open Go.RowKit

def fitsT (x t : Tr) : Tr × Int := (bif x.ok then x else t, bif x.ok then 0 else 6)
/-- A write or a truncation. -/
def fileR (t : Tr) (c : Cl) : Tr × Int :=
  let o := Tr.at c.path t
  let x := o.getD Tr.zero
  bif o.isSome && x.dir then (t, 4)
  else bif !o.isSome && decide (c.kind = 3) then (t, 3)
  else bif decide (c.kind = 3) then fitsT (setP c.path (x.wData (writeB (bif decide (c.off < x.data.size) then x.data.extract 0 c.off.toNat else x.data) c.off.toNat ⟨#[]⟩)) false t) t
  else bif decide (24 < (c.data.size : Int) + c.off) then (t, 6)
  else fitsT (setP c.path (x.wData (writeB x.data c.off.toNat c.data)) false t) t
theorem set_fit {t x : Tr} {p : List ByteArray} {gone : Bool} (a b : Nat) (hp : namesWt p ≤ 24) (ht : t.wt ≤ a) (hx : x.wt ≤ b) (hab : a * (b + 25) ≤ 1000000000) : (setP p x gone t).Fit := by
  have h1 := setP_wt p x gone t
  have h2 : t.wt * (x.wt + namesWt p + 1) ≤ a * (b + 25) := Nat.mul_le_mul ht (by omega)
  unfold Tr.Fit
  omega
theorem l2Write_okI (t : ByteArray) (n : Int) (d : ByteArray) {w0 : World} (ht : t.size ≤ 1000000000) (h0 : 0 ≤ n) (hn : n ≤ 1000000000) (hd : d.size ≤ 1000000000) :
    Calls Try.prog 142 #[.string t, .int .i64 n, .string d] w0 (Ret fun v w' => v = .string (writeB t n.toNat d) ∧ Below w0.heap.size w0 w') := by
  obtain ⟨a, rfl⟩ := Int.eq_ofNat_of_zero_le h0
  exact l2Write_ok t a d ht (by omega) hd
theorem ext_size (s : ByteArray) (n : Nat) : (s.extract 0 n).size ≤ s.size := by simp [ByteArray.size_extract]; omega
theorem l2File_ok (t : Tr) (c : Cl) {ok : Nat → Prop} {w0 : World} {cs cc : List Value} (h : Rd ok w0 t.toD cs) (h2 : Rd ok w0 c.toD cc) (ht : t.wt ≤ 1000) (he : t.Even) (hc : c.Fit) (hp : pathOk c.path = true) (ho : 0 ≤ c.off) (ho2 : c.off ≤ 24) :
    Calls Try.prog 122 #[.agg cs.toArray, .agg cc.toArray] w0 (Ret fun v w' => ∃ cs', v = .tuple #[.agg cs'.toArray, .int .i64 (fileR t c).2] ∧ Rd (okR ok w0) w' (fileR t c).1.toD cs' ∧ Below w0.heap.size w0 w') := by
  obtain ⟨A3, n3, A4, n4, rfl, hl3, hl4, h3, h4⟩ := Tr.opn h
  obtain ⟨A1, k1, A2, k2, rfl, hl1, hl2, h5, h6⟩ := Cl.opn h2
  obtain ⟨hp1, hp2, hp3⟩ := pathOk_wt hp
  have hfit : t.Fit := by unfold Tr.Fit; omega
  have hxw := Tr.atD_wt c.path t
  have hxe := Tr.atD_even c.path he
  have hd := hc.2.2
  have s := ((((St.start ok w0).begin h6).begin h5).begin h4).begin h3
  refine calls_enter (n := 76) Try.func122 rfl rfl rfl ?_
  repeat (refine VS_seq ?_)
  refine VS_region_lit ?_
  refine VL_does (d := 2) (does_box s rfl rfl rfl ?_) rfl rfl
  clear s; intro b2 w s
  refine VL_does (d := 3) (does_box s rfl rfl rfl ?_) rfl rfl
  clear s; intro b3 w s
  refine VL_does (d := 4) (does_alloc s rfl ty26 rfl ?_) rfl rfl
  clear s; intro b4 w s
  refine VL_run (d := 5) (run_assign rfl (by conv => lhs; whnf)) rfl rfl ?_
  refine VL_nil ?_
  repeat (refine VS_seq ?_)
  refine VS_region_lit ?_
  refine VL_run (d := 10) (run_load_ownA (cs := [_, _, _, _, _]) s rfl ty26 rfl (i := 2) rfl rfl rfl) rfl rfl ?_
  refine VL_run (d := 11) (run_fieldAddr rfl fo70_1 rfl) rfl rfl ?_
  refine VL_run (d := 12) (run_load_own1 s rfl ty23 rfl (i := 1) rfl rfl) rfl rfl ?_
  refine VL_does (d := 13) (does_call2 rfl (by kernel_rfl) rfl rfl (l1At_ok _ c.path rfl t (Tr.shut' (s.dat (i := 0) rfl) (s.dat (i := 1) rfl)) (s.dat (i := 2) rfl) hfit he (by omega)) ?_) rfl rfl
  rintro v13 w1 ⟨cs', rfl, hr, hb⟩
  replace s := s.ret hb hr; clear hb hr
  obtain ⟨B3, d3, B4, d4, rfl, s⟩ := s.openTr (i := 0) rfl
  refine VL_run (d := 9) (run_move rfl (by conv => lhs; whnf)) rfl rfl ?_
  refine VL_run (d := 14) (run_extract rfl rfl rfl) rfl rfl ?_
  refine VL_run (d := 15) (run_extract rfl rfl rfl) rfl rfl ?_
  refine VL_does (d := 6) (does_alloc s rfl ty26 rfl ?_) rfl rfl
  clear s; intro b6 w s
  (refine VL_doesU (does_store s rfl ty26 rfl rfl (i := 0) rfl rfl rfl (by (intro u hu; simp only [List.mem_cons, List.not_mem_nil, or_false] at hu; rcases hu with rfl | rfl | rfl | rfl | rfl <;> rfl)) rfl ?_) rfl rfl rfl)
  clear s; intro w s
  try simp only [List.set_cons_zero, List.set_cons_succ, patch, List.take_succ_cons, List.take_zero, List.drop_succ_cons, List.drop_zero, List.drop_nil, List.nil_append, List.cons_append, List.append_nil, List.length_cons, List.length_nil, Nat.reduceAdd, Nat.zero_add] at s
  refine VL_run (d := 7) (run_assign rfl (by conv => lhs; whnf)) rfl rfl ?_
  refine VL_nil ?_
  repeat (first | refine VS_seq ?_ | refine VS_block ?_)
  have hR : fileR t c = bif (Tr.at c.path t).isSome && ((Tr.at c.path t).getD Tr.zero).dir then (t, 4) else bif !(Tr.at c.path t).isSome && decide (c.kind = 3) then (t, 3) else bif decide (c.kind = 3) then fitsT (setP c.path (((Tr.at c.path t).getD Tr.zero).wData (writeB (bif decide (c.off < ((Tr.at c.path t).getD Tr.zero).data.size) then ((Tr.at c.path t).getD Tr.zero).data.extract 0 c.off.toNat else ((Tr.at c.path t).getD Tr.zero).data) c.off.toNat ⟨#[]⟩)) false t) t
    else bif decide (24 < (c.data.size : Int) + c.off) then (t, 6) else fitsT (setP c.path (((Tr.at c.path t).getD Tr.zero).wData (writeB ((Tr.at c.path t).getD Tr.zero).data c.off.toNat c.data)) false t) t := rfl
  generalize (Tr.at c.path t).getD Tr.zero = x at *
  generalize (Tr.at c.path t).isSome = o at *
  have hxd := x.wt_eq
  have hxs := ext_size x.data c.off.toNat
  refine VS_meetB s 16 (o && x.dir) [17, 18, 19, 20, 21, 16] ?_ ?_
  · refine VS_region_lit ?_
    refine VL_run (d := 17) (run_move rfl (by conv => lhs; whnf)) rfl rfl ?_
    refine VL_run (d := 18) (run_move rfl (by conv => lhs; whnf)) rfl rfl ?_
    refine VL_split 18 (by conv => lhs; whnf) (fun h18 => ?_) (fun h18 => ?_) <;> (try simp only [decide_eq_true_eq, decide_eq_false_iff_not, Bool.not_eq_true', Bool.not_eq_false', ne_eq, Decidable.not_not, cond_true, cond_false, Bool.and_eq_true, Bool.or_eq_true, Bool.and_eq_false_iff, Bool.or_eq_false_iff, Bool.not_true, Bool.not_false, reduceCtorEq] at h18)
    · refine VL_run (d := 19) (run_fieldAddr rfl fo26_0 rfl) rfl rfl ?_
      refine VL_run (d := 20) (run_load_own1 s rfl ty4 rfl (i := 0) rfl rfl) rfl rfl ?_
      refine VL_run (d := 21) (run_pickT rfl rfl rfl) rfl rfl ?_
      refine VL_run (d := 16) (run_assign rfl (by conv => lhs; whnf)) rfl rfl ?_
      refine VL_nil ?_
      exact VS_endB s (by conv => lhs; whnf) (by (simp_all; done)) (by repeat (first | exact Out.refl _ _ | refine Out.upd rfl ?_))
    · refine VL_not (d := 19) rfl rfl rfl rfl ?_
      refine VL_not (d := 20) rfl rfl rfl rfl ?_
      refine VL_run (d := 21) (run_pickF rfl rfl rfl) rfl rfl ?_
      refine VL_run (d := 16) (run_assign rfl (by conv => lhs; whnf)) rfl rfl ?_
      refine VL_nil ?_
      exact VS_endB s (by conv => lhs; whnf) (by (simp_all; done)) (by repeat (first | exact Out.refl _ _ | refine Out.upd rfl ?_))
  clear s; intro w j16 s
  refine VS_cond rfl (fun c0 => ?_) (fun c0 => ?_) <;> (try simp only [decide_eq_true_eq, decide_eq_false_iff_not, Bool.not_eq_true', Bool.not_eq_false', ne_eq, Decidable.not_not, cond_true, cond_false, Bool.and_eq_true, Bool.or_eq_true, Bool.and_eq_false_iff, Bool.or_eq_false_iff, Bool.not_true, Bool.not_false, reduceCtorEq] at c0)
  · repeat (refine VS_seq ?_)
    refine VS_region_lit ?_
    refine VL_run (d := 22) (run_load_ownA (cs := [_, _, _, _, _]) s rfl ty26 rfl (i := 3) rfl rfl rfl) rfl rfl ?_
    (refine VL_doesU (does_store s rfl ty26 rfl rfl (i := 1) rfl rfl rfl (by (intro u hu; simp only [List.mem_cons, List.not_mem_nil, or_false] at hu; rcases hu with rfl | rfl | rfl | rfl | rfl <;> rfl)) rfl ?_) rfl rfl rfl)
    clear s; intro w s
    try simp only [List.set_cons_zero, List.set_cons_succ, patch, List.take_succ_cons, List.take_zero, List.drop_succ_cons, List.drop_zero, List.drop_nil, List.nil_append, List.cons_append, List.append_nil, List.length_cons, List.length_nil, Nat.reduceAdd, Nat.zero_add] at s
    refine VL_run (d := 5) (run_assign rfl (by conv => lhs; whnf)) rfl rfl ?_
    refine VL_nil ?_
    refine VS_ret ?_
    repeat (refine blockV_ret ?_)
    (refine fin_two (fn := Try.f122) rfl (res_ownA (cs := [_, _, _, _, _]) s ty26 rfl (i := 1) rfl rfl rfl) (res_tmp (by conv => lhs; whnf)) ?_)
    rw [show fileR t c = (t, 4) by clear s; rw [hR]; simp [c0]]
    exact ⟨_, rfl, s.tell (Tr.shut' (s.dat (i := 3) rfl) (s.dat (i := 4) rfl)), s.below⟩
  · repeat (refine VS_seq ?_)
    refine VS_meetB s 23 (!o && decide (c.kind = 3)) [24, 25, 26, 27, 28, 29, 30, 23] ?_ ?_
    · refine VS_region_lit ?_
      refine VL_run (d := 24) (run_move rfl (by conv => lhs; whnf)) rfl rfl ?_
      refine VL_run (d := 25) (run_not rfl rfl) rfl rfl ?_
      refine VL_run (d := 26) (run_move rfl (by conv => lhs; whnf)) rfl rfl ?_
      refine VL_split 26 (by conv => lhs; whnf) (fun h26 => ?_) (fun h26 => ?_) <;> (try simp only [decide_eq_true_eq, decide_eq_false_iff_not, Bool.not_eq_true', Bool.not_eq_false', ne_eq, Decidable.not_not, cond_true, cond_false, Bool.and_eq_true, Bool.or_eq_true, Bool.and_eq_false_iff, Bool.or_eq_false_iff, Bool.not_true, Bool.not_false, reduceCtorEq] at h26)
      · refine VL_run (d := 27) (run_fieldAddr rfl fo70_0 rfl) rfl rfl ?_
        refine VL_run (d := 28) (run_load_own1 s rfl ty3 rfl (i := 2) rfl rfl) rfl rfl ?_
        refine VL_run (d := 29) (run_eqI rfl rfl rfl) rfl rfl ?_
        refine VL_run (d := 30) (run_pickT rfl rfl rfl) rfl rfl ?_
        refine VL_run (d := 23) (run_assign rfl (by conv => lhs; whnf)) rfl rfl ?_
        refine VL_nil ?_
        exact VS_endB s (by conv => lhs; whnf) (by (simp_all; done)) (by repeat (first | exact Out.refl _ _ | refine Out.upd rfl ?_))
      · refine VL_not (d := 27) rfl rfl rfl rfl ?_
        refine VL_not (d := 28) rfl rfl rfl rfl ?_
        refine VL_not (d := 29) rfl rfl rfl rfl ?_
        refine VL_run (d := 30) (run_pickF rfl rfl rfl) rfl rfl ?_
        refine VL_run (d := 23) (run_assign rfl (by conv => lhs; whnf)) rfl rfl ?_
        refine VL_nil ?_
        exact VS_endB s (by conv => lhs; whnf) (by (simp_all; done)) (by repeat (first | exact Out.refl _ _ | refine Out.upd rfl ?_))
    clear s; intro w j23 s
    refine VS_cond rfl (fun c1 => ?_) (fun c1 => ?_) <;> (try simp only [decide_eq_true_eq, decide_eq_false_iff_not, Bool.not_eq_true', Bool.not_eq_false', ne_eq, Decidable.not_not, cond_true, cond_false, Bool.and_eq_true, Bool.or_eq_true, Bool.and_eq_false_iff, Bool.or_eq_false_iff, Bool.not_true, Bool.not_false, reduceCtorEq] at c1)
    · repeat (refine VS_seq ?_)
      refine VS_region_lit ?_
      refine VL_run (d := 31) (run_load_ownA (cs := [_, _, _, _, _]) s rfl ty26 rfl (i := 3) rfl rfl rfl) rfl rfl ?_
      (refine VL_doesU (does_store s rfl ty26 rfl rfl (i := 1) rfl rfl rfl (by (intro u hu; simp only [List.mem_cons, List.not_mem_nil, or_false] at hu; rcases hu with rfl | rfl | rfl | rfl | rfl <;> rfl)) rfl ?_) rfl rfl rfl)
      clear s; intro w s
      try simp only [List.set_cons_zero, List.set_cons_succ, patch, List.take_succ_cons, List.take_zero, List.drop_succ_cons, List.drop_zero, List.drop_nil, List.nil_append, List.cons_append, List.append_nil, List.length_cons, List.length_nil, Nat.reduceAdd, Nat.zero_add] at s
      refine VL_run (d := 5) (run_assign rfl (by conv => lhs; whnf)) rfl rfl ?_
      refine VL_nil ?_
      refine VS_ret ?_
      repeat (refine blockV_ret ?_)
      (refine fin_two (fn := Try.f122) rfl (res_ownA (cs := [_, _, _, _, _]) s ty26 rfl (i := 1) rfl rfl rfl) (res_tmp (by conv => lhs; whnf)) ?_)
      rw [show fileR t c = (t, 3) by clear s; rw [hR]; simp [c1]]
      exact ⟨_, rfl, s.tell (Tr.shut' (s.dat (i := 3) rfl) (s.dat (i := 4) rfl)), s.below⟩
    · repeat (first | refine VS_seq ?_ | refine VS_skip ?_)
      refine VS_region_lit ?_
      refine VL_run (d := 32) (run_fieldAddr rfl fo70_0 rfl) rfl rfl ?_
      refine VL_run (d := 33) (run_load_own1 s rfl ty3 rfl (i := 2) rfl rfl) rfl rfl ?_
      refine VL_run (d := 34) (run_eqI rfl rfl rfl) rfl rfl ?_
      refine VL_nil ?_
      refine VS_join1 [5, 8, 35, 36, 37, 38, 39, 40, 41, 42, 43, 44, 45, 46, 47, 48, 49, 50, 51, 52, 53, 54, 55, 56, 57, 58, 59, 60, 61, 62, 63, 64, 65, 66] (fun _ : Unit => []) (fun _ w => ∃ D : ByteArray, D.size ≤ 2000 ∧ fileR t c = fitsT (setP c.path (x.wData D) false t) t ∧ St ok w0 [.blk b6 [.bool x.dir, .int .i64 x.mode, .string D, .slice B3 x.names.length d3, .slice B4 x.kids.length d4] 26, .blk b4 tr0 26, .blk b3 (clC c A1 k1 A2 k2) 70, .blk b2 (trC t A3 n3 A4 n4) 26] [.dat [.slice B4 x.kids.length d4] (.sl (Tr.toDs x.kids)), .dat [.slice B3 x.names.length d3] (.sl (strsD x.names)), .dat [.slice A3 t.names.length n3] (.sl (strsD t.names)), .dat [.slice A4 t.kids.length n4] (.sl (Tr.toDs t.kids)), .dat [.slice A1 c.path.length k1] (.sl (strsD c.path))] w) ?_ ?_
      · refine VS_cond rfl (fun c2 => ?_) (fun c2 => ?_) <;> (try simp only [decide_eq_true_eq, decide_eq_false_iff_not, Bool.not_eq_true', Bool.not_eq_false', ne_eq, Decidable.not_not, cond_true, cond_false, Bool.and_eq_true, Bool.or_eq_true, Bool.and_eq_false_iff, Bool.or_eq_false_iff, Bool.not_true, Bool.not_false, reduceCtorEq] at c2)
        · repeat (refine VS_seq ?_)
          refine VS_region_lit ?_
          refine VL_run (d := 35) (run_fieldAddr rfl fo26_2 rfl) rfl rfl ?_
          refine VL_run (d := 36) (run_load_own1 s rfl ty9 rfl (i := 0) rfl rfl) rfl rfl ?_
          refine VL_run (d := 8) (run_assign rfl (by conv => lhs; whnf)) rfl rfl ?_
          refine VL_nil ?_
          repeat (refine VS_seq ?_)
          refine VS_region_lit ?_
          refine VL_run (d := 37) (run_move rfl (by conv => lhs; whnf)) rfl rfl ?_
          refine VL_run (d := 38) (run_lenStr rfl Try.underlying9 rfl) rfl rfl ?_
          refine VL_run (d := 39) (run_fieldAddr rfl fo70_3 rfl) rfl rfl ?_
          refine VL_run (d := 40) (run_load_own1 s rfl ty3 rfl (i := 2) rfl rfl) rfl rfl ?_
          refine VL_run (d := 41) (run_gtI rfl rfl rfl) rfl rfl ?_
          refine VL_nil ?_
          refine VS_join1 [8, 42, 43, 44, 45] (fun _ : Unit => [(8, .string (bif decide (c.off < x.data.size) then x.data.extract 0 c.off.toNat else x.data))]) (fun _ w => St ok w0 [.blk b6 (trC x B3 d3 B4 d4) 26, .blk b4 tr0 26, .blk b3 (clC c A1 k1 A2 k2) 70, .blk b2 (trC t A3 n3 A4 n4) 26] [.dat [.slice B4 x.kids.length d4] (.sl (Tr.toDs x.kids)), .dat [.slice B3 x.names.length d3] (.sl (strsD x.names)), .dat [.slice A3 t.names.length n3] (.sl (strsD t.names)), .dat [.slice A4 t.kids.length n4] (.sl (Tr.toDs t.kids)), .dat [.slice A1 c.path.length k1] (.sl (strsD c.path))] w) ?_ ?_
          · refine VS_cond rfl (fun c3 => ?_) (fun c3 => ?_) <;> (try simp only [decide_eq_true_eq, decide_eq_false_iff_not, Bool.not_eq_true', Bool.not_eq_false', ne_eq, Decidable.not_not, cond_true, cond_false, Bool.and_eq_true, Bool.or_eq_true, Bool.and_eq_false_iff, Bool.or_eq_false_iff, Bool.not_true, Bool.not_false, reduceCtorEq] at c3)
            · rw [show decide (c.off < (x.data.size : Int)) = true from decide_eq_true c3]
              refine VS_region_lit ?_
              refine VL_run (d := 42) (run_move rfl (by conv => lhs; whnf)) rfl rfl ?_
              refine VL_run (d := 43) (run_fieldAddr rfl fo70_3 rfl) rfl rfl ?_
              refine VL_run (d := 44) (run_load_own1 s rfl ty3 rfl (i := 2) rfl rfl) rfl rfl ?_
              refine VL_run (d := 45) (run_sliceStrH (h := c.off.toNat) rfl Try.underlying9 rfl rfl (by omega) (by omega)) rfl rfl ?_
              refine VL_run (d := 8) (run_assign rfl (by conv => lhs; whnf)) rfl rfl ?_
              refine VL_nil ?_
              refine VS_met (()) ?_ (by repeat (first | exact Has.nil _ | refine Has.cons rfl ?_)) (by repeat (first | exact Out.refl _ _ | refine Out.upd rfl ?_))
              exact s.less (by simp)
            · rw [show decide (c.off < (x.data.size : Int)) = false from decide_eq_false c3]
              repeat (refine VS_skip ?_)
              refine VS_met (()) ?_ (by repeat (first | exact Has.nil _ | refine Has.cons rfl ?_)) (by repeat (exact Out.refl _ _))
              exact s.less (by simp)
          clear s
          rintro _ w j s
          have hys : (bif decide (c.off < (x.data.size : Int)) then x.data.extract 0 c.off.toNat else x.data).size ≤ x.data.size := by cases decide (c.off < (x.data.size : Int)); exact Nat.le_refl _; exact hxs
          have hws := writeB_size (bif decide (c.off < (x.data.size : Int)) then x.data.extract 0 c.off.toNat else x.data) c.off.toNat ⟨#[]⟩
          have h0 : (⟨#[]⟩ : ByteArray).size = 0 := rfl
          refine VS_region_lit ?_
          refine VL_run (d := 46) (run_move rfl (by conv => lhs; whnf)) rfl rfl ?_
          refine VL_run (d := 47) (run_fieldAddr rfl fo70_3 rfl) rfl rfl ?_
          refine VL_run (d := 48) (run_load_own1 s rfl ty3 rfl (i := 2) rfl rfl) rfl rfl ?_
          refine VL_does (d := 49) (does_call3 rfl (by kernel_rfl) rfl rfl rfl (l2Write_okI _ _ _ (by omega) ho (by omega) (by decide)) ?_) rfl rfl
          rintro _ w ⟨rfl, hb⟩
          replace s := s.step hb
          clear hb
          refine VL_run (d := 50) (run_fieldAddr rfl fo26_2 rfl) rfl rfl ?_
          (refine VL_doesU (does_store s rfl ty9 rfl rfl (i := 0) rfl rfl rfl (by (intro u hu; simp only [List.mem_cons, List.not_mem_nil, or_false] at hu; subst hu; rfl)) rfl ?_) rfl rfl rfl)
          clear s; intro w s
          try simp only [List.set_cons_zero, List.set_cons_succ, patch, List.take_succ_cons, List.take_zero, List.drop_succ_cons, List.drop_zero, List.drop_nil, List.nil_append, List.cons_append, List.append_nil, List.length_cons, List.length_nil, Nat.reduceAdd, Nat.zero_add] at s
          refine VL_nil ?_
          refine VS_met (()) ?_ (by repeat (exact Has.nil _)) (by repeat (first | exact Out.refl _ _ | refine Out.upd rfl ?_ | refine Out.mix_in rfl ?_))
          refine ⟨writeB (bif decide (c.off < (x.data.size : Int)) then x.data.extract 0 c.off.toNat else x.data) c.off.toNat ⟨#[]⟩, ?_, ?_, s.less (by simp)⟩
          · omega
          · clear s; rw [hR]
            have e1 : (o && x.dir) = false := by rcases c0 with h | h <;> simp [h]
            have e2 : (!o && decide (c.kind = 3)) = false := by rcases c1 with h | h <;> simp [h]
            rw [e1, e2]
            (simp [c2]; done)
        · repeat (refine VS_seq ?_)
          refine VS_region_lit ?_
          refine VL_run (d := 51) (run_fieldAddr rfl fo70_4 rfl) rfl rfl ?_
          refine VL_run (d := 52) (run_load_own1 s rfl ty9 rfl (i := 2) rfl rfl) rfl rfl ?_
          refine VL_run (d := 53) (run_lenStr rfl Try.underlying9 rfl) rfl rfl ?_
          refine VL_run (d := 54) (run_fieldAddr rfl fo70_3 rfl) rfl rfl ?_
          refine VL_run (d := 55) (run_load_own1 s rfl ty3 rfl (i := 2) rfl rfl) rfl rfl ?_
          refine VL_run (d := 56) (run_add rfl rfl rfl (by omega)) rfl rfl ?_
          refine VL_run (d := 57) (run_gtI rfl rfl rfl) rfl rfl ?_
          refine VL_nil ?_
          refine VS_cond rfl (fun c4 => ?_) (fun c4 => ?_) <;> (try simp only [decide_eq_true_eq, decide_eq_false_iff_not, Bool.not_eq_true', Bool.not_eq_false', ne_eq, Decidable.not_not, cond_true, cond_false, Bool.and_eq_true, Bool.or_eq_true, Bool.and_eq_false_iff, Bool.or_eq_false_iff, Bool.not_true, Bool.not_false, reduceCtorEq] at c4)
          · repeat (refine VS_seq ?_)
            refine VS_region_lit ?_
            refine VL_run (d := 58) (run_load_ownA (cs := [_, _, _, _, _]) s rfl ty26 rfl (i := 3) rfl rfl rfl) rfl rfl ?_
            (refine VL_doesU (does_store s rfl ty26 rfl rfl (i := 1) rfl rfl rfl (by (intro u hu; simp only [List.mem_cons, List.not_mem_nil, or_false] at hu; rcases hu with rfl | rfl | rfl | rfl | rfl <;> rfl)) rfl ?_) rfl rfl rfl)
            clear s; intro w s
            try simp only [List.set_cons_zero, List.set_cons_succ, patch, List.take_succ_cons, List.take_zero, List.drop_succ_cons, List.drop_zero, List.drop_nil, List.nil_append, List.cons_append, List.append_nil, List.length_cons, List.length_nil, Nat.reduceAdd, Nat.zero_add] at s
            refine VL_run (d := 5) (run_assign rfl (by conv => lhs; whnf)) rfl rfl ?_
            refine VL_nil ?_
            refine VS_ret ?_
            repeat (refine thenV_ret ?_)
            (refine fin_two (fn := Try.f122) rfl (res_ownA (cs := [_, _, _, _, _]) s ty26 rfl (i := 1) rfl rfl rfl) (res_tmp (by conv => lhs; whnf)) ?_)
            have e1 : (o && x.dir) = false := by rcases c0 with h | h <;> simp [h]
            have e2 : (!o && decide (c.kind = 3)) = false := by rcases c1 with h | h <;> simp [h]
            rw [show fileR t c = (t, 6) by clear s; rw [hR]; simp [e1, e2, c2, c4]]
            exact ⟨_, rfl, s.tell (Tr.shut' (s.dat (i := 3) rfl) (s.dat (i := 4) rfl)), s.below⟩
          · refine VS_region_lit ?_
            refine VL_run (d := 59) (run_fieldAddr rfl fo26_2 rfl) rfl rfl ?_
            refine VL_run (d := 60) (run_load_own1 s rfl ty9 rfl (i := 0) rfl rfl) rfl rfl ?_
            refine VL_run (d := 61) (run_fieldAddr rfl fo70_3 rfl) rfl rfl ?_
            refine VL_run (d := 62) (run_load_own1 s rfl ty3 rfl (i := 2) rfl rfl) rfl rfl ?_
            refine VL_run (d := 63) (run_fieldAddr rfl fo70_4 rfl) rfl rfl ?_
            refine VL_run (d := 64) (run_load_own1 s rfl ty9 rfl (i := 2) rfl rfl) rfl rfl ?_
            refine VL_does (d := 65) (does_call3 rfl (by kernel_rfl) rfl rfl rfl (l2Write_okI _ _ _ (by omega) ho (by omega) (by omega)) ?_) rfl rfl
            rintro _ w ⟨rfl, hb⟩
            replace s := s.step hb
            clear hb
            refine VL_run (d := 66) (run_fieldAddr rfl fo26_2 rfl) rfl rfl ?_
            (refine VL_doesU (does_store s rfl ty9 rfl rfl (i := 0) rfl rfl rfl (by (intro u hu; simp only [List.mem_cons, List.not_mem_nil, or_false] at hu; subst hu; rfl)) rfl ?_) rfl rfl rfl)
            clear s; intro w s
            try simp only [List.set_cons_zero, List.set_cons_succ, patch, List.take_succ_cons, List.take_zero, List.drop_succ_cons, List.drop_zero, List.drop_nil, List.nil_append, List.cons_append, List.append_nil, List.length_cons, List.length_nil, Nat.reduceAdd, Nat.zero_add] at s
            refine VL_nil ?_
            refine VS_met (()) ?_ (by repeat (exact Has.nil _)) (by repeat (first | exact Out.refl _ _ | refine Out.upd rfl ?_))
            refine ⟨writeB x.data c.off.toNat c.data, ?_, ?_, s.less (by simp)⟩
            · (have := writeB_size x.data c.off.toNat c.data; omega)
            · clear s; rw [hR]
              have e1 : (o && x.dir) = false := by rcases c0 with h | h <;> simp [h]
              have e2 : (!o && decide (c.kind = 3)) = false := by rcases c1 with h | h <;> simp [h]
              rw [e1, e2]
              (simp [c2, show ¬ 24 < (c.data.size : Int) + c.off by omega]; done)
      clear s
      rintro _ w j ⟨D, hD, hR2, s⟩
      have hxD := x.wData_wt D
      have hfit2 : (setP c.path (x.wData D) false t).Fit := set_fit 1000 3000 hp1 ht (by omega) (by decide)
      repeat (refine VS_seq ?_)
      refine VS_drawS 9 s mixed ?_
      clear s; intro s
      refine VA_take 0 (d := 67) rfl (by kernel_rfl) rfl (fun w g => see_ownA (cs := [_, _, _, _, _]) g rfl ty26 rfl (i := 3) rfl rfl rfl) s.see ?_
      refine VA_take 1 (d := 68) rfl (by kernel_rfl) rfl (fun w g => run_fieldAddr rfl fo70_1 rfl) s.see ?_
      refine VA_take 2 (d := 69) rfl (by kernel_rfl) rfl (fun w g => see_own1 g rfl ty23 rfl (i := 2) rfl rfl) s.see ?_
      refine VA_take 3 (d := 70) rfl (by kernel_rfl) rfl (fun w g => see_ownA (cs := [_, _, _, _, _]) g rfl ty26 rfl (i := 0) rfl rfl rfl) s.see ?_
      refine VA_take 5 (d := 72) rfl (by kernel_rfl) rfl (fun w g => see_ownA (cs := [_, _, _, _, _]) g rfl ty26 rfl (i := 3) rfl rfl rfl) s.see ?_
      refine VA_one (i := 4) (by kernel_rfl) ?_
      refine VO_does (d := 71) rfl (does_call4 rfl (by kernel_rfl) rfl rfl rfl rfl (l2Set_ok _ c.path rfl hp2 t (x.wData D) false (Tr.shut' (s.dat (i := 2) rfl) (s.dat (i := 3) rfl)) (s.dat (i := 4) rfl) (Tr.shut (s.dat (i := 1) rfl) (s.dat (i := 0) rfl)) hfit he (by omega)) ?_) rfl rfl
      rintro v71 w1 ⟨cs', rfl, hr, hb⟩
      replace s := s.ret hb hr; clear hb hr
      refine ⟨fun _ => s.sees (by intro b c t h; exact h) (by intro f h; exact .tail _ h), ?_⟩
      refine VA_one (i := 6) (by kernel_rfl) ?_
      refine VO_does (d := 73) rfl (does_call2 rfl (by kernel_rfl) rfl rfl (l2Fits_ok _ t (s.dat (i := 0) rfl) (Tr.shut' (s.dat (i := 3) rfl) (s.dat (i := 4) rfl)) hfit2) ?_) rfl rfl
      rintro v73 w1 ⟨cs', rfl, hr, hb⟩
      replace s := s.ret hb hr; clear hb hr
      refine ⟨fun _ => s.sees (by intro b c t h; exact h) (by intro f h; exact .tail _ (.tail _ h)), ?_⟩
      obtain ⟨E5, e5, E6, e6, rfl, -, -, -, -⟩ := Tr.opn (s.dat (i := 0) rfl)
      refine VA_take 7 (d := 74) rfl (by kernel_rfl) rfl (fun w g => run_extract rfl rfl rfl) (by (exact s.sees (by intro b c t h; exact h) (by intro f h; exact .tail _ (.tail _ h)))) ?_
      refine VA_take 8 (d := 75) rfl (by kernel_rfl) rfl (fun w g => run_extract rfl rfl rfl) (by (exact s.sees (by intro b c t h; exact h) (by intro f h; exact .tail _ (.tail _ h)))) ?_
      refine VA_one (i := 9) (by kernel_rfl) ?_
      (refine VO_doesU rfl (does_store s rfl ty26 rfl rfl (i := 1) rfl rfl rfl (by (intro u hu; simp only [List.mem_cons, List.not_mem_nil, or_false] at hu; rcases hu with rfl | rfl | rfl | rfl | rfl <;> rfl)) rfl ?_) rfl rfl rfl)
      clear s; intro w s
      try simp only [List.set_cons_zero, List.set_cons_succ, patch, List.take_succ_cons, List.take_zero, List.drop_succ_cons, List.drop_zero, List.drop_nil, List.nil_append, List.cons_append, List.append_nil, List.length_cons, List.length_nil, Nat.reduceAdd, Nat.zero_add] at s
      refine ⟨(fun h => nomatch (show true = false from h)), ?_⟩
      refine VA_one (i := 10) (by kernel_rfl) ?_
      refine VO_run (d := 5) rfl (run_assign rfl (by conv => lhs; whnf)) rfl rfl ((fun h => nomatch (show true = false from h))) ?_
      refine VA_done (by kernel_rfl) ?_
      refine VS_ret ?_
      repeat (first | refine blockV_ret ?_ | refine backV_ret ?_ | refine backV2_ret ?_ | refine backV3_ret ?_ | refine thenV_ret ?_ | refine metV2_ret ?_)
      (refine fin_two (fn := Try.f122) rfl (res_ownA (cs := [_, _, _, _, _]) s ty26 rfl (i := 1) rfl rfl rfl) (res_tmp (by conv => lhs; whnf)) ?_)
      rw [hR2]
      exact ⟨_, rfl, s.tell (s.dat (i := 0) rfl), s.below⟩
/-- A rename. -/
def renameR (t : Tr) (c : Cl) : Tr × Int :=
  bif !(Tr.at c.path t).isSome then (t, 3)
  else bif decide (c.path <+: c.to) then (t, 7)
  else bif decide (parentC t c.to ≠ 0) then (t, parentC t c.to)
  else bif (Tr.at c.to t).isSome then (t, 5)
  else fitsT (setP c.to ((Tr.at c.path t).getD Tr.zero) false (setP c.path Tr.zero true t)) t
theorem l2Rename_ok (t : Tr) (c : Cl) {ok : Nat → Prop} {w0 : World} {cs cc : List Value} (h : Rd ok w0 t.toD cs) (h2 : Rd ok w0 c.toD cc) (ht : t.wt ≤ 1000) (he : t.Even) (hc : c.Fit) (hp : pathOk c.path = true) (hq : pathOk c.to = true) :
    Calls Try.prog 123 #[.agg cs.toArray, .agg cc.toArray] w0 (Ret fun v w' => ∃ cs', v = .tuple #[.agg cs'.toArray, .int .i64 (renameR t c).2] ∧ Rd (okR ok w0) w' (renameR t c).1.toD cs' ∧ Below w0.heap.size w0 w') := by
  obtain ⟨A3, n3, A4, n4, rfl, hl3, hl4, h3, h4⟩ := Tr.opn h
  obtain ⟨A1, k1, A2, k2, rfl, hl1, hl2, h5, h6⟩ := Cl.opn h2
  obtain ⟨hp1, hp2, hp3⟩ := pathOk_wt hp
  obtain ⟨hq1, hq2, hq3⟩ := pathOk_wt hq
  have hfit : t.Fit := by unfold Tr.Fit; omega
  have hxw := Tr.atD_wt c.path t
  have hxe := Tr.atD_even c.path he
  have s := ((((St.start ok w0).begin h6).begin h5).begin h4).begin h3
  have hR : renameR t c = bif !(Tr.at c.path t).isSome then (t, 3) else bif decide (c.path <+: c.to) then (t, 7) else bif decide (parentC t c.to ≠ 0) then (t, parentC t c.to) else bif (Tr.at c.to t).isSome then (t, 5) else fitsT (setP c.to ((Tr.at c.path t).getD Tr.zero) false (setP c.path Tr.zero true t)) t := rfl
  refine calls_enter (n := 57) Try.func123 rfl rfl rfl ?_
  repeat (refine VS_seq ?_)
  refine VS_region_lit ?_
  refine VL_does (d := 2) (does_box s rfl rfl rfl ?_) rfl rfl
  clear s; intro b2 w s
  refine VL_does (d := 3) (does_box s rfl rfl rfl ?_) rfl rfl
  clear s; intro b3 w s
  refine VL_does (d := 4) (does_alloc s rfl ty26 rfl ?_) rfl rfl
  clear s; intro b4 w s
  refine VL_run (d := 5) (run_assign rfl (by conv => lhs; whnf)) rfl rfl ?_
  refine VL_nil ?_
  repeat (refine VS_seq ?_)
  refine VS_region_lit ?_
  refine VL_run (d := 12) (run_load_ownA (cs := [_, _, _, _, _]) s rfl ty26 rfl (i := 2) rfl rfl rfl) rfl rfl ?_
  refine VL_run (d := 13) (run_fieldAddr rfl fo70_1 rfl) rfl rfl ?_
  refine VL_run (d := 14) (run_load_own1 s rfl ty23 rfl (i := 1) rfl rfl) rfl rfl ?_
  refine VL_does (d := 15) (does_call2 rfl (by kernel_rfl) rfl rfl (l1At_ok _ c.path rfl t (Tr.shut' (s.dat (i := 0) rfl) (s.dat (i := 1) rfl)) (s.dat (i := 2) rfl) hfit he (by omega)) ?_) rfl rfl
  rintro v15 w1 ⟨cs', rfl, hr, hb⟩
  replace s := s.ret hb hr; clear hb hr
  obtain ⟨B3, d3, B4, d4, rfl, s⟩ := s.openTr (i := 0) rfl
  refine VL_run (d := 11) (run_move rfl (by conv => lhs; whnf)) rfl rfl ?_
  refine VL_run (d := 16) (run_extract rfl rfl rfl) rfl rfl ?_
  refine VL_run (d := 17) (run_extract rfl rfl rfl) rfl rfl ?_
  refine VL_does (d := 6) (does_alloc s rfl ty26 rfl ?_) rfl rfl
  clear s; intro b6 w s
  (refine VL_doesU (does_store s rfl ty26 rfl rfl (i := 0) rfl rfl rfl (by (intro u hu; simp only [List.mem_cons, List.not_mem_nil, or_false] at hu; rcases hu with rfl | rfl | rfl | rfl | rfl <;> rfl)) rfl ?_) rfl rfl rfl)
  clear s; intro w s
  try simp only [List.set_cons_zero, List.set_cons_succ, patch, List.take_succ_cons, List.take_zero, List.drop_succ_cons, List.drop_zero, List.drop_nil, List.nil_append, List.cons_append, List.append_nil, List.length_cons, List.length_nil, Nat.reduceAdd, Nat.zero_add] at s
  refine VL_run (d := 7) (run_assign rfl (by conv => lhs; whnf)) rfl rfl ?_
  refine VL_nil ?_
  repeat (refine VS_seq ?_)
  generalize (Tr.at c.path t).getD Tr.zero = x at *
  generalize (Tr.at c.path t).isSome = o at *
  refine VS_region_lit ?_
  refine VL_run (d := 18) (run_move rfl (by conv => lhs; whnf)) rfl rfl ?_
  refine VL_run (d := 19) (run_not rfl rfl) rfl rfl ?_
  refine VL_nil ?_
  refine VS_cond rfl (fun c0 => ?_) (fun c0 => ?_) <;> (try simp only [decide_eq_true_eq, decide_eq_false_iff_not, Bool.not_eq_true', Bool.not_eq_false', ne_eq, Decidable.not_not, cond_true, cond_false, Bool.and_eq_true, Bool.or_eq_true, Bool.and_eq_false_iff, Bool.or_eq_false_iff, Bool.not_true, Bool.not_false, reduceCtorEq] at c0)
  · repeat (refine VS_seq ?_)
    refine VS_region_lit ?_
    refine VL_run (d := 20) (run_load_ownA (cs := [_, _, _, _, _]) s rfl ty26 rfl (i := 3) rfl rfl rfl) rfl rfl ?_
    (refine VL_doesU (does_store s rfl ty26 rfl rfl (i := 1) rfl rfl rfl (by (intro u hu; simp only [List.mem_cons, List.not_mem_nil, or_false] at hu; rcases hu with rfl | rfl | rfl | rfl | rfl <;> rfl)) rfl ?_) rfl rfl rfl)
    clear s; intro w s
    try simp only [List.set_cons_zero, List.set_cons_succ, patch, List.take_succ_cons, List.take_zero, List.drop_succ_cons, List.drop_zero, List.drop_nil, List.nil_append, List.cons_append, List.append_nil, List.length_cons, List.length_nil, Nat.reduceAdd, Nat.zero_add] at s
    refine VL_run (d := 5) (run_assign rfl (by conv => lhs; whnf)) rfl rfl ?_
    refine VL_nil ?_
    refine VS_ret ?_
    repeat (first | refine blockV_ret ?_ | refine backV_ret ?_ | refine backV2_ret ?_ | refine backV3_ret ?_ | refine thenV_ret ?_ | refine metV2_ret ?_)
    (refine fin_two (fn := Try.f123) rfl (res_ownA (cs := [_, _, _, _, _]) s ty26 rfl (i := 1) rfl rfl rfl) (res_tmp (by conv => lhs; whnf)) ?_)
    rw [show renameR t c = (t, 3) by clear s; rw [hR, c0]; rfl]
    exact ⟨_, rfl, s.tell (Tr.shut' (s.dat (i := 3) rfl) (s.dat (i := 4) rfl)), s.below⟩
  · repeat (first | refine VS_seq ?_ | refine VS_skip ?_)
    refine VS_region_lit ?_
    refine VL_run (d := 21) (run_fieldAddr rfl fo70_2 rfl) rfl rfl ?_
    refine VL_run (d := 22) (run_load_own1 s rfl ty23 rfl (i := 2) rfl rfl) rfl rfl ?_
    refine VL_run (d := 23) (run_fieldAddr rfl fo70_1 rfl) rfl rfl ?_
    refine VL_run (d := 24) (run_load_own1 s rfl ty23 rfl (i := 2) rfl rfl) rfl rfl ?_
    refine VL_does (d := 25) (does_call2 rfl (by kernel_rfl) rfl rfl (l2Within_ok c.to c.path (s.dat (i := 6) rfl) (s.dat (i := 5) rfl) (by omega) (by omega)) ?_) rfl rfl
    rintro _ w ⟨rfl, hb⟩
    replace s := s.step hb
    clear hb
    refine VL_nil ?_
    refine VS_cond rfl (fun c1 => ?_) (fun c1 => ?_) <;> (try simp only [decide_eq_true_eq, decide_eq_false_iff_not, Bool.not_eq_true', Bool.not_eq_false', ne_eq, Decidable.not_not, cond_true, cond_false, Bool.and_eq_true, Bool.or_eq_true, Bool.and_eq_false_iff, Bool.or_eq_false_iff, Bool.not_true, Bool.not_false, reduceCtorEq] at c1)
    · repeat (refine VS_seq ?_)
      refine VS_region_lit ?_
      refine VL_run (d := 26) (run_load_ownA (cs := [_, _, _, _, _]) s rfl ty26 rfl (i := 3) rfl rfl rfl) rfl rfl ?_
      (refine VL_doesU (does_store s rfl ty26 rfl rfl (i := 1) rfl rfl rfl (by (intro u hu; simp only [List.mem_cons, List.not_mem_nil, or_false] at hu; rcases hu with rfl | rfl | rfl | rfl | rfl <;> rfl)) rfl ?_) rfl rfl rfl)
      clear s; intro w s
      try simp only [List.set_cons_zero, List.set_cons_succ, patch, List.take_succ_cons, List.take_zero, List.drop_succ_cons, List.drop_zero, List.drop_nil, List.nil_append, List.cons_append, List.append_nil, List.length_cons, List.length_nil, Nat.reduceAdd, Nat.zero_add] at s
      refine VL_run (d := 5) (run_assign rfl (by conv => lhs; whnf)) rfl rfl ?_
      refine VL_nil ?_
      refine VS_ret ?_
      repeat (first | refine blockV_ret ?_ | refine backV_ret ?_ | refine backV2_ret ?_ | refine backV3_ret ?_ | refine thenV_ret ?_ | refine metV2_ret ?_)
      (refine fin_two (fn := Try.f123) rfl (res_ownA (cs := [_, _, _, _, _]) s ty26 rfl (i := 1) rfl rfl rfl) (res_tmp (by conv => lhs; whnf)) ?_)
      rw [show renameR t c = (t, 7) by clear s; rw [hR, c0]; simp [c1]]
      exact ⟨_, rfl, s.tell (Tr.shut' (s.dat (i := 3) rfl) (s.dat (i := 4) rfl)), s.below⟩
    · repeat (first | refine VS_seq ?_ | refine VS_skip ?_)
      refine VS_region_lit ?_
      refine VL_run (d := 27) (run_load_ownA (cs := [_, _, _, _, _]) s rfl ty26 rfl (i := 3) rfl rfl rfl) rfl rfl ?_
      refine VL_run (d := 28) (run_fieldAddr rfl fo70_2 rfl) rfl rfl ?_
      refine VL_run (d := 29) (run_load_own1 s rfl ty23 rfl (i := 2) rfl rfl) rfl rfl ?_
      refine VL_does (d := 30) (does_call2 rfl (by kernel_rfl) rfl rfl (l2Parent_ok c.to hq2 t (Tr.shut' (s.dat (i := 3) rfl) (s.dat (i := 4) rfl)) (s.dat (i := 6) rfl) hfit he (by omega)) ?_) rfl rfl
      rintro _ w ⟨rfl, hb⟩
      replace s := s.step hb
      clear hb
      refine VL_run (d := 8) (run_assign rfl (by conv => lhs; whnf)) rfl rfl ?_
      refine VL_nil ?_
      repeat (refine VS_seq ?_)
      refine VS_region_lit ?_
      refine VL_run (d := 31) (run_move rfl (by conv => lhs; whnf)) rfl rfl ?_
      refine VL_run (d := 32) (run_neI rfl rfl rfl) rfl rfl ?_
      refine VL_nil ?_
      refine VS_cond rfl (fun c2 => ?_) (fun c2 => ?_) <;> (try simp only [decide_eq_true_eq, decide_eq_false_iff_not, Bool.not_eq_true', Bool.not_eq_false', ne_eq, Decidable.not_not, cond_true, cond_false, Bool.and_eq_true, Bool.or_eq_true, Bool.and_eq_false_iff, Bool.or_eq_false_iff, Bool.not_true, Bool.not_false, reduceCtorEq] at c2)
      · repeat (refine VS_seq ?_)
        refine VS_region_lit ?_
        refine VL_run (d := 33) (run_load_ownA (cs := [_, _, _, _, _]) s rfl ty26 rfl (i := 3) rfl rfl rfl) rfl rfl ?_
        refine VL_run (d := 34) (run_move rfl (by conv => lhs; whnf)) rfl rfl ?_
        (refine VL_doesU (does_store s rfl ty26 rfl rfl (i := 1) rfl rfl rfl (by (intro u hu; simp only [List.mem_cons, List.not_mem_nil, or_false] at hu; rcases hu with rfl | rfl | rfl | rfl | rfl <;> rfl)) rfl ?_) rfl rfl rfl)
        clear s; intro w s
        try simp only [List.set_cons_zero, List.set_cons_succ, patch, List.take_succ_cons, List.take_zero, List.drop_succ_cons, List.drop_zero, List.drop_nil, List.nil_append, List.cons_append, List.append_nil, List.length_cons, List.length_nil, Nat.reduceAdd, Nat.zero_add] at s
        refine VL_run (d := 5) (run_assign rfl (by conv => lhs; whnf)) rfl rfl ?_
        refine VL_nil ?_
        refine VS_ret ?_
        repeat (first | refine blockV_ret ?_ | refine backV_ret ?_ | refine backV2_ret ?_ | refine backV3_ret ?_ | refine thenV_ret ?_ | refine metV2_ret ?_)
        (refine fin_two (fn := Try.f123) rfl (res_ownA (cs := [_, _, _, _, _]) s ty26 rfl (i := 1) rfl rfl rfl) (res_tmp (by conv => lhs; whnf)) ?_)
        rw [show renameR t c = (t, parentC t c.to) by clear s; rw [hR, c0]; simp [c1, c2]]
        exact ⟨_, rfl, s.tell (Tr.shut' (s.dat (i := 3) rfl) (s.dat (i := 4) rfl)), s.below⟩
      · repeat (first | refine VS_seq ?_ | refine VS_skip ?_)
        refine VS_region_lit ?_
        refine VL_run (d := 36) (run_load_ownA (cs := [_, _, _, _, _]) s rfl ty26 rfl (i := 3) rfl rfl rfl) rfl rfl ?_
        refine VL_run (d := 37) (run_fieldAddr rfl fo70_2 rfl) rfl rfl ?_
        refine VL_run (d := 38) (run_load_own1 s rfl ty23 rfl (i := 2) rfl rfl) rfl rfl ?_
        refine VL_does (d := 39) (does_call2 rfl (by kernel_rfl) rfl rfl (l1At_ok _ c.to rfl t (Tr.shut' (s.dat (i := 3) rfl) (s.dat (i := 4) rfl)) (s.dat (i := 6) rfl) hfit he (by omega)) ?_) rfl rfl
        rintro v39 w1 ⟨cs', rfl, hr, hb⟩
        replace s := s.ret hb hr; clear hb hr
        obtain ⟨E3, e3, E4, e4, rfl, s⟩ := s.openTr (i := 0) rfl
        refine VL_run (d := 35) (run_move rfl (by conv => lhs; whnf)) rfl rfl ?_
        refine VL_run (d := 40) (run_extract rfl rfl rfl) rfl rfl ?_
        refine VL_run (d := 41) (run_extract rfl rfl rfl) rfl rfl ?_
        refine VL_does (d := 9) (does_alloc s rfl ty26 rfl ?_) rfl rfl
        clear s; intro b9 w s
        (refine VL_doesU (does_store s rfl ty26 rfl rfl (i := 0) rfl rfl rfl (by (intro u hu; simp only [List.mem_cons, List.not_mem_nil, or_false] at hu; rcases hu with rfl | rfl | rfl | rfl | rfl <;> rfl)) rfl ?_) rfl rfl rfl)
        clear s; intro w s
        try simp only [List.set_cons_zero, List.set_cons_succ, patch, List.take_succ_cons, List.take_zero, List.drop_succ_cons, List.drop_zero, List.drop_nil, List.nil_append, List.cons_append, List.append_nil, List.length_cons, List.length_nil, Nat.reduceAdd, Nat.zero_add] at s
        refine VL_run (d := 10) (run_assign rfl (by conv => lhs; whnf)) rfl rfl ?_
        refine VL_nil ?_
        repeat (refine VS_seq ?_)
        generalize (Tr.at c.to t).getD Tr.zero = y at *
        generalize (Tr.at c.to t).isSome = o2 at *
        have hz : Tr.zero.Even := Tr.zero_even
        have hf1 : (setP c.path Tr.zero true t).wt ≤ 100000 := Nat.le_trans (setP_wt _ _ _ _) (Nat.le_trans (Nat.mul_le_mul ht (show _ ≤ 50 by have := Tr.zero_wt; omega)) (by decide))
        have hf2 : (setP c.path Tr.zero true t).Fit := by unfold Tr.Fit; omega
        have hf3 := setP_even c.path Tr.zero true t hz he
        have hf4 : (setP c.to x false (setP c.path Tr.zero true t)).Fit := set_fit 100000 1000 hq1 hf1 (by omega) (by decide)
        refine VS_region_lit ?_
        refine VL_run (d := 42) (run_move rfl (by conv => lhs; whnf)) rfl rfl ?_
        refine VL_nil ?_
        refine VS_cond rfl (fun c3 => ?_) (fun c3 => ?_) <;> (try simp only [decide_eq_true_eq, decide_eq_false_iff_not, Bool.not_eq_true', Bool.not_eq_false', ne_eq, Decidable.not_not, cond_true, cond_false, Bool.and_eq_true, Bool.or_eq_true, Bool.and_eq_false_iff, Bool.or_eq_false_iff, Bool.not_true, Bool.not_false, reduceCtorEq] at c3)
        · repeat (refine VS_seq ?_)
          refine VS_region_lit ?_
          refine VL_run (d := 43) (run_load_ownA (cs := [_, _, _, _, _]) s rfl ty26 rfl (i := 4) rfl rfl rfl) rfl rfl ?_
          (refine VL_doesU (does_store s rfl ty26 rfl rfl (i := 2) rfl rfl rfl (by (intro u hu; simp only [List.mem_cons, List.not_mem_nil, or_false] at hu; rcases hu with rfl | rfl | rfl | rfl | rfl <;> rfl)) rfl ?_) rfl rfl rfl)
          clear s; intro w s
          try simp only [List.set_cons_zero, List.set_cons_succ, patch, List.take_succ_cons, List.take_zero, List.drop_succ_cons, List.drop_zero, List.drop_nil, List.nil_append, List.cons_append, List.append_nil, List.length_cons, List.length_nil, Nat.reduceAdd, Nat.zero_add] at s
          refine VL_run (d := 5) (run_assign rfl (by conv => lhs; whnf)) rfl rfl ?_
          refine VL_nil ?_
          refine VS_ret ?_
          repeat (first | refine blockV_ret ?_ | refine backV_ret ?_ | refine backV2_ret ?_ | refine backV3_ret ?_ | refine thenV_ret ?_ | refine metV2_ret ?_)
          (refine fin_two (fn := Try.f123) rfl (res_ownA (cs := [_, _, _, _, _]) s ty26 rfl (i := 2) rfl rfl rfl) (res_tmp (by conv => lhs; whnf)) ?_)
          rw [show renameR t c = (t, 5) by clear s; rw [hR, c0, c3]; simp [c1, c2]]
          exact ⟨_, rfl, s.tell (Tr.shut' (s.dat (i := 6) rfl) (s.dat (i := 7) rfl)), s.below⟩
        · repeat (first | refine VS_seq ?_ | refine VS_skip ?_)
          refine VS_drawS 13 s mixed ?_
          clear s; intro s
          refine VA_take 0 (d := 44) rfl (by kernel_rfl) rfl (fun w g => see_ownA (cs := [_, _, _, _, _]) g rfl ty26 rfl (i := 4) rfl rfl rfl) s.see ?_
          refine VA_take 1 (d := 45) rfl (by kernel_rfl) rfl (fun w g => run_fieldAddr rfl fo70_1 rfl) s.see ?_
          refine VA_take 2 (d := 46) rfl (by kernel_rfl) rfl (fun w g => see_own1 g rfl ty23 rfl (i := 3) rfl rfl) s.see ?_
          refine VA_take 3 (d := 47) rfl (by kernel_rfl) rfl (fun w g => run_build (cs := [.bool false, .int .i64 0, .string ⟨#[]⟩, .slice none 0 0, .slice none 0 0]) rfl ty26 st26 rfl) s.see ?_
          refine VA_take 5 (d := 49) rfl (by kernel_rfl) rfl (fun w g => run_fieldAddr rfl fo70_2 rfl) s.see ?_
          refine VA_take 6 (d := 50) rfl (by kernel_rfl) rfl (fun w g => see_own1 g rfl ty23 rfl (i := 3) rfl rfl) s.see ?_
          refine VA_take 7 (d := 51) rfl (by kernel_rfl) rfl (fun w g => see_ownA (cs := [_, _, _, _, _]) g rfl ty26 rfl (i := 1) rfl rfl rfl) s.see ?_
          refine VA_take 9 (d := 53) rfl (by kernel_rfl) rfl (fun w g => see_ownA (cs := [_, _, _, _, _]) g rfl ty26 rfl (i := 4) rfl rfl rfl) s.see ?_
          refine VA_one (i := 4) (by kernel_rfl) ?_
          refine VO_does (d := 48) rfl (does_call4 rfl (by kernel_rfl) rfl rfl rfl rfl (l2Set_ok _ c.path rfl hp2 t Tr.zero true (Tr.shut' (s.dat (i := 6) rfl) (s.dat (i := 7) rfl)) (s.dat (i := 8) rfl) Tr.zero_rd hfit he (by omega)) ?_) rfl rfl
          rintro v48 w1 ⟨cs', rfl, hr, hb⟩
          replace s := s.ret hb hr; clear hb hr
          refine ⟨fun _ => s.sees (by intro b c t h; exact h) (by intro f h; exact .tail _ h), ?_⟩
          refine VA_one (i := 8) (by kernel_rfl) ?_
          refine VO_does (d := 52) rfl (does_call4 rfl (by kernel_rfl) rfl rfl rfl rfl (l2Set_ok _ c.to rfl hq2 _ x false (s.dat (i := 0) rfl) (s.dat (i := 10) rfl) (s.dat (i := 6) rfl) hf2 hf3 (by omega)) ?_) rfl rfl
          rintro v52 w1 ⟨cs', rfl, hr, hb⟩
          replace s := s.ret hb hr; clear hb hr
          refine ⟨fun _ => s.sees (by intro b c t h; exact h) (by intro f h; exact .tail _ (.tail _ h)), ?_⟩
          refine VA_one (i := 10) (by kernel_rfl) ?_
          refine VO_does (d := 54) rfl (does_call2 rfl (by kernel_rfl) rfl rfl (l2Fits_ok _ t (s.dat (i := 0) rfl) (Tr.shut' (s.dat (i := 8) rfl) (s.dat (i := 9) rfl)) hf4) ?_) rfl rfl
          rintro v54 w1 ⟨cs', rfl, hr, hb⟩
          replace s := s.ret hb hr; clear hb hr
          refine ⟨fun _ => s.sees (by intro b c t h; exact h) (by intro f h; exact .tail _ (.tail _ (.tail _ h))), ?_⟩
          obtain ⟨E5, e5, E6, e6, rfl, -, -, -, -⟩ := Tr.opn (s.dat (i := 0) rfl)
          refine VA_take 11 (d := 55) rfl (by kernel_rfl) rfl (fun w g => run_extract rfl rfl rfl) (by (exact s.sees (by intro b c t h; exact h) (by intro f h; exact .tail _ (.tail _ (.tail _ h))))) ?_
          refine VA_take 12 (d := 56) rfl (by kernel_rfl) rfl (fun w g => run_extract rfl rfl rfl) (by (exact s.sees (by intro b c t h; exact h) (by intro f h; exact .tail _ (.tail _ (.tail _ h))))) ?_
          refine VA_one (i := 13) (by kernel_rfl) ?_
          (refine VO_doesU rfl (does_store s rfl ty26 rfl rfl (i := 2) rfl rfl rfl (by (intro u hu; simp only [List.mem_cons, List.not_mem_nil, or_false] at hu; rcases hu with rfl | rfl | rfl | rfl | rfl <;> rfl)) rfl ?_) rfl rfl rfl)
          clear s; intro w s
          try simp only [List.set_cons_zero, List.set_cons_succ, patch, List.take_succ_cons, List.take_zero, List.drop_succ_cons, List.drop_zero, List.drop_nil, List.nil_append, List.cons_append, List.append_nil, List.length_cons, List.length_nil, Nat.reduceAdd, Nat.zero_add] at s
          refine ⟨(fun h => nomatch (show true = false from h)), ?_⟩
          refine VA_one (i := 14) (by kernel_rfl) ?_
          refine VO_run (d := 5) rfl (run_assign rfl (by conv => lhs; whnf)) rfl rfl ((fun h => nomatch (show true = false from h))) ?_
          refine VA_done (by kernel_rfl) ?_
          refine VS_ret ?_
          repeat (first | refine blockV_ret ?_ | refine backV_ret ?_ | refine backV2_ret ?_ | refine backV3_ret ?_ | refine thenV_ret ?_ | refine metV2_ret ?_)
          (refine fin_two (fn := Try.f123) rfl (res_ownA (cs := [_, _, _, _, _]) s ty26 rfl (i := 2) rfl rfl rfl) (res_tmp (by conv => lhs; whnf)) ?_)
          rw [show renameR t c = fitsT (setP c.to x false (setP c.path Tr.zero true t)) t by clear s; rw [hR, c0, c3]; simp [c1, c2]]
          exact ⟨_, rfl, s.tell (s.dat (i := 0) rfl), s.below⟩
theorem Cl.ok_path {c : Cl} (h : c.ok = true) : pathOk c.path = true := by
  unfold Cl.ok at h
  cases h1 : pathOk c.path with
  | true => rfl
  | false => simp [h1] at h
theorem Cl.ok_off {c : Cl} (h : c.ok = true) (hk : c.kind = 2 ∨ c.kind = 3) : 0 ≤ c.off ∧ c.off ≤ 24 := by
  rcases hk with hk | hk <;> · unfold Cl.ok inI at h; simp [hk] at h; omega
theorem Cl.ok_to {c : Cl} (h : c.ok = true) (hk : c.kind = 5) : pathOk c.to = true := by
  unfold Cl.ok at h
  simp [hk] at h
  exact h.2
/-- A call in a tree that is ok. -/
def doR (t : Tr) (c : Cl) : Tr × Int :=
  bif decide (parentC t c.path ≠ 0) then (t, parentC t c.path)
  else bif decide (c.kind = 1) then (bif (Tr.at c.path t).isSome then (t, 5) else fitsT (setP c.path (.mk true c.off ⟨#[]⟩ [] []) false t) t)
  else bif decide (c.kind = 2) || decide (c.kind = 3) then fileR t c
  else bif decide (c.kind = 5) then renameR t c
  else bif !(Tr.at c.path t).isSome then (t, 3)
  else bif decide (c.kind = 4) then (bif decide (0 < ((Tr.at c.path t).getD Tr.zero).names.length) then (t, 5) else (setP c.path Tr.zero true t, 0))
  else (setP c.path (((Tr.at c.path t).getD Tr.zero).wMode c.off) false t, 0)
theorem l2Do_ok (t : Tr) (c : Cl) {ok : Nat → Prop} {w0 : World} {cs cc : List Value} (h : Rd ok w0 t.toD cs) (h2 : Rd ok w0 c.toD cc) (ht : t.wt ≤ 1000) (he : t.Even) (hc : c.Fit) (hk : c.ok = true) :
    Calls Try.prog 87 #[.agg cs.toArray, .agg cc.toArray] w0 (Ret fun v w' => ∃ cs', v = .tuple #[.agg cs'.toArray, .int .i64 (doR t c).2] ∧ Rd (okR ok w0) w' (doR t c).1.toD cs' ∧ Below w0.heap.size w0 w') := by
  obtain ⟨A3, n3, A4, n4, rfl, hl3, hl4, h3, h4⟩ := Tr.opn h
  obtain ⟨A1, k1, A2, k2, rfl, hl1, hl2, h5, h6⟩ := Cl.opn h2
  have hp := Cl.ok_path hk
  obtain ⟨hp1, hp2, hp3⟩ := pathOk_wt hp
  have hfit : t.Fit := by unfold Tr.Fit; omega
  have hxw := Tr.atD_wt c.path t
  have hxe := Tr.atD_even c.path he
  have s := ((((St.start ok w0).begin h6).begin h5).begin h4).begin h3
  generalize hR : doR t c = r
  unfold doR at hR
  refine calls_enter (n := 80) Try.func87 rfl rfl rfl ?_
  repeat (refine VS_seq ?_)
  refine VS_region_lit ?_
  refine VL_does (d := 2) (does_box s rfl rfl rfl ?_) rfl rfl
  clear s; intro b2 w s
  refine VL_does (d := 3) (does_box s rfl rfl rfl ?_) rfl rfl
  clear s; intro b3 w s
  refine VL_does (d := 4) (does_alloc s rfl ty26 rfl ?_) rfl rfl
  clear s; intro b4 w s
  refine VL_run (d := 5) (run_assign rfl (by conv => lhs; whnf)) rfl rfl ?_
  refine VL_nil ?_
  repeat (refine VS_seq ?_)
  refine VS_region_lit ?_
  refine VL_run (d := 9) (run_load_ownA (cs := [_, _, _, _, _]) s rfl ty26 rfl (i := 2) rfl rfl rfl) rfl rfl ?_
  refine VL_run (d := 10) (run_fieldAddr rfl fo70_1 rfl) rfl rfl ?_
  refine VL_run (d := 11) (run_load_own1 s rfl ty23 rfl (i := 1) rfl rfl) rfl rfl ?_
  refine VL_does (d := 12) (does_call2 rfl (by kernel_rfl) rfl rfl (l2Parent_ok c.path hp2 t (Tr.shut' (s.dat (i := 0) rfl) (s.dat (i := 1) rfl)) (s.dat (i := 2) rfl) hfit he (by omega)) ?_) rfl rfl
  rintro _ w ⟨rfl, hb⟩
  replace s := s.step hb
  clear hb
  refine VL_run (d := 6) (run_assign rfl (by conv => lhs; whnf)) rfl rfl ?_
  refine VL_nil ?_
  repeat (refine VS_seq ?_)
  refine VS_region_lit ?_
  refine VL_run (d := 13) (run_move rfl (by conv => lhs; whnf)) rfl rfl ?_
  refine VL_run (d := 14) (run_neI rfl rfl rfl) rfl rfl ?_
  refine VL_nil ?_
  refine VS_cond rfl (fun c0 => ?_) (fun c0 => ?_) <;> (try simp only [decide_eq_true_eq, decide_eq_false_iff_not, Bool.not_eq_true', Bool.not_eq_false', ne_eq, Decidable.not_not, cond_true, cond_false, Bool.and_eq_true, Bool.or_eq_true, Bool.and_eq_false_iff, Bool.or_eq_false_iff, Bool.not_true, Bool.not_false, reduceCtorEq] at c0)
  · repeat (refine VS_seq ?_)
    refine VS_region_lit ?_
    refine VL_run (d := 15) (run_load_ownA (cs := [_, _, _, _, _]) s rfl ty26 rfl (i := 2) rfl rfl rfl) rfl rfl ?_
    refine VL_run (d := 16) (run_move rfl (by conv => lhs; whnf)) rfl rfl ?_
    (refine VL_doesU (does_store s rfl ty26 rfl rfl (i := 0) rfl rfl rfl (by (intro u hu; simp only [List.mem_cons, List.not_mem_nil, or_false] at hu; rcases hu with rfl | rfl | rfl | rfl | rfl <;> rfl)) rfl ?_) rfl rfl rfl)
    clear s; intro w s
    try simp only [List.set_cons_zero, List.set_cons_succ, patch, List.take_succ_cons, List.take_zero, List.drop_succ_cons, List.drop_zero, List.drop_nil, List.nil_append, List.cons_append, List.append_nil, List.length_cons, List.length_nil, Nat.reduceAdd, Nat.zero_add] at s
    refine VL_run (d := 5) (run_assign rfl (by conv => lhs; whnf)) rfl rfl ?_
    refine VL_nil ?_
    refine VS_ret ?_
    repeat (first | refine blockV_ret ?_ | refine backV_ret ?_ | refine backV2_ret ?_ | refine backV3_ret ?_ | refine thenV_ret ?_ | refine metV2_ret ?_)
    (refine fin_two (fn := Try.f87) rfl (res_ownA (cs := [_, _, _, _, _]) s ty26 rfl (i := 0) rfl rfl rfl) (res_tmp (by conv => lhs; whnf)) ?_)
    obtain rfl : (t, parentC t c.path) = r := by clear s; rw [← hR]; simp [c0]
    exact ⟨_, rfl, s.tell (Tr.shut' (s.dat (i := 0) rfl) (s.dat (i := 1) rfl)), s.below⟩
  · repeat (first | refine VS_seq ?_ | refine VS_skip ?_)
    refine VS_region_lit ?_
    refine VL_run (d := 18) (run_load_ownA (cs := [_, _, _, _, _]) s rfl ty26 rfl (i := 2) rfl rfl rfl) rfl rfl ?_
    refine VL_run (d := 19) (run_fieldAddr rfl fo70_1 rfl) rfl rfl ?_
    refine VL_run (d := 20) (run_load_own1 s rfl ty23 rfl (i := 1) rfl rfl) rfl rfl ?_
    refine VL_does (d := 21) (does_call2 rfl (by kernel_rfl) rfl rfl (l1At_ok _ c.path rfl t (Tr.shut' (s.dat (i := 0) rfl) (s.dat (i := 1) rfl)) (s.dat (i := 2) rfl) hfit he (by omega)) ?_) rfl rfl
    rintro v21 w1 ⟨cs', rfl, hr, hb⟩
    replace s := s.ret hb hr; clear hb hr
    obtain ⟨B3, d3, B4, d4, rfl, s⟩ := s.openTr (i := 0) rfl
    refine VL_run (d := 17) (run_move rfl (by conv => lhs; whnf)) rfl rfl ?_
    refine VL_run (d := 22) (run_extract rfl rfl rfl) rfl rfl ?_
    refine VL_run (d := 23) (run_extract rfl rfl rfl) rfl rfl ?_
    refine VL_does (d := 7) (does_alloc s rfl ty26 rfl ?_) rfl rfl
    clear s; intro b7 w s
    (refine VL_doesU (does_store s rfl ty26 rfl rfl (i := 0) rfl rfl rfl (by (intro u hu; simp only [List.mem_cons, List.not_mem_nil, or_false] at hu; rcases hu with rfl | rfl | rfl | rfl | rfl <;> rfl)) rfl ?_) rfl rfl rfl)
    clear s; intro w s
    try simp only [List.set_cons_zero, List.set_cons_succ, patch, List.take_succ_cons, List.take_zero, List.drop_succ_cons, List.drop_zero, List.drop_nil, List.nil_append, List.cons_append, List.append_nil, List.length_cons, List.length_nil, Nat.reduceAdd, Nat.zero_add] at s
    refine VL_run (d := 8) (run_assign rfl (by conv => lhs; whnf)) rfl rfl ?_
    refine VL_nil ?_
    repeat (refine VS_seq ?_)
    generalize (Tr.at c.path t).getD Tr.zero = x at *
    generalize (Tr.at c.path t).isSome = o at *
    simp only [c0, ne_eq, not_true_eq_false, decide_false, cond_false] at hR
    refine VS_region_lit ?_
    refine VL_run (d := 24) (run_fieldAddr rfl fo70_0 rfl) rfl rfl ?_
    refine VL_run (d := 25) (run_load_own1 s rfl ty3 rfl (i := 2) rfl rfl) rfl rfl ?_
    refine VL_nil ?_
    repeat (first | refine VS_seq ?_ | refine VS_block ?_)
    refine VS_region_lit ?_
    refine VL_run (d := 27) (run_eqI rfl rfl rfl) rfl rfl ?_
    refine VL_run (d := 26) (run_assign rfl (by conv => lhs; whnf)) rfl rfl ?_
    refine VL_nil ?_
    refine VS_cond rfl (fun c1 => ?_) (fun c1 => ?_) <;> (try simp only [decide_eq_true_eq, decide_eq_false_iff_not, Bool.not_eq_true', Bool.not_eq_false', ne_eq, Decidable.not_not, cond_true, cond_false, Bool.and_eq_true, Bool.or_eq_true, Bool.and_eq_false_iff, Bool.or_eq_false_iff, Bool.not_true, Bool.not_false, reduceCtorEq] at c1)
    · repeat (refine VS_seq ?_)
      refine VS_region_lit ?_
      refine VL_run (d := 28) (run_move rfl (by conv => lhs; whnf)) rfl rfl ?_
      refine VL_nil ?_
      refine VS_cond rfl (fun c2 => ?_) (fun c2 => ?_) <;> (try simp only [decide_eq_true_eq, decide_eq_false_iff_not, Bool.not_eq_true', Bool.not_eq_false', ne_eq, Decidable.not_not, cond_true, cond_false, Bool.and_eq_true, Bool.or_eq_true, Bool.and_eq_false_iff, Bool.or_eq_false_iff, Bool.not_true, Bool.not_false, reduceCtorEq] at c2)
      · repeat (refine VS_seq ?_)
        refine VS_region_lit ?_
        refine VL_run (d := 29) (run_load_ownA (cs := [_, _, _, _, _]) s rfl ty26 rfl (i := 3) rfl rfl rfl) rfl rfl ?_
        (refine VL_doesU (does_store s rfl ty26 rfl rfl (i := 1) rfl rfl rfl (by (intro u hu; simp only [List.mem_cons, List.not_mem_nil, or_false] at hu; rcases hu with rfl | rfl | rfl | rfl | rfl <;> rfl)) rfl ?_) rfl rfl rfl)
        clear s; intro w s
        try simp only [List.set_cons_zero, List.set_cons_succ, patch, List.take_succ_cons, List.take_zero, List.drop_succ_cons, List.drop_zero, List.drop_nil, List.nil_append, List.cons_append, List.append_nil, List.length_cons, List.length_nil, Nat.reduceAdd, Nat.zero_add] at s
        refine VL_run (d := 5) (run_assign rfl (by conv => lhs; whnf)) rfl rfl ?_
        refine VL_nil ?_
        refine VS_ret ?_
        repeat (refine blockV_ret ?_)
        (refine fin_two (fn := Try.f87) rfl (res_ownA (cs := [_, _, _, _, _]) s ty26 rfl (i := 1) rfl rfl rfl) (res_tmp (by conv => lhs; whnf)) ?_)
        obtain rfl : (t, (5 : Int)) = r := by clear s; rw [← hR]; simp [c1, c2]
        exact ⟨_, rfl, s.tell (Tr.shut' (s.dat (i := 3) rfl) (s.dat (i := 4) rfl)), s.below⟩
      · have hev : (Tr.mk true c.off ⟨#[]⟩ [] []).Even := by simp [Tr.Even, Tr.Evens]
        have hwt : (Tr.mk true c.off ⟨#[]⟩ [] []).wt = 1 := rfl
        have hf4 : (setP c.path (Tr.mk true c.off ⟨#[]⟩ [] []) false t).Fit := set_fit 1000 10 hp1 ht (by omega) (by decide)
        repeat (first | refine VS_seq ?_ | refine VS_skip ?_)
        refine VS_drawS 11 s mixed ?_
        clear s; intro s
        refine VA_take 0 (d := 30) rfl (by kernel_rfl) rfl (fun w g => see_ownA (cs := [_, _, _, _, _]) g rfl ty26 rfl (i := 3) rfl rfl rfl) s.see ?_
        refine VA_take 1 (d := 31) rfl (by kernel_rfl) rfl (fun w g => run_fieldAddr rfl fo70_1 rfl) s.see ?_
        refine VA_take 2 (d := 32) rfl (by kernel_rfl) rfl (fun w g => see_own1 g rfl ty23 rfl (i := 2) rfl rfl) s.see ?_
        refine VA_take 3 (d := 33) rfl (by kernel_rfl) rfl (fun w g => run_fieldAddr rfl fo70_3 rfl) s.see ?_
        refine VA_take 4 (d := 34) rfl (by kernel_rfl) rfl (fun w g => see_own1 g rfl ty3 rfl (i := 2) rfl rfl) s.see ?_
        refine VA_take 5 (d := 35) rfl (by kernel_rfl) rfl (fun w g => run_build (cs := [.bool _, .int .i64 _, .string ⟨#[]⟩, .slice none 0 0, .slice none 0 0]) rfl ty26 st26 rfl) s.see ?_
        refine VA_take 7 (d := 37) rfl (by kernel_rfl) rfl (fun w g => see_ownA (cs := [_, _, _, _, _]) g rfl ty26 rfl (i := 3) rfl rfl rfl) s.see ?_
        refine VA_one (i := 6) (by kernel_rfl) ?_
        refine VO_does (d := 36) rfl (does_call4 rfl (by kernel_rfl) rfl rfl rfl rfl (l2Set_ok _ c.path rfl hp2 t (Tr.mk true c.off ⟨#[]⟩ [] []) false (Tr.shut' (s.dat (i := 3) rfl) (s.dat (i := 4) rfl)) (s.dat (i := 5) rfl) (Rd_mk5 rfl rfl rfl ⟨none, 0, rfl, Nat.le_refl _, trivial⟩ ⟨none, 0, rfl, Nat.le_refl _, trivial⟩) hfit he (by omega)) ?_) rfl rfl
        rintro v36 w1 ⟨cs', rfl, hr, hb⟩
        replace s := s.ret hb hr; clear hb hr
        refine ⟨fun _ => s.sees (by intro b c t h; exact h) (by intro f h; exact .tail _ h), ?_⟩
        refine VA_one (i := 8) (by kernel_rfl) ?_
        refine VO_does (d := 38) rfl (does_call2 rfl (by kernel_rfl) rfl rfl (l2Fits_ok _ t (s.dat (i := 0) rfl) (Tr.shut' (s.dat (i := 4) rfl) (s.dat (i := 5) rfl)) hf4) ?_) rfl rfl
        rintro v38 w1 ⟨cs', rfl, hr, hb⟩
        replace s := s.ret hb hr; clear hb hr
        refine ⟨fun _ => s.sees (by intro b c t h; exact h) (by intro f h; exact .tail _ (.tail _ h)), ?_⟩
        obtain ⟨E5, e5, E6, e6, rfl, -, -, -, -⟩ := Tr.opn (s.dat (i := 0) rfl)
        refine VA_take 9 (d := 39) rfl (by kernel_rfl) rfl (fun w g => run_extract rfl rfl rfl) (by (exact s.sees (by intro b c t h; exact h) (by intro f h; exact .tail _ (.tail _ h)))) ?_
        refine VA_take 10 (d := 40) rfl (by kernel_rfl) rfl (fun w g => run_extract rfl rfl rfl) (by (exact s.sees (by intro b c t h; exact h) (by intro f h; exact .tail _ (.tail _ h)))) ?_
        refine VA_one (i := 11) (by kernel_rfl) ?_
        (refine VO_doesU rfl (does_store s rfl ty26 rfl rfl (i := 1) rfl rfl rfl (by (intro u hu; simp only [List.mem_cons, List.not_mem_nil, or_false] at hu; rcases hu with rfl | rfl | rfl | rfl | rfl <;> rfl)) rfl ?_) rfl rfl rfl)
        clear s; intro w s
        try simp only [List.set_cons_zero, List.set_cons_succ, patch, List.take_succ_cons, List.take_zero, List.drop_succ_cons, List.drop_zero, List.drop_nil, List.nil_append, List.cons_append, List.append_nil, List.length_cons, List.length_nil, Nat.reduceAdd, Nat.zero_add] at s
        refine ⟨(fun h => nomatch (show true = false from h)), ?_⟩
        refine VA_one (i := 12) (by kernel_rfl) ?_
        refine VO_run (d := 5) rfl (run_assign rfl (by conv => lhs; whnf)) rfl rfl ((fun h => nomatch (show true = false from h))) ?_
        refine VA_done (by kernel_rfl) ?_
        refine VS_ret ?_
        repeat (refine blockV_ret ?_)
        (refine fin_two (fn := Try.f87) rfl (res_ownA (cs := [_, _, _, _, _]) s ty26 rfl (i := 1) rfl rfl rfl) (res_tmp (by conv => lhs; whnf)) ?_)
        obtain rfl : fitsT (setP c.path (Tr.mk true c.off ⟨#[]⟩ [] []) false t) t = r := by clear s; rw [← hR]; simp [c1, c2]
        exact ⟨_, rfl, s.tell (s.dat (i := 0) rfl), s.below⟩
    · repeat (refine VS_seq ?_)
      refine VS_region_lit ?_
      refine VL_run (d := 42) (run_eqI rfl rfl rfl) rfl rfl ?_
      refine VL_run (d := 41) (run_assign rfl (by conv => lhs; whnf)) rfl rfl ?_
      refine VL_nil ?_
      refine VS_join1 [41, 43] (fun _ : Unit => [(41, .bool (decide (c.kind = 2) || decide (c.kind = 3)))]) (fun _ w => St ok w0 [.blk b7 (trC x B3 d3 B4 d4) 26, .blk b4 tr0 26, .blk b3 (clC c A1 k1 A2 k2) 70, .blk b2 (trC t A3 n3 A4 n4) 26] [.dat [.slice B4 x.kids.length d4] (.sl (Tr.toDs x.kids)), .dat [.slice B3 x.names.length d3] (.sl (strsD x.names)), .dat [.slice A3 t.names.length n3] (.sl (strsD t.names)), .dat [.slice A4 t.kids.length n4] (.sl (Tr.toDs t.kids)), .dat [.slice A1 c.path.length k1] (.sl (strsD c.path)), .dat [.slice A2 c.to.length k2] (.sl (strsD c.to))] w) ?_ ?_
      · refine VS_cond rfl (fun c3 => ?_) (fun c3 => ?_) <;> (try simp only [decide_eq_true_eq, decide_eq_false_iff_not, Bool.not_eq_true', Bool.not_eq_false', ne_eq, Decidable.not_not, cond_true, cond_false, Bool.and_eq_true, Bool.or_eq_true, Bool.and_eq_false_iff, Bool.or_eq_false_iff, Bool.not_true, Bool.not_false, reduceCtorEq] at c3)
        · rw [show (decide (c.kind = 2) || decide (c.kind = 3)) = decide (c.kind = 2) by clear s; simp [c3]]
          repeat (refine VS_skip ?_)
          refine VS_met (()) ?_ (by repeat (first | exact Has.nil _ | refine Has.cons rfl ?_)) (by repeat (exact Out.refl _ _))
          exact s.less (by simp)
        · rw [show (decide (c.kind = 2) || decide (c.kind = 3)) = decide (c.kind = 3) by clear s; simp [c3]]
          refine VS_region_lit ?_
          refine VL_run (d := 43) (run_eqI rfl rfl rfl) rfl rfl ?_
          refine VL_run (d := 41) (run_assign rfl (by conv => lhs; whnf)) rfl rfl ?_
          refine VL_nil ?_
          refine VS_met (()) ?_ (by repeat (first | exact Has.nil _ | refine Has.cons rfl ?_)) (by repeat (first | exact Out.refl _ _ | refine Out.upd rfl ?_))
          exact s.less (by simp)
      clear s
      rintro _ w j s
      refine VS_cond rfl (fun c4 => ?_) (fun c4 => ?_) <;> (try simp only [decide_eq_true_eq, decide_eq_false_iff_not, Bool.not_eq_true', Bool.not_eq_false', ne_eq, Decidable.not_not, cond_true, cond_false, Bool.and_eq_true, Bool.or_eq_true, Bool.and_eq_false_iff, Bool.or_eq_false_iff, Bool.not_true, Bool.not_false, reduceCtorEq] at c4)
      · repeat (refine VS_seq ?_)
        refine VS_region_lit ?_
        refine VL_run (d := 44) (run_load_ownA (cs := [_, _, _, _, _]) s rfl ty26 rfl (i := 3) rfl rfl rfl) rfl rfl ?_
        refine VL_run (d := 45) (run_load_ownA (cs := [_, _, _, _, _]) s rfl ty70 rfl (i := 2) rfl rfl rfl) rfl rfl ?_
        refine VL_does (d := 46) (does_call2 rfl (by kernel_rfl) rfl rfl (l2File_ok t c (Tr.shut' (s.dat (i := 2) rfl) (s.dat (i := 3) rfl)) (Cl.shut (s.dat (i := 4) rfl) (s.dat (i := 5) rfl)) ht he hc hp (Cl.ok_off hk c4).1 (Cl.ok_off hk c4).2) ?_) rfl rfl
        rintro v46 w1 ⟨cs', rfl, hr, hb⟩
        replace s := s.ret hb hr; clear hb hr
        obtain ⟨E5, e5, E6, e6, rfl, -, -, -, -⟩ := Tr.opn (s.dat (i := 0) rfl)
        refine VL_run (d := 47) (run_extract rfl rfl rfl) rfl rfl ?_
        refine VL_run (d := 48) (run_extract rfl rfl rfl) rfl rfl ?_
        (refine VL_doesU (does_store s rfl ty26 rfl rfl (i := 1) rfl rfl rfl (by (intro u hu; simp only [List.mem_cons, List.not_mem_nil, or_false] at hu; rcases hu with rfl | rfl | rfl | rfl | rfl <;> rfl)) rfl ?_) rfl rfl rfl)
        clear s; intro w s
        try simp only [List.set_cons_zero, List.set_cons_succ, patch, List.take_succ_cons, List.take_zero, List.drop_succ_cons, List.drop_zero, List.drop_nil, List.nil_append, List.cons_append, List.append_nil, List.length_cons, List.length_nil, Nat.reduceAdd, Nat.zero_add] at s
        refine VL_run (d := 5) (run_assign rfl (by conv => lhs; whnf)) rfl rfl ?_
        refine VL_nil ?_
        refine VS_ret ?_
        repeat (refine blockV_ret ?_)
        (refine fin_two (fn := Try.f87) rfl (res_ownA (cs := [_, _, _, _, _]) s ty26 rfl (i := 1) rfl rfl rfl) (res_tmp (by conv => lhs; whnf)) ?_)
        obtain rfl : fileR t c = r := by clear s; rw [← hR]; rcases c4 with h | h <;> simp [h]
        exact ⟨_, rfl, s.tell (s.dat (i := 0) rfl), s.below⟩
      · repeat (refine VS_seq ?_)
        refine VS_region_lit ?_
        refine VL_run (d := 50) (run_eqI rfl rfl rfl) rfl rfl ?_
        refine VL_run (d := 49) (run_assign rfl (by conv => lhs; whnf)) rfl rfl ?_
        refine VL_nil ?_
        refine VS_cond rfl (fun c5 => ?_) (fun c5 => ?_) <;> (try simp only [decide_eq_true_eq, decide_eq_false_iff_not, Bool.not_eq_true', Bool.not_eq_false', ne_eq, Decidable.not_not, cond_true, cond_false, Bool.and_eq_true, Bool.or_eq_true, Bool.and_eq_false_iff, Bool.or_eq_false_iff, Bool.not_true, Bool.not_false, reduceCtorEq] at c5)
        · repeat (refine VS_seq ?_)
          refine VS_region_lit ?_
          refine VL_run (d := 51) (run_load_ownA (cs := [_, _, _, _, _]) s rfl ty26 rfl (i := 3) rfl rfl rfl) rfl rfl ?_
          refine VL_run (d := 52) (run_load_ownA (cs := [_, _, _, _, _]) s rfl ty70 rfl (i := 2) rfl rfl rfl) rfl rfl ?_
          refine VL_does (d := 53) (does_call2 rfl (by kernel_rfl) rfl rfl (l2Rename_ok t c (Tr.shut' (s.dat (i := 2) rfl) (s.dat (i := 3) rfl)) (Cl.shut (s.dat (i := 4) rfl) (s.dat (i := 5) rfl)) ht he hc hp (Cl.ok_to hk c5)) ?_) rfl rfl
          rintro v53 w1 ⟨cs', rfl, hr, hb⟩
          replace s := s.ret hb hr; clear hb hr
          obtain ⟨E5, e5, E6, e6, rfl, -, -, -, -⟩ := Tr.opn (s.dat (i := 0) rfl)
          refine VL_run (d := 54) (run_extract rfl rfl rfl) rfl rfl ?_
          refine VL_run (d := 55) (run_extract rfl rfl rfl) rfl rfl ?_
          (refine VL_doesU (does_store s rfl ty26 rfl rfl (i := 1) rfl rfl rfl (by (intro u hu; simp only [List.mem_cons, List.not_mem_nil, or_false] at hu; rcases hu with rfl | rfl | rfl | rfl | rfl <;> rfl)) rfl ?_) rfl rfl rfl)
          clear s; intro w s
          try simp only [List.set_cons_zero, List.set_cons_succ, patch, List.take_succ_cons, List.take_zero, List.drop_succ_cons, List.drop_zero, List.drop_nil, List.nil_append, List.cons_append, List.append_nil, List.length_cons, List.length_nil, Nat.reduceAdd, Nat.zero_add] at s
          refine VL_run (d := 5) (run_assign rfl (by conv => lhs; whnf)) rfl rfl ?_
          refine VL_nil ?_
          refine VS_ret ?_
          repeat (refine blockV_ret ?_)
          (refine fin_two (fn := Try.f87) rfl (res_ownA (cs := [_, _, _, _, _]) s ty26 rfl (i := 1) rfl rfl rfl) (res_tmp (by conv => lhs; whnf)) ?_)
          obtain rfl : renameR t c = r := by clear s; rw [← hR]; simp [c5]
          exact ⟨_, rfl, s.tell (s.dat (i := 0) rfl), s.below⟩
        · repeat (first | refine VS_seq ?_ | refine VS_skip ?_)
          have hR5 : (bif !o then (t, (3 : Int)) else bif decide (c.kind = 4) then (bif decide (0 < x.names.length) then (t, 5) else (setP c.path Tr.zero true t, 0)) else (setP c.path (x.wMode c.off) false t, 0)) = r := by
            clear s; rw [← hR]; simp [c1, c4, c5]
          refine VS_region_lit ?_
          refine VL_run (d := 56) (run_move rfl (by conv => lhs; whnf)) rfl rfl ?_
          refine VL_run (d := 57) (run_not rfl rfl) rfl rfl ?_
          refine VL_nil ?_
          refine VS_cond rfl (fun c6 => ?_) (fun c6 => ?_) <;> (try simp only [decide_eq_true_eq, decide_eq_false_iff_not, Bool.not_eq_true', Bool.not_eq_false', ne_eq, Decidable.not_not, cond_true, cond_false, Bool.and_eq_true, Bool.or_eq_true, Bool.and_eq_false_iff, Bool.or_eq_false_iff, Bool.not_true, Bool.not_false, reduceCtorEq] at c6)
          · repeat (refine VS_seq ?_)
            refine VS_region_lit ?_
            refine VL_run (d := 58) (run_load_ownA (cs := [_, _, _, _, _]) s rfl ty26 rfl (i := 3) rfl rfl rfl) rfl rfl ?_
            (refine VL_doesU (does_store s rfl ty26 rfl rfl (i := 1) rfl rfl rfl (by (intro u hu; simp only [List.mem_cons, List.not_mem_nil, or_false] at hu; rcases hu with rfl | rfl | rfl | rfl | rfl <;> rfl)) rfl ?_) rfl rfl rfl)
            clear s; intro w s
            try simp only [List.set_cons_zero, List.set_cons_succ, patch, List.take_succ_cons, List.take_zero, List.drop_succ_cons, List.drop_zero, List.drop_nil, List.nil_append, List.cons_append, List.append_nil, List.length_cons, List.length_nil, Nat.reduceAdd, Nat.zero_add] at s
            refine VL_run (d := 5) (run_assign rfl (by conv => lhs; whnf)) rfl rfl ?_
            refine VL_nil ?_
            refine VS_ret ?_
            repeat (first | refine blockV_ret ?_ | refine backV_ret ?_ | refine backV2_ret ?_ | refine backV3_ret ?_ | refine thenV_ret ?_ | refine metV2_ret ?_)
            (refine fin_two (fn := Try.f87) rfl (res_ownA (cs := [_, _, _, _, _]) s ty26 rfl (i := 1) rfl rfl rfl) (res_tmp (by conv => lhs; whnf)) ?_)
            obtain rfl : (t, (3 : Int)) = r := by clear s; rw [← hR5]; simp [c6]
            exact ⟨_, rfl, s.tell (Tr.shut' (s.dat (i := 2) rfl) (s.dat (i := 3) rfl)), s.below⟩
          · repeat (first | refine VS_seq ?_ | refine VS_skip ?_)
            refine VS_region_lit ?_
            refine VL_run (d := 59) (run_fieldAddr rfl fo70_0 rfl) rfl rfl ?_
            refine VL_run (d := 60) (run_load_own1 s rfl ty3 rfl (i := 2) rfl rfl) rfl rfl ?_
            refine VL_run (d := 61) (run_eqI rfl rfl rfl) rfl rfl ?_
            refine VL_nil ?_
            refine VS_cond rfl (fun c7 => ?_) (fun c7 => ?_) <;> (try simp only [decide_eq_true_eq, decide_eq_false_iff_not, Bool.not_eq_true', Bool.not_eq_false', ne_eq, Decidable.not_not, cond_true, cond_false, Bool.and_eq_true, Bool.or_eq_true, Bool.and_eq_false_iff, Bool.or_eq_false_iff, Bool.not_true, Bool.not_false, reduceCtorEq] at c7)
            · repeat (refine VS_seq ?_)
              refine VS_region_lit ?_
              refine VL_run (d := 62) (run_fieldAddr rfl fo26_3 rfl) rfl rfl ?_
              refine VL_run (d := 63) (run_load_own1 s rfl ty23 rfl (i := 0) rfl rfl) rfl rfl ?_
              refine VL_run (d := 64) (run_lenSlice rfl ⟨_, Try.underlying23⟩ rfl) rfl rfl ?_
              refine VL_run (d := 65) (run_gtI rfl rfl rfl) rfl rfl ?_
              refine VL_nil ?_
              refine VS_cond rfl (fun c8 => ?_) (fun c8 => ?_) <;> (try simp only [decide_eq_true_eq, decide_eq_false_iff_not, Bool.not_eq_true', Bool.not_eq_false', ne_eq, Decidable.not_not, cond_true, cond_false, Bool.and_eq_true, Bool.or_eq_true, Bool.and_eq_false_iff, Bool.or_eq_false_iff, Bool.not_true, Bool.not_false, reduceCtorEq] at c8)
              · repeat (refine VS_seq ?_)
                refine VS_region_lit ?_
                refine VL_run (d := 66) (run_load_ownA (cs := [_, _, _, _, _]) s rfl ty26 rfl (i := 3) rfl rfl rfl) rfl rfl ?_
                (refine VL_doesU (does_store s rfl ty26 rfl rfl (i := 1) rfl rfl rfl (by (intro u hu; simp only [List.mem_cons, List.not_mem_nil, or_false] at hu; rcases hu with rfl | rfl | rfl | rfl | rfl <;> rfl)) rfl ?_) rfl rfl rfl)
                clear s; intro w s
                try simp only [List.set_cons_zero, List.set_cons_succ, patch, List.take_succ_cons, List.take_zero, List.drop_succ_cons, List.drop_zero, List.drop_nil, List.nil_append, List.cons_append, List.append_nil, List.length_cons, List.length_nil, Nat.reduceAdd, Nat.zero_add] at s
                refine VL_run (d := 5) (run_assign rfl (by conv => lhs; whnf)) rfl rfl ?_
                refine VL_nil ?_
                refine VS_ret ?_
                repeat (first | refine blockV_ret ?_ | refine backV_ret ?_ | refine backV2_ret ?_ | refine backV3_ret ?_ | refine thenV_ret ?_ | refine metV2_ret ?_)
                (refine fin_two (fn := Try.f87) rfl (res_ownA (cs := [_, _, _, _, _]) s ty26 rfl (i := 1) rfl rfl rfl) (res_tmp (by conv => lhs; whnf)) ?_)
                obtain rfl : (t, (5 : Int)) = r := by clear s; rw [← hR5]; simp [c6, c7, show 0 < x.names.length by omega]
                exact ⟨_, rfl, s.tell (Tr.shut' (s.dat (i := 2) rfl) (s.dat (i := 3) rfl)), s.below⟩
              · repeat (first | refine VS_seq ?_ | refine VS_skip ?_)
                refine VS_region_lit ?_
                refine VL_run (d := 67) (run_load_ownA (cs := [_, _, _, _, _]) s rfl ty26 rfl (i := 3) rfl rfl rfl) rfl rfl ?_
                refine VL_run (d := 68) (run_fieldAddr rfl fo70_1 rfl) rfl rfl ?_
                refine VL_run (d := 69) (run_load_own1 s rfl ty23 rfl (i := 2) rfl rfl) rfl rfl ?_
                refine VL_run (d := 70) (run_build (cs := [.bool false, .int .i64 0, .string ⟨#[]⟩, .slice none 0 0, .slice none 0 0]) rfl ty26 st26 rfl) rfl rfl ?_
                refine VL_does (d := 71) (does_call4 rfl (by kernel_rfl) rfl rfl rfl rfl (l2Set_ok _ c.path rfl hp2 t Tr.zero true (Tr.shut' (s.dat (i := 2) rfl) (s.dat (i := 3) rfl)) (s.dat (i := 4) rfl) Tr.zero_rd hfit he (by omega)) ?_) rfl rfl
                rintro v71 w1 ⟨cs', rfl, hr, hb⟩
                replace s := s.ret hb hr; clear hb hr
                obtain ⟨E5, e5, E6, e6, rfl, -, -, -, -⟩ := Tr.opn (s.dat (i := 0) rfl)
                (refine VL_doesU (does_store s rfl ty26 rfl rfl (i := 1) rfl rfl rfl (by (intro u hu; simp only [List.mem_cons, List.not_mem_nil, or_false] at hu; rcases hu with rfl | rfl | rfl | rfl | rfl <;> rfl)) rfl ?_) rfl rfl rfl)
                clear s; intro w s
                try simp only [List.set_cons_zero, List.set_cons_succ, patch, List.take_succ_cons, List.take_zero, List.drop_succ_cons, List.drop_zero, List.drop_nil, List.nil_append, List.cons_append, List.append_nil, List.length_cons, List.length_nil, Nat.reduceAdd, Nat.zero_add] at s
                refine VL_run (d := 5) (run_assign rfl (by conv => lhs; whnf)) rfl rfl ?_
                refine VL_nil ?_
                refine VS_ret ?_
                repeat (first | refine blockV_ret ?_ | refine backV_ret ?_ | refine backV2_ret ?_ | refine backV3_ret ?_ | refine thenV_ret ?_ | refine metV2_ret ?_)
                (refine fin_two (fn := Try.f87) rfl (res_ownA (cs := [_, _, _, _, _]) s ty26 rfl (i := 1) rfl rfl rfl) (res_tmp (by conv => lhs; whnf)) ?_)
                obtain rfl : (setP c.path Tr.zero true t, (0 : Int)) = r := by clear s; rw [← hR5]; simp [c6, c7, show ¬ 0 < x.names.length by omega]
                exact ⟨_, rfl, s.tell (s.dat (i := 0) rfl), s.below⟩
            · repeat (first | refine VS_seq ?_ | refine VS_skip ?_)
              refine VS_region_lit ?_
              refine VL_run (d := 72) (run_fieldAddr rfl fo70_3 rfl) rfl rfl ?_
              refine VL_run (d := 73) (run_load_own1 s rfl ty3 rfl (i := 2) rfl rfl) rfl rfl ?_
              refine VL_run (d := 74) (run_fieldAddr rfl fo26_1 rfl) rfl rfl ?_
              (refine VL_doesU (does_store s rfl ty3 rfl rfl (i := 0) rfl rfl rfl (by (intro u hu; simp only [List.mem_cons, List.not_mem_nil, or_false] at hu; subst hu; rfl)) rfl ?_) rfl rfl rfl)
              clear s; intro w s
              try simp only [List.set_cons_zero, List.set_cons_succ, patch, List.take_succ_cons, List.take_zero, List.drop_succ_cons, List.drop_zero, List.drop_nil, List.nil_append, List.cons_append, List.append_nil, List.length_cons, List.length_nil, Nat.reduceAdd, Nat.zero_add] at s
              refine VL_nil ?_
              repeat (refine VS_seq ?_)
              refine VS_region_lit ?_
              refine VL_run (d := 75) (run_load_ownA (cs := [_, _, _, _, _]) s rfl ty26 rfl (i := 3) rfl rfl rfl) rfl rfl ?_
              refine VL_run (d := 76) (run_fieldAddr rfl fo70_1 rfl) rfl rfl ?_
              refine VL_run (d := 77) (run_load_own1 s rfl ty23 rfl (i := 2) rfl rfl) rfl rfl ?_
              refine VL_run (d := 78) (run_load_ownA (cs := [_, _, _, _, _]) s rfl ty26 rfl (i := 0) rfl rfl rfl) rfl rfl ?_
              refine VL_does (d := 79) (does_call4 rfl (by kernel_rfl) rfl rfl rfl rfl (l2Set_ok _ c.path rfl hp2 t (x.wMode c.off) false (Tr.shut' (s.dat (i := 2) rfl) (s.dat (i := 3) rfl)) (s.dat (i := 4) rfl) (Tr.shut (s.dat (i := 1) rfl) (s.dat (i := 0) rfl)) hfit he (by omega)) ?_) rfl rfl
              rintro v79 w1 ⟨cs', rfl, hr, hb⟩
              replace s := s.ret hb hr; clear hb hr
              obtain ⟨E5, e5, E6, e6, rfl, -, -, -, -⟩ := Tr.opn (s.dat (i := 0) rfl)
              (refine VL_doesU (does_store s rfl ty26 rfl rfl (i := 1) rfl rfl rfl (by (intro u hu; simp only [List.mem_cons, List.not_mem_nil, or_false] at hu; rcases hu with rfl | rfl | rfl | rfl | rfl <;> rfl)) rfl ?_) rfl rfl rfl)
              clear s; intro w s
              try simp only [List.set_cons_zero, List.set_cons_succ, patch, List.take_succ_cons, List.take_zero, List.drop_succ_cons, List.drop_zero, List.drop_nil, List.nil_append, List.cons_append, List.append_nil, List.length_cons, List.length_nil, Nat.reduceAdd, Nat.zero_add] at s
              refine VL_run (d := 5) (run_assign rfl (by conv => lhs; whnf)) rfl rfl ?_
              refine VL_nil ?_
              refine VS_ret ?_
              repeat (first | refine blockV_ret ?_ | refine backV_ret ?_ | refine backV2_ret ?_ | refine backV3_ret ?_ | refine thenV_ret ?_ | refine metV2_ret ?_)
              (refine fin_two (fn := Try.f87) rfl (res_ownA (cs := [_, _, _, _, _]) s ty26 rfl (i := 1) rfl rfl rfl) (res_tmp (by conv => lhs; whnf)) ?_)
              obtain rfl : (setP c.path (x.wMode c.off) false t, (0 : Int)) = r := by clear s; rw [← hR5]; simp [c6, c7]
              exact ⟨_, rfl, s.tell (s.dat (i := 0) rfl), s.below⟩
def treeDoR (t : Tr) (c : Cl) : Tr × Int := bif !t.ok then (Tr.zero, 1) else bif !c.ok then (t, 2) else doR t c
theorem fitsT_fit {x t : Tr} (ht : t.wt ≤ 1000) (he : t.Even) (hx : x.Even) : (fitsT x t).1.wt ≤ 1000 ∧ (fitsT x t).1.Even := by
  unfold fitsT
  cases h : x.ok with
  | true => exact ⟨Tr.ok_wt h, hx⟩
  | false => exact ⟨ht, he⟩
theorem doR_fit {t : Tr} {c : Cl} (ht : t.ok = true) (hp : namesWt c.path ≤ 24) : (doR t c).1.wt ≤ 2000000 ∧ (doR t c).1.Even := by
  have hw := Tr.ok_wt ht
  have he := Tr.ok_even ht
  have h0 : t.wt ≤ 2000000 := by omega
  have hz := Tr.zero_even
  have hm : ∀ y : Tr, y.Even → (setP c.path y false t).Even := fun y hy => setP_even _ _ _ _ hy he
  have hx := Tr.atD_even c.path he
  have hxw := Tr.atD_wt c.path t
  have hF : ∀ x : Tr, x.Even → (fitsT x t).1.wt ≤ 2000000 ∧ (fitsT x t).1.Even := fun x h => by
    have := fitsT_fit hw he h
    exact ⟨by omega, this.2⟩
  have hset : ∀ (x : Tr) (gone : Bool), x.Even → x.wt ≤ 1000 → (setP c.path x gone t).wt ≤ 2000000 ∧ (setP c.path x gone t).Even := by
    intro x gone h1 h2
    have h3 := setP_wt c.path x gone t
    have h4 : t.wt * (x.wt + namesWt c.path + 1) ≤ 1000 * 2000 := Nat.mul_le_mul hw (by omega)
    exact ⟨by omega, setP_even _ _ _ _ h1 he⟩
  unfold doR
  cases decide (parentC t c.path ≠ 0) with
  | true => exact ⟨h0, he⟩
  | false =>
    simp only [cond_false]
    cases decide (c.kind = 1) with
    | true =>
      simp only [cond_true]
      cases (Tr.at c.path t).isSome with
      | true => exact ⟨h0, he⟩
      | false => exact hF _ (hm _ (by simp [Tr.Even, Tr.Evens]))
    | false =>
      simp only [cond_false]
      cases (decide (c.kind = 2) || decide (c.kind = 3)) with
      | true =>
        simp only [cond_true, fileR]
        cases ((Tr.at c.path t).isSome && ((Tr.at c.path t).getD Tr.zero).dir) with
        | true => exact ⟨h0, he⟩
        | false =>
          simp only [cond_false]
          cases (!(Tr.at c.path t).isSome && decide (c.kind = 3)) with
          | true => exact ⟨h0, he⟩
          | false =>
            simp only [cond_false]
            cases decide (c.kind = 3) with
            | true => exact hF _ (hm _ (Tr.wData_even hx _))
            | false =>
              simp only [cond_false]
              cases decide (24 < (c.data.size : Int) + c.off) with
              | true => exact ⟨h0, he⟩
              | false => exact hF _ (hm _ (Tr.wData_even hx _))
      | false =>
        simp only [cond_false]
        cases decide (c.kind = 5) with
        | true =>
          simp only [cond_true, renameR]
          cases (!(Tr.at c.path t).isSome) with
          | true => exact ⟨h0, he⟩
          | false =>
            simp only [cond_false]
            cases decide (c.path <+: c.to) with
            | true => exact ⟨h0, he⟩
            | false =>
              simp only [cond_false]
              cases decide (parentC t c.to ≠ 0) with
              | true => exact ⟨h0, he⟩
              | false =>
                simp only [cond_false]
                cases (Tr.at c.to t).isSome with
                | true => exact ⟨h0, he⟩
                | false => exact hF _ (setP_even _ _ _ _ hx (setP_even _ _ _ _ hz he))
        | false =>
          simp only [cond_false]
          cases (!(Tr.at c.path t).isSome) with
          | true => exact ⟨h0, he⟩
          | false =>
            simp only [cond_false]
            cases decide (c.kind = 4) with
            | true =>
              simp only [cond_true]
              cases decide (0 < ((Tr.at c.path t).getD Tr.zero).names.length) with
              | true => exact ⟨h0, he⟩
              | false => exact hset _ _ hz (by have := Tr.zero_wt; omega)
            | false => exact hset _ _ (Tr.wMode_even hx _) (by rw [Tr.wMode_wt]; omega)
theorem TreeDo_ok (t : Tr) (c : Cl) {ok : Nat → Prop} {w0 : World} {cs cc : List Value} (h : Rd ok w0 t.toD cs) (h2 : Rd ok w0 c.toD cc) (ht : t.Fit) (hc : c.Fit) :
    Calls Try.prog 36 #[.agg cs.toArray, .agg cc.toArray] w0 (Ret fun v w' => ∃ cs', v = .tuple #[.agg cs'.toArray, .int .i64 (treeDoR t c).2] ∧ Rd (okR ok w0) w' (treeDoR t c).1.toD cs' ∧ Below w0.heap.size w0 w') := by
  obtain ⟨A3, n3, A4, n4, rfl, hl3, hl4, h3, h4⟩ := Tr.opn h
  obtain ⟨A1, k1, A2, k2, rfl, hl1, hl2, h5, h6⟩ := Cl.opn h2
  have s := ((((St.start ok w0).begin h6).begin h5).begin h4).begin h3
  generalize hR : treeDoR t c = r
  unfold treeDoR at hR
  refine calls_enter (n := 26) Try.func36 rfl rfl rfl ?_
  repeat (refine VS_seq ?_)
  refine VS_region_lit ?_
  refine VL_does (d := 2) (does_box s rfl rfl rfl ?_) rfl rfl
  clear s; intro b2 w s
  refine VL_does (d := 3) (does_box s rfl rfl rfl ?_) rfl rfl
  clear s; intro b3 w s
  refine VL_does (d := 4) (does_alloc s rfl ty26 rfl ?_) rfl rfl
  clear s; intro b4 w s
  refine VL_run (d := 5) (run_assign rfl (by conv => lhs; whnf)) rfl rfl ?_
  refine VL_nil ?_
  repeat (refine VS_seq ?_)
  refine VS_region_lit ?_
  refine VL_run (d := 8) (run_load_ownA (cs := [_, _, _, _, _]) s rfl ty26 rfl (i := 2) rfl rfl rfl) rfl rfl ?_
  refine VL_does (d := 9) (does_call1 rfl (by kernel_rfl) rfl (TreeOk_ok t (Tr.shut' (s.dat (i := 0) rfl) (s.dat (i := 1) rfl)) ht) ?_) rfl rfl
  rintro _ w ⟨rfl, hb⟩
  replace s := s.step hb
  clear hb
  refine VL_run (d := 10) (run_not rfl rfl) rfl rfl ?_
  refine VL_nil ?_
  refine VS_cond rfl (fun c0 => ?_) (fun c0 => ?_) <;> (try simp only [decide_eq_true_eq, decide_eq_false_iff_not, Bool.not_eq_true', Bool.not_eq_false', ne_eq, Decidable.not_not, cond_true, cond_false, Bool.and_eq_true, Bool.or_eq_true, Bool.and_eq_false_iff, Bool.or_eq_false_iff, Bool.not_true, Bool.not_false, reduceCtorEq] at c0)
  · repeat (refine VS_seq ?_)
    refine VS_region_lit ?_
    refine VL_run (d := 11) (run_build (cs := [.bool false, .int .i64 0, .string ⟨#[]⟩, .slice none 0 0, .slice none 0 0]) rfl ty26 st26 rfl) rfl rfl ?_
    (refine VL_doesU (does_store s rfl ty26 rfl rfl (i := 0) rfl rfl rfl (by (intro u hu; simp only [List.mem_cons, List.not_mem_nil, or_false] at hu; rcases hu with rfl | rfl | rfl | rfl | rfl <;> rfl)) rfl ?_) rfl rfl rfl)
    clear s; intro w s
    try simp only [List.set_cons_zero, List.set_cons_succ, patch, List.take_succ_cons, List.take_zero, List.drop_succ_cons, List.drop_zero, List.drop_nil, List.nil_append, List.cons_append, List.append_nil, List.length_cons, List.length_nil, Nat.reduceAdd, Nat.zero_add] at s
    refine VL_run (d := 5) (run_assign rfl (by conv => lhs; whnf)) rfl rfl ?_
    refine VL_nil ?_
    refine VS_ret ?_
    repeat (first | refine blockV_ret ?_ | refine backV_ret ?_ | refine backV2_ret ?_ | refine backV3_ret ?_ | refine thenV_ret ?_ | refine metV2_ret ?_)
    (refine fin_two (fn := Try.f36) rfl (res_ownA (cs := [_, _, _, _, _]) s ty26 rfl (i := 0) rfl rfl rfl) (res_tmp (by conv => lhs; whnf)) ?_)
    obtain rfl : (Tr.zero, (1 : Int)) = r := by clear s; rw [← hR]; simp [c0]
    exact ⟨_, rfl, s.tell Tr.zero_rd, s.below⟩
  · repeat (first | refine VS_seq ?_ | refine VS_skip ?_)
    refine VS_region_lit ?_
    refine VL_run (d := 12) (run_load_ownA (cs := [_, _, _, _, _]) s rfl ty70 rfl (i := 1) rfl rfl rfl) rfl rfl ?_
    refine VL_does (d := 13) (does_call1 rfl (by kernel_rfl) rfl (l2CallOk_ok c (Cl.shut (s.dat (i := 2) rfl) (s.dat (i := 3) rfl)) hc) ?_) rfl rfl
    rintro _ w ⟨rfl, hb⟩
    replace s := s.step hb
    clear hb
    refine VL_run (d := 14) (run_not rfl rfl) rfl rfl ?_
    refine VL_nil ?_
    refine VS_cond rfl (fun c1 => ?_) (fun c1 => ?_) <;> (try simp only [decide_eq_true_eq, decide_eq_false_iff_not, Bool.not_eq_true', Bool.not_eq_false', ne_eq, Decidable.not_not, cond_true, cond_false, Bool.and_eq_true, Bool.or_eq_true, Bool.and_eq_false_iff, Bool.or_eq_false_iff, Bool.not_true, Bool.not_false, reduceCtorEq] at c1)
    · repeat (refine VS_seq ?_)
      refine VS_region_lit ?_
      refine VL_run (d := 15) (run_load_ownA (cs := [_, _, _, _, _]) s rfl ty26 rfl (i := 2) rfl rfl rfl) rfl rfl ?_
      refine VL_does (d := 16) (does_call1 rfl (by kernel_rfl) rfl (l1Copy_ok t (Tr.shut' (s.dat (i := 0) rfl) (s.dat (i := 1) rfl)) ht) ?_) rfl rfl
      rintro v16 w1 ⟨cs', rfl, hr, hb⟩
      replace s := s.ret hb hr; clear hb hr
      obtain ⟨E5, e5, E6, e6, rfl, -, -, -, -⟩ := Tr.opn (s.dat (i := 0) rfl)
      (refine VL_doesU (does_store s rfl ty26 rfl rfl (i := 0) rfl rfl rfl (by (intro u hu; simp only [List.mem_cons, List.not_mem_nil, or_false] at hu; rcases hu with rfl | rfl | rfl | rfl | rfl <;> rfl)) rfl ?_) rfl rfl rfl)
      clear s; intro w s
      try simp only [List.set_cons_zero, List.set_cons_succ, patch, List.take_succ_cons, List.take_zero, List.drop_succ_cons, List.drop_zero, List.drop_nil, List.nil_append, List.cons_append, List.append_nil, List.length_cons, List.length_nil, Nat.reduceAdd, Nat.zero_add] at s
      refine VL_run (d := 5) (run_assign rfl (by conv => lhs; whnf)) rfl rfl ?_
      refine VL_nil ?_
      refine VS_ret ?_
      repeat (first | refine blockV_ret ?_ | refine backV_ret ?_ | refine backV2_ret ?_ | refine backV3_ret ?_ | refine thenV_ret ?_ | refine metV2_ret ?_)
      (refine fin_two (fn := Try.f36) rfl (res_ownA (cs := [_, _, _, _, _]) s ty26 rfl (i := 0) rfl rfl rfl) (res_tmp (by conv => lhs; whnf)) ?_)
      obtain rfl : (t, (2 : Int)) = r := by clear s; rw [← hR]; simp [c0, c1]
      exact ⟨_, rfl, s.tell (s.dat (i := 0) rfl), s.below⟩
    · repeat (first | refine VS_seq ?_ | refine VS_skip ?_)
      refine VS_region_lit ?_
      refine VL_run (d := 18) (run_load_ownA (cs := [_, _, _, _, _]) s rfl ty26 rfl (i := 2) rfl rfl rfl) rfl rfl ?_
      refine VL_run (d := 19) (run_load_ownA (cs := [_, _, _, _, _]) s rfl ty70 rfl (i := 1) rfl rfl rfl) rfl rfl ?_
      refine VL_does (d := 20) (does_call2 rfl (by kernel_rfl) rfl rfl (l2Do_ok t c (Tr.shut' (s.dat (i := 0) rfl) (s.dat (i := 1) rfl)) (Cl.shut (s.dat (i := 2) rfl) (s.dat (i := 3) rfl)) (Tr.ok_wt c0) (Tr.ok_even c0) hc c1) ?_) rfl rfl
      rintro v20 w1 ⟨cs', rfl, hr, hb⟩
      replace s := s.ret hb hr; clear hb hr
      obtain ⟨B3, d3, B4, d4, rfl, -, -, -, -⟩ := Tr.opn (s.dat (i := 0) rfl)
      refine VL_run (d := 17) (run_move rfl (by conv => lhs; whnf)) rfl rfl ?_
      refine VL_run (d := 21) (run_extract rfl rfl rfl) rfl rfl ?_
      refine VL_run (d := 22) (run_extract rfl rfl rfl) rfl rfl ?_
      refine VL_does (d := 6) (does_alloc s rfl ty26 rfl ?_) rfl rfl
      clear s; intro b6 w s
      (refine VL_doesU (does_store s rfl ty26 rfl rfl (i := 0) rfl rfl rfl (by (intro u hu; simp only [List.mem_cons, List.not_mem_nil, or_false] at hu; rcases hu with rfl | rfl | rfl | rfl | rfl <;> rfl)) rfl ?_) rfl rfl rfl)
      clear s; intro w s
      try simp only [List.set_cons_zero, List.set_cons_succ, patch, List.take_succ_cons, List.take_zero, List.drop_succ_cons, List.drop_zero, List.drop_nil, List.nil_append, List.cons_append, List.append_nil, List.length_cons, List.length_nil, Nat.reduceAdd, Nat.zero_add] at s
      refine VL_run (d := 7) (run_assign rfl (by conv => lhs; whnf)) rfl rfl ?_
      refine VL_nil ?_
      repeat (refine VS_seq ?_)
      obtain rfl : doR t c = r := by clear s; rw [← hR]; simp [c0, c1]
      have hfit : (doR t c).1.Fit := by
        have := doR_fit c0 (pathOk_wt (Cl.ok_path c1)).1 (c := c)
        unfold Tr.Fit
        omega
      refine VS_region_lit ?_
      refine VL_run (d := 23) (run_load_ownA (cs := [_, _, _, _, _]) s rfl ty26 rfl (i := 0) rfl rfl rfl) rfl rfl ?_
      refine VL_does (d := 24) (does_call1 rfl (by kernel_rfl) rfl (l1Copy_ok _ (s.dat (i := 0) rfl) hfit) ?_) rfl rfl
      rintro v24 w1 ⟨cs', rfl, hr, hb⟩
      replace s := s.ret hb hr; clear hb hr
      obtain ⟨E5, e5, E6, e6, rfl, -, -, -, -⟩ := Tr.opn (s.dat (i := 0) rfl)
      refine VL_run (d := 25) (run_move rfl (by conv => lhs; whnf)) rfl rfl ?_
      (refine VL_doesU (does_store s rfl ty26 rfl rfl (i := 1) rfl rfl rfl (by (intro u hu; simp only [List.mem_cons, List.not_mem_nil, or_false] at hu; rcases hu with rfl | rfl | rfl | rfl | rfl <;> rfl)) rfl ?_) rfl rfl rfl)
      clear s; intro w s
      try simp only [List.set_cons_zero, List.set_cons_succ, patch, List.take_succ_cons, List.take_zero, List.drop_succ_cons, List.drop_zero, List.drop_nil, List.nil_append, List.cons_append, List.append_nil, List.length_cons, List.length_nil, Nat.reduceAdd, Nat.zero_add] at s
      refine VL_run (d := 5) (run_assign rfl (by conv => lhs; whnf)) rfl rfl ?_
      refine VL_nil ?_
      refine VS_ret ?_
      repeat (first | refine blockV_ret ?_ | refine backV_ret ?_ | refine backV2_ret ?_ | refine backV3_ret ?_ | refine thenV_ret ?_ | refine metV2_ret ?_)
      (refine fin_two (fn := Try.f36) rfl (res_ownA (cs := [_, _, _, _, _]) s ty26 rfl (i := 1) rfl rfl rfl) (res_tmp (by conv => lhs; whnf)) ?_)
      exact ⟨_, rfl, s.tell (s.dat (i := 0) rfl), s.below⟩
theorem treeDoR_fit (t : Tr) (c : Cl) (ht : t.Fit) (he : t.Even) : (treeDoR t c).1.Fit ∧ (treeDoR t c).1.Even := by
  unfold treeDoR
  cases h : t.ok with
  | false => exact ⟨by simp [Tr.Fit, Tr.zero_wt], Tr.zero_even⟩
  | true =>
    cases hc : c.ok with
    | false => exact ⟨ht, he⟩
    | true =>
      have := doR_fit (c := c) h (pathOk_wt (Cl.ok_path hc)).1
      refine ⟨?_, this.2⟩
      simp only [Bool.not_true, cond_false]
      unfold Tr.Fit
      omega
end Go.Proofs.Ytkefaelmamgjiaa
