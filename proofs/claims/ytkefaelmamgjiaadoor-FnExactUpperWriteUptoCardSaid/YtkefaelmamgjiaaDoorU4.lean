/- impl: UpperWrite. -/
import Derived.Test.YtkefaelmamgjiaaDoorI2
import Derived.Test.YtkefaelmamgjiaaDoorU2
set_option linter.unusedVariables false
set_option linter.unusedSimpArgs false
set_option maxHeartbeats 4000000
namespace Go.Proofs.YtkefaelmamgjiaaDoor
open Go.RowKit

theorem flat_len {α : Type} (f : α → List UInt8) (g : α → Nat) (c : Nat) (h : ∀ x, (f x).length ≤ c * (1 + g x)) : ∀ l : List α, (l.flatMap f).length ≤ c * (l.length + (l.map g).sum)
  | [] => by simp
  | x :: l => by
    have h1 := flat_len f g c h l
    have h2 := h x
    have e : c * ((x :: l).length + ((x :: l).map g).sum) = c * (1 + g x) + c * (l.length + (l.map g).sum) := by
      rw [← Nat.mul_add]
      congr 1
      simp only [List.length_cons, List.map_cons, List.sum_cons]
      omega
    rw [e, List.flatMap_cons, List.length_append]
    omega
theorem flat_take_le {α : Type} (f : α → List UInt8) (l : List α) (k : Nat) : ((l.take k).flatMap f).length ≤ (l.flatMap f).length := by
  have : l.flatMap f = (l.take k).flatMap f ++ (l.drop k).flatMap f := by rw [← List.flatMap_append, List.take_append_drop]
  rw [this, List.length_append]
  omega
theorem upL_len (u : Up) : (u.gone.flatMap hideL).length + (u.puts.flatMap putL).length ≤ 12 * u.wt := by
  have h1 := flat_len hideL namesWt 7 (fun x => by have := hideL_len x; omega) u.gone
  have h2 := flat_len putL En.wt 12 (fun x => by have := putL_len x; omega) u.puts
  have hw : u.wt = (u.gone.length + (u.gone.map namesWt).sum) + (u.puts.length + (u.puts.map En.wt).sum) := rfl
  omega
def rootB (e : En) : Bool := e.path.isEmpty && decide (e.what = 2) && e.dir && inI e.mode 0 7 && decide (e.data = ⟨#[]⟩)
theorem UpperWrite_ok (u : Up) {ok : Nat → Prop} {w0 : World} {cs : List Value} (h1 : Rd ok w0 u.toD cs) (hp0 : u.wt ≤ 1000000000) :
    Calls Tryd.prog 7 #[.agg cs.toArray] w0 (Ret fun v w' => v = .string (upT u) ∧ Below w0.heap.size w0 w') := by
  obtain ⟨A, c, B, d, rfl, hl, hl2, hpa, hpb⟩ := Up.opn h1
  have hw : u.wt = (u.gone.length + (u.gone.map namesWt).sum) + (u.puts.length + (u.puts.map En.wt).sum) := rfl
  have hul := upL_len u
  clear h1
  have s := ((St.start ok w0).begin hpb).begin hpa
  refine calls_enter (n := 88) Tryd.func7 rfl rfl rfl ?_
  repeat (first | refine VS_seq ?_ | refine VS_block ?_ | refine VS_skip ?_ | refine VS_nil_block ?_)
  refine VS_region_lit ?_
  refine VL_does (d := 1) (does_box s rfl rfl rfl ?_) rfl rfl
  clear s; intro b1 w s
  refine VL_run (d := 2) (run_assign rfl (by conv => lhs; whnf)) rfl rfl ?_
  refine VL_nil ?_
  repeat (first | refine VS_seq ?_ | refine VS_block ?_ | refine VS_skip ?_ | refine VS_nil_block ?_)
  refine VS_region_lit ?_
  refine VL_run (d := 9) (run_build (cs := [.pointer none, .slice none 0 0]) rfl ty52 st52 rfl) rfl rfl ?_
  refine VL_does (d := 10) (does_box s rfl rfl rfl ?_) rfl rfl
  clear s; intro b10 w s
  refine VL_run (d := 3) (run_assign rfl (by conv => lhs; whnf)) rfl rfl ?_
  refine VL_nil ?_
  have s := s.more (x := BldR (.slice none 0 0) []) (Below.refl _ _) (BldR.mk (World.ownsRow_nil w _ _ _)) (fun b hb => by simp [BldR, It.has, Value.ownBlock] at hb)
  have s := s.front 1 rfl
  repeat (first | refine VS_seq ?_ | refine VS_block ?_ | refine VS_skip ?_ | refine VS_nil_block ?_)
  refine VS_region_lit ?_
  refine VL_run (d := 11) (run_fieldAddr rfl fo30_0 rfl) rfl rfl ?_
  first | (refine VL_run (d := 12) (run_load_own1 s rfl ty22 rfl (i := 0) rfl rfl) rfl rfl ?_) | (refine VL_run (d := 12) (run_load_own1 s rfl ty22 rfl (i := 1) rfl rfl) rfl rfl ?_) | (refine VL_run (d := 12) (run_load_own1 s rfl ty22 rfl (i := 2) rfl rfl) rfl rfl ?_) | (refine VL_run (d := 12) (run_load_own1 s rfl ty22 rfl (i := 3) rfl rfl) rfl rfl ?_) | (refine VL_run (d := 12) (run_load_own1 s rfl ty22 rfl (i := 4) rfl rfl) rfl rfl ?_) | (refine VL_run (d := 12) (run_load_own1 s rfl ty22 rfl (i := 5) rfl rfl) rfl rfl ?_) | (refine VL_run (d := 12) (run_load_own1 s rfl ty22 rfl (i := 6) rfl rfl) rfl rfl ?_) | (refine VL_run (d := 12) (run_load_own1 s rfl ty22 rfl (i := 7) rfl rfl) rfl rfl ?_) | (refine VL_run (d := 12) (run_load_own1 s rfl ty22 rfl (i := 8) rfl rfl) rfl rfl ?_) | (refine VL_run (d := 12) (run_load_at1 s rfl ty22 rfl (i := 0) rfl rfl) rfl rfl ?_) | (refine VL_run (d := 12) (run_load_at1 s rfl ty22 rfl (i := 1) rfl rfl) rfl rfl ?_) | (refine VL_run (d := 12) (run_load_at1 s rfl ty22 rfl (i := 2) rfl rfl) rfl rfl ?_) | (refine VL_run (d := 12) (run_load_at1 s rfl ty22 rfl (i := 3) rfl rfl) rfl rfl ?_) | (refine VL_run (d := 12) (run_load_at1 s rfl ty22 rfl (i := 4) rfl rfl) rfl rfl ?_) | (refine VL_run (d := 12) (run_load_at1 s rfl ty22 rfl (i := 5) rfl rfl) rfl rfl ?_) | (refine VL_run (d := 12) (run_load_at1 s rfl ty22 rfl (i := 6) rfl rfl) rfl rfl ?_) | (refine VL_run (d := 12) (run_load_at1 s rfl ty22 rfl (i := 7) rfl rfl) rfl rfl ?_) | (refine VL_run (d := 12) (run_load_at1 s rfl ty22 rfl (i := 8) rfl rfl) rfl rfl ?_) | (refine VL_run (d := 12) (run_load_at0 s rfl ty22 rfl (i := 0) rfl rfl) rfl rfl ?_) | (refine VL_run (d := 12) (run_load_at0 s rfl ty22 rfl (i := 1) rfl rfl) rfl rfl ?_) | (refine VL_run (d := 12) (run_load_at0 s rfl ty22 rfl (i := 2) rfl rfl) rfl rfl ?_) | (refine VL_run (d := 12) (run_load_at0 s rfl ty22 rfl (i := 3) rfl rfl) rfl rfl ?_) | (refine VL_run (d := 12) (run_load_at0 s rfl ty22 rfl (i := 4) rfl rfl) rfl rfl ?_) | (refine VL_run (d := 12) (run_load_at0 s rfl ty22 rfl (i := 5) rfl rfl) rfl rfl ?_) | (refine VL_run (d := 12) (run_load_at0 s rfl ty22 rfl (i := 6) rfl rfl) rfl rfl ?_) | (refine VL_run (d := 12) (run_load_at0 s rfl ty22 rfl (i := 7) rfl rfl) rfl rfl ?_) | (refine VL_run (d := 12) (run_load_at0 s rfl ty22 rfl (i := 8) rfl rfl) rfl rfl ?_)
  refine VL_run (d := 13) (run_lenSlice rfl ⟨_, Tryd.underlying22⟩ rfl) rfl rfl ?_
  refine VL_run (d := 14) (run_move rfl (by conv => lhs; whnf)) rfl rfl ?_
  refine VL_nil ?_
  repeat (first | refine VS_seq ?_ | refine VS_block ?_ | refine VS_skip ?_ | refine VS_nil_block ?_)
  refine VS_loop [2, 5, 14, 15, 16, 17, 18, 19, 20, 21, 22, 23, 24, 25, 26, 27] (fun k : Nat => [(14, .int .i64 k)]) (fun k w => k ≤ u.gone.length ∧ u.gone.all pathOk = (u.gone.drop k).all pathOk ∧ ∃ p v, (p = .pointer none ∨ p = .pointer (some ⟨b10, 0, none⟩)) ∧ St ok w0 [.blk b10 [p, v] 52, BldR v ((u.gone.take k).flatMap hideL), .blk b1 [.slice A u.gone.length c, .slice B u.puts.length d] 30] [.dat [.slice A u.gone.length c] (.sl (pathsD u.gone)), .dat [.slice B u.puts.length d] (.sl (entsD u.puts))] w) (fun k => u.gone.length - k) 0 ⟨by omega, rfl, _, _, .inl rfl, s⟩ (by repeat (first | exact Has.nil _ | refine Has.cons rfl ?_)) ?_
  clear s
  rintro k w j ⟨hk, hf, p, v, hp, s⟩
  repeat (first | refine VS_seq ?_ | refine VS_block ?_ | refine VS_skip ?_ | refine VS_nil_block ?_)
  refine VS_region_lit ?_
  refine VL_run (d := 15) (run_ltI rfl rfl rfl) rfl rfl ?_
  refine VL_nil ?_
  repeat (first | refine VS_seq ?_ | refine VS_block ?_ | refine VS_skip ?_ | refine VS_nil_block ?_)
  refine VS_cond rfl (fun c0 => ?_) (fun c0 => ?_) <;> (try simp only [decide_eq_true_eq, decide_eq_false_iff_not, Bool.not_eq_true', Bool.not_eq_false', ne_eq, Decidable.not_not, cond_true, cond_false, Bool.and_eq_true, Bool.or_eq_true, Bool.and_eq_false_iff, Bool.or_eq_false_iff, Bool.not_true, Bool.not_false, reduceCtorEq] at c0)
  · repeat (first | refine VS_seq ?_ | refine VS_block ?_ | refine VS_skip ?_ | refine VS_nil_block ?_)
    have hk' : k < u.gone.length := by omega
    have hx := sum_mem (f := namesWt) (List.getElem_mem hk')
    rw [all_drop _ hk'] at hf
    obtain ⟨ad, A5, c5, rfl, hl5, s⟩ := s.openP (i := 0) rfl k hk'
    refine VS_region_lit ?_
    refine VL_run (d := 16) (run_indexAddr rfl Tryd.underlying22 ty37 rfl rfl (by omega) (by omega)) rfl rfl ?_
    first | (refine VL_run (d := 17) (run_load_own1 s rfl ty37 rfl (i := 0) rfl rfl) rfl rfl ?_) | (refine VL_run (d := 17) (run_load_own1 s rfl ty37 rfl (i := 1) rfl rfl) rfl rfl ?_) | (refine VL_run (d := 17) (run_load_own1 s rfl ty37 rfl (i := 2) rfl rfl) rfl rfl ?_) | (refine VL_run (d := 17) (run_load_own1 s rfl ty37 rfl (i := 3) rfl rfl) rfl rfl ?_) | (refine VL_run (d := 17) (run_load_own1 s rfl ty37 rfl (i := 4) rfl rfl) rfl rfl ?_) | (refine VL_run (d := 17) (run_load_own1 s rfl ty37 rfl (i := 5) rfl rfl) rfl rfl ?_) | (refine VL_run (d := 17) (run_load_own1 s rfl ty37 rfl (i := 6) rfl rfl) rfl rfl ?_) | (refine VL_run (d := 17) (run_load_own1 s rfl ty37 rfl (i := 7) rfl rfl) rfl rfl ?_) | (refine VL_run (d := 17) (run_load_own1 s rfl ty37 rfl (i := 8) rfl rfl) rfl rfl ?_) | (refine VL_run (d := 17) (run_load_at1 s rfl ty37 rfl (i := 0) rfl rfl) rfl rfl ?_) | (refine VL_run (d := 17) (run_load_at1 s rfl ty37 rfl (i := 1) rfl rfl) rfl rfl ?_) | (refine VL_run (d := 17) (run_load_at1 s rfl ty37 rfl (i := 2) rfl rfl) rfl rfl ?_) | (refine VL_run (d := 17) (run_load_at1 s rfl ty37 rfl (i := 3) rfl rfl) rfl rfl ?_) | (refine VL_run (d := 17) (run_load_at1 s rfl ty37 rfl (i := 4) rfl rfl) rfl rfl ?_) | (refine VL_run (d := 17) (run_load_at1 s rfl ty37 rfl (i := 5) rfl rfl) rfl rfl ?_) | (refine VL_run (d := 17) (run_load_at1 s rfl ty37 rfl (i := 6) rfl rfl) rfl rfl ?_) | (refine VL_run (d := 17) (run_load_at1 s rfl ty37 rfl (i := 7) rfl rfl) rfl rfl ?_) | (refine VL_run (d := 17) (run_load_at1 s rfl ty37 rfl (i := 8) rfl rfl) rfl rfl ?_) | (refine VL_run (d := 17) (run_load_at0 s rfl ty37 rfl (i := 0) rfl rfl) rfl rfl ?_) | (refine VL_run (d := 17) (run_load_at0 s rfl ty37 rfl (i := 1) rfl rfl) rfl rfl ?_) | (refine VL_run (d := 17) (run_load_at0 s rfl ty37 rfl (i := 2) rfl rfl) rfl rfl ?_) | (refine VL_run (d := 17) (run_load_at0 s rfl ty37 rfl (i := 3) rfl rfl) rfl rfl ?_) | (refine VL_run (d := 17) (run_load_at0 s rfl ty37 rfl (i := 4) rfl rfl) rfl rfl ?_) | (refine VL_run (d := 17) (run_load_at0 s rfl ty37 rfl (i := 5) rfl rfl) rfl rfl ?_) | (refine VL_run (d := 17) (run_load_at0 s rfl ty37 rfl (i := 6) rfl rfl) rfl rfl ?_) | (refine VL_run (d := 17) (run_load_at0 s rfl ty37 rfl (i := 7) rfl rfl) rfl rfl ?_) | (refine VL_run (d := 17) (run_load_at0 s rfl ty37 rfl (i := 8) rfl rfl) rfl rfl ?_)
    refine VL_run (d := 5) (run_assign rfl (by conv => lhs; whnf)) rfl rfl ?_
    refine VL_nil ?_
    repeat (first | refine VS_seq ?_ | refine VS_block ?_ | refine VS_skip ?_ | refine VS_nil_block ?_)
    refine VS_region_lit ?_
    refine VL_run (d := 18) (run_move rfl (by conv => lhs; whnf)) rfl rfl ?_
    refine VL_does (d := 19) (does_call2 rfl (by kernel_rfl) rfl rfl (namesOk_ok _ 1 (s.dat (i := 1) rfl) (by unfold PFit; omega)) ?_) rfl rfl
    rintro _ w ⟨rfl, hb⟩
    replace s := s.step hb
    clear hb
    refine VL_run (d := 20) (run_not rfl rfl) rfl rfl ?_
    refine VL_nil ?_
    refine VS_cond rfl (fun c1 => ?_) (fun c1 => ?_) <;> (try simp only [decide_eq_true_eq, decide_eq_false_iff_not, Bool.not_eq_true', Bool.not_eq_false', ne_eq, Decidable.not_not, cond_true, cond_false, Bool.and_eq_true, Bool.or_eq_true, Bool.and_eq_false_iff, Bool.or_eq_false_iff, Bool.not_true, Bool.not_false, reduceCtorEq] at c1)
    · repeat (first | refine VS_seq ?_ | refine VS_block ?_ | refine VS_skip ?_ | refine VS_nil_block ?_)
      refine VS_region_lit ?_
      refine VL_run (d := 2) (run_assign rfl (by conv => lhs; whnf)) rfl rfl ?_
      refine VL_nil ?_
      refine VS_ret ?_
      repeat (first | refine blockV_ret ?_ | refine backV_ret ?_ | refine backV2_ret ?_ | refine backV3_ret ?_ | refine thenV_ret ?_ | refine metV2_ret ?_)
      refine fin_one (fn := Tryd.f7) rfl (res_tmp (by conv => lhs; whnf)) ?_
      have hpk : pathOk u.gone[k] = false := by
        have := namesOk_one u.gone[k]
        rw [c1] at this
        cases hg : u.gone[k] with
        | nil => rfl
        | cons x r => rw [hg] at this; simpa using this.symm
      exact ⟨by rw [hpk] at hf; simp [upT, upOk, hf], s.below⟩
    · repeat (first | refine VS_seq ?_ | refine VS_block ?_ | refine VS_skip ?_ | refine VS_nil_block ?_)
      have hz := pathT_size u.gone[k]
      have hpk : namesOkB u.gone[k] 1 = true := c1
      have hz1 := app_size ⟨#[104, 105, 100, 101, 32]⟩ (pathT u.gone[k])
      have hz3 := app_size (⟨#[104, 105, 100, 101, 32]⟩ ++ pathT u.gone[k]) ⟨#[10]⟩
      have x1 : (ByteArray.mk #[104, 105, 100, 101, 32]).size = 5 := rfl
      have x2 : (ByteArray.mk #[10]).size = 1 := rfl
      have hft := flat_take hideL hk'
      have hfl := flat_take_le hideL u.gone (k + 1)
      have hhl : (hideL u.gone[k]).length = (⟨#[104, 105, 100, 101, 32]⟩ ++ pathT u.gone[k] ++ ⟨#[10]⟩ : ByteArray).size := by
        rw [hz3, hz1, x1, x2]
        simp only [hideL, List.length_append, List.length_cons, List.length_nil, size_list]
      have hfl2 := congrArg List.length hft
      rw [List.length_append] at hfl2
      refine VS_region_lit ?_
      refine VL_run (d := 21) (run_move rfl (by conv => lhs; whnf)) rfl rfl ?_
      refine VL_run (d := 22) (run_move rfl (by conv => lhs; whnf)) rfl rfl ?_
      refine VL_does (d := 23) (does_call1 rfl (by kernel_rfl) rfl (pathText_ok _ (s.dat (i := 1) rfl) (by unfold PFit; omega)) ?_) rfl rfl
      rintro _ w ⟨rfl, hb⟩
      replace s := s.step hb
      clear hb
      refine VL_run (d := 24) (run_addS rfl rfl rfl (by omega)) rfl rfl ?_
      refine VL_run (d := 25) (run_addS rfl rfl rfl (by omega)) rfl rfl ?_
      refine VL_does (d := 26) (does_call2 rfl (by kernel_rfl) rfl rfl (WriteString_ok b10 p v _ _ (s.own _ (.head _)) hp (s.own _ (.tail _ (.head _))) s.bldNe (by omega)) ?_) rfl rfl
      rintro q w1 ⟨rfl, A9, n9, c9, g1, g2, g3, g4, g5⟩
      have s := s.wrote g1 g2 g3 g4 g5; clear g1 g2 g3 g4 g5
      refine VL_nil ?_
      repeat (first | refine VS_seq ?_ | refine VS_block ?_ | refine VS_skip ?_ | refine VS_nil_block ?_)
      refine VS_region_lit ?_
      refine VL_run (d := 27) (run_add rfl rfl rfl (by omega)) rfl rfl ?_
      refine VL_run (d := 14) (run_move rfl (by conv => lhs; whnf)) rfl rfl ?_
      refine VL_nil ?_
      refine VS_back (k + 1) ?_ (by repeat (first | exact Has.nil _ | refine Has.cons rfl ?_)) (by repeat (first | exact Out.mix _ _ _ | exact Out.refl _ _ | refine Out.upd rfl ?_ | refine Out.mix_in rfl ?_)) ?_
      · refine ⟨by omega, ?_, _, .slice A9 n9 c9, .inr rfl, ?_⟩
        · have hp1 := namesOk_one u.gone[k]
          rw [hpk] at hp1
          rw [hf]
          have : pathOk u.gone[k] = true := by
            rw [Bool.and_comm] at hp1
            cases hq : pathOk u.gone[k] with
            | true => rfl
            | false => rw [hq] at hp1; cases hp1
          rw [this, Bool.true_and]
        · have e : (u.gone.take k).flatMap hideL ++ (⟨#[104, 105, 100, 101, 32]⟩ ++ pathT u.gone[k] ++ ⟨#[10]⟩ : ByteArray).data.toList = (u.gone.take (k + 1)).flatMap hideL := by
            rw [hft, app_list, app_list]
            rfl
          rw [← e]
          exact s.less (by simp)
      · omega
  · refine VS_exit ?_
    repeat (first | refine blockV_hit ?_ | refine backV_exit ?_ | refine backV2_exit ?_ | refine backV3_exit ?_ | refine blockV_miss rfl ?_ | refine thenV_exit ?_ | refine metV2_exit ?_)
    obtain rfl : k = u.gone.length := by omega
    rw [List.take_length] at s
    rw [List.drop_length] at hf
    have hf : u.gone.all pathOk = true := hf
    repeat (first | refine VS_seq ?_ | refine VS_block ?_ | refine VS_skip ?_ | refine VS_nil_block ?_)
    refine VS_region_lit ?_
    refine VL_run (d := 28) (run_fieldAddr rfl fo30_1 rfl) rfl rfl ?_
    first | (refine VL_run (d := 29) (run_load_own1 s rfl ty28 rfl (i := 0) rfl rfl) rfl rfl ?_) | (refine VL_run (d := 29) (run_load_own1 s rfl ty28 rfl (i := 1) rfl rfl) rfl rfl ?_) | (refine VL_run (d := 29) (run_load_own1 s rfl ty28 rfl (i := 2) rfl rfl) rfl rfl ?_) | (refine VL_run (d := 29) (run_load_own1 s rfl ty28 rfl (i := 3) rfl rfl) rfl rfl ?_) | (refine VL_run (d := 29) (run_load_own1 s rfl ty28 rfl (i := 4) rfl rfl) rfl rfl ?_) | (refine VL_run (d := 29) (run_load_own1 s rfl ty28 rfl (i := 5) rfl rfl) rfl rfl ?_) | (refine VL_run (d := 29) (run_load_own1 s rfl ty28 rfl (i := 6) rfl rfl) rfl rfl ?_) | (refine VL_run (d := 29) (run_load_own1 s rfl ty28 rfl (i := 7) rfl rfl) rfl rfl ?_) | (refine VL_run (d := 29) (run_load_own1 s rfl ty28 rfl (i := 8) rfl rfl) rfl rfl ?_) | (refine VL_run (d := 29) (run_load_at1 s rfl ty28 rfl (i := 0) rfl rfl) rfl rfl ?_) | (refine VL_run (d := 29) (run_load_at1 s rfl ty28 rfl (i := 1) rfl rfl) rfl rfl ?_) | (refine VL_run (d := 29) (run_load_at1 s rfl ty28 rfl (i := 2) rfl rfl) rfl rfl ?_) | (refine VL_run (d := 29) (run_load_at1 s rfl ty28 rfl (i := 3) rfl rfl) rfl rfl ?_) | (refine VL_run (d := 29) (run_load_at1 s rfl ty28 rfl (i := 4) rfl rfl) rfl rfl ?_) | (refine VL_run (d := 29) (run_load_at1 s rfl ty28 rfl (i := 5) rfl rfl) rfl rfl ?_) | (refine VL_run (d := 29) (run_load_at1 s rfl ty28 rfl (i := 6) rfl rfl) rfl rfl ?_) | (refine VL_run (d := 29) (run_load_at1 s rfl ty28 rfl (i := 7) rfl rfl) rfl rfl ?_) | (refine VL_run (d := 29) (run_load_at1 s rfl ty28 rfl (i := 8) rfl rfl) rfl rfl ?_) | (refine VL_run (d := 29) (run_load_at0 s rfl ty28 rfl (i := 0) rfl rfl) rfl rfl ?_) | (refine VL_run (d := 29) (run_load_at0 s rfl ty28 rfl (i := 1) rfl rfl) rfl rfl ?_) | (refine VL_run (d := 29) (run_load_at0 s rfl ty28 rfl (i := 2) rfl rfl) rfl rfl ?_) | (refine VL_run (d := 29) (run_load_at0 s rfl ty28 rfl (i := 3) rfl rfl) rfl rfl ?_) | (refine VL_run (d := 29) (run_load_at0 s rfl ty28 rfl (i := 4) rfl rfl) rfl rfl ?_) | (refine VL_run (d := 29) (run_load_at0 s rfl ty28 rfl (i := 5) rfl rfl) rfl rfl ?_) | (refine VL_run (d := 29) (run_load_at0 s rfl ty28 rfl (i := 6) rfl rfl) rfl rfl ?_) | (refine VL_run (d := 29) (run_load_at0 s rfl ty28 rfl (i := 7) rfl rfl) rfl rfl ?_) | (refine VL_run (d := 29) (run_load_at0 s rfl ty28 rfl (i := 8) rfl rfl) rfl rfl ?_)
    refine VL_run (d := 30) (run_lenSlice rfl ⟨_, Tryd.underlying28⟩ rfl) rfl rfl ?_
    refine VL_run (d := 31) (run_move rfl (by conv => lhs; whnf)) rfl rfl ?_
    refine VL_nil ?_
    repeat (first | refine VS_seq ?_ | refine VS_block ?_ | refine VS_skip ?_ | refine VS_nil_block ?_)
    refine VS_loop [2, 7, 8, 31, 32, 33, 34, 35, 36, 37, 38, 39, 40, 41, 42, 43, 44, 45, 46, 47, 48, 49, 50, 51, 52, 53, 54, 55, 56, 57, 58, 59, 60, 61, 62, 63, 64, 65, 66, 67, 68, 69, 70, 71, 72, 73, 74, 75, 76, 77, 78, 79, 80, 81, 82] (fun k : Nat => [(31, .int .i64 k)]) (fun k w => k ≤ u.puts.length ∧ u.puts.all putOk = (u.puts.drop k).all putOk ∧ ∃ p v C, (p = .pointer none ∨ p = .pointer (some ⟨b10, 0, none⟩)) ∧ St ok w0 (.blk b10 [p, v] 52 :: BldR v (u.gone.flatMap hideL ++ (u.puts.take k).flatMap putL) :: C) [.dat [.slice A u.gone.length c] (.sl (pathsD u.gone)), .dat [.slice B u.puts.length d] (.sl (entsD u.puts))] w) (fun k => u.puts.length - k) 0 ⟨by omega, rfl, p, v, _, hp, by rw [List.take_zero, List.flatMap_nil, List.append_nil]; exact s⟩ (by repeat (first | exact Has.nil _ | refine Has.cons rfl ?_)) ?_
    clear s
    clear hp
    rintro k w j ⟨hk, hf2, p, v, C, hp, s⟩
    repeat (first | refine VS_seq ?_ | refine VS_block ?_ | refine VS_skip ?_ | refine VS_nil_block ?_)
    refine VS_region_lit ?_
    refine VL_run (d := 32) (run_ltI rfl rfl rfl) rfl rfl ?_
    refine VL_nil ?_
    repeat (first | refine VS_seq ?_ | refine VS_block ?_ | refine VS_skip ?_ | refine VS_nil_block ?_)
    refine VS_cond rfl (fun c2 => ?_) (fun c2 => ?_) <;> (try simp only [decide_eq_true_eq, decide_eq_false_iff_not, Bool.not_eq_true', Bool.not_eq_false', ne_eq, Decidable.not_not, cond_true, cond_false, Bool.and_eq_true, Bool.or_eq_true, Bool.and_eq_false_iff, Bool.or_eq_false_iff, Bool.not_true, Bool.not_false, reduceCtorEq] at c2)
    · repeat (first | refine VS_seq ?_ | refine VS_block ?_ | refine VS_skip ?_ | refine VS_nil_block ?_)
      have hk' : k < u.puts.length := by omega
      have hx := sum_mem (f := En.wt) (List.getElem_mem hk')
      have hwe : u.puts[k].wt = namesWt u.puts[k].path + u.puts[k].data.size := rfl
      rw [all_drop _ hk'] at hf2
      obtain ⟨ad, A5, c5, rfl, hl5, s⟩ := s.openEn (i := 1) rfl k hk'
      have hpp := (En.opn (s.dat (i := 1) rfl))
      obtain ⟨A9, c9, hcc, hl9, hpp⟩ := hpp
      obtain ⟨rfl, rfl⟩ : A5 = A9 ∧ c5 = c9 := by simpa using hcc
      have s := s.know (f := .dat [.slice A5 u.puts[k].path.length c5] (.sl (strsD u.puts[k].path))) hpp
      refine VS_region_lit ?_
      refine VL_run (d := 33) (run_indexAddr rfl Tryd.underlying28 ty40 rfl rfl (by omega) (by omega)) rfl rfl ?_
      first | (refine VL_run (d := 34) (run_load_ownA (cs := [_, _, _, _, _]) s rfl ty40 rfl (i := 0) rfl rfl rfl) rfl rfl ?_) | (refine VL_run (d := 34) (run_load_ownA (cs := [_, _, _, _, _]) s rfl ty40 rfl (i := 1) rfl rfl rfl) rfl rfl ?_) | (refine VL_run (d := 34) (run_load_ownA (cs := [_, _, _, _, _]) s rfl ty40 rfl (i := 2) rfl rfl rfl) rfl rfl ?_) | (refine VL_run (d := 34) (run_load_ownA (cs := [_, _, _, _, _]) s rfl ty40 rfl (i := 3) rfl rfl rfl) rfl rfl ?_) | (refine VL_run (d := 34) (run_load_ownA (cs := [_, _, _, _, _]) s rfl ty40 rfl (i := 4) rfl rfl rfl) rfl rfl ?_) | (refine VL_run (d := 34) (run_load_ownA (cs := [_, _, _, _, _]) s rfl ty40 rfl (i := 5) rfl rfl rfl) rfl rfl ?_) | (refine VL_run (d := 34) (run_load_ownA (cs := [_, _, _, _, _]) s rfl ty40 rfl (i := 6) rfl rfl rfl) rfl rfl ?_) | (refine VL_run (d := 34) (run_load_ownA (cs := [_, _, _, _, _]) s rfl ty40 rfl (i := 7) rfl rfl rfl) rfl rfl ?_) | (refine VL_run (d := 34) (run_load_ownA (cs := [_, _, _, _, _]) s rfl ty40 rfl (i := 8) rfl rfl rfl) rfl rfl ?_) | (refine VL_run (d := 34) (run_load_atA s rfl ty40 rfl (i := 0) rfl rfl) rfl rfl ?_) | (refine VL_run (d := 34) (run_load_atA s rfl ty40 rfl (i := 1) rfl rfl) rfl rfl ?_) | (refine VL_run (d := 34) (run_load_atA s rfl ty40 rfl (i := 2) rfl rfl) rfl rfl ?_) | (refine VL_run (d := 34) (run_load_atA s rfl ty40 rfl (i := 3) rfl rfl) rfl rfl ?_) | (refine VL_run (d := 34) (run_load_atA s rfl ty40 rfl (i := 4) rfl rfl) rfl rfl ?_) | (refine VL_run (d := 34) (run_load_atA s rfl ty40 rfl (i := 5) rfl rfl) rfl rfl ?_) | (refine VL_run (d := 34) (run_load_atA s rfl ty40 rfl (i := 6) rfl rfl) rfl rfl ?_) | (refine VL_run (d := 34) (run_load_atA s rfl ty40 rfl (i := 7) rfl rfl) rfl rfl ?_) | (refine VL_run (d := 34) (run_load_atA s rfl ty40 rfl (i := 8) rfl rfl) rfl rfl ?_)
      refine VL_does (d := 7) (does_alloc s rfl ty40 rfl ?_) rfl rfl
      clear s; intro b7 w s
      first | (refine VL_doesU (does_store s rfl ty40 rfl rfl (i := 0) rfl rfl rfl (by first | (intro u hu; simp only [List.mem_cons, List.not_mem_nil, or_false] at hu; subst hu; rfl) | (intro u hu; simp only [List.mem_cons, List.not_mem_nil, or_false] at hu; rcases hu with rfl | rfl | rfl | rfl | rfl <;> rfl) | (intro u hu; simp only [List.mem_cons, List.not_mem_nil, or_false] at hu; rcases hu with rfl | rfl <;> rfl)) rfl ?_) rfl rfl rfl) | (refine VL_doesU (does_store s rfl ty40 rfl rfl (i := 1) rfl rfl rfl (by first | (intro u hu; simp only [List.mem_cons, List.not_mem_nil, or_false] at hu; subst hu; rfl) | (intro u hu; simp only [List.mem_cons, List.not_mem_nil, or_false] at hu; rcases hu with rfl | rfl | rfl | rfl | rfl <;> rfl) | (intro u hu; simp only [List.mem_cons, List.not_mem_nil, or_false] at hu; rcases hu with rfl | rfl <;> rfl)) rfl ?_) rfl rfl rfl) | (refine VL_doesU (does_store s rfl ty40 rfl rfl (i := 2) rfl rfl rfl (by first | (intro u hu; simp only [List.mem_cons, List.not_mem_nil, or_false] at hu; subst hu; rfl) | (intro u hu; simp only [List.mem_cons, List.not_mem_nil, or_false] at hu; rcases hu with rfl | rfl | rfl | rfl | rfl <;> rfl) | (intro u hu; simp only [List.mem_cons, List.not_mem_nil, or_false] at hu; rcases hu with rfl | rfl <;> rfl)) rfl ?_) rfl rfl rfl) | (refine VL_doesU (does_store s rfl ty40 rfl rfl (i := 3) rfl rfl rfl (by first | (intro u hu; simp only [List.mem_cons, List.not_mem_nil, or_false] at hu; subst hu; rfl) | (intro u hu; simp only [List.mem_cons, List.not_mem_nil, or_false] at hu; rcases hu with rfl | rfl | rfl | rfl | rfl <;> rfl) | (intro u hu; simp only [List.mem_cons, List.not_mem_nil, or_false] at hu; rcases hu with rfl | rfl <;> rfl)) rfl ?_) rfl rfl rfl) | (refine VL_doesU (does_store s rfl ty40 rfl rfl (i := 4) rfl rfl rfl (by first | (intro u hu; simp only [List.mem_cons, List.not_mem_nil, or_false] at hu; subst hu; rfl) | (intro u hu; simp only [List.mem_cons, List.not_mem_nil, or_false] at hu; rcases hu with rfl | rfl | rfl | rfl | rfl <;> rfl) | (intro u hu; simp only [List.mem_cons, List.not_mem_nil, or_false] at hu; rcases hu with rfl | rfl <;> rfl)) rfl ?_) rfl rfl rfl) | (refine VL_doesU (does_store s rfl ty40 rfl rfl (i := 5) rfl rfl rfl (by first | (intro u hu; simp only [List.mem_cons, List.not_mem_nil, or_false] at hu; subst hu; rfl) | (intro u hu; simp only [List.mem_cons, List.not_mem_nil, or_false] at hu; rcases hu with rfl | rfl | rfl | rfl | rfl <;> rfl) | (intro u hu; simp only [List.mem_cons, List.not_mem_nil, or_false] at hu; rcases hu with rfl | rfl <;> rfl)) rfl ?_) rfl rfl rfl) | (refine VL_doesU (does_store s rfl ty40 rfl rfl (i := 6) rfl rfl rfl (by first | (intro u hu; simp only [List.mem_cons, List.not_mem_nil, or_false] at hu; subst hu; rfl) | (intro u hu; simp only [List.mem_cons, List.not_mem_nil, or_false] at hu; rcases hu with rfl | rfl | rfl | rfl | rfl <;> rfl) | (intro u hu; simp only [List.mem_cons, List.not_mem_nil, or_false] at hu; rcases hu with rfl | rfl <;> rfl)) rfl ?_) rfl rfl rfl) | (refine VL_doesU (does_store s rfl ty40 rfl rfl (i := 7) rfl rfl rfl (by first | (intro u hu; simp only [List.mem_cons, List.not_mem_nil, or_false] at hu; subst hu; rfl) | (intro u hu; simp only [List.mem_cons, List.not_mem_nil, or_false] at hu; rcases hu with rfl | rfl | rfl | rfl | rfl <;> rfl) | (intro u hu; simp only [List.mem_cons, List.not_mem_nil, or_false] at hu; rcases hu with rfl | rfl <;> rfl)) rfl ?_) rfl rfl rfl) | (refine VL_doesU (does_store s rfl ty40 rfl rfl (i := 8) rfl rfl rfl (by first | (intro u hu; simp only [List.mem_cons, List.not_mem_nil, or_false] at hu; subst hu; rfl) | (intro u hu; simp only [List.mem_cons, List.not_mem_nil, or_false] at hu; rcases hu with rfl | rfl | rfl | rfl | rfl <;> rfl) | (intro u hu; simp only [List.mem_cons, List.not_mem_nil, or_false] at hu; rcases hu with rfl | rfl <;> rfl)) rfl ?_) rfl rfl rfl)
      clear s; intro w s
      try simp only [List.set_cons_zero, List.set_cons_succ, patch, List.take_succ_cons, List.take_zero, List.drop_succ_cons, List.drop_zero, List.drop_nil, List.nil_append, List.cons_append, List.append_nil, List.length_cons, List.length_nil, Nat.reduceAdd, Nat.zero_add] at s
      refine VL_nil ?_
      repeat (first | refine VS_seq ?_ | refine VS_block ?_ | refine VS_skip ?_ | refine VS_nil_block ?_)
      refine VS_meetB s 8 (rootB u.puts[k]) [35, 36, 37, 38, 39, 40, 41, 42, 43, 44, 45, 46, 47, 48, 49, 50, 51, 52, 53, 54, 55, 56, 57, 8] ?_ ?_
      · refine VS_region_lit ?_
        refine VL_run (d := 35) (run_fieldAddr rfl fo40_0 rfl) rfl rfl ?_
        first | (refine VL_run (d := 36) (run_load_own1 s rfl ty37 rfl (i := 0) rfl rfl) rfl rfl ?_) | (refine VL_run (d := 36) (run_load_own1 s rfl ty37 rfl (i := 1) rfl rfl) rfl rfl ?_) | (refine VL_run (d := 36) (run_load_own1 s rfl ty37 rfl (i := 2) rfl rfl) rfl rfl ?_) | (refine VL_run (d := 36) (run_load_own1 s rfl ty37 rfl (i := 3) rfl rfl) rfl rfl ?_) | (refine VL_run (d := 36) (run_load_own1 s rfl ty37 rfl (i := 4) rfl rfl) rfl rfl ?_) | (refine VL_run (d := 36) (run_load_own1 s rfl ty37 rfl (i := 5) rfl rfl) rfl rfl ?_) | (refine VL_run (d := 36) (run_load_own1 s rfl ty37 rfl (i := 6) rfl rfl) rfl rfl ?_) | (refine VL_run (d := 36) (run_load_own1 s rfl ty37 rfl (i := 7) rfl rfl) rfl rfl ?_) | (refine VL_run (d := 36) (run_load_own1 s rfl ty37 rfl (i := 8) rfl rfl) rfl rfl ?_) | (refine VL_run (d := 36) (run_load_at1 s rfl ty37 rfl (i := 0) rfl rfl) rfl rfl ?_) | (refine VL_run (d := 36) (run_load_at1 s rfl ty37 rfl (i := 1) rfl rfl) rfl rfl ?_) | (refine VL_run (d := 36) (run_load_at1 s rfl ty37 rfl (i := 2) rfl rfl) rfl rfl ?_) | (refine VL_run (d := 36) (run_load_at1 s rfl ty37 rfl (i := 3) rfl rfl) rfl rfl ?_) | (refine VL_run (d := 36) (run_load_at1 s rfl ty37 rfl (i := 4) rfl rfl) rfl rfl ?_) | (refine VL_run (d := 36) (run_load_at1 s rfl ty37 rfl (i := 5) rfl rfl) rfl rfl ?_) | (refine VL_run (d := 36) (run_load_at1 s rfl ty37 rfl (i := 6) rfl rfl) rfl rfl ?_) | (refine VL_run (d := 36) (run_load_at1 s rfl ty37 rfl (i := 7) rfl rfl) rfl rfl ?_) | (refine VL_run (d := 36) (run_load_at1 s rfl ty37 rfl (i := 8) rfl rfl) rfl rfl ?_) | (refine VL_run (d := 36) (run_load_at0 s rfl ty37 rfl (i := 0) rfl rfl) rfl rfl ?_) | (refine VL_run (d := 36) (run_load_at0 s rfl ty37 rfl (i := 1) rfl rfl) rfl rfl ?_) | (refine VL_run (d := 36) (run_load_at0 s rfl ty37 rfl (i := 2) rfl rfl) rfl rfl ?_) | (refine VL_run (d := 36) (run_load_at0 s rfl ty37 rfl (i := 3) rfl rfl) rfl rfl ?_) | (refine VL_run (d := 36) (run_load_at0 s rfl ty37 rfl (i := 4) rfl rfl) rfl rfl ?_) | (refine VL_run (d := 36) (run_load_at0 s rfl ty37 rfl (i := 5) rfl rfl) rfl rfl ?_) | (refine VL_run (d := 36) (run_load_at0 s rfl ty37 rfl (i := 6) rfl rfl) rfl rfl ?_) | (refine VL_run (d := 36) (run_load_at0 s rfl ty37 rfl (i := 7) rfl rfl) rfl rfl ?_) | (refine VL_run (d := 36) (run_load_at0 s rfl ty37 rfl (i := 8) rfl rfl) rfl rfl ?_)
        refine VL_run (d := 37) (run_lenSlice rfl ⟨_, Tryd.underlying37⟩ rfl) rfl rfl ?_
        refine VL_run (d := 38) (run_eqI rfl rfl rfl) rfl rfl ?_
        refine VL_run (d := 39) (run_move rfl (by conv => lhs; whnf)) rfl rfl ?_
        refine VL_split 39 (by conv => lhs; whnf) (fun h39 => ?_) (fun h39 => ?_) <;> (try simp only [decide_eq_true_eq, decide_eq_false_iff_not, Bool.not_eq_true', Bool.not_eq_false', ne_eq, Decidable.not_not, cond_true, cond_false, Bool.and_eq_true, Bool.or_eq_true, Bool.and_eq_false_iff, Bool.or_eq_false_iff, Bool.not_true, Bool.not_false, reduceCtorEq] at h39)
        · refine VL_run (d := 40) (run_fieldAddr rfl fo40_1 rfl) rfl rfl ?_
          first | (refine VL_run (d := 41) (run_load_own1 s rfl ty3 rfl (i := 0) rfl rfl) rfl rfl ?_) | (refine VL_run (d := 41) (run_load_own1 s rfl ty3 rfl (i := 1) rfl rfl) rfl rfl ?_) | (refine VL_run (d := 41) (run_load_own1 s rfl ty3 rfl (i := 2) rfl rfl) rfl rfl ?_) | (refine VL_run (d := 41) (run_load_own1 s rfl ty3 rfl (i := 3) rfl rfl) rfl rfl ?_) | (refine VL_run (d := 41) (run_load_own1 s rfl ty3 rfl (i := 4) rfl rfl) rfl rfl ?_) | (refine VL_run (d := 41) (run_load_own1 s rfl ty3 rfl (i := 5) rfl rfl) rfl rfl ?_) | (refine VL_run (d := 41) (run_load_own1 s rfl ty3 rfl (i := 6) rfl rfl) rfl rfl ?_) | (refine VL_run (d := 41) (run_load_own1 s rfl ty3 rfl (i := 7) rfl rfl) rfl rfl ?_) | (refine VL_run (d := 41) (run_load_own1 s rfl ty3 rfl (i := 8) rfl rfl) rfl rfl ?_) | (refine VL_run (d := 41) (run_load_at1 s rfl ty3 rfl (i := 0) rfl rfl) rfl rfl ?_) | (refine VL_run (d := 41) (run_load_at1 s rfl ty3 rfl (i := 1) rfl rfl) rfl rfl ?_) | (refine VL_run (d := 41) (run_load_at1 s rfl ty3 rfl (i := 2) rfl rfl) rfl rfl ?_) | (refine VL_run (d := 41) (run_load_at1 s rfl ty3 rfl (i := 3) rfl rfl) rfl rfl ?_) | (refine VL_run (d := 41) (run_load_at1 s rfl ty3 rfl (i := 4) rfl rfl) rfl rfl ?_) | (refine VL_run (d := 41) (run_load_at1 s rfl ty3 rfl (i := 5) rfl rfl) rfl rfl ?_) | (refine VL_run (d := 41) (run_load_at1 s rfl ty3 rfl (i := 6) rfl rfl) rfl rfl ?_) | (refine VL_run (d := 41) (run_load_at1 s rfl ty3 rfl (i := 7) rfl rfl) rfl rfl ?_) | (refine VL_run (d := 41) (run_load_at1 s rfl ty3 rfl (i := 8) rfl rfl) rfl rfl ?_) | (refine VL_run (d := 41) (run_load_at0 s rfl ty3 rfl (i := 0) rfl rfl) rfl rfl ?_) | (refine VL_run (d := 41) (run_load_at0 s rfl ty3 rfl (i := 1) rfl rfl) rfl rfl ?_) | (refine VL_run (d := 41) (run_load_at0 s rfl ty3 rfl (i := 2) rfl rfl) rfl rfl ?_) | (refine VL_run (d := 41) (run_load_at0 s rfl ty3 rfl (i := 3) rfl rfl) rfl rfl ?_) | (refine VL_run (d := 41) (run_load_at0 s rfl ty3 rfl (i := 4) rfl rfl) rfl rfl ?_) | (refine VL_run (d := 41) (run_load_at0 s rfl ty3 rfl (i := 5) rfl rfl) rfl rfl ?_) | (refine VL_run (d := 41) (run_load_at0 s rfl ty3 rfl (i := 6) rfl rfl) rfl rfl ?_) | (refine VL_run (d := 41) (run_load_at0 s rfl ty3 rfl (i := 7) rfl rfl) rfl rfl ?_) | (refine VL_run (d := 41) (run_load_at0 s rfl ty3 rfl (i := 8) rfl rfl) rfl rfl ?_)
          refine VL_run (d := 42) (run_eqI rfl rfl rfl) rfl rfl ?_
          first | (refine VL_run (d := 43) (run_pickT rfl rfl rfl) rfl rfl ?_) | (refine VL_run (d := 43) (run_pickF rfl rfl rfl) rfl rfl ?_) | (refine VL_run (d := 43) (run_pick rfl rfl (fun _ => rfl) (fun _ => rfl)) rfl rfl ?_)
          refine VL_run (d := 44) (run_move rfl (by conv => lhs; whnf)) rfl rfl ?_
          refine VL_split 44 (by conv => lhs; whnf) (fun h44 => ?_) (fun h44 => ?_) <;> (try simp only [decide_eq_true_eq, decide_eq_false_iff_not, Bool.not_eq_true', Bool.not_eq_false', ne_eq, Decidable.not_not, cond_true, cond_false, Bool.and_eq_true, Bool.or_eq_true, Bool.and_eq_false_iff, Bool.or_eq_false_iff, Bool.not_true, Bool.not_false, reduceCtorEq] at h44)
          · refine VL_run (d := 45) (run_fieldAddr rfl fo40_2 rfl) rfl rfl ?_
            first | (refine VL_run (d := 46) (run_load_own1 s rfl ty4 rfl (i := 0) rfl rfl) rfl rfl ?_) | (refine VL_run (d := 46) (run_load_own1 s rfl ty4 rfl (i := 1) rfl rfl) rfl rfl ?_) | (refine VL_run (d := 46) (run_load_own1 s rfl ty4 rfl (i := 2) rfl rfl) rfl rfl ?_) | (refine VL_run (d := 46) (run_load_own1 s rfl ty4 rfl (i := 3) rfl rfl) rfl rfl ?_) | (refine VL_run (d := 46) (run_load_own1 s rfl ty4 rfl (i := 4) rfl rfl) rfl rfl ?_) | (refine VL_run (d := 46) (run_load_own1 s rfl ty4 rfl (i := 5) rfl rfl) rfl rfl ?_) | (refine VL_run (d := 46) (run_load_own1 s rfl ty4 rfl (i := 6) rfl rfl) rfl rfl ?_) | (refine VL_run (d := 46) (run_load_own1 s rfl ty4 rfl (i := 7) rfl rfl) rfl rfl ?_) | (refine VL_run (d := 46) (run_load_own1 s rfl ty4 rfl (i := 8) rfl rfl) rfl rfl ?_) | (refine VL_run (d := 46) (run_load_at1 s rfl ty4 rfl (i := 0) rfl rfl) rfl rfl ?_) | (refine VL_run (d := 46) (run_load_at1 s rfl ty4 rfl (i := 1) rfl rfl) rfl rfl ?_) | (refine VL_run (d := 46) (run_load_at1 s rfl ty4 rfl (i := 2) rfl rfl) rfl rfl ?_) | (refine VL_run (d := 46) (run_load_at1 s rfl ty4 rfl (i := 3) rfl rfl) rfl rfl ?_) | (refine VL_run (d := 46) (run_load_at1 s rfl ty4 rfl (i := 4) rfl rfl) rfl rfl ?_) | (refine VL_run (d := 46) (run_load_at1 s rfl ty4 rfl (i := 5) rfl rfl) rfl rfl ?_) | (refine VL_run (d := 46) (run_load_at1 s rfl ty4 rfl (i := 6) rfl rfl) rfl rfl ?_) | (refine VL_run (d := 46) (run_load_at1 s rfl ty4 rfl (i := 7) rfl rfl) rfl rfl ?_) | (refine VL_run (d := 46) (run_load_at1 s rfl ty4 rfl (i := 8) rfl rfl) rfl rfl ?_) | (refine VL_run (d := 46) (run_load_at0 s rfl ty4 rfl (i := 0) rfl rfl) rfl rfl ?_) | (refine VL_run (d := 46) (run_load_at0 s rfl ty4 rfl (i := 1) rfl rfl) rfl rfl ?_) | (refine VL_run (d := 46) (run_load_at0 s rfl ty4 rfl (i := 2) rfl rfl) rfl rfl ?_) | (refine VL_run (d := 46) (run_load_at0 s rfl ty4 rfl (i := 3) rfl rfl) rfl rfl ?_) | (refine VL_run (d := 46) (run_load_at0 s rfl ty4 rfl (i := 4) rfl rfl) rfl rfl ?_) | (refine VL_run (d := 46) (run_load_at0 s rfl ty4 rfl (i := 5) rfl rfl) rfl rfl ?_) | (refine VL_run (d := 46) (run_load_at0 s rfl ty4 rfl (i := 6) rfl rfl) rfl rfl ?_) | (refine VL_run (d := 46) (run_load_at0 s rfl ty4 rfl (i := 7) rfl rfl) rfl rfl ?_) | (refine VL_run (d := 46) (run_load_at0 s rfl ty4 rfl (i := 8) rfl rfl) rfl rfl ?_)
            first | (refine VL_run (d := 47) (run_pickT rfl rfl rfl) rfl rfl ?_) | (refine VL_run (d := 47) (run_pickF rfl rfl rfl) rfl rfl ?_) | (refine VL_run (d := 47) (run_pick rfl rfl (fun _ => rfl) (fun _ => rfl)) rfl rfl ?_)
            refine VL_run (d := 48) (run_move rfl (by conv => lhs; whnf)) rfl rfl ?_
            refine VL_split 48 (by conv => lhs; whnf) (fun h48 => ?_) (fun h48 => ?_) <;> (try simp only [decide_eq_true_eq, decide_eq_false_iff_not, Bool.not_eq_true', Bool.not_eq_false', ne_eq, Decidable.not_not, cond_true, cond_false, Bool.and_eq_true, Bool.or_eq_true, Bool.and_eq_false_iff, Bool.or_eq_false_iff, Bool.not_true, Bool.not_false, reduceCtorEq] at h48)
            · refine VL_run (d := 49) (run_fieldAddr rfl fo40_3 rfl) rfl rfl ?_
              first | (refine VL_run (d := 50) (run_load_own1 s rfl ty3 rfl (i := 0) rfl rfl) rfl rfl ?_) | (refine VL_run (d := 50) (run_load_own1 s rfl ty3 rfl (i := 1) rfl rfl) rfl rfl ?_) | (refine VL_run (d := 50) (run_load_own1 s rfl ty3 rfl (i := 2) rfl rfl) rfl rfl ?_) | (refine VL_run (d := 50) (run_load_own1 s rfl ty3 rfl (i := 3) rfl rfl) rfl rfl ?_) | (refine VL_run (d := 50) (run_load_own1 s rfl ty3 rfl (i := 4) rfl rfl) rfl rfl ?_) | (refine VL_run (d := 50) (run_load_own1 s rfl ty3 rfl (i := 5) rfl rfl) rfl rfl ?_) | (refine VL_run (d := 50) (run_load_own1 s rfl ty3 rfl (i := 6) rfl rfl) rfl rfl ?_) | (refine VL_run (d := 50) (run_load_own1 s rfl ty3 rfl (i := 7) rfl rfl) rfl rfl ?_) | (refine VL_run (d := 50) (run_load_own1 s rfl ty3 rfl (i := 8) rfl rfl) rfl rfl ?_) | (refine VL_run (d := 50) (run_load_at1 s rfl ty3 rfl (i := 0) rfl rfl) rfl rfl ?_) | (refine VL_run (d := 50) (run_load_at1 s rfl ty3 rfl (i := 1) rfl rfl) rfl rfl ?_) | (refine VL_run (d := 50) (run_load_at1 s rfl ty3 rfl (i := 2) rfl rfl) rfl rfl ?_) | (refine VL_run (d := 50) (run_load_at1 s rfl ty3 rfl (i := 3) rfl rfl) rfl rfl ?_) | (refine VL_run (d := 50) (run_load_at1 s rfl ty3 rfl (i := 4) rfl rfl) rfl rfl ?_) | (refine VL_run (d := 50) (run_load_at1 s rfl ty3 rfl (i := 5) rfl rfl) rfl rfl ?_) | (refine VL_run (d := 50) (run_load_at1 s rfl ty3 rfl (i := 6) rfl rfl) rfl rfl ?_) | (refine VL_run (d := 50) (run_load_at1 s rfl ty3 rfl (i := 7) rfl rfl) rfl rfl ?_) | (refine VL_run (d := 50) (run_load_at1 s rfl ty3 rfl (i := 8) rfl rfl) rfl rfl ?_) | (refine VL_run (d := 50) (run_load_at0 s rfl ty3 rfl (i := 0) rfl rfl) rfl rfl ?_) | (refine VL_run (d := 50) (run_load_at0 s rfl ty3 rfl (i := 1) rfl rfl) rfl rfl ?_) | (refine VL_run (d := 50) (run_load_at0 s rfl ty3 rfl (i := 2) rfl rfl) rfl rfl ?_) | (refine VL_run (d := 50) (run_load_at0 s rfl ty3 rfl (i := 3) rfl rfl) rfl rfl ?_) | (refine VL_run (d := 50) (run_load_at0 s rfl ty3 rfl (i := 4) rfl rfl) rfl rfl ?_) | (refine VL_run (d := 50) (run_load_at0 s rfl ty3 rfl (i := 5) rfl rfl) rfl rfl ?_) | (refine VL_run (d := 50) (run_load_at0 s rfl ty3 rfl (i := 6) rfl rfl) rfl rfl ?_) | (refine VL_run (d := 50) (run_load_at0 s rfl ty3 rfl (i := 7) rfl rfl) rfl rfl ?_) | (refine VL_run (d := 50) (run_load_at0 s rfl ty3 rfl (i := 8) rfl rfl) rfl rfl ?_)
              refine VL_does (d := 51) (does_call1 rfl (by kernel_rfl) rfl (modeOk_ok _) ?_) rfl rfl
              rintro _ w ⟨rfl, hb⟩
              replace s := s.step hb
              clear hb
              first | (refine VL_run (d := 52) (run_pickT rfl rfl rfl) rfl rfl ?_) | (refine VL_run (d := 52) (run_pickF rfl rfl rfl) rfl rfl ?_) | (refine VL_run (d := 52) (run_pick rfl rfl (fun _ => rfl) (fun _ => rfl)) rfl rfl ?_)
              refine VL_run (d := 53) (run_move rfl (by conv => lhs; whnf)) rfl rfl ?_
              refine VL_split 53 (by conv => lhs; whnf) (fun h53 => ?_) (fun h53 => ?_) <;> (try simp only [decide_eq_true_eq, decide_eq_false_iff_not, Bool.not_eq_true', Bool.not_eq_false', ne_eq, Decidable.not_not, cond_true, cond_false, Bool.and_eq_true, Bool.or_eq_true, Bool.and_eq_false_iff, Bool.or_eq_false_iff, Bool.not_true, Bool.not_false, reduceCtorEq] at h53)
              · refine VL_run (d := 54) (run_fieldAddr rfl fo40_4 rfl) rfl rfl ?_
                first | (refine VL_run (d := 55) (run_load_own1 s rfl ty9 rfl (i := 0) rfl rfl) rfl rfl ?_) | (refine VL_run (d := 55) (run_load_own1 s rfl ty9 rfl (i := 1) rfl rfl) rfl rfl ?_) | (refine VL_run (d := 55) (run_load_own1 s rfl ty9 rfl (i := 2) rfl rfl) rfl rfl ?_) | (refine VL_run (d := 55) (run_load_own1 s rfl ty9 rfl (i := 3) rfl rfl) rfl rfl ?_) | (refine VL_run (d := 55) (run_load_own1 s rfl ty9 rfl (i := 4) rfl rfl) rfl rfl ?_) | (refine VL_run (d := 55) (run_load_own1 s rfl ty9 rfl (i := 5) rfl rfl) rfl rfl ?_) | (refine VL_run (d := 55) (run_load_own1 s rfl ty9 rfl (i := 6) rfl rfl) rfl rfl ?_) | (refine VL_run (d := 55) (run_load_own1 s rfl ty9 rfl (i := 7) rfl rfl) rfl rfl ?_) | (refine VL_run (d := 55) (run_load_own1 s rfl ty9 rfl (i := 8) rfl rfl) rfl rfl ?_) | (refine VL_run (d := 55) (run_load_at1 s rfl ty9 rfl (i := 0) rfl rfl) rfl rfl ?_) | (refine VL_run (d := 55) (run_load_at1 s rfl ty9 rfl (i := 1) rfl rfl) rfl rfl ?_) | (refine VL_run (d := 55) (run_load_at1 s rfl ty9 rfl (i := 2) rfl rfl) rfl rfl ?_) | (refine VL_run (d := 55) (run_load_at1 s rfl ty9 rfl (i := 3) rfl rfl) rfl rfl ?_) | (refine VL_run (d := 55) (run_load_at1 s rfl ty9 rfl (i := 4) rfl rfl) rfl rfl ?_) | (refine VL_run (d := 55) (run_load_at1 s rfl ty9 rfl (i := 5) rfl rfl) rfl rfl ?_) | (refine VL_run (d := 55) (run_load_at1 s rfl ty9 rfl (i := 6) rfl rfl) rfl rfl ?_) | (refine VL_run (d := 55) (run_load_at1 s rfl ty9 rfl (i := 7) rfl rfl) rfl rfl ?_) | (refine VL_run (d := 55) (run_load_at1 s rfl ty9 rfl (i := 8) rfl rfl) rfl rfl ?_) | (refine VL_run (d := 55) (run_load_at0 s rfl ty9 rfl (i := 0) rfl rfl) rfl rfl ?_) | (refine VL_run (d := 55) (run_load_at0 s rfl ty9 rfl (i := 1) rfl rfl) rfl rfl ?_) | (refine VL_run (d := 55) (run_load_at0 s rfl ty9 rfl (i := 2) rfl rfl) rfl rfl ?_) | (refine VL_run (d := 55) (run_load_at0 s rfl ty9 rfl (i := 3) rfl rfl) rfl rfl ?_) | (refine VL_run (d := 55) (run_load_at0 s rfl ty9 rfl (i := 4) rfl rfl) rfl rfl ?_) | (refine VL_run (d := 55) (run_load_at0 s rfl ty9 rfl (i := 5) rfl rfl) rfl rfl ?_) | (refine VL_run (d := 55) (run_load_at0 s rfl ty9 rfl (i := 6) rfl rfl) rfl rfl ?_) | (refine VL_run (d := 55) (run_load_at0 s rfl ty9 rfl (i := 7) rfl rfl) rfl rfl ?_) | (refine VL_run (d := 55) (run_load_at0 s rfl ty9 rfl (i := 8) rfl rfl) rfl rfl ?_)
                refine VL_run (d := 56) (run_eqS rfl rfl rfl) rfl rfl ?_
                first | (refine VL_run (d := 57) (run_pickT rfl rfl rfl) rfl rfl ?_) | (refine VL_run (d := 57) (run_pickF rfl rfl rfl) rfl rfl ?_) | (refine VL_run (d := 57) (run_pick rfl rfl (fun _ => rfl) (fun _ => rfl)) rfl rfl ?_)
                refine VL_run (d := 8) (run_assign rfl (by conv => lhs; whnf)) rfl rfl ?_
                refine VL_nil ?_
                exact VS_endB s (by conv => lhs; whnf) (by clear s; unfold rootB; rw [empty_len]; grind) (by repeat (first | exact Out.mix _ _ _ | exact Out.refl _ _ | refine Out.upd rfl ?_ | refine Out.mix_in rfl ?_))
              · refine VL_not (d := 54) rfl rfl rfl rfl ?_
                refine VL_not (d := 55) rfl rfl rfl rfl ?_
                refine VL_not (d := 56) rfl rfl rfl rfl ?_
                first | (refine VL_run (d := 57) (run_pickT rfl rfl rfl) rfl rfl ?_) | (refine VL_run (d := 57) (run_pickF rfl rfl rfl) rfl rfl ?_) | (refine VL_run (d := 57) (run_pick rfl rfl (fun _ => rfl) (fun _ => rfl)) rfl rfl ?_)
                refine VL_run (d := 8) (run_assign rfl (by conv => lhs; whnf)) rfl rfl ?_
                refine VL_nil ?_
                exact VS_endB s (by conv => lhs; whnf) (by clear s; unfold rootB; rw [empty_len]; grind) (by repeat (first | exact Out.mix _ _ _ | exact Out.refl _ _ | refine Out.upd rfl ?_ | refine Out.mix_in rfl ?_))
            · refine VL_not (d := 49) rfl rfl rfl rfl ?_
              refine VL_not (d := 50) rfl rfl rfl rfl ?_
              refine VL_not (d := 51) rfl rfl rfl rfl ?_
              first | (refine VL_run (d := 52) (run_pickT rfl rfl rfl) rfl rfl ?_) | (refine VL_run (d := 52) (run_pickF rfl rfl rfl) rfl rfl ?_) | (refine VL_run (d := 52) (run_pick rfl rfl (fun _ => rfl) (fun _ => rfl)) rfl rfl ?_)
              refine VL_run (d := 53) (run_move rfl (by conv => lhs; whnf)) rfl rfl ?_
              refine VL_not (d := 54) rfl rfl rfl rfl ?_
              refine VL_not (d := 55) rfl rfl rfl rfl ?_
              refine VL_not (d := 56) rfl rfl rfl rfl ?_
              first | (refine VL_run (d := 57) (run_pickT rfl rfl rfl) rfl rfl ?_) | (refine VL_run (d := 57) (run_pickF rfl rfl rfl) rfl rfl ?_) | (refine VL_run (d := 57) (run_pick rfl rfl (fun _ => rfl) (fun _ => rfl)) rfl rfl ?_)
              refine VL_run (d := 8) (run_assign rfl (by conv => lhs; whnf)) rfl rfl ?_
              refine VL_nil ?_
              exact VS_endB s (by conv => lhs; whnf) (by clear s; unfold rootB; rw [empty_len]; grind) (by repeat (first | exact Out.mix _ _ _ | exact Out.refl _ _ | refine Out.upd rfl ?_ | refine Out.mix_in rfl ?_))
          · refine VL_not (d := 45) rfl rfl rfl rfl ?_
            refine VL_not (d := 46) rfl rfl rfl rfl ?_
            first | (refine VL_run (d := 47) (run_pickT rfl rfl rfl) rfl rfl ?_) | (refine VL_run (d := 47) (run_pickF rfl rfl rfl) rfl rfl ?_) | (refine VL_run (d := 47) (run_pick rfl rfl (fun _ => rfl) (fun _ => rfl)) rfl rfl ?_)
            refine VL_run (d := 48) (run_move rfl (by conv => lhs; whnf)) rfl rfl ?_
            refine VL_not (d := 49) rfl rfl rfl rfl ?_
            refine VL_not (d := 50) rfl rfl rfl rfl ?_
            refine VL_not (d := 51) rfl rfl rfl rfl ?_
            first | (refine VL_run (d := 52) (run_pickT rfl rfl rfl) rfl rfl ?_) | (refine VL_run (d := 52) (run_pickF rfl rfl rfl) rfl rfl ?_) | (refine VL_run (d := 52) (run_pick rfl rfl (fun _ => rfl) (fun _ => rfl)) rfl rfl ?_)
            refine VL_run (d := 53) (run_move rfl (by conv => lhs; whnf)) rfl rfl ?_
            refine VL_not (d := 54) rfl rfl rfl rfl ?_
            refine VL_not (d := 55) rfl rfl rfl rfl ?_
            refine VL_not (d := 56) rfl rfl rfl rfl ?_
            first | (refine VL_run (d := 57) (run_pickT rfl rfl rfl) rfl rfl ?_) | (refine VL_run (d := 57) (run_pickF rfl rfl rfl) rfl rfl ?_) | (refine VL_run (d := 57) (run_pick rfl rfl (fun _ => rfl) (fun _ => rfl)) rfl rfl ?_)
            refine VL_run (d := 8) (run_assign rfl (by conv => lhs; whnf)) rfl rfl ?_
            refine VL_nil ?_
            exact VS_endB s (by conv => lhs; whnf) (by clear s; unfold rootB; rw [empty_len]; grind) (by repeat (first | exact Out.mix _ _ _ | exact Out.refl _ _ | refine Out.upd rfl ?_ | refine Out.mix_in rfl ?_))
        · refine VL_not (d := 40) rfl rfl rfl rfl ?_
          refine VL_not (d := 41) rfl rfl rfl rfl ?_
          refine VL_not (d := 42) rfl rfl rfl rfl ?_
          first | (refine VL_run (d := 43) (run_pickT rfl rfl rfl) rfl rfl ?_) | (refine VL_run (d := 43) (run_pickF rfl rfl rfl) rfl rfl ?_) | (refine VL_run (d := 43) (run_pick rfl rfl (fun _ => rfl) (fun _ => rfl)) rfl rfl ?_)
          refine VL_run (d := 44) (run_move rfl (by conv => lhs; whnf)) rfl rfl ?_
          refine VL_not (d := 45) rfl rfl rfl rfl ?_
          refine VL_not (d := 46) rfl rfl rfl rfl ?_
          first | (refine VL_run (d := 47) (run_pickT rfl rfl rfl) rfl rfl ?_) | (refine VL_run (d := 47) (run_pickF rfl rfl rfl) rfl rfl ?_) | (refine VL_run (d := 47) (run_pick rfl rfl (fun _ => rfl) (fun _ => rfl)) rfl rfl ?_)
          refine VL_run (d := 48) (run_move rfl (by conv => lhs; whnf)) rfl rfl ?_
          refine VL_not (d := 49) rfl rfl rfl rfl ?_
          refine VL_not (d := 50) rfl rfl rfl rfl ?_
          refine VL_not (d := 51) rfl rfl rfl rfl ?_
          first | (refine VL_run (d := 52) (run_pickT rfl rfl rfl) rfl rfl ?_) | (refine VL_run (d := 52) (run_pickF rfl rfl rfl) rfl rfl ?_) | (refine VL_run (d := 52) (run_pick rfl rfl (fun _ => rfl) (fun _ => rfl)) rfl rfl ?_)
          refine VL_run (d := 53) (run_move rfl (by conv => lhs; whnf)) rfl rfl ?_
          refine VL_not (d := 54) rfl rfl rfl rfl ?_
          refine VL_not (d := 55) rfl rfl rfl rfl ?_
          refine VL_not (d := 56) rfl rfl rfl rfl ?_
          first | (refine VL_run (d := 57) (run_pickT rfl rfl rfl) rfl rfl ?_) | (refine VL_run (d := 57) (run_pickF rfl rfl rfl) rfl rfl ?_) | (refine VL_run (d := 57) (run_pick rfl rfl (fun _ => rfl) (fun _ => rfl)) rfl rfl ?_)
          refine VL_run (d := 8) (run_assign rfl (by conv => lhs; whnf)) rfl rfl ?_
          refine VL_nil ?_
          exact VS_endB s (by conv => lhs; whnf) (by clear s; unfold rootB; rw [empty_len]; grind) (by repeat (first | exact Out.mix _ _ _ | exact Out.refl _ _ | refine Out.upd rfl ?_ | refine Out.mix_in rfl ?_))
      clear s; intro w j8 s
      repeat (first | refine VS_seq ?_ | refine VS_block ?_ | refine VS_skip ?_ | refine VS_nil_block ?_)
      refine VS_meetB s 69 (!putOk u.puts[k]) [58, 59, 60, 61, 62, 63, 64, 65, 66, 67, 68, 69] ?_ ?_
      · refine VS_region_lit ?_
        refine VL_run (d := 58) (run_move rfl (by conv => lhs; whnf)) rfl rfl ?_
        refine VL_run (d := 59) (run_not rfl rfl) rfl rfl ?_
        refine VL_run (d := 60) (run_move rfl (by conv => lhs; whnf)) rfl rfl ?_
        refine VL_split 60 (by conv => lhs; whnf) (fun h60 => ?_) (fun h60 => ?_) <;> (try simp only [decide_eq_true_eq, decide_eq_false_iff_not, Bool.not_eq_true', Bool.not_eq_false', ne_eq, Decidable.not_not, cond_true, cond_false, Bool.and_eq_true, Bool.or_eq_true, Bool.and_eq_false_iff, Bool.or_eq_false_iff, Bool.not_true, Bool.not_false, reduceCtorEq] at h60)
        · first | (refine VL_run (d := 61) (run_load_ownA (cs := [_, _, _, _, _]) s rfl ty40 rfl (i := 0) rfl rfl rfl) rfl rfl ?_) | (refine VL_run (d := 61) (run_load_ownA (cs := [_, _, _, _, _]) s rfl ty40 rfl (i := 1) rfl rfl rfl) rfl rfl ?_) | (refine VL_run (d := 61) (run_load_ownA (cs := [_, _, _, _, _]) s rfl ty40 rfl (i := 2) rfl rfl rfl) rfl rfl ?_) | (refine VL_run (d := 61) (run_load_ownA (cs := [_, _, _, _, _]) s rfl ty40 rfl (i := 3) rfl rfl rfl) rfl rfl ?_) | (refine VL_run (d := 61) (run_load_ownA (cs := [_, _, _, _, _]) s rfl ty40 rfl (i := 4) rfl rfl rfl) rfl rfl ?_) | (refine VL_run (d := 61) (run_load_ownA (cs := [_, _, _, _, _]) s rfl ty40 rfl (i := 5) rfl rfl rfl) rfl rfl ?_) | (refine VL_run (d := 61) (run_load_ownA (cs := [_, _, _, _, _]) s rfl ty40 rfl (i := 6) rfl rfl rfl) rfl rfl ?_) | (refine VL_run (d := 61) (run_load_ownA (cs := [_, _, _, _, _]) s rfl ty40 rfl (i := 7) rfl rfl rfl) rfl rfl ?_) | (refine VL_run (d := 61) (run_load_ownA (cs := [_, _, _, _, _]) s rfl ty40 rfl (i := 8) rfl rfl rfl) rfl rfl ?_) | (refine VL_run (d := 61) (run_load_atA s rfl ty40 rfl (i := 0) rfl rfl) rfl rfl ?_) | (refine VL_run (d := 61) (run_load_atA s rfl ty40 rfl (i := 1) rfl rfl) rfl rfl ?_) | (refine VL_run (d := 61) (run_load_atA s rfl ty40 rfl (i := 2) rfl rfl) rfl rfl ?_) | (refine VL_run (d := 61) (run_load_atA s rfl ty40 rfl (i := 3) rfl rfl) rfl rfl ?_) | (refine VL_run (d := 61) (run_load_atA s rfl ty40 rfl (i := 4) rfl rfl) rfl rfl ?_) | (refine VL_run (d := 61) (run_load_atA s rfl ty40 rfl (i := 5) rfl rfl) rfl rfl ?_) | (refine VL_run (d := 61) (run_load_atA s rfl ty40 rfl (i := 6) rfl rfl) rfl rfl ?_) | (refine VL_run (d := 61) (run_load_atA s rfl ty40 rfl (i := 7) rfl rfl) rfl rfl ?_) | (refine VL_run (d := 61) (run_load_atA s rfl ty40 rfl (i := 8) rfl rfl) rfl rfl ?_)
          refine VL_does (d := 62) (does_call1 rfl (by kernel_rfl) rfl (entryOk_ok _ (s.dat (i := 2) rfl) (by omega)) ?_) rfl rfl
          rintro _ w ⟨rfl, hb⟩
          replace s := s.step hb
          clear hb
          refine VL_run (d := 63) (run_not rfl rfl) rfl rfl ?_
          refine VL_run (d := 64) (run_move rfl (by conv => lhs; whnf)) rfl rfl ?_
          refine VL_split 64 (by conv => lhs; whnf) (fun h64 => ?_) (fun h64 => ?_) <;> (try simp only [decide_eq_true_eq, decide_eq_false_iff_not, Bool.not_eq_true', Bool.not_eq_false', ne_eq, Decidable.not_not, cond_true, cond_false, Bool.and_eq_true, Bool.or_eq_true, Bool.and_eq_false_iff, Bool.or_eq_false_iff, Bool.not_true, Bool.not_false, reduceCtorEq] at h64)
          · refine VL_not (d := 65) rfl rfl rfl rfl ?_
            refine VL_not (d := 66) rfl rfl rfl rfl ?_
            refine VL_not (d := 67) rfl rfl rfl rfl ?_
            first | (refine VL_run (d := 68) (run_pickT rfl rfl rfl) rfl rfl ?_) | (refine VL_run (d := 68) (run_pickF rfl rfl rfl) rfl rfl ?_) | (refine VL_run (d := 68) (run_pick rfl rfl (fun _ => rfl) (fun _ => rfl)) rfl rfl ?_)
            first | (refine VL_run (d := 69) (run_pickT rfl rfl rfl) rfl rfl ?_) | (refine VL_run (d := 69) (run_pickF rfl rfl rfl) rfl rfl ?_) | (refine VL_run (d := 69) (run_pick rfl rfl (fun _ => rfl) (fun _ => rfl)) rfl rfl ?_)
            refine VL_nil ?_
            exact VS_endB s (by conv => lhs; whnf) (by clear s; unfold putOk rootB enOk at *; rw [empty_len] at *; grind) (by repeat (first | exact Out.mix _ _ _ | exact Out.refl _ _ | refine Out.upd rfl ?_ | refine Out.mix_in rfl ?_))
          · refine VL_run (d := 65) (run_fieldAddr rfl fo40_1 rfl) rfl rfl ?_
            first | (refine VL_run (d := 66) (run_load_own1 s rfl ty3 rfl (i := 0) rfl rfl) rfl rfl ?_) | (refine VL_run (d := 66) (run_load_own1 s rfl ty3 rfl (i := 1) rfl rfl) rfl rfl ?_) | (refine VL_run (d := 66) (run_load_own1 s rfl ty3 rfl (i := 2) rfl rfl) rfl rfl ?_) | (refine VL_run (d := 66) (run_load_own1 s rfl ty3 rfl (i := 3) rfl rfl) rfl rfl ?_) | (refine VL_run (d := 66) (run_load_own1 s rfl ty3 rfl (i := 4) rfl rfl) rfl rfl ?_) | (refine VL_run (d := 66) (run_load_own1 s rfl ty3 rfl (i := 5) rfl rfl) rfl rfl ?_) | (refine VL_run (d := 66) (run_load_own1 s rfl ty3 rfl (i := 6) rfl rfl) rfl rfl ?_) | (refine VL_run (d := 66) (run_load_own1 s rfl ty3 rfl (i := 7) rfl rfl) rfl rfl ?_) | (refine VL_run (d := 66) (run_load_own1 s rfl ty3 rfl (i := 8) rfl rfl) rfl rfl ?_) | (refine VL_run (d := 66) (run_load_at1 s rfl ty3 rfl (i := 0) rfl rfl) rfl rfl ?_) | (refine VL_run (d := 66) (run_load_at1 s rfl ty3 rfl (i := 1) rfl rfl) rfl rfl ?_) | (refine VL_run (d := 66) (run_load_at1 s rfl ty3 rfl (i := 2) rfl rfl) rfl rfl ?_) | (refine VL_run (d := 66) (run_load_at1 s rfl ty3 rfl (i := 3) rfl rfl) rfl rfl ?_) | (refine VL_run (d := 66) (run_load_at1 s rfl ty3 rfl (i := 4) rfl rfl) rfl rfl ?_) | (refine VL_run (d := 66) (run_load_at1 s rfl ty3 rfl (i := 5) rfl rfl) rfl rfl ?_) | (refine VL_run (d := 66) (run_load_at1 s rfl ty3 rfl (i := 6) rfl rfl) rfl rfl ?_) | (refine VL_run (d := 66) (run_load_at1 s rfl ty3 rfl (i := 7) rfl rfl) rfl rfl ?_) | (refine VL_run (d := 66) (run_load_at1 s rfl ty3 rfl (i := 8) rfl rfl) rfl rfl ?_) | (refine VL_run (d := 66) (run_load_at0 s rfl ty3 rfl (i := 0) rfl rfl) rfl rfl ?_) | (refine VL_run (d := 66) (run_load_at0 s rfl ty3 rfl (i := 1) rfl rfl) rfl rfl ?_) | (refine VL_run (d := 66) (run_load_at0 s rfl ty3 rfl (i := 2) rfl rfl) rfl rfl ?_) | (refine VL_run (d := 66) (run_load_at0 s rfl ty3 rfl (i := 3) rfl rfl) rfl rfl ?_) | (refine VL_run (d := 66) (run_load_at0 s rfl ty3 rfl (i := 4) rfl rfl) rfl rfl ?_) | (refine VL_run (d := 66) (run_load_at0 s rfl ty3 rfl (i := 5) rfl rfl) rfl rfl ?_) | (refine VL_run (d := 66) (run_load_at0 s rfl ty3 rfl (i := 6) rfl rfl) rfl rfl ?_) | (refine VL_run (d := 66) (run_load_at0 s rfl ty3 rfl (i := 7) rfl rfl) rfl rfl ?_) | (refine VL_run (d := 66) (run_load_at0 s rfl ty3 rfl (i := 8) rfl rfl) rfl rfl ?_)
            refine VL_run (d := 67) (run_neI rfl rfl rfl) rfl rfl ?_
            first | (refine VL_run (d := 68) (run_pickT rfl rfl rfl) rfl rfl ?_) | (refine VL_run (d := 68) (run_pickF rfl rfl rfl) rfl rfl ?_) | (refine VL_run (d := 68) (run_pick rfl rfl (fun _ => rfl) (fun _ => rfl)) rfl rfl ?_)
            first | (refine VL_run (d := 69) (run_pickT rfl rfl rfl) rfl rfl ?_) | (refine VL_run (d := 69) (run_pickF rfl rfl rfl) rfl rfl ?_) | (refine VL_run (d := 69) (run_pick rfl rfl (fun _ => rfl) (fun _ => rfl)) rfl rfl ?_)
            refine VL_nil ?_
            exact VS_endB s (by conv => lhs; whnf) (by clear s; unfold putOk rootB enOk at *; rw [empty_len] at *; grind) (by repeat (first | exact Out.mix _ _ _ | exact Out.refl _ _ | refine Out.upd rfl ?_ | refine Out.mix_in rfl ?_))
        · refine VL_not (d := 61) rfl rfl rfl rfl ?_
          refine VL_not (d := 62) rfl rfl rfl rfl ?_
          refine VL_not (d := 63) rfl rfl rfl rfl ?_
          refine VL_not (d := 64) rfl rfl rfl rfl ?_
          refine VL_not (d := 65) rfl rfl rfl rfl ?_
          refine VL_not (d := 66) rfl rfl rfl rfl ?_
          refine VL_not (d := 67) rfl rfl rfl rfl ?_
          refine VL_not (d := 68) rfl rfl rfl rfl ?_
          first | (refine VL_run (d := 69) (run_pickT rfl rfl rfl) rfl rfl ?_) | (refine VL_run (d := 69) (run_pickF rfl rfl rfl) rfl rfl ?_) | (refine VL_run (d := 69) (run_pick rfl rfl (fun _ => rfl) (fun _ => rfl)) rfl rfl ?_)
          refine VL_nil ?_
          exact VS_endB s (by conv => lhs; whnf) (by clear s; unfold putOk rootB enOk at *; rw [empty_len] at *; grind) (by repeat (first | exact Out.mix _ _ _ | exact Out.refl _ _ | refine Out.upd rfl ?_ | refine Out.mix_in rfl ?_))
      clear s; intro w j69 s
      refine VS_cond rfl (fun c3 => ?_) (fun c3 => ?_) <;> (try simp only [decide_eq_true_eq, decide_eq_false_iff_not, Bool.not_eq_true', Bool.not_eq_false', ne_eq, Decidable.not_not, cond_true, cond_false, Bool.and_eq_true, Bool.or_eq_true, Bool.and_eq_false_iff, Bool.or_eq_false_iff, Bool.not_true, Bool.not_false, reduceCtorEq] at c3)
      · repeat (first | refine VS_seq ?_ | refine VS_block ?_ | refine VS_skip ?_ | refine VS_nil_block ?_)
        refine VS_region_lit ?_
        refine VL_run (d := 2) (run_assign rfl (by conv => lhs; whnf)) rfl rfl ?_
        refine VL_nil ?_
        refine VS_ret ?_
        repeat (first | refine blockV_ret ?_ | refine backV_ret ?_ | refine backV2_ret ?_ | refine backV3_ret ?_ | refine thenV_ret ?_ | refine metV2_ret ?_)
        refine fin_one (fn := Tryd.f7) rfl (res_tmp (by conv => lhs; whnf)) ?_
        exact ⟨by rw [c3] at hf2; simp [upT, upOk, hf2], s.below⟩
      · repeat (first | refine VS_seq ?_ | refine VS_block ?_ | refine VS_skip ?_ | refine VS_nil_block ?_)
        have hm := putOk_mode c3
        have hz := pathT_size u.puts[k].path
        have hft := flat_take putL hk'
        have hfl := flat_take_le putL u.puts (k + 1)
        have hfl2 := congrArg List.length hft
        rw [List.length_append] at hfl2
        have hz6 : (ba (putL u.puts[k])).size = (putL u.puts[k]).length := rfl
        have hla : (u.gone.flatMap hideL ++ (u.puts.take k).flatMap putL).length = (u.gone.flatMap hideL).length + ((u.puts.take k).flatMap putL).length := List.length_append
        refine VS_region_lit ?_
        refine VL_run (d := 70) (run_move rfl (by conv => lhs; whnf)) rfl rfl ?_
        refine VL_run (d := 71) (run_fieldAddr rfl fo40_2 rfl) rfl rfl ?_
        first | (refine VL_run (d := 72) (run_load_own1 s rfl ty4 rfl (i := 0) rfl rfl) rfl rfl ?_) | (refine VL_run (d := 72) (run_load_own1 s rfl ty4 rfl (i := 1) rfl rfl) rfl rfl ?_) | (refine VL_run (d := 72) (run_load_own1 s rfl ty4 rfl (i := 2) rfl rfl) rfl rfl ?_) | (refine VL_run (d := 72) (run_load_own1 s rfl ty4 rfl (i := 3) rfl rfl) rfl rfl ?_) | (refine VL_run (d := 72) (run_load_own1 s rfl ty4 rfl (i := 4) rfl rfl) rfl rfl ?_) | (refine VL_run (d := 72) (run_load_own1 s rfl ty4 rfl (i := 5) rfl rfl) rfl rfl ?_) | (refine VL_run (d := 72) (run_load_own1 s rfl ty4 rfl (i := 6) rfl rfl) rfl rfl ?_) | (refine VL_run (d := 72) (run_load_own1 s rfl ty4 rfl (i := 7) rfl rfl) rfl rfl ?_) | (refine VL_run (d := 72) (run_load_own1 s rfl ty4 rfl (i := 8) rfl rfl) rfl rfl ?_) | (refine VL_run (d := 72) (run_load_at1 s rfl ty4 rfl (i := 0) rfl rfl) rfl rfl ?_) | (refine VL_run (d := 72) (run_load_at1 s rfl ty4 rfl (i := 1) rfl rfl) rfl rfl ?_) | (refine VL_run (d := 72) (run_load_at1 s rfl ty4 rfl (i := 2) rfl rfl) rfl rfl ?_) | (refine VL_run (d := 72) (run_load_at1 s rfl ty4 rfl (i := 3) rfl rfl) rfl rfl ?_) | (refine VL_run (d := 72) (run_load_at1 s rfl ty4 rfl (i := 4) rfl rfl) rfl rfl ?_) | (refine VL_run (d := 72) (run_load_at1 s rfl ty4 rfl (i := 5) rfl rfl) rfl rfl ?_) | (refine VL_run (d := 72) (run_load_at1 s rfl ty4 rfl (i := 6) rfl rfl) rfl rfl ?_) | (refine VL_run (d := 72) (run_load_at1 s rfl ty4 rfl (i := 7) rfl rfl) rfl rfl ?_) | (refine VL_run (d := 72) (run_load_at1 s rfl ty4 rfl (i := 8) rfl rfl) rfl rfl ?_) | (refine VL_run (d := 72) (run_load_at0 s rfl ty4 rfl (i := 0) rfl rfl) rfl rfl ?_) | (refine VL_run (d := 72) (run_load_at0 s rfl ty4 rfl (i := 1) rfl rfl) rfl rfl ?_) | (refine VL_run (d := 72) (run_load_at0 s rfl ty4 rfl (i := 2) rfl rfl) rfl rfl ?_) | (refine VL_run (d := 72) (run_load_at0 s rfl ty4 rfl (i := 3) rfl rfl) rfl rfl ?_) | (refine VL_run (d := 72) (run_load_at0 s rfl ty4 rfl (i := 4) rfl rfl) rfl rfl ?_) | (refine VL_run (d := 72) (run_load_at0 s rfl ty4 rfl (i := 5) rfl rfl) rfl rfl ?_) | (refine VL_run (d := 72) (run_load_at0 s rfl ty4 rfl (i := 6) rfl rfl) rfl rfl ?_) | (refine VL_run (d := 72) (run_load_at0 s rfl ty4 rfl (i := 7) rfl rfl) rfl rfl ?_) | (refine VL_run (d := 72) (run_load_at0 s rfl ty4 rfl (i := 8) rfl rfl) rfl rfl ?_)
        refine VL_run (d := 73) (run_fieldAddr rfl fo40_3 rfl) rfl rfl ?_
        first | (refine VL_run (d := 74) (run_load_own1 s rfl ty3 rfl (i := 0) rfl rfl) rfl rfl ?_) | (refine VL_run (d := 74) (run_load_own1 s rfl ty3 rfl (i := 1) rfl rfl) rfl rfl ?_) | (refine VL_run (d := 74) (run_load_own1 s rfl ty3 rfl (i := 2) rfl rfl) rfl rfl ?_) | (refine VL_run (d := 74) (run_load_own1 s rfl ty3 rfl (i := 3) rfl rfl) rfl rfl ?_) | (refine VL_run (d := 74) (run_load_own1 s rfl ty3 rfl (i := 4) rfl rfl) rfl rfl ?_) | (refine VL_run (d := 74) (run_load_own1 s rfl ty3 rfl (i := 5) rfl rfl) rfl rfl ?_) | (refine VL_run (d := 74) (run_load_own1 s rfl ty3 rfl (i := 6) rfl rfl) rfl rfl ?_) | (refine VL_run (d := 74) (run_load_own1 s rfl ty3 rfl (i := 7) rfl rfl) rfl rfl ?_) | (refine VL_run (d := 74) (run_load_own1 s rfl ty3 rfl (i := 8) rfl rfl) rfl rfl ?_) | (refine VL_run (d := 74) (run_load_at1 s rfl ty3 rfl (i := 0) rfl rfl) rfl rfl ?_) | (refine VL_run (d := 74) (run_load_at1 s rfl ty3 rfl (i := 1) rfl rfl) rfl rfl ?_) | (refine VL_run (d := 74) (run_load_at1 s rfl ty3 rfl (i := 2) rfl rfl) rfl rfl ?_) | (refine VL_run (d := 74) (run_load_at1 s rfl ty3 rfl (i := 3) rfl rfl) rfl rfl ?_) | (refine VL_run (d := 74) (run_load_at1 s rfl ty3 rfl (i := 4) rfl rfl) rfl rfl ?_) | (refine VL_run (d := 74) (run_load_at1 s rfl ty3 rfl (i := 5) rfl rfl) rfl rfl ?_) | (refine VL_run (d := 74) (run_load_at1 s rfl ty3 rfl (i := 6) rfl rfl) rfl rfl ?_) | (refine VL_run (d := 74) (run_load_at1 s rfl ty3 rfl (i := 7) rfl rfl) rfl rfl ?_) | (refine VL_run (d := 74) (run_load_at1 s rfl ty3 rfl (i := 8) rfl rfl) rfl rfl ?_) | (refine VL_run (d := 74) (run_load_at0 s rfl ty3 rfl (i := 0) rfl rfl) rfl rfl ?_) | (refine VL_run (d := 74) (run_load_at0 s rfl ty3 rfl (i := 1) rfl rfl) rfl rfl ?_) | (refine VL_run (d := 74) (run_load_at0 s rfl ty3 rfl (i := 2) rfl rfl) rfl rfl ?_) | (refine VL_run (d := 74) (run_load_at0 s rfl ty3 rfl (i := 3) rfl rfl) rfl rfl ?_) | (refine VL_run (d := 74) (run_load_at0 s rfl ty3 rfl (i := 4) rfl rfl) rfl rfl ?_) | (refine VL_run (d := 74) (run_load_at0 s rfl ty3 rfl (i := 5) rfl rfl) rfl rfl ?_) | (refine VL_run (d := 74) (run_load_at0 s rfl ty3 rfl (i := 6) rfl rfl) rfl rfl ?_) | (refine VL_run (d := 74) (run_load_at0 s rfl ty3 rfl (i := 7) rfl rfl) rfl rfl ?_) | (refine VL_run (d := 74) (run_load_at0 s rfl ty3 rfl (i := 8) rfl rfl) rfl rfl ?_)
        refine VL_run (d := 75) (run_fieldAddr rfl fo40_4 rfl) rfl rfl ?_
        first | (refine VL_run (d := 76) (run_load_own1 s rfl ty9 rfl (i := 0) rfl rfl) rfl rfl ?_) | (refine VL_run (d := 76) (run_load_own1 s rfl ty9 rfl (i := 1) rfl rfl) rfl rfl ?_) | (refine VL_run (d := 76) (run_load_own1 s rfl ty9 rfl (i := 2) rfl rfl) rfl rfl ?_) | (refine VL_run (d := 76) (run_load_own1 s rfl ty9 rfl (i := 3) rfl rfl) rfl rfl ?_) | (refine VL_run (d := 76) (run_load_own1 s rfl ty9 rfl (i := 4) rfl rfl) rfl rfl ?_) | (refine VL_run (d := 76) (run_load_own1 s rfl ty9 rfl (i := 5) rfl rfl) rfl rfl ?_) | (refine VL_run (d := 76) (run_load_own1 s rfl ty9 rfl (i := 6) rfl rfl) rfl rfl ?_) | (refine VL_run (d := 76) (run_load_own1 s rfl ty9 rfl (i := 7) rfl rfl) rfl rfl ?_) | (refine VL_run (d := 76) (run_load_own1 s rfl ty9 rfl (i := 8) rfl rfl) rfl rfl ?_) | (refine VL_run (d := 76) (run_load_at1 s rfl ty9 rfl (i := 0) rfl rfl) rfl rfl ?_) | (refine VL_run (d := 76) (run_load_at1 s rfl ty9 rfl (i := 1) rfl rfl) rfl rfl ?_) | (refine VL_run (d := 76) (run_load_at1 s rfl ty9 rfl (i := 2) rfl rfl) rfl rfl ?_) | (refine VL_run (d := 76) (run_load_at1 s rfl ty9 rfl (i := 3) rfl rfl) rfl rfl ?_) | (refine VL_run (d := 76) (run_load_at1 s rfl ty9 rfl (i := 4) rfl rfl) rfl rfl ?_) | (refine VL_run (d := 76) (run_load_at1 s rfl ty9 rfl (i := 5) rfl rfl) rfl rfl ?_) | (refine VL_run (d := 76) (run_load_at1 s rfl ty9 rfl (i := 6) rfl rfl) rfl rfl ?_) | (refine VL_run (d := 76) (run_load_at1 s rfl ty9 rfl (i := 7) rfl rfl) rfl rfl ?_) | (refine VL_run (d := 76) (run_load_at1 s rfl ty9 rfl (i := 8) rfl rfl) rfl rfl ?_) | (refine VL_run (d := 76) (run_load_at0 s rfl ty9 rfl (i := 0) rfl rfl) rfl rfl ?_) | (refine VL_run (d := 76) (run_load_at0 s rfl ty9 rfl (i := 1) rfl rfl) rfl rfl ?_) | (refine VL_run (d := 76) (run_load_at0 s rfl ty9 rfl (i := 2) rfl rfl) rfl rfl ?_) | (refine VL_run (d := 76) (run_load_at0 s rfl ty9 rfl (i := 3) rfl rfl) rfl rfl ?_) | (refine VL_run (d := 76) (run_load_at0 s rfl ty9 rfl (i := 4) rfl rfl) rfl rfl ?_) | (refine VL_run (d := 76) (run_load_at0 s rfl ty9 rfl (i := 5) rfl rfl) rfl rfl ?_) | (refine VL_run (d := 76) (run_load_at0 s rfl ty9 rfl (i := 6) rfl rfl) rfl rfl ?_) | (refine VL_run (d := 76) (run_load_at0 s rfl ty9 rfl (i := 7) rfl rfl) rfl rfl ?_) | (refine VL_run (d := 76) (run_load_at0 s rfl ty9 rfl (i := 8) rfl rfl) rfl rfl ?_)
        refine VL_run (d := 77) (run_build (cs := [.bool _, .int .i64 _, .string _, .slice none 0 0, .slice none 0 0]) rfl ty46 st46 rfl) rfl rfl ?_
        refine VL_run (d := 78) (run_fieldAddr rfl fo40_0 rfl) rfl rfl ?_
        first | (refine VL_run (d := 79) (run_load_own1 s rfl ty37 rfl (i := 0) rfl rfl) rfl rfl ?_) | (refine VL_run (d := 79) (run_load_own1 s rfl ty37 rfl (i := 1) rfl rfl) rfl rfl ?_) | (refine VL_run (d := 79) (run_load_own1 s rfl ty37 rfl (i := 2) rfl rfl) rfl rfl ?_) | (refine VL_run (d := 79) (run_load_own1 s rfl ty37 rfl (i := 3) rfl rfl) rfl rfl ?_) | (refine VL_run (d := 79) (run_load_own1 s rfl ty37 rfl (i := 4) rfl rfl) rfl rfl ?_) | (refine VL_run (d := 79) (run_load_own1 s rfl ty37 rfl (i := 5) rfl rfl) rfl rfl ?_) | (refine VL_run (d := 79) (run_load_own1 s rfl ty37 rfl (i := 6) rfl rfl) rfl rfl ?_) | (refine VL_run (d := 79) (run_load_own1 s rfl ty37 rfl (i := 7) rfl rfl) rfl rfl ?_) | (refine VL_run (d := 79) (run_load_own1 s rfl ty37 rfl (i := 8) rfl rfl) rfl rfl ?_) | (refine VL_run (d := 79) (run_load_at1 s rfl ty37 rfl (i := 0) rfl rfl) rfl rfl ?_) | (refine VL_run (d := 79) (run_load_at1 s rfl ty37 rfl (i := 1) rfl rfl) rfl rfl ?_) | (refine VL_run (d := 79) (run_load_at1 s rfl ty37 rfl (i := 2) rfl rfl) rfl rfl ?_) | (refine VL_run (d := 79) (run_load_at1 s rfl ty37 rfl (i := 3) rfl rfl) rfl rfl ?_) | (refine VL_run (d := 79) (run_load_at1 s rfl ty37 rfl (i := 4) rfl rfl) rfl rfl ?_) | (refine VL_run (d := 79) (run_load_at1 s rfl ty37 rfl (i := 5) rfl rfl) rfl rfl ?_) | (refine VL_run (d := 79) (run_load_at1 s rfl ty37 rfl (i := 6) rfl rfl) rfl rfl ?_) | (refine VL_run (d := 79) (run_load_at1 s rfl ty37 rfl (i := 7) rfl rfl) rfl rfl ?_) | (refine VL_run (d := 79) (run_load_at1 s rfl ty37 rfl (i := 8) rfl rfl) rfl rfl ?_) | (refine VL_run (d := 79) (run_load_at0 s rfl ty37 rfl (i := 0) rfl rfl) rfl rfl ?_) | (refine VL_run (d := 79) (run_load_at0 s rfl ty37 rfl (i := 1) rfl rfl) rfl rfl ?_) | (refine VL_run (d := 79) (run_load_at0 s rfl ty37 rfl (i := 2) rfl rfl) rfl rfl ?_) | (refine VL_run (d := 79) (run_load_at0 s rfl ty37 rfl (i := 3) rfl rfl) rfl rfl ?_) | (refine VL_run (d := 79) (run_load_at0 s rfl ty37 rfl (i := 4) rfl rfl) rfl rfl ?_) | (refine VL_run (d := 79) (run_load_at0 s rfl ty37 rfl (i := 5) rfl rfl) rfl rfl ?_) | (refine VL_run (d := 79) (run_load_at0 s rfl ty37 rfl (i := 6) rfl rfl) rfl rfl ?_) | (refine VL_run (d := 79) (run_load_at0 s rfl ty37 rfl (i := 7) rfl rfl) rfl rfl ?_) | (refine VL_run (d := 79) (run_load_at0 s rfl ty37 rfl (i := 8) rfl rfl) rfl rfl ?_)
        refine VL_does (d := 80) (does_call2 rfl (by kernel_rfl) rfl rfl (line_ok _ _ _ hm.1 hm.2 _ _ _ (s.dat (i := 0) rfl) (by unfold PFit; omega) (by omega)) ?_) rfl rfl
        rintro _ w ⟨rfl, hb⟩
        replace s := s.step hb
        clear hb
        have s := s.drop 0
        refine VL_does (d := 81) (does_call2 rfl (by kernel_rfl) rfl rfl (WriteString_ok b10 p v _ (ba (putL u.puts[k])) (s.own _ (.head _)) hp (s.own _ (.tail _ (.head _))) s.bldNe (by omega)) ?_) rfl rfl
        rintro q w1 ⟨rfl, A9, n9, c9, g1, g2, g3, g4, g5⟩
        have s := s.wrote g1 g2 g3 g4 g5; clear g1 g2 g3 g4 g5
        refine VL_nil ?_
        repeat (first | refine VS_seq ?_ | refine VS_block ?_ | refine VS_skip ?_ | refine VS_nil_block ?_)
        refine VS_region_lit ?_
        refine VL_run (d := 82) (run_add rfl rfl rfl (by omega)) rfl rfl ?_
        refine VL_run (d := 31) (run_move rfl (by conv => lhs; whnf)) rfl rfl ?_
        refine VL_nil ?_
        refine VS_back (k + 1) ?_ (by repeat (first | exact Has.nil _ | refine Has.cons rfl ?_)) (by repeat (first | exact Out.mix _ _ _ | exact Out.refl _ _ | refine Out.upd rfl ?_ | refine Out.mix_in rfl ?_)) ?_
        · refine ⟨by omega, by rw [hf2, c3, Bool.true_and], _, .slice A9 n9 c9, C, .inr rfl, ?_⟩
          rw [hft, ← List.append_assoc]
          exact s.less (by simp)
        · omega
    · refine VS_exit ?_
      repeat (first | refine blockV_hit ?_ | refine backV_exit ?_ | refine backV2_exit ?_ | refine backV3_exit ?_ | refine blockV_miss rfl ?_ | refine thenV_exit ?_ | refine metV2_exit ?_)
      obtain rfl : k = u.puts.length := by omega
      rw [List.take_length] at s
      rw [List.drop_length] at hf2
      have hf2 : u.puts.all putOk = true := hf2
      repeat (first | refine VS_seq ?_ | refine VS_block ?_ | refine VS_skip ?_ | refine VS_nil_block ?_)
      refine VS_region_lit ?_
      refine VL_run (d := 83) (run_move rfl (by conv => lhs; whnf)) rfl rfl ?_
      refine VL_does (d := 84) (does_call1 rfl (by kernel_rfl) rfl (Len_ok (s.isBld hp)) ?_) rfl rfl
      rintro _ w ⟨rfl, hb⟩
      replace s := s.step hb
      clear hb
      refine VL_run (d := 85) (run_gtI rfl rfl rfl) rfl rfl ?_
      refine VL_nil ?_
      refine VS_cond rfl (fun c4 => ?_) (fun c4 => ?_) <;> (try simp only [decide_eq_true_eq, decide_eq_false_iff_not, Bool.not_eq_true', Bool.not_eq_false', ne_eq, Decidable.not_not, cond_true, cond_false, Bool.and_eq_true, Bool.or_eq_true, Bool.and_eq_false_iff, Bool.or_eq_false_iff, Bool.not_true, Bool.not_false, reduceCtorEq] at c4)
      · repeat (first | refine VS_seq ?_ | refine VS_block ?_ | refine VS_skip ?_ | refine VS_nil_block ?_)
        refine VS_region_lit ?_
        refine VL_run (d := 2) (run_assign rfl (by conv => lhs; whnf)) rfl rfl ?_
        refine VL_nil ?_
        refine VS_ret ?_
        repeat (first | refine blockV_ret ?_ | refine backV_ret ?_ | refine backV2_ret ?_ | refine backV3_ret ?_ | refine thenV_ret ?_ | refine metV2_ret ?_)
        refine fin_one (fn := Tryd.f7) rfl (res_tmp (by conv => lhs; whnf)) ?_
        refine ⟨?_, s.below⟩
        have : decide ((upL u).length ≤ 4000) = false := by unfold upL; simp; simp at c4; omega
        simp only [upT, upOk, hf, hf2, this, Bool.and_false, cond_false]
      · repeat (first | refine VS_seq ?_ | refine VS_block ?_ | refine VS_skip ?_ | refine VS_nil_block ?_)
        refine VS_region_lit ?_
        refine VL_run (d := 86) (run_move rfl (by conv => lhs; whnf)) rfl rfl ?_
        refine VL_does (d := 87) (does_call1 rfl (by kernel_rfl) rfl (String_ok (s.isBld hp) s.size) ?_) rfl rfl
        rintro v87 w1 ⟨rfl, hb⟩
        replace s := (St.start ok w0).step (s.below.trans hb)
        refine VL_run (d := 2) (run_assign rfl (by conv => lhs; whnf)) rfl rfl ?_
        refine VL_nil ?_
        refine VS_ret ?_
        repeat (first | refine blockV_ret ?_ | refine backV_ret ?_ | refine backV2_ret ?_ | refine backV3_ret ?_ | refine thenV_ret ?_ | refine metV2_ret ?_)
        refine fin_one (fn := Tryd.f7) rfl (res_tmp (by conv => lhs; whnf)) ?_
        refine ⟨?_, s.below⟩
        have : decide ((upL u).length ≤ 4000) = true := by unfold upL; simp; simp at c4; omega
        simp only [upT, upOk, hf, hf2, this, Bool.and_true, cond_true]
        rfl
end Go.Proofs.YtkefaelmamgjiaaDoor
