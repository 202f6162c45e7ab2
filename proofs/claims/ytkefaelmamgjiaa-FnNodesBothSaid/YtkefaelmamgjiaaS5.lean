/- spec: l2Set. -/
import Derived.Test.YtkefaelmamgjiaaS4
set_option linter.unusedVariables false
set_option linter.unusedSimpArgs false
set_option maxHeartbeats 4000000
namespace Go.Proofs.Ytkefaelmamgjiaa
open Go.RowKit

def setIns (one gone : Bool) (q n : ByteArray) (done : Bool) : Bool := one && !done && !gone && !bl n q
def setZ (f : Tr → Tr) (one gone : Bool) (q : ByteArray) (x : Tr) : List Tr → List ByteArray → Bool → List (ByteArray × Tr)
  | k :: ks, n :: ns, done => (bif setIns one gone q n done then [(q, x)] else []) ++ ((bif decide (n = q) && one then [] else [(n, bif decide (n = q) then f k else k)]) ++ setZ f one gone q x ks ns (done || setIns one gone q n done))
  | _, _, done => bif one && !done && !gone then [(q, x)] else []
/-- A tree with something else at a path. -/
def setP : List ByteArray → Tr → Bool → Tr → Tr
  | [], _, _, t => t
  | q :: p, x, gone, t => .mk t.dir t.mode t.data ((setZ (setP p x gone) (decide (p.length = 0)) gone q x t.kids t.names false).map Prod.fst) ((setZ (setP p x gone) (decide (p.length = 0)) gone q x t.kids t.names false).map Prod.snd)
theorem setZ_drop {f : Tr → Tr} {one gone : Bool} {q : ByteArray} {x : Tr} {ks : List Tr} {ns : List ByteArray} {k : Nat} (h : k < ks.length) (h2 : k < ns.length) (done : Bool) :
    setZ f one gone q x (ks.drop k) (ns.drop k) done = (bif setIns one gone q ns[k] done then [(q, x)] else []) ++ ((bif decide (ns[k] = q) && one then [] else [(ns[k], bif decide (ns[k] = q) then f ks[k] else ks[k])]) ++
      setZ f one gone q x (ks.drop (k + 1)) (ns.drop (k + 1)) (done || setIns one gone q ns[k] done)) := by
  rw [List.drop_eq_getElem_cons h, List.drop_eq_getElem_cons h2, setZ]
theorem bif_len1 {α : Type} (b : Bool) (x : α) : (bif b then [x] else []).length ≤ 1 := by cases b <;> simp
theorem bif_len2 {α : Type} (b : Bool) (x : α) : (bif b then [] else [x]).length ≤ 1 := by cases b <;> simp
theorem setZ_len (f : Tr → Tr) (one gone : Bool) (q : ByteArray) (x : Tr) : ∀ (ks : List Tr) (ns : List ByteArray) (done : Bool), (setZ f one gone q x ks ns done).length ≤ 2 * ks.length + 1
  | [], ns, done => by simp only [setZ]; have := bif_len1 (one && !done && !gone) (q, x); simp only [List.length_nil]; omega
  | k :: ks, [], done => by simp only [setZ]; have := bif_len1 (one && !done && !gone) (q, x); omega
  | k :: ks, n :: ns, done => by
    have h := setZ_len f one gone q x ks ns (done || setIns one gone q n done)
    have := bif_len1 (setIns one gone q n done) (q, x)
    have := bif_len2 (decide (n = q) && one) (n, bif decide (n = q) then f k else k)
    simp only [setZ, List.length_append, List.length_cons]
    omega
theorem l2Set_ok (m : Nat) : ∀ (p : List ByteArray) (hm : p.length = m) (hne : p ≠ []) (t x : Tr) (gone : Bool) {ok : Nat → Prop} {w0 : World} {cs cx : List Value} {v2 : Value} (h : Rd ok w0 t.toD cs) (h2 : Rd ok w0 (.sl (strsD p)) [v2]) (hx : Rd ok w0 x.toD cx) (ht : t.Fit) (he : t.Even) (hp : p.length ≤ 1000000000000),
    Calls Try.prog 109 #[.agg cs.toArray, v2, .agg cx.toArray, .bool gone] w0 (Ret fun v w' => ∃ cs', v = .agg cs'.toArray ∧ Rd (okR ok w0) w' (setP p x gone t).toD cs' ∧ Below w0.heap.size w0 w') := by
  induction m using Nat.strongRecOn with
  | _ m ih =>
  intro p hm hne t x gone ok w0 cs cx v2 h h2 hx ht he hp
  obtain ⟨q, p, rfl⟩ := List.exists_cons_of_ne_nil hne
  obtain ⟨A3, c3, A4, c4, rfl, hl3, hl4, h3, h4⟩ := Tr.opn h
  obtain ⟨X3, x3, X4, x4, rfl, _, _, g3, g4⟩ := Tr.opn hx
  obtain ⟨A, c, e1, hl1⟩ := Rd_strs h2
  obtain rfl := List.singleton_inj.1 e1
  have f1 := ht.names
  have f2 := ht.kids
  have f3 := he.len
  clear h hx
  simp only [List.length_cons] at hm hp hl1
  have hqp : (q :: p).length = p.length + 1 := rfl
  have s := (((((St.start ok w0).begin h2).begin g4).begin g3).begin h4).begin h3
  obtain ⟨ad, rfl, s⟩ := s.openS (i := 4) rfl 0 (by simp)
  have s := s.partS (i := 5) rfl 1 (p.length + 1) (by omega) (by simp) p (by simp)
  generalize hone : decide (p.length = 0) = one
  refine calls_enter (n := 129) Try.func109 rfl rfl rfl ?_
  repeat (refine VS_seq ?_)
  refine VS_region_lit ?_
  refine VL_does (d := 4) (does_box s rfl rfl rfl ?_) rfl rfl
  clear s; intro b4 w s
  refine VL_does (d := 6) (does_box s rfl rfl rfl ?_) rfl rfl
  clear s; intro b6 w s
  refine VL_does (d := 8) (does_alloc s rfl ty26 rfl ?_) rfl rfl
  clear s; intro b8 w s
  refine VL_nil ?_
  repeat (refine VS_seq ?_)
  refine VS_region_lit ?_
  refine VL_run (d := 14) (run_fieldAddr rfl fo26_0 rfl) rfl rfl ?_
  refine VL_run (d := 15) (run_load_own1 s rfl ty4 rfl (i := 2) rfl rfl) rfl rfl ?_
  refine VL_run (d := 16) (run_fieldAddr rfl fo26_1 rfl) rfl rfl ?_
  refine VL_run (d := 17) (run_load_own1 s rfl ty3 rfl (i := 2) rfl rfl) rfl rfl ?_
  refine VL_run (d := 18) (run_fieldAddr rfl fo26_2 rfl) rfl rfl ?_
  refine VL_run (d := 19) (run_load_own1 s rfl ty9 rfl (i := 2) rfl rfl) rfl rfl ?_
  refine VL_run (d := 20) (run_build (cs := [.bool _, .int .i64 _, .string _, .slice none 0 0, .slice none 0 0]) rfl ty26 st26 rfl) rfl rfl ?_
  refine VL_does (d := 9) (does_alloc s rfl ty26 rfl ?_) rfl rfl
  clear s; intro b9 w s
  (refine VL_doesU (does_store s rfl ty26 rfl rfl (i := 0) rfl rfl rfl (by (intro u hu; simp only [List.mem_cons, List.not_mem_nil, or_false] at hu; rcases hu with rfl | rfl | rfl | rfl | rfl <;> rfl)) rfl ?_) rfl rfl rfl)
  clear s; intro w s
  try simp only [List.set_cons_zero, List.set_cons_succ, patch, List.take_succ_cons, List.take_zero, List.drop_succ_cons, List.drop_zero, List.drop_nil, List.nil_append, List.cons_append, List.append_nil, List.length_cons, List.length_nil, Nat.reduceAdd, Nat.zero_add] at s
  refine VL_nil ?_
  repeat (refine VS_seq ?_)
  refine VS_region_lit ?_
  refine VL_run (d := 10) (run_assign rfl (by conv => lhs; whnf)) rfl rfl ?_
  refine VL_nil ?_
  repeat (refine VS_seq ?_)
  refine VS_region_lit ?_
  refine VL_run (d := 11) (run_assign rfl (by conv => lhs; whnf)) rfl rfl ?_
  refine VL_nil ?_
  have s := (s.nilrow 9 1).nilrow 26 5
  repeat (refine VS_block ?_)
  refine VS_loop2 [10, 11, 12, 13, 21, 22, 23, 24, 25, 26, 27, 28, 29, 30, 31, 32, 33, 34, 35, 36, 37, 38, 39, 40, 41, 42, 43, 44, 45, 46, 47, 48, 49, 50, 51, 52, 53, 54, 55, 56, 57, 58, 59, 60, 61, 62, 63, 64, 65, 66, 67, 68, 69, 70, 71, 72, 73, 74, 75, 76, 77, 78, 79, 80, 81, 82, 83, 84, 85, 86, 87, 88, 89, 90, 91, 92, 93, 94, 95, 96, 97, 98, 99, 100, 101, 102] (fun (k : Nat) (done : Bool) => [(11, .int .i64 k), (10, .bool done)]) (fun k done w => k ≤ t.names.length ∧ ∃ An mn cn Ak mk ck l, St ok w0 [.row (.slice Ak mk ck) 26 5 (Tr.toDs (l.map Prod.snd)), .row (.slice An mn cn) 9 1 (strsD (l.map Prod.fst)), .blk b9 [.bool t.dir, .int .i64 t.mode, .string t.data, .slice An mn cn, .slice Ak mk ck] 26, .blk b8 tr0 26, .blk b6 (trC x X3 x3 X4 x4) 26, .blk b4 (trC t A3 c3 A4 c4) 26] [.dat [.slice (if c = 1 then some ad else (some ad).map (·.add (1 * 1))) (p.length + 1 - 1) (c - 1)] (.sl (strsD p)), .at (ad.add (0 * 1)) [.string q], .dat [.slice A3 t.names.length c3] (.sl (strsD t.names)), .dat [.slice A4 t.kids.length c4] (.sl (Tr.toDs t.kids)), .dat [.slice X3 x.names.length x3] (.sl (strsD x.names)), .dat [.slice X4 x.kids.length x4] (.sl (Tr.toDs x.kids))] w ∧ l ++ setZ (setP p x gone) one gone q x (t.kids.drop k) (t.names.drop k) done = setZ (setP p x gone) one gone q x t.kids t.names false) (fun k _ => t.names.length - k) 0 false ⟨by omega, none, 0, 0, none, 0, 0, [], s.less (by simp), rfl⟩ (by repeat (first | exact Has.nil _ | refine Has.cons rfl ?_)) ?_
  clear s
  rintro k done w j ⟨hk, An, mn, cn, Ak, mk, ck, l, s, hf⟩
  repeat (refine VS_seq ?_)
  refine VS_region_lit ?_
  refine VL_run (d := 21) (run_move rfl (by conv => lhs; whnf)) rfl rfl ?_
  refine VL_run (d := 22) (run_fieldAddr rfl fo26_3 rfl) rfl rfl ?_
  refine VL_run (d := 23) (run_load_own1 s rfl ty23 rfl (i := 5) rfl rfl) rfl rfl ?_
  refine VL_run (d := 24) (run_lenSlice rfl ⟨_, Try.underlying23⟩ rfl) rfl rfl ?_
  refine VL_run (d := 25) (run_ltI rfl rfl rfl) rfl rfl ?_
  refine VL_nil ?_
  refine VS_cond rfl (fun c0 => ?_) (fun c0 => ?_) <;> (try simp only [decide_eq_true_eq, decide_eq_false_iff_not, Bool.not_eq_true', Bool.not_eq_false', ne_eq, Decidable.not_not, cond_true, cond_false, Bool.and_eq_true, Bool.or_eq_true, Bool.and_eq_false_iff, Bool.or_eq_false_iff, Bool.not_true, Bool.not_false, reduceCtorEq] at c0)
  · repeat (first | refine VS_seq ?_ | refine VS_block ?_ | refine VS_skip ?_)
    have hk' : k < t.names.length := by omega
    have hk2 : k < t.kids.length := by omega
    have hd := setZ_drop (f := setP p x gone) (one := one) (gone := gone) (q := q) (x := x) hk2 hk' done
    have hlen := setZ_len (setP p x gone) one gone q x t.kids t.names false
    rw [← hf, List.length_append] at hlen
    rw [hd] at hf
    obtain ⟨ad3, rfl, s⟩ := s.openS (i := 2) rfl k hk'
    obtain ⟨ad4, B5, d5, B6, d6, rfl, hl5, hl6, s⟩ := s.openT (i := 4) rfl k hk2
    refine VS_region_lit ?_
    refine VL_run (d := 28) (run_fieldAddr rfl fo26_3 rfl) rfl rfl ?_
    refine VL_run (d := 29) (run_load_own1 s rfl ty23 rfl (i := 5) rfl rfl) rfl rfl ?_
    refine VL_run (d := 30) (run_move rfl (by conv => lhs; whnf)) rfl rfl ?_
    refine VL_run (d := 31) (run_indexAddr rfl Try.underlying23 ty9 rfl rfl (by omega) (by omega)) rfl rfl ?_
    refine VL_run (d := 32) (run_load_at0 s rfl ty9 rfl (i := 2) rfl rfl) rfl rfl ?_
    refine VL_run (d := 12) (run_assign rfl (by conv => lhs; whnf)) rfl rfl ?_
    refine VL_nil ?_
    repeat (refine VS_seq ?_)
    refine VS_meetB s 50 (setIns one gone q t.names[k] done) [33, 34, 35, 36, 37, 38, 39, 40, 41, 42, 43, 44, 45, 46, 47, 48, 49, 50] ?_ ?_
    · refine VS_region_lit ?_
      refine VL_run (d := 33) (run_move rfl (by conv => lhs; whnf)) rfl rfl ?_
      refine VL_run (d := 34) (run_lenSlice rfl ⟨_, Try.underlying23⟩ rfl) rfl rfl ?_
      refine VL_run (d := 35) (run_eqI rfl rfl rfl) rfl rfl ?_
      refine VL_run (d := 36) (run_move rfl (by conv => lhs; whnf)) rfl rfl ?_
      refine VL_split 36 (by conv => lhs; whnf) (fun h36 => ?_) (fun h36 => ?_) <;> (try simp only [decide_eq_true_eq, decide_eq_false_iff_not, Bool.not_eq_true', Bool.not_eq_false', ne_eq, Decidable.not_not, cond_true, cond_false, Bool.and_eq_true, Bool.or_eq_true, Bool.and_eq_false_iff, Bool.or_eq_false_iff, Bool.not_true, Bool.not_false, reduceCtorEq] at h36)
      · refine VL_run (d := 37) (run_move rfl (by conv => lhs; whnf)) rfl rfl ?_
        refine VL_run (d := 38) (run_not rfl rfl) rfl rfl ?_
        refine VL_run (d := 39) (run_pickT rfl rfl rfl) rfl rfl ?_
        refine VL_run (d := 40) (run_move rfl (by conv => lhs; whnf)) rfl rfl ?_
        refine VL_split 40 (by conv => lhs; whnf) (fun h40 => ?_) (fun h40 => ?_) <;> (try simp only [decide_eq_true_eq, decide_eq_false_iff_not, Bool.not_eq_true', Bool.not_eq_false', ne_eq, Decidable.not_not, cond_true, cond_false, Bool.and_eq_true, Bool.or_eq_true, Bool.and_eq_false_iff, Bool.or_eq_false_iff, Bool.not_true, Bool.not_false, reduceCtorEq] at h40)
        · refine VL_run (d := 41) (run_move rfl (by conv => lhs; whnf)) rfl rfl ?_
          refine VL_run (d := 42) (run_not rfl rfl) rfl rfl ?_
          refine VL_run (d := 43) (run_pickT rfl rfl rfl) rfl rfl ?_
          refine VL_run (d := 44) (run_move rfl (by conv => lhs; whnf)) rfl rfl ?_
          refine VL_split 44 (by conv => lhs; whnf) (fun h44 => ?_) (fun h44 => ?_) <;> (try simp only [decide_eq_true_eq, decide_eq_false_iff_not, Bool.not_eq_true', Bool.not_eq_false', ne_eq, Decidable.not_not, cond_true, cond_false, Bool.and_eq_true, Bool.or_eq_true, Bool.and_eq_false_iff, Bool.or_eq_false_iff, Bool.not_true, Bool.not_false, reduceCtorEq] at h44)
          · refine VL_run (d := 45) (run_move rfl (by conv => lhs; whnf)) rfl rfl ?_
            refine VL_run (d := 46) (run_move rfl (by conv => lhs; whnf)) rfl rfl ?_
            refine VL_run (d := 47) (run_indexAddr rfl Try.underlying23 ty9 rfl rfl (by omega) (by omega)) rfl rfl ?_
            refine VL_run (d := 48) (run_load_at1 s rfl ty9 rfl (i := 4) rfl rfl) rfl rfl ?_
            refine VL_run (d := 49) (run_geS rfl rfl rfl) rfl rfl ?_
            refine VL_run (d := 50) (run_pickT rfl rfl rfl) rfl rfl ?_
            refine VL_nil ?_
            exact VS_endB s (by conv => lhs; whnf) (by clear s; subst hone; simp only [setIns]; grind) (by repeat (first | exact Out.refl _ _ | refine Out.upd rfl ?_))
          · refine VL_not (d := 45) rfl rfl rfl rfl ?_
            refine VL_not (d := 46) rfl rfl rfl rfl ?_
            refine VL_not (d := 47) rfl rfl rfl rfl ?_
            refine VL_not (d := 48) rfl rfl rfl rfl ?_
            refine VL_not (d := 49) rfl rfl rfl rfl ?_
            refine VL_run (d := 50) (run_pickF rfl rfl rfl) rfl rfl ?_
            refine VL_nil ?_
            exact VS_endB s (by conv => lhs; whnf) (by clear s; subst hone; simp only [setIns]; grind) (by repeat (first | exact Out.refl _ _ | refine Out.upd rfl ?_))
        · refine VL_not (d := 41) rfl rfl rfl rfl ?_
          refine VL_not (d := 42) rfl rfl rfl rfl ?_
          refine VL_run (d := 43) (run_pickF rfl rfl rfl) rfl rfl ?_
          refine VL_run (d := 44) (run_move rfl (by conv => lhs; whnf)) rfl rfl ?_
          refine VL_not (d := 45) rfl rfl rfl rfl ?_
          refine VL_not (d := 46) rfl rfl rfl rfl ?_
          refine VL_not (d := 47) rfl rfl rfl rfl ?_
          refine VL_not (d := 48) rfl rfl rfl rfl ?_
          refine VL_not (d := 49) rfl rfl rfl rfl ?_
          refine VL_run (d := 50) (run_pickF rfl rfl rfl) rfl rfl ?_
          refine VL_nil ?_
          exact VS_endB s (by conv => lhs; whnf) (by clear s; subst hone; simp only [setIns]; grind) (by repeat (first | exact Out.refl _ _ | refine Out.upd rfl ?_))
      · refine VL_not (d := 37) rfl rfl rfl rfl ?_
        refine VL_not (d := 38) rfl rfl rfl rfl ?_
        refine VL_run (d := 39) (run_pickF rfl rfl rfl) rfl rfl ?_
        refine VL_run (d := 40) (run_move rfl (by conv => lhs; whnf)) rfl rfl ?_
        refine VL_not (d := 41) rfl rfl rfl rfl ?_
        refine VL_not (d := 42) rfl rfl rfl rfl ?_
        refine VL_run (d := 43) (run_pickF rfl rfl rfl) rfl rfl ?_
        refine VL_run (d := 44) (run_move rfl (by conv => lhs; whnf)) rfl rfl ?_
        refine VL_not (d := 45) rfl rfl rfl rfl ?_
        refine VL_not (d := 46) rfl rfl rfl rfl ?_
        refine VL_not (d := 47) rfl rfl rfl rfl ?_
        refine VL_not (d := 48) rfl rfl rfl rfl ?_
        refine VL_not (d := 49) rfl rfl rfl rfl ?_
        refine VL_run (d := 50) (run_pickF rfl rfl rfl) rfl rfl ?_
        refine VL_nil ?_
        exact VS_endB s (by conv => lhs; whnf) (by clear s; subst hone; simp only [setIns]; grind) (by repeat (first | exact Out.refl _ _ | refine Out.upd rfl ?_))
    clear s; intro w j50 s
    refine VS_join1 [10, 51, 52, 53, 54, 55, 56, 57, 58, 59, 60, 61, 62, 63, 64] (fun d : Bool => [(10, .bool d)]) (fun d w => d = (done || setIns one gone q t.names[k] done) ∧ ∃ An mn cn Ak mk ck l', St ok w0 [.row (.slice Ak mk ck) 26 5 (Tr.toDs (l'.map Prod.snd)), .row (.slice An mn cn) 9 1 (strsD (l'.map Prod.fst)), .blk b9 [.bool t.dir, .int .i64 t.mode, .string t.data, .slice An mn cn, .slice Ak mk ck] 26, .blk b8 tr0 26, .blk b6 (trC x X3 x3 X4 x4) 26, .blk b4 (trC t (some ad3) c3 (some ad4) c4) 26] [.at (ad4.add (k * 5)) (trC t.kids[k] B5 d5 B6 d6), .dat (trC t.kids[k] B5 d5 B6 d6) t.kids[k].toD, .at (ad3.add (k * 1)) [.string t.names[k]], .dat [.slice (if c = 1 then some ad else (some ad).map (·.add (1 * 1))) (p.length + 1 - 1) (c - 1)] (.sl (strsD p)), .at (ad.add (0 * 1)) [.string q], .dat [.slice (some ad3) t.names.length c3] (.sl (strsD t.names)), .dat [.slice (some ad4) t.kids.length c4] (.sl (Tr.toDs t.kids)), .dat [.slice X3 x.names.length x3] (.sl (strsD x.names)), .dat [.slice X4 x.kids.length x4] (.sl (Tr.toDs x.kids))] w ∧ l' = l ++ (bif setIns one gone q t.names[k] done then [(q, x)] else [])) ?_ ?_
    · refine VS_cond rfl (fun c1 => ?_) (fun c1 => ?_) <;> (try simp only [decide_eq_true_eq, decide_eq_false_iff_not, Bool.not_eq_true', Bool.not_eq_false', ne_eq, Decidable.not_not, cond_true, cond_false, Bool.and_eq_true, Bool.or_eq_true, Bool.and_eq_false_iff, Bool.or_eq_false_iff, Bool.not_true, Bool.not_false, reduceCtorEq] at c1)
      · repeat (refine VS_seq ?_)
        refine VS_drawS 7 s mixed ?_
        clear s; intro s
        refine VA_take 0 (d := 51) rfl (by kernel_rfl) rfl (fun w g => run_fieldAddr rfl fo26_3 rfl) s.see ?_
        refine VA_take 1 (d := 52) rfl (by kernel_rfl) rfl (fun w g => see_own1 g rfl ty23 rfl (i := 2) rfl rfl) s.see ?_
        refine VA_take 2 (d := 53) rfl (by kernel_rfl) rfl (fun w g => run_move rfl (by conv => lhs; whnf)) s.see ?_
        refine VA_take 3 (d := 54) rfl (by kernel_rfl) rfl (fun w g => run_indexAddr rfl Try.underlying23 ty9 rfl rfl (by omega) (by omega)) s.see ?_
        refine VA_take 4 (d := 55) rfl (by kernel_rfl) rfl (fun w g => see_at1 g rfl ty9 rfl (i := 4) rfl rfl) s.see ?_
        refine VA_one (i := 5) (by kernel_rfl) ?_
        refine VO_does (d := 56) rfl (does_slice1 s rfl Try.underlying23 ty9 (by decide) (by decide) rfl rfl (show Rd _ _ (.str q) [.string q] from rfl) rfl ?_) rfl rfl
        clear s; intro g56 w s
        refine ⟨fun _ => s.sees (by intro b c t h; exact .tail _ h) (by intro f h; exact h), ?_⟩
        refine VA_one (i := 6) (by kernel_rfl) ?_
        (refine VO_does (d := 57) rfl (does_appendR s rfl Try.underlying23 ty9 (by decide) (by decide) (i := 1) rfl rfl rfl (by simp <;> omega) (show _ = strsD ((l ++ [(q, x)]).map Prod.fst) by simp [strsD]) (show _ = l.length + 1 by simp) ?_) rfl rfl)
        clear s; intro A57 c57 w s
        try simp only [List.set_cons_zero, List.set_cons_succ, patch, List.take_succ_cons, List.take_zero, List.drop_succ_cons, List.drop_zero, List.drop_nil, List.nil_append, List.cons_append, List.append_nil, List.length_cons, List.length_nil, Nat.reduceAdd, Nat.zero_add] at s
        refine ⟨fun _ => s.sees (by intro b c t h; first | exact h | exact .tail _ h | exact .tail _ (.tail _ h) | exact .tail _ (.tail _ (.tail _ h)) | (simp only [List.mem_cons, List.not_mem_nil, or_false, List.set_cons_zero, List.set_cons_succ, reduceCtorEq, false_or] at h ⊢ <;> exact h)) (by intro f h; exact h), ?_⟩
        refine VA_one (i := 7) (by kernel_rfl) ?_
        refine VO_run (d := 58) rfl (run_fieldAddr rfl fo26_3 rfl) rfl rfl ((fun h => nomatch (show true = false from h))) ?_
        refine VA_one (i := 8) (by kernel_rfl) ?_
        (refine VO_doesU rfl (does_store s rfl ty23 rfl rfl (i := 2) rfl rfl rfl (by (intro u hu; simp only [List.mem_cons, List.not_mem_nil, or_false] at hu; subst hu; rfl)) rfl ?_) rfl rfl rfl)
        clear s; intro w s
        try simp only [List.set_cons_zero, List.set_cons_succ, patch, List.take_succ_cons, List.take_zero, List.drop_succ_cons, List.drop_zero, List.drop_nil, List.nil_append, List.cons_append, List.append_nil, List.length_cons, List.length_nil, Nat.reduceAdd, Nat.zero_add] at s
        refine ⟨fun _ => s.sees (by intro b c t h; (simp only [List.mem_cons, List.not_mem_nil, or_false, List.set_cons_zero, List.set_cons_succ, reduceCtorEq, false_or] at h ⊢ <;> simp_all)) (by intro f h; exact h), ?_⟩
        refine VA_done (by kernel_rfl) ?_
        repeat (refine VS_seq ?_)
        refine VS_region_lit ?_
        refine VL_run (d := 59) (run_fieldAddr rfl fo26_4 rfl) rfl rfl ?_
        refine VL_run (d := 60) (run_load_own1 s rfl ty24 rfl (i := 2) rfl rfl) rfl rfl ?_
        refine VL_run (d := 61) (run_load_ownA (cs := [_, _, _, _, _]) s rfl ty26 rfl (i := 4) rfl rfl rfl) rfl rfl ?_
        refine VL_does (d := 62) (does_slice1 s rfl Try.underlying24 ty26 (by decide) (by decide) rfl rfl (Tr.shut' (s.dat (i := 7) rfl) (s.dat (i := 8) rfl)) (Tr.toD_wd _) ?_) rfl rfl
        clear s; intro g62 w s
        (refine VL_does (d := 63) (does_appendR s rfl Try.underlying24 ty26 (by decide) (by decide) (i := 0) rfl rfl rfl (by simp <;> omega) (show _ = Tr.toDs ((l ++ [(q, x)]).map Prod.snd) by simp [Tr.toDs_map]) (show _ = l.length + 1 by simp) ?_) rfl rfl)
        clear s; intro A63 c63 w s
        try simp only [List.set_cons_zero, List.set_cons_succ, patch, List.take_succ_cons, List.take_zero, List.drop_succ_cons, List.drop_zero, List.drop_nil, List.nil_append, List.cons_append, List.append_nil, List.length_cons, List.length_nil, Nat.reduceAdd, Nat.zero_add] at s
        refine VL_run (d := 64) (run_fieldAddr rfl fo26_4 rfl) rfl rfl ?_
        (refine VL_doesU (does_store s rfl ty24 rfl rfl (i := 2) rfl rfl rfl (by (intro u hu; simp only [List.mem_cons, List.not_mem_nil, or_false] at hu; subst hu; rfl)) rfl ?_) rfl rfl rfl)
        clear s; intro w s
        try simp only [List.set_cons_zero, List.set_cons_succ, patch, List.take_succ_cons, List.take_zero, List.drop_succ_cons, List.drop_zero, List.drop_nil, List.nil_append, List.cons_append, List.append_nil, List.length_cons, List.length_nil, Nat.reduceAdd, Nat.zero_add] at s
        refine VL_nil ?_
        refine VS_region_lit ?_
        refine VL_run (d := 10) (run_assign rfl (by conv => lhs; whnf)) rfl rfl ?_
        refine VL_nil ?_
        refine VS_met (_) ?_ (by repeat (first | exact Has.nil _ | refine Has.cons rfl ?_)) (by repeat (first | exact Out.refl _ _ | refine Out.upd rfl ?_))
        exact ⟨by simp [c1], _, _, _, _, _, _, _, s, by simp [c1]⟩
      · repeat (refine VS_skip ?_)
        refine VS_met (_) ?_ (by repeat (first | exact Has.nil _ | refine Has.cons rfl ?_)) (by repeat (exact Out.refl _ _))
        exact ⟨by simp [c1], _, _, _, _, _, _, _, s, by simp [c1]⟩
    clear s
    rintro dn w j ⟨hdn, An, mn, cn, Ak, mk, ck, l', s, hl'⟩
    have hl2 : l'.length ≤ l.length + 1 := by rw [hl', List.length_append]; have := bif_len1 (setIns one gone q t.names[k] done) (q, x); omega
    repeat (refine VS_seq ?_)
    refine VS_meetB s 74 (decide (t.names[k] = q) && one) [65, 66, 67, 68, 69, 70, 71, 72, 73, 74] ?_ ?_
    · refine VS_region_lit ?_
      refine VL_run (d := 65) (run_move rfl (by conv => lhs; whnf)) rfl rfl ?_
      refine VL_run (d := 66) (run_move rfl (by conv => lhs; whnf)) rfl rfl ?_
      refine VL_run (d := 67) (run_indexAddr rfl Try.underlying23 ty9 rfl rfl (by omega) (by omega)) rfl rfl ?_
      refine VL_run (d := 68) (run_load_at1 s rfl ty9 rfl (i := 4) rfl rfl) rfl rfl ?_
      refine VL_run (d := 69) (run_eqS rfl rfl rfl) rfl rfl ?_
      refine VL_run (d := 70) (run_move rfl (by conv => lhs; whnf)) rfl rfl ?_
      refine VL_split 70 (by conv => lhs; whnf) (fun h70 => ?_) (fun h70 => ?_) <;> (try simp only [decide_eq_true_eq, decide_eq_false_iff_not, Bool.not_eq_true', Bool.not_eq_false', ne_eq, Decidable.not_not, cond_true, cond_false, Bool.and_eq_true, Bool.or_eq_true, Bool.and_eq_false_iff, Bool.or_eq_false_iff, Bool.not_true, Bool.not_false, reduceCtorEq] at h70)
      · refine VL_run (d := 71) (run_move rfl (by conv => lhs; whnf)) rfl rfl ?_
        refine VL_run (d := 72) (run_lenSlice rfl ⟨_, Try.underlying23⟩ rfl) rfl rfl ?_
        refine VL_run (d := 73) (run_eqI rfl rfl rfl) rfl rfl ?_
        refine VL_run (d := 74) (run_pickT rfl rfl rfl) rfl rfl ?_
        refine VL_nil ?_
        exact VS_endB s (by conv => lhs; whnf) (by clear s; subst hone; grind) (by repeat (first | exact Out.refl _ _ | refine Out.upd rfl ?_))
      · refine VL_not (d := 71) rfl rfl rfl rfl ?_
        refine VL_not (d := 72) rfl rfl rfl rfl ?_
        refine VL_not (d := 73) rfl rfl rfl rfl ?_
        refine VL_run (d := 74) (run_pickF rfl rfl rfl) rfl rfl ?_
        refine VL_nil ?_
        exact VS_endB s (by conv => lhs; whnf) (by clear s; subst hone; grind) (by repeat (first | exact Out.refl _ _ | refine Out.upd rfl ?_))
    clear s; intro w j74 s
    refine VS_cond rfl (fun c2 => ?_) (fun c2 => ?_) <;> (try simp only [decide_eq_true_eq, decide_eq_false_iff_not, Bool.not_eq_true', Bool.not_eq_false', ne_eq, Decidable.not_not, cond_true, cond_false, Bool.and_eq_true, Bool.or_eq_true, Bool.and_eq_false_iff, Bool.or_eq_false_iff, Bool.not_true, Bool.not_false, reduceCtorEq] at c2)
    · refine VS_exit ?_
      repeat (refine blockV_hit ?_)
      have hnew : l' ++ setZ (setP p x gone) one gone q x (t.kids.drop (k + 1)) (t.names.drop (k + 1)) dn = setZ (setP p x gone) one gone q x t.kids t.names false := by
        rw [hl', hdn, ← hf]
        simp [c2]
      repeat (first | refine VS_seq ?_ | refine VS_block ?_ | refine VS_skip ?_ | refine VS_nil_block ?_)
      refine VS_region_lit ?_
      refine VL_run (d := 26) (run_move rfl (by conv => lhs; whnf)) rfl rfl ?_
      refine VL_run (d := 27) (run_add rfl rfl rfl (by omega)) rfl rfl ?_
      refine VL_run (d := 11) (run_assign rfl (by conv => lhs; whnf)) rfl rfl ?_
      refine VL_nil ?_
      refine VS_back2 (k + 1) (dn) ?_ (by repeat (first | exact Has.nil _ | refine Has.cons rfl ?_)) (by repeat (first | exact Out.mix _ _ _ | refine Out.upd rfl ?_ | refine Out.mix_in rfl ?_)) ?_
      · exact ⟨by omega, _, _, _, _, _, _, _, s.less (by simp), hnew⟩
      · omega
    · have e2 : (decide (t.names[k] = q) && one) = false := by clear s; grind
      repeat (first | refine VS_seq ?_ | refine VS_skip ?_)
      refine VS_region_lit ?_
      refine VL_run (d := 75) (run_fieldAddr rfl fo26_4 rfl) rfl rfl ?_
      refine VL_run (d := 76) (run_load_own1 s rfl ty24 rfl (i := 5) rfl rfl) rfl rfl ?_
      refine VL_run (d := 77) (run_move rfl (by conv => lhs; whnf)) rfl rfl ?_
      refine VL_run (d := 78) (run_indexAddr rfl Try.underlying24 ty26 rfl rfl (by omega) (by omega)) rfl rfl ?_
      refine VL_run (d := 79) (run_load_atA s rfl ty26 rfl (i := 0) rfl rfl) rfl rfl ?_
      refine VL_does (d := 13) (does_alloc s rfl ty26 rfl ?_) rfl rfl
      clear s; intro b13 w s
      (refine VL_doesU (does_store s rfl ty26 rfl rfl (i := 0) rfl rfl rfl (by (intro u hu; simp only [List.mem_cons, List.not_mem_nil, or_false] at hu; rcases hu with rfl | rfl | rfl | rfl | rfl <;> rfl)) rfl ?_) rfl rfl rfl)
      clear s; intro w s
      try simp only [List.set_cons_zero, List.set_cons_succ, patch, List.take_succ_cons, List.take_zero, List.drop_succ_cons, List.drop_zero, List.drop_nil, List.nil_append, List.cons_append, List.append_nil, List.length_cons, List.length_nil, Nat.reduceAdd, Nat.zero_add] at s
      refine VL_nil ?_
      repeat (refine VS_seq ?_)
      refine VS_region_lit ?_
      refine VL_run (d := 80) (run_move rfl (by conv => lhs; whnf)) rfl rfl ?_
      refine VL_run (d := 81) (run_move rfl (by conv => lhs; whnf)) rfl rfl ?_
      refine VL_run (d := 82) (run_indexAddr rfl Try.underlying23 ty9 rfl rfl (by omega) (by omega)) rfl rfl ?_
      refine VL_run (d := 83) (run_load_at1 s rfl ty9 rfl (i := 4) rfl rfl) rfl rfl ?_
      refine VL_run (d := 84) (run_eqS rfl rfl rfl) rfl rfl ?_
      refine VL_nil ?_
      refine VS_join1 [85, 86, 87, 88, 89, 90] (fun _ : Unit => []) (fun _ w => ∃ B7 d7 B8 d8, St ok w0 [.blk b13 (trC (bif decide (t.names[k] = q) then setP p x gone t.kids[k] else t.kids[k]) B7 d7 B8 d8) 26, .row (.slice Ak mk ck) 26 5 (Tr.toDs (l'.map Prod.snd)), .row (.slice An mn cn) 9 1 (strsD (l'.map Prod.fst)), .blk b9 [.bool t.dir, .int .i64 t.mode, .string t.data, .slice An mn cn, .slice Ak mk ck] 26, .blk b8 tr0 26, .blk b6 (trC x X3 x3 X4 x4) 26, .blk b4 (trC t (some ad3) c3 (some ad4) c4) 26] [.dat (trC (bif decide (t.names[k] = q) then setP p x gone t.kids[k] else t.kids[k]) B7 d7 B8 d8) (bif decide (t.names[k] = q) then setP p x gone t.kids[k] else t.kids[k]).toD, .dat [.slice (if c = 1 then some ad else (some ad).map (·.add (1 * 1))) (p.length + 1 - 1) (c - 1)] (.sl (strsD p)), .at (ad.add (0 * 1)) [.string q], .dat [.slice (some ad3) t.names.length c3] (.sl (strsD t.names)), .dat [.slice (some ad4) t.kids.length c4] (.sl (Tr.toDs t.kids)), .dat [.slice X3 x.names.length x3] (.sl (strsD x.names)), .dat [.slice X4 x.kids.length x4] (.sl (Tr.toDs x.kids))] w) ?_ ?_
      · refine VS_cond rfl (fun c3 => ?_) (fun c3 => ?_) <;> (try simp only [decide_eq_true_eq, decide_eq_false_iff_not, Bool.not_eq_true', Bool.not_eq_false', ne_eq, Decidable.not_not, cond_true, cond_false, Bool.and_eq_true, Bool.or_eq_true, Bool.and_eq_false_iff, Bool.or_eq_false_iff, Bool.not_true, Bool.not_false, reduceCtorEq] at c3)
        · have hpne : p ≠ [] := by
            clear s
            rintro rfl
            simp at hone
            grind
          have hc3 : decide (t.names[k] = q) = true := decide_eq_true c3
          refine VS_drawS 6 s mixed ?_
          clear s; intro s
          refine VA_take 0 (d := 85) rfl (by kernel_rfl) rfl (fun w g => see_ownA (cs := [_, _, _, _, _]) g rfl ty26 rfl (i := 0) rfl rfl rfl) s.see ?_
          refine VA_take 1 (d := 86) rfl (by kernel_rfl) rfl (fun w g => run_move rfl (by conv => lhs; whnf)) s.see ?_
          refine VA_take 2 (d := 87) rfl (by kernel_rfl) rfl (fun w g => run_sliceSlL (l := 1) rfl Try.underlying23 ty9 rfl rfl (by omega) (by omega) (by omega)) s.see ?_
          refine VA_take 3 (d := 88) rfl (by kernel_rfl) rfl (fun w g => see_ownA (cs := [_, _, _, _, _]) g rfl ty26 rfl (i := 5) rfl rfl rfl) s.see ?_
          refine VA_take 4 (d := 89) rfl (by kernel_rfl) rfl (fun w g => run_move rfl (by conv => lhs; whnf)) s.see ?_
          refine VA_one (i := 5) (by kernel_rfl) ?_
          refine VO_does (d := 90) rfl (does_call4 rfl (by kernel_rfl) rfl rfl rfl rfl (ih p.length (by omega) p rfl hpne t.kids[k] x gone (s.dat (i := 1) rfl) (s.dat (i := 3) rfl) (Tr.shut' (s.dat (i := 7) rfl) (s.dat (i := 8) rfl)) (ht.kid _ (List.getElem_mem _)) (he.kid _ (List.getElem_mem _)) (by omega)) ?_) rfl rfl
          rintro v90 w1 ⟨cs', rfl, hr, hb⟩
          replace s := s.ret hb hr; clear hb hr; obtain ⟨B7, d7, B8, d8, rfl, -, -, -, -⟩ := Tr.opn (s.dat (i := 0) rfl)
          refine ⟨fun _ => s.sees (by intro b c t h; exact h) (by intro f h; exact .tail _ h), ?_⟩
          refine VA_one (i := 6) (by kernel_rfl) ?_
          (refine VO_doesU rfl (does_store s rfl ty26 rfl rfl (i := 0) rfl rfl rfl (by (intro u hu; simp only [List.mem_cons, List.not_mem_nil, or_false] at hu; rcases hu with rfl | rfl | rfl | rfl | rfl <;> rfl)) rfl ?_) rfl rfl rfl)
          clear s; intro w s
          try simp only [List.set_cons_zero, List.set_cons_succ, patch, List.take_succ_cons, List.take_zero, List.drop_succ_cons, List.drop_zero, List.drop_nil, List.nil_append, List.cons_append, List.append_nil, List.length_cons, List.length_nil, Nat.reduceAdd, Nat.zero_add] at s
          refine ⟨(fun h => nomatch (show true = false from h)), ?_⟩
          refine VA_done (by kernel_rfl) ?_
          refine VS_met (()) ?_ (by repeat (exact Has.nil _)) (by repeat (first | exact Out.refl _ _ | refine Out.upd rfl ?_))
          rw [hc3]
          exact ⟨_, _, _, _, s.less (by simp)⟩
        · have hc3 : decide (t.names[k] = q) = false := decide_eq_false c3
          repeat (refine VS_skip ?_)
          refine VS_met (()) ?_ (by repeat (exact Has.nil _)) (by repeat (exact Out.refl _ _))
          rw [hc3]
          exact ⟨_, _, _, _, s.less (by simp)⟩
      clear s
      rintro _ w j ⟨B7, d7, B8, d8, s⟩
      repeat (refine VS_seq ?_)
      refine VS_region_lit ?_
      refine VL_run (d := 91) (run_fieldAddr rfl fo26_3 rfl) rfl rfl ?_
      refine VL_run (d := 92) (run_load_own1 s rfl ty23 rfl (i := 3) rfl rfl) rfl rfl ?_
      refine VL_run (d := 93) (run_move rfl (by conv => lhs; whnf)) rfl rfl ?_
      refine VL_does (d := 94) (does_slice1 s rfl Try.underlying23 ty9 (by decide) (by decide) rfl rfl (show Rd _ _ (.str t.names[k]) [.string t.names[k]] from rfl) rfl ?_) rfl rfl
      clear s; intro g94 w s
      (refine VL_does (d := 95) (does_appendR s rfl Try.underlying23 ty9 (by decide) (by decide) (i := 2) rfl rfl rfl (by simp <;> omega) (show _ = strsD ((l' ++ [(t.names[k], bif decide (t.names[k] = q) then setP p x gone t.kids[k] else t.kids[k])]).map Prod.fst) by simp [strsD]) (show _ = l'.length + 1 by simp) ?_) rfl rfl)
      clear s; intro A95 c95 w s
      try simp only [List.set_cons_zero, List.set_cons_succ, patch, List.take_succ_cons, List.take_zero, List.drop_succ_cons, List.drop_zero, List.drop_nil, List.nil_append, List.cons_append, List.append_nil, List.length_cons, List.length_nil, Nat.reduceAdd, Nat.zero_add] at s
      refine VL_run (d := 96) (run_fieldAddr rfl fo26_3 rfl) rfl rfl ?_
      (refine VL_doesU (does_store s rfl ty23 rfl rfl (i := 3) rfl rfl rfl (by (intro u hu; simp only [List.mem_cons, List.not_mem_nil, or_false] at hu; subst hu; rfl)) rfl ?_) rfl rfl rfl)
      clear s; intro w s
      try simp only [List.set_cons_zero, List.set_cons_succ, patch, List.take_succ_cons, List.take_zero, List.drop_succ_cons, List.drop_zero, List.drop_nil, List.nil_append, List.cons_append, List.append_nil, List.length_cons, List.length_nil, Nat.reduceAdd, Nat.zero_add] at s
      refine VL_nil ?_
      refine VS_region_lit ?_
      refine VL_run (d := 97) (run_fieldAddr rfl fo26_4 rfl) rfl rfl ?_
      refine VL_run (d := 98) (run_load_own1 s rfl ty24 rfl (i := 3) rfl rfl) rfl rfl ?_
      refine VL_run (d := 99) (run_load_ownA (cs := [_, _, _, _, _]) s rfl ty26 rfl (i := 0) rfl rfl rfl) rfl rfl ?_
      refine VL_does (d := 100) (does_slice1 s rfl Try.underlying24 ty26 (by decide) (by decide) rfl rfl (s.dat (i := 0) rfl) (Tr.toD_wd _) ?_) rfl rfl
      clear s; intro g100 w s
      (refine VL_does (d := 101) (does_appendR s rfl Try.underlying24 ty26 (by decide) (by decide) (i := 1) rfl rfl rfl (by simp <;> omega) (show _ = Tr.toDs ((l' ++ [(t.names[k], bif decide (t.names[k] = q) then setP p x gone t.kids[k] else t.kids[k])]).map Prod.snd) by simp [Tr.toDs_map]) (show _ = l'.length + 1 by simp) ?_) rfl rfl)
      clear s; intro A101 c101 w s
      try simp only [List.set_cons_zero, List.set_cons_succ, patch, List.take_succ_cons, List.take_zero, List.drop_succ_cons, List.drop_zero, List.drop_nil, List.nil_append, List.cons_append, List.append_nil, List.length_cons, List.length_nil, Nat.reduceAdd, Nat.zero_add] at s
      refine VL_run (d := 102) (run_fieldAddr rfl fo26_4 rfl) rfl rfl ?_
      (refine VL_doesU (does_store s rfl ty24 rfl rfl (i := 3) rfl rfl rfl (by (intro u hu; simp only [List.mem_cons, List.not_mem_nil, or_false] at hu; subst hu; rfl)) rfl ?_) rfl rfl rfl)
      clear s; intro w s
      try simp only [List.set_cons_zero, List.set_cons_succ, patch, List.take_succ_cons, List.take_zero, List.drop_succ_cons, List.drop_zero, List.drop_nil, List.nil_append, List.cons_append, List.append_nil, List.length_cons, List.length_nil, Nat.reduceAdd, Nat.zero_add] at s
      refine VL_nil ?_
      have s := s.drop 0
      have hnew : (l' ++ [(t.names[k], bif decide (t.names[k] = q) then setP p x gone t.kids[k] else t.kids[k])]) ++ setZ (setP p x gone) one gone q x (t.kids.drop (k + 1)) (t.names.drop (k + 1)) dn = setZ (setP p x gone) one gone q x t.kids t.names false := by
        rw [hl', hdn, ← hf, e2]
        simp
      repeat (refine VS_nil_block ?_)
      refine VS_region_lit ?_
      refine VL_run (d := 26) (run_move rfl (by conv => lhs; whnf)) rfl rfl ?_
      refine VL_run (d := 27) (run_add rfl rfl rfl (by omega)) rfl rfl ?_
      refine VL_run (d := 11) (run_assign rfl (by conv => lhs; whnf)) rfl rfl ?_
      refine VL_nil ?_
      refine VS_back2 (k + 1) (dn) ?_ (by repeat (first | exact Has.nil _ | refine Has.cons rfl ?_)) (by repeat (first | exact Out.mix _ _ _ | refine Out.upd rfl ?_ | refine Out.mix_in rfl ?_)) ?_
      · exact ⟨by omega, _, _, _, _, _, _, _, s.less (by simp), hnew⟩
      · omega
  · refine VS_exit ?_
    repeat (first | refine blockV_hit ?_ | refine backV_exit ?_)
    have hf : l ++ (bif one && !done && !gone then [(q, x)] else []) = setZ (setP p x gone) one gone q x t.kids t.names false := by
      rw [← hf, List.drop_of_length_le (by omega), List.drop_of_length_le (by omega)]
      simp [setZ]
    have hlen := setZ_len (setP p x gone) one gone q x t.kids t.names false
    rw [← hf, List.length_append] at hlen
    repeat (refine VS_seq ?_)
    refine VS_meetB s 113 (one && !done && !gone) [103, 104, 105, 106, 107, 108, 109, 110, 111, 112, 113] ?_ ?_
    · refine VS_region_lit ?_
      refine VL_run (d := 103) (run_move rfl (by conv => lhs; whnf)) rfl rfl ?_
      refine VL_run (d := 104) (run_lenSlice rfl ⟨_, Try.underlying23⟩ rfl) rfl rfl ?_
      refine VL_run (d := 105) (run_eqI rfl rfl rfl) rfl rfl ?_
      refine VL_run (d := 106) (run_move rfl (by conv => lhs; whnf)) rfl rfl ?_
      refine VL_split 106 (by conv => lhs; whnf) (fun h106 => ?_) (fun h106 => ?_) <;> (try simp only [decide_eq_true_eq, decide_eq_false_iff_not, Bool.not_eq_true', Bool.not_eq_false', ne_eq, Decidable.not_not, cond_true, cond_false, Bool.and_eq_true, Bool.or_eq_true, Bool.and_eq_false_iff, Bool.or_eq_false_iff, Bool.not_true, Bool.not_false, reduceCtorEq] at h106)
      · refine VL_run (d := 107) (run_move rfl (by conv => lhs; whnf)) rfl rfl ?_
        refine VL_run (d := 108) (run_not rfl rfl) rfl rfl ?_
        refine VL_run (d := 109) (run_pickT rfl rfl rfl) rfl rfl ?_
        refine VL_run (d := 110) (run_move rfl (by conv => lhs; whnf)) rfl rfl ?_
        refine VL_split 110 (by conv => lhs; whnf) (fun h110 => ?_) (fun h110 => ?_) <;> (try simp only [decide_eq_true_eq, decide_eq_false_iff_not, Bool.not_eq_true', Bool.not_eq_false', ne_eq, Decidable.not_not, cond_true, cond_false, Bool.and_eq_true, Bool.or_eq_true, Bool.and_eq_false_iff, Bool.or_eq_false_iff, Bool.not_true, Bool.not_false, reduceCtorEq] at h110)
        · refine VL_run (d := 111) (run_move rfl (by conv => lhs; whnf)) rfl rfl ?_
          refine VL_run (d := 112) (run_not rfl rfl) rfl rfl ?_
          refine VL_run (d := 113) (run_pickT rfl rfl rfl) rfl rfl ?_
          refine VL_nil ?_
          exact VS_endB s (by conv => lhs; whnf) (by clear s; subst hone; grind) (by repeat (first | exact Out.refl _ _ | refine Out.upd rfl ?_))
        · refine VL_not (d := 111) rfl rfl rfl rfl ?_
          refine VL_not (d := 112) rfl rfl rfl rfl ?_
          refine VL_run (d := 113) (run_pickF rfl rfl rfl) rfl rfl ?_
          refine VL_nil ?_
          exact VS_endB s (by conv => lhs; whnf) (by clear s; subst hone; grind) (by repeat (first | exact Out.refl _ _ | refine Out.upd rfl ?_))
      · refine VL_not (d := 107) rfl rfl rfl rfl ?_
        refine VL_not (d := 108) rfl rfl rfl rfl ?_
        refine VL_run (d := 109) (run_pickF rfl rfl rfl) rfl rfl ?_
        refine VL_run (d := 110) (run_move rfl (by conv => lhs; whnf)) rfl rfl ?_
        refine VL_not (d := 111) rfl rfl rfl rfl ?_
        refine VL_not (d := 112) rfl rfl rfl rfl ?_
        refine VL_run (d := 113) (run_pickF rfl rfl rfl) rfl rfl ?_
        refine VL_nil ?_
        exact VS_endB s (by conv => lhs; whnf) (by clear s; subst hone; grind) (by repeat (first | exact Out.refl _ _ | refine Out.upd rfl ?_))
    clear s; intro w j113 s
    refine VS_join1 [114, 115, 116, 117, 118, 119, 120, 121, 122, 123, 124, 125, 126, 127] (fun _ : Unit => []) (fun _ w => ∃ An mn cn Ak mk ck, St ok w0 [.row (.slice Ak mk ck) 26 5 (Tr.toDs ((setZ (setP p x gone) one gone q x t.kids t.names false).map Prod.snd)), .row (.slice An mn cn) 9 1 (strsD ((setZ (setP p x gone) one gone q x t.kids t.names false).map Prod.fst)), .blk b9 [.bool t.dir, .int .i64 t.mode, .string t.data, .slice An mn cn, .slice Ak mk ck] 26, .blk b8 tr0 26] [] w) ?_ ?_
    · refine VS_cond rfl (fun c4 => ?_) (fun c4 => ?_) <;> (try simp only [decide_eq_true_eq, decide_eq_false_iff_not, Bool.not_eq_true', Bool.not_eq_false', ne_eq, Decidable.not_not, cond_true, cond_false, Bool.and_eq_true, Bool.or_eq_true, Bool.and_eq_false_iff, Bool.or_eq_false_iff, Bool.not_true, Bool.not_false, reduceCtorEq] at c4)
      · have e4 : (one && !done && !gone) = true := by clear s; grind
        rw [e4] at hf
        repeat (refine VS_seq ?_)
        refine VS_drawS 7 s mixed ?_
        clear s; intro s
        refine VA_take 0 (d := 114) rfl (by kernel_rfl) rfl (fun w g => run_fieldAddr rfl fo26_3 rfl) s.see ?_
        refine VA_take 1 (d := 115) rfl (by kernel_rfl) rfl (fun w g => see_own1 g rfl ty23 rfl (i := 2) rfl rfl) s.see ?_
        refine VA_take 2 (d := 116) rfl (by kernel_rfl) rfl (fun w g => run_move rfl (by conv => lhs; whnf)) s.see ?_
        refine VA_take 3 (d := 117) rfl (by kernel_rfl) rfl (fun w g => run_indexAddr rfl Try.underlying23 ty9 rfl rfl (by omega) (by omega)) s.see ?_
        refine VA_take 4 (d := 118) rfl (by kernel_rfl) rfl (fun w g => see_at1 g rfl ty9 rfl (i := 1) rfl rfl) s.see ?_
        refine VA_one (i := 5) (by kernel_rfl) ?_
        refine VO_does (d := 119) rfl (does_slice1 s rfl Try.underlying23 ty9 (by decide) (by decide) rfl rfl (show Rd _ _ (.str q) [.string q] from rfl) rfl ?_) rfl rfl
        clear s; intro g119 w s
        refine ⟨fun _ => s.sees (by intro b c t h; exact .tail _ h) (by intro f h; exact h), ?_⟩
        refine VA_one (i := 6) (by kernel_rfl) ?_
        (refine VO_does (d := 120) rfl (does_appendR s rfl Try.underlying23 ty9 (by decide) (by decide) (i := 1) rfl rfl rfl (by simp <;> omega) (show _ = strsD ((l ++ [(q, x)]).map Prod.fst) by simp [strsD]) (show _ = l.length + 1 by simp) ?_) rfl rfl)
        clear s; intro A120 c120 w s
        try simp only [List.set_cons_zero, List.set_cons_succ, patch, List.take_succ_cons, List.take_zero, List.drop_succ_cons, List.drop_zero, List.drop_nil, List.nil_append, List.cons_append, List.append_nil, List.length_cons, List.length_nil, Nat.reduceAdd, Nat.zero_add] at s
        refine ⟨fun _ => s.sees (by intro b c t h; first | exact h | exact .tail _ h | exact .tail _ (.tail _ h) | exact .tail _ (.tail _ (.tail _ h)) | (simp only [List.mem_cons, List.not_mem_nil, or_false, List.set_cons_zero, List.set_cons_succ, reduceCtorEq, false_or] at h ⊢ <;> exact h)) (by intro f h; exact h), ?_⟩
        refine VA_one (i := 7) (by kernel_rfl) ?_
        refine VO_run (d := 121) rfl (run_fieldAddr rfl fo26_3 rfl) rfl rfl ((fun h => nomatch (show true = false from h))) ?_
        refine VA_one (i := 8) (by kernel_rfl) ?_
        (refine VO_doesU rfl (does_store s rfl ty23 rfl rfl (i := 2) rfl rfl rfl (by (intro u hu; simp only [List.mem_cons, List.not_mem_nil, or_false] at hu; subst hu; rfl)) rfl ?_) rfl rfl rfl)
        clear s; intro w s
        try simp only [List.set_cons_zero, List.set_cons_succ, patch, List.take_succ_cons, List.take_zero, List.drop_succ_cons, List.drop_zero, List.drop_nil, List.nil_append, List.cons_append, List.append_nil, List.length_cons, List.length_nil, Nat.reduceAdd, Nat.zero_add] at s
        refine ⟨fun _ => s.sees (by intro b c t h; (simp only [List.mem_cons, List.not_mem_nil, or_false, List.set_cons_zero, List.set_cons_succ, reduceCtorEq, false_or] at h ⊢ <;> simp_all)) (by intro f h; exact h), ?_⟩
        refine VA_done (by kernel_rfl) ?_
        refine VS_region_lit ?_
        refine VL_run (d := 122) (run_fieldAddr rfl fo26_4 rfl) rfl rfl ?_
        refine VL_run (d := 123) (run_load_own1 s rfl ty24 rfl (i := 2) rfl rfl) rfl rfl ?_
        refine VL_run (d := 124) (run_load_ownA (cs := [_, _, _, _, _]) s rfl ty26 rfl (i := 4) rfl rfl rfl) rfl rfl ?_
        refine VL_does (d := 125) (does_slice1 s rfl Try.underlying24 ty26 (by decide) (by decide) rfl rfl (Tr.shut' (s.dat (i := 4) rfl) (s.dat (i := 5) rfl)) (Tr.toD_wd _) ?_) rfl rfl
        clear s; intro g125 w s
        (refine VL_does (d := 126) (does_appendR s rfl Try.underlying24 ty26 (by decide) (by decide) (i := 0) rfl rfl rfl (by simp <;> omega) (show _ = Tr.toDs ((l ++ [(q, x)]).map Prod.snd) by simp [Tr.toDs_map]) (show _ = l.length + 1 by simp) ?_) rfl rfl)
        clear s; intro A126 c126 w s
        try simp only [List.set_cons_zero, List.set_cons_succ, patch, List.take_succ_cons, List.take_zero, List.drop_succ_cons, List.drop_zero, List.drop_nil, List.nil_append, List.cons_append, List.append_nil, List.length_cons, List.length_nil, Nat.reduceAdd, Nat.zero_add] at s
        refine VL_run (d := 127) (run_fieldAddr rfl fo26_4 rfl) rfl rfl ?_
        (refine VL_doesU (does_store s rfl ty24 rfl rfl (i := 2) rfl rfl rfl (by (intro u hu; simp only [List.mem_cons, List.not_mem_nil, or_false] at hu; subst hu; rfl)) rfl ?_) rfl rfl rfl)
        clear s; intro w s
        try simp only [List.set_cons_zero, List.set_cons_succ, patch, List.take_succ_cons, List.take_zero, List.drop_succ_cons, List.drop_zero, List.drop_nil, List.nil_append, List.cons_append, List.append_nil, List.length_cons, List.length_nil, Nat.reduceAdd, Nat.zero_add] at s
        refine VL_nil ?_
        refine VS_met (()) ?_ (by repeat (exact Has.nil _)) (by repeat (first | exact Out.refl _ _ | refine Out.upd rfl ?_))
        rw [← hf]
        simp only [cond_true, cond_false, List.append_nil]
        have s := ((s.drop 4).drop 4).less (F' := []) (fun f hf => (List.not_mem_nil hf).elim)
        exact ⟨_, _, _, _, _, _, s⟩
      · have e4 : (one && !done && !gone) = false := by clear s; grind
        rw [e4] at hf
        repeat (refine VS_skip ?_)
        refine VS_met (()) ?_ (by repeat (exact Has.nil _)) (by repeat (exact Out.refl _ _))
        rw [← hf]
        simp only [cond_true, cond_false, List.append_nil]
        have s := ((s.drop 4).drop 4).less (F' := []) (fun f hf => (List.not_mem_nil hf).elim)
        exact ⟨_, _, _, _, _, _, s⟩
    clear s
    rintro _ w j ⟨An, mn, cn, Ak, mk, ck, s⟩
    repeat (refine VS_seq ?_)
    refine VS_region_lit ?_
    refine VL_run (d := 128) (run_load_ownA (cs := [_, _, _, _, _]) s rfl ty26 rfl (i := 2) rfl rfl rfl) rfl rfl ?_
    (refine VL_doesU (does_store s rfl ty26 rfl rfl (i := 3) rfl rfl rfl (by (intro u hu; simp only [List.mem_cons, List.not_mem_nil, or_false] at hu; rcases hu with rfl | rfl | rfl | rfl | rfl <;> rfl)) rfl ?_) rfl rfl rfl)
    clear s; intro w s
    try simp only [List.set_cons_zero, List.set_cons_succ, patch, List.take_succ_cons, List.take_zero, List.drop_succ_cons, List.drop_zero, List.drop_nil, List.nil_append, List.cons_append, List.append_nil, List.length_cons, List.length_nil, Nat.reduceAdd, Nat.zero_add] at s
    refine VL_nil ?_
    refine VS_ret ?_
    repeat (first | refine blockV_ret ?_ | refine backV_ret ?_ | refine backV2_ret ?_ | refine backV3_ret ?_ | refine thenV_ret ?_ | refine metV2_ret ?_)
    refine fin_one (fn := Try.f109) rfl (res_ownA (cs := [_, _, _, _, _]) s ty26 rfl (i := 3) rfl rfl rfl) ?_
    have s := (s.freeze (k := 0) rfl).freeze (k := 0) rfl
    refine ⟨_, rfl, s.tell ?_, s.below⟩
    rw [setP, hone]
    exact Tr.shut (s.dat (i := 0) rfl) (s.dat (i := 1) rfl)
end Go.Proofs.Ytkefaelmamgjiaa
