/- Go's library: strings.Builder, strings.Join, strconv.Itoa of a figure. -/
import Derived.Test.YtkefaelmamgjiaaDoorTxt
import Derived.Test.YtkefaelmamgjiaaDoorShelf
set_option linter.unusedVariables false
set_option linter.unusedSimpArgs false
set_option maxHeartbeats 2000000
namespace Go.Proofs.YtkefaelmamgjiaaDoor
open Go.RowKit

theorem Itoa_ok (n : Nat) (hn : n < 10) {w0 : World} : Calls Tryd.prog 39 #[.int .i64 n] w0 (Ret fun v w' => v = .string (ba [dig n]) ∧ Below w0.heap.size w0 w') := by
  refine (Tryd.strconv_Itoa_small n (by omega) w0).mono ?_
  rintro e w' ⟨rfl, rfl⟩
  refine ⟨congrArg Value.string ?_, Below.refl _ _⟩
  match n, hn with
  | 0, _ | 1, _ | 2, _ | 3, _ | 4, _ | 5, _ | 6, _ | 7, _ | 8, _ | 9, _ => (unfold Lib.decDigits; rfl)
  | n + 10, h => omega
theorem Rd_strs_cells {ok : Nat → Prop} {w : World} {p : List ByteArray} {A : Option Addr} {c : Nat} (h : Rd ok w (.sl (strsD p)) [.slice A p.length c]) (hne : p ≠ []) :
    ∃ bk o, A = some ⟨bk, o, none⟩ ∧ bk < w.heap.size ∧ p.length ≤ c ∧ ∀ (j : Nat) x, p[j]? = some x → w.cell? ⟨bk, o + j, none⟩ = some (.string x) := by
  obtain ⟨A', c', h1, h2, h3⟩ := h
  simp only [List.cons.injEq, Value.slice.injEq, and_true] at h1
  obtain ⟨rfl, _, rfl⟩ := h1
  have hl : 0 < p.length := List.length_pos_iff.2 hne
  obtain ⟨ad, cs, rfl, _, h5, h6, h7⟩ := RdE.get (z := 1) (by decide) (strsD p) A (strsD_wd p) h3 0 (by simpa using hl)
  have hsp : ad.spot = none := by
    obtain rfl := Rd_str (by rw [strsD_get] at h6; exact h6)
    have := cell_spot (h7 0 _ rfl)
    simpa [Addr.add] using this
  obtain ⟨bk, o, s⟩ := ad
  simp only at hsp
  subst hsp
  refine ⟨bk, o, rfl, h5, by simpa using h2, fun j x hx => ?_⟩
  have hj : j < p.length := (List.getElem?_eq_some_iff.1 hx).1
  obtain ⟨ad', cs', h8, _, _, h10, h11⟩ := RdE.get (z := 1) (by decide) (strsD p) _ (strsD_wd p) h3 j (by simpa using hj)
  obtain rfl := Option.some.inj h8
  obtain rfl := Rd_str (by rw [strsD_get] at h10; exact h10)
  have := h11 0 _ rfl
  rw [addr_add_add _ _ _ rfl] at this
  have e : (⟨bk, o, none⟩ : Addr).add (j * 1 + 0) = ⟨bk, o + j, none⟩ := by unfold Addr.add; split <;> simp_all
  rw [e] at this
  rw [this]
  rw [List.getElem?_eq_getElem hj] at hx
  rw [Option.some.inj hx]
theorem joinTail_len : ∀ r : List ByteArray, (Lib.joinTail [47] (r.map (·.data.toList))).length = namesWt r
  | [] => rfl
  | x :: r => by
    have h1 := joinTail_len r
    have h2 := size_list x
    simp only [Lib.joinTail, List.map_cons, List.flatten_cons, List.length_append, List.length_cons, List.length_nil, namesWt] at *
    omega
theorem join_path (x : ByteArray) (r : List ByteArray) : 47 :: Lib.join ((x :: r).map (·.data.toList)) [47] = pathL (x :: r) := by
  rw [List.map_cons, Lib.join_cons]
  have : ∀ r : List ByteArray, Lib.joinTail [47] (r.map (·.data.toList)) = pathL r := by
    intro r
    induction r with
    | nil => rfl
    | cons y r ih =>
      simp only [Lib.joinTail, List.map_cons, List.flatten_cons, pathL, List.flatMap_cons] at *
      rw [ih]
      rfl
  rw [this]
  rfl
theorem Join_ok (p : List ByteArray) (hne : p ≠ []) {ok : Nat → Prop} {w0 : World} {v1 : Value} (h1 : Rd ok w0 (.sl (strsD p)) [v1]) (hp : PFit p) :
    Calls Tryd.prog 38 #[v1, .string ⟨#[47]⟩] w0 (Ret fun v w' => v = .string (ba (Lib.join (p.map (·.data.toList)) [47])) ∧ Below w0.heap.size w0 w') := by
  obtain ⟨A, c, e1, hl1⟩ := Rd_strs h1
  obtain rfl := List.singleton_inj.1 e1
  obtain ⟨bk, o, rfl, hb, hc, hcells⟩ := Rd_strs_cells h1 hne
  have f1 := hp.len
  unfold PFit at hp
  refine (Tryd.strings_Join bk o c p ⟨#[47]⟩ w0 hcells hb (by omega) hc ?_).mono ?_
  · cases p with
    | nil => exact absurd rfl hne
    | cons x r =>
      have := congrArg List.length (join_path x r)
      rw [pathL_len] at this
      simp only [List.length_cons] at this
      show (Lib.join _ [47]).length ≤ _
      omega
  · rintro e w' ⟨rfl, hb⟩
    exact ⟨rfl, hb⟩
/-- A builder's row of bytes, none of them frozen. -/
def BldR (v : Value) (l : List UInt8) : It := .own v.ownBlock.toList fun w => w.ownsRow 0 5 1 v l.length (Lib.byteCells l)
theorem owns_keep {w w' : World} {e : TypeId} {v : Value} {n : Nat} {xs : List Value} (h : w.ownsRow 0 e 1 v n xs) (hk : ∀ b, v.ownBlock = some b → w'.heap[b]? = w.heap[b]?) : w'.ownsRow 0 e 1 v n xs := by
  refine ⟨h.1, ?_⟩
  rcases h.2 with hn | ⟨g, cap, cur, rfl, hb, hg, rest⟩
  · exact .inl hn
  · exact .inr ⟨g, cap, cur, rfl, hb, (hk g rfl).trans hg, rest⟩
theorem BldR.mk {w : World} {v : Value} {l : List UInt8} {ok : Nat → Prop} (h : w.ownsRow 0 5 1 v l.length (Lib.byteCells l)) : (BldR v l).holds ok w :=
  ⟨fun b hb => (ownG.lt (ownG_of h) b (by simpa using hb)).2, fun w' hk => owns_keep h fun b hb => hk b (by simp [hb])⟩
theorem BldR.get {w : World} {v : Value} {l : List UInt8} {ok : Nat → Prop} (h : (BldR v l).holds ok w) : w.ownsRow 0 5 1 v l.length (Lib.byteCells l) := h.2 w fun _ _ => rfl
theorem append_ZS {P : Program} (w : World) (t u ty e : TypeId) (i : TypeInfo) (ht : P.underlying t = some (.slice e)) (hu : P.underlying u = some .string) (hi : P.info? e = some i) (hz : i.zero = some (.int .u8 0)) (hsize : i.size = 1) (hby : i.bytes = 1)
    (v : Value) (n : Nat) (xs : List Value) (hown : w.ownsRow 0 e 1 v n xs) (r : ByteArray) (hb : n + r.size ≤ 140737488355328) :
    ∃ v' w', (Builtin.append_ #[t, u] ty #[v, .string r]).run P w = .ok v' w' ∧ w'.ownsRow 0 e 1 v' (n + r.size) (xs ++ Lib.strCells r) ∧ w.grownBy w' v.ownBlock ∧ (v'.ownBlock = v.ownBlock ∨ v'.ownBlock = some w.heap.size) := by
  obtain ⟨v1, w1, h1, h2, h3, _⟩ := Lib.run_append_own_string (P := P) w 0 t u ty e i ht hu hi hz hsize hby v n xs hown r (by simp only [maxLen]; omega) hb (Nat.zero_le _)
  obtain ⟨v2, w2, g1, _, _, g4⟩ := append_GS (P := P) w t u ty e i ht hu hi hz hsize hby v n xs (ownG_of hown) r hb
  rw [h1] at g1
  injection g1 with e1 e2
  subst e1 e2
  exact ⟨v1, w1, h1, h2, h3, g4⟩
theorem does_appendZ {P : Program} {e : Env} {w : World} {o : Oper} {ok : Nat → Prop} {W0 : Start} {C : List It} {F : List Fa} {Φ : Value → World → Prop} {i : Nat} {a x : Operand} {t u : TypeId} {v : Value} {l : List UInt8} {r : ByteArray} (s : St ok W0 C F w) (ho : o.op = .call { callee := .builtin .append, args := #[a, x], argTypes := #[t, u] })
    (hu : P.underlying t = some (.slice 5)) (hu2 : P.underlying u = some .string) (T : TyF P 5 false 1 1 (.int .u8 0)) (hi : C[i]? = some (BldR v l)) (ha : ev e a = v) (hx : ev e x = .string r) (hlen : l.length + r.size ≤ 140737488355328)
    (h : ∀ A n c w', St ok W0 (C.set i (BldR (.slice A n c) (l ++ r.data.toList))) F w' → Φ (.slice A n c) w') : Does P o e w Φ := by
  have hown := BldR.get (s.own _ (List.mem_of_getElem? hi))
  obtain ⟨ti, hti, hi1, hi2, hi3⟩ := T.get
  obtain ⟨v', w', hr, hown', hg, hat⟩ := append_ZS (P := P) w t u o.type 5 ti hu hu2 hti hi3 hi1 hi2 v l.length _ hown r hlen
  have hl : (l ++ r.data.toList).length = l.length + r.size := by rw [List.length_append]; rfl
  have hbc : Lib.byteCells l ++ Lib.strCells r = Lib.byteCells (l ++ r.data.toList) := by simp [Lib.byteCells, Lib.strCells]
  rw [hbc, ← hl] at hown'
  have hob : ∀ b, (BldR v' (l ++ r.data.toList)).has b → (BldR v l).has b ∨ w.heap.size ≤ b := by
    intro b hb
    simp only [BldR, It.has, Option.mem_toList] at hb ⊢
    rcases hat with h | h
    · exact .inl (h ▸ hb)
    · rw [h, Option.some.injEq] at hb
      right
      omega
  have s2 := s.turn hi hg.size hg.os hg.tape hg.output (fun b hb hne => hg.block b hb (fun e => hne (by simp only [BldR, It.has, Option.mem_toList]; exact e.symm))) hob (BldR.mk hown')
  have hform : ∃ A n c, v' = .slice A n c := by
    rcases hown'.2 with ⟨rfl, _⟩ | ⟨g, cap, cur, rfl, _⟩
    · exact ⟨_, _, _, rfl⟩
    · exact ⟨_, _, _, rfl⟩
  obtain ⟨A, n, c, rfl⟩ := hform
  refine does_of (v := .slice A n c) (w' := w') ?_ (h _ _ _ _ s2)
  unfold RunV execOp
  simp only [ho]
  simp only [resolve, invoke, builtin, Sem.run_bind, Sem.run_pure, Result.andThen_ok, List.map_toArray, List.map_cons, List.map_nil, ha, hx, hr]
theorem WriteString_ok (b : Nat) (p v : Value) (l : List UInt8) (r : ByteArray) {w0 : World} {ok0 : Nat → Prop} (hb : w0.heap[b]? = some (.cells #[p, v] 52 (0, 0))) (hp : p = .pointer none ∨ p = .pointer (some ⟨b, 0, none⟩))
    (hr : (BldR v l).holds ok0 w0) (hne : v.ownBlock ≠ some b) (hlen : l.length + r.size ≤ 140737488355328) :
    Calls Tryd.prog 19 #[.pointer (some ⟨b, 0, none⟩), .string r] w0 (Ret fun q w' => q = .tuple #[.int .i64 r.size, .nilIface] ∧ ∃ A n c, w'.heap[b]? = some (.cells #[.pointer (some ⟨b, 0, none⟩), .slice A n c] 52 (0, 0)) ∧
      (∀ ok, (BldR (.slice A n c) (l ++ r.data.toList)).holds ok w') ∧ (Value.slice A n c).ownBlock ≠ some b ∧ (∀ x, (Value.slice A n c).ownBlock = some x → v.ownBlock = some x ∨ w0.heap.size ≤ x) ∧ Chg (b :: v.ownBlock.toList) w0 w') := by
  have s : St (fun _ => False) ⟨w0, b :: v.ownBlock.toList⟩ [.blk b [p, v] 52, BldR v l] [] w0 := by
    refine St.lent _ _ _ ?_ ?_ ?_
    · intro x hx
      simp only [List.mem_cons, List.not_mem_nil, or_false] at hx
      rcases hx with rfl | rfl
      · exact hb
      · exact BldR.mk (BldR.get hr)
    · intro x hx c hc
      simp only [List.mem_cons, List.not_mem_nil, or_false] at hx
      rcases hx with rfl | rfl
      · simp only [It.has] at hc; subst hc; simp
      · simp only [BldR, It.has] at hc; simp [hc]
    · refine List.pairwise_pair.2 fun c hc1 hc2 => ?_
      simp only [BldR, It.has, Option.mem_toList] at hc1 hc2
      subst hc1
      exact hne hc2
  have hcopy : Calls Tryd.prog 37 #[.pointer (some ⟨b, 0, none⟩)] w0 (Ret fun q w' => q = .tuple #[] ∧ St (fun _ => False) ⟨w0, b :: v.ownBlock.toList⟩ [.blk b [.pointer (some ⟨b, 0, none⟩), v] 52, BldR v l] [] w') := by
    rcases hp with rfl | rfl
    · refine (Any.Builder_copyCheck_fresh { Tryd.lays156 with } Tryd.Builder_Extra_156.toX72 b w0 (by rw [cell_of_row w0 b 0 _ _ _ hb]; rfl) (by simp [World.shape?, hb]; rfl) (by simp [World.frozen?, hb])).mono ?_
      rintro e w' ⟨rfl, rfl⟩
      refine ⟨rfl, ?_⟩
      rw [setCell_eq_setRow w0 b 0 _ _ _ _ hb]
      exact s.turn (k := 0) rfl (by simp [World.setRow]) rfl rfl rfl (fun c _ hc => setRow_other w0 b c _ fun e => hc (by simp [It.has, e])) (fun c hc => .inl hc) (setRow_heap w0 b _ _ _ _ hb)
    · refine (Any.Builder_copyCheck_used { Tryd.lays156 with } Tryd.Builder_Extra_156.toX72 b w0 (by rw [cell_of_row w0 b 0 _ _ _ hb]; rfl)).mono ?_
      rintro e w' ⟨rfl, rfl⟩
      exact ⟨rfl, s⟩
  refine calls_enter (n := 19) Tryd.func19 rfl rfl rfl ?_
  repeat (first | refine VS_seq ?_ | refine VS_block ?_ | refine VS_skip ?_ | refine VS_nil_block ?_)
  refine VS_region_lit ?_
  refine VL_run (d := 4) (run_assign rfl (by conv => lhs; whnf)) rfl rfl ?_
  refine VL_run (d := 5) (run_assign rfl (by conv => lhs; whnf)) rfl rfl ?_
  refine VL_nil ?_
  repeat (first | refine VS_seq ?_ | refine VS_block ?_ | refine VS_skip ?_ | refine VS_nil_block ?_)
  refine VS_region_lit ?_
  refine VL_run (d := 6) (run_move rfl (by conv => lhs; whnf)) rfl rfl ?_
  refine VL_does (d := 7) (does_call1 rfl (by kernel_rfl) rfl hcopy ?_) rfl rfl
  rintro v7 w ⟨rfl, s⟩
  refine VL_nil ?_
  repeat (first | refine VS_seq ?_ | refine VS_block ?_ | refine VS_skip ?_ | refine VS_nil_block ?_)
  refine VS_region_lit ?_
  refine VL_run (d := 8) (run_move rfl (by conv => lhs; whnf)) rfl rfl ?_
  refine VL_run (d := 9) (run_move rfl (by conv => lhs; whnf)) rfl rfl ?_
  refine VL_run (d := 10) (run_nilCheck rfl rfl) rfl rfl ?_
  refine VL_run (d := 11) (run_fieldAddr rfl fo52_1 rfl) rfl rfl ?_
  first | (refine VL_run (d := 12) (run_load_own1 s rfl ty50 rfl (i := 0) rfl rfl) rfl rfl ?_) | (refine VL_run (d := 12) (run_load_own1 s rfl ty50 rfl (i := 1) rfl rfl) rfl rfl ?_) | (refine VL_run (d := 12) (run_load_own1 s rfl ty50 rfl (i := 2) rfl rfl) rfl rfl ?_) | (refine VL_run (d := 12) (run_load_own1 s rfl ty50 rfl (i := 3) rfl rfl) rfl rfl ?_) | (refine VL_run (d := 12) (run_load_own1 s rfl ty50 rfl (i := 4) rfl rfl) rfl rfl ?_) | (refine VL_run (d := 12) (run_load_own1 s rfl ty50 rfl (i := 5) rfl rfl) rfl rfl ?_) | (refine VL_run (d := 12) (run_load_own1 s rfl ty50 rfl (i := 6) rfl rfl) rfl rfl ?_) | (refine VL_run (d := 12) (run_load_own1 s rfl ty50 rfl (i := 7) rfl rfl) rfl rfl ?_) | (refine VL_run (d := 12) (run_load_own1 s rfl ty50 rfl (i := 8) rfl rfl) rfl rfl ?_) | (refine VL_run (d := 12) (run_load_at1 s rfl ty50 rfl (i := 0) rfl rfl) rfl rfl ?_) | (refine VL_run (d := 12) (run_load_at1 s rfl ty50 rfl (i := 1) rfl rfl) rfl rfl ?_) | (refine VL_run (d := 12) (run_load_at1 s rfl ty50 rfl (i := 2) rfl rfl) rfl rfl ?_) | (refine VL_run (d := 12) (run_load_at1 s rfl ty50 rfl (i := 3) rfl rfl) rfl rfl ?_) | (refine VL_run (d := 12) (run_load_at1 s rfl ty50 rfl (i := 4) rfl rfl) rfl rfl ?_) | (refine VL_run (d := 12) (run_load_at1 s rfl ty50 rfl (i := 5) rfl rfl) rfl rfl ?_) | (refine VL_run (d := 12) (run_load_at1 s rfl ty50 rfl (i := 6) rfl rfl) rfl rfl ?_) | (refine VL_run (d := 12) (run_load_at1 s rfl ty50 rfl (i := 7) rfl rfl) rfl rfl ?_) | (refine VL_run (d := 12) (run_load_at1 s rfl ty50 rfl (i := 8) rfl rfl) rfl rfl ?_) | (refine VL_run (d := 12) (run_load_at0 s rfl ty50 rfl (i := 0) rfl rfl) rfl rfl ?_) | (refine VL_run (d := 12) (run_load_at0 s rfl ty50 rfl (i := 1) rfl rfl) rfl rfl ?_) | (refine VL_run (d := 12) (run_load_at0 s rfl ty50 rfl (i := 2) rfl rfl) rfl rfl ?_) | (refine VL_run (d := 12) (run_load_at0 s rfl ty50 rfl (i := 3) rfl rfl) rfl rfl ?_) | (refine VL_run (d := 12) (run_load_at0 s rfl ty50 rfl (i := 4) rfl rfl) rfl rfl ?_) | (refine VL_run (d := 12) (run_load_at0 s rfl ty50 rfl (i := 5) rfl rfl) rfl rfl ?_) | (refine VL_run (d := 12) (run_load_at0 s rfl ty50 rfl (i := 6) rfl rfl) rfl rfl ?_) | (refine VL_run (d := 12) (run_load_at0 s rfl ty50 rfl (i := 7) rfl rfl) rfl rfl ?_) | (refine VL_run (d := 12) (run_load_at0 s rfl ty50 rfl (i := 8) rfl rfl) rfl rfl ?_)
  refine VL_run (d := 13) (run_move rfl (by conv => lhs; whnf)) rfl rfl ?_
  refine VL_does (d := 14) (does_appendZ (l := l) s rfl Tryd.underlying50 Tryd.underlying9 ty5 (i := 1) rfl rfl rfl hlen ?_) rfl rfl; clear s; intro A14 n14 c14 w s; simp only [List.set_cons_zero, List.set_cons_succ] at s
  refine VL_run (d := 15) (run_nilCheck rfl rfl) rfl rfl ?_
  refine VL_run (d := 16) (run_fieldAddr rfl fo52_1 rfl) rfl rfl ?_
  first | (refine VL_doesU (does_store s rfl ty50 rfl rfl (i := 0) rfl rfl rfl (by first | (intro u hu; simp only [List.mem_cons, List.not_mem_nil, or_false] at hu; subst hu; rfl) | (intro u hu; simp only [List.mem_cons, List.not_mem_nil, or_false] at hu; rcases hu with rfl | rfl | rfl | rfl | rfl <;> rfl) | (intro u hu; simp only [List.mem_cons, List.not_mem_nil, or_false] at hu; rcases hu with rfl | rfl <;> rfl)) rfl ?_) rfl rfl rfl) | (refine VL_doesU (does_store s rfl ty50 rfl rfl (i := 1) rfl rfl rfl (by first | (intro u hu; simp only [List.mem_cons, List.not_mem_nil, or_false] at hu; subst hu; rfl) | (intro u hu; simp only [List.mem_cons, List.not_mem_nil, or_false] at hu; rcases hu with rfl | rfl | rfl | rfl | rfl <;> rfl) | (intro u hu; simp only [List.mem_cons, List.not_mem_nil, or_false] at hu; rcases hu with rfl | rfl <;> rfl)) rfl ?_) rfl rfl rfl) | (refine VL_doesU (does_store s rfl ty50 rfl rfl (i := 2) rfl rfl rfl (by first | (intro u hu; simp only [List.mem_cons, List.not_mem_nil, or_false] at hu; subst hu; rfl) | (intro u hu; simp only [List.mem_cons, List.not_mem_nil, or_false] at hu; rcases hu with rfl | rfl | rfl | rfl | rfl <;> rfl) | (intro u hu; simp only [List.mem_cons, List.not_mem_nil, or_false] at hu; rcases hu with rfl | rfl <;> rfl)) rfl ?_) rfl rfl rfl) | (refine VL_doesU (does_store s rfl ty50 rfl rfl (i := 3) rfl rfl rfl (by first | (intro u hu; simp only [List.mem_cons, List.not_mem_nil, or_false] at hu; subst hu; rfl) | (intro u hu; simp only [List.mem_cons, List.not_mem_nil, or_false] at hu; rcases hu with rfl | rfl | rfl | rfl | rfl <;> rfl) | (intro u hu; simp only [List.mem_cons, List.not_mem_nil, or_false] at hu; rcases hu with rfl | rfl <;> rfl)) rfl ?_) rfl rfl rfl) | (refine VL_doesU (does_store s rfl ty50 rfl rfl (i := 4) rfl rfl rfl (by first | (intro u hu; simp only [List.mem_cons, List.not_mem_nil, or_false] at hu; subst hu; rfl) | (intro u hu; simp only [List.mem_cons, List.not_mem_nil, or_false] at hu; rcases hu with rfl | rfl | rfl | rfl | rfl <;> rfl) | (intro u hu; simp only [List.mem_cons, List.not_mem_nil, or_false] at hu; rcases hu with rfl | rfl <;> rfl)) rfl ?_) rfl rfl rfl) | (refine VL_doesU (does_store s rfl ty50 rfl rfl (i := 5) rfl rfl rfl (by first | (intro u hu; simp only [List.mem_cons, List.not_mem_nil, or_false] at hu; subst hu; rfl) | (intro u hu; simp only [List.mem_cons, List.not_mem_nil, or_false] at hu; rcases hu with rfl | rfl | rfl | rfl | rfl <;> rfl) | (intro u hu; simp only [List.mem_cons, List.not_mem_nil, or_false] at hu; rcases hu with rfl | rfl <;> rfl)) rfl ?_) rfl rfl rfl) | (refine VL_doesU (does_store s rfl ty50 rfl rfl (i := 6) rfl rfl rfl (by first | (intro u hu; simp only [List.mem_cons, List.not_mem_nil, or_false] at hu; subst hu; rfl) | (intro u hu; simp only [List.mem_cons, List.not_mem_nil, or_false] at hu; rcases hu with rfl | rfl | rfl | rfl | rfl <;> rfl) | (intro u hu; simp only [List.mem_cons, List.not_mem_nil, or_false] at hu; rcases hu with rfl | rfl <;> rfl)) rfl ?_) rfl rfl rfl) | (refine VL_doesU (does_store s rfl ty50 rfl rfl (i := 7) rfl rfl rfl (by first | (intro u hu; simp only [List.mem_cons, List.not_mem_nil, or_false] at hu; subst hu; rfl) | (intro u hu; simp only [List.mem_cons, List.not_mem_nil, or_false] at hu; rcases hu with rfl | rfl | rfl | rfl | rfl <;> rfl) | (intro u hu; simp only [List.mem_cons, List.not_mem_nil, or_false] at hu; rcases hu with rfl | rfl <;> rfl)) rfl ?_) rfl rfl rfl) | (refine VL_doesU (does_store s rfl ty50 rfl rfl (i := 8) rfl rfl rfl (by first | (intro u hu; simp only [List.mem_cons, List.not_mem_nil, or_false] at hu; subst hu; rfl) | (intro u hu; simp only [List.mem_cons, List.not_mem_nil, or_false] at hu; rcases hu with rfl | rfl | rfl | rfl | rfl <;> rfl) | (intro u hu; simp only [List.mem_cons, List.not_mem_nil, or_false] at hu; rcases hu with rfl | rfl <;> rfl)) rfl ?_) rfl rfl rfl)
  clear s; intro w s
  try simp only [List.set_cons_zero, List.set_cons_succ, patch, List.take_succ_cons, List.take_zero, List.drop_succ_cons, List.drop_zero, List.drop_nil, List.nil_append, List.cons_append, List.append_nil, List.length_cons, List.length_nil, Nat.reduceAdd, Nat.zero_add] at s
  refine VL_nil ?_
  repeat (first | refine VS_seq ?_ | refine VS_block ?_ | refine VS_skip ?_ | refine VS_nil_block ?_)
  refine VS_region_lit ?_
  refine VL_run (d := 17) (run_move rfl (by conv => lhs; whnf)) rfl rfl ?_
  refine VL_run (d := 18) (run_lenStr rfl Tryd.underlying9 rfl) rfl rfl ?_
  refine VL_run (d := 4) (run_assign rfl (by conv => lhs; whnf)) rfl rfl ?_
  refine VL_run (d := 5) (run_assign rfl (by conv => lhs; whnf)) rfl rfl ?_
  refine VL_nil ?_
  refine VS_ret ?_
  repeat (first | refine blockV_ret ?_ | refine backV_ret ?_ | refine backV2_ret ?_ | refine backV3_ret ?_ | refine thenV_ret ?_ | refine metV2_ret ?_)
  refine fin_two (fn := Tryd.f19) rfl (res_tmp (by conv => lhs; whnf)) (res_tmp (by conv => lhs; whnf)) ?_
  obtain ⟨h1, h2⟩ := And.intro (s.own _ (.head _)) (s.own _ (.tail _ (.head _)))
  have hap := List.pairwise_pair.1 s.apart
  simp only [BldR, It.has, Option.mem_toList] at hap
  refine ⟨rfl, _, _, _, h1, fun ok => BldR.mk (BldR.get h2), fun hx => hap b rfl hx, fun x hx => ?_, s.chg⟩
  rcases s.mine _ (.tail _ (.head _)) x (by simp only [BldR, It.has, Option.mem_toList]; exact hx) with h | h
  · rcases List.mem_cons.1 h with rfl | h
    · exact absurd hx fun hx => hap _ rfl hx
    · exact .inl (by simpa using h)
  · exact .inr h
/-- The caller's side: a builder at the head of its things. -/
theorem St.wrote {ok : Nat → Prop} {W0 : Start} {b : Nat} {p v : Value} {l l' : List UInt8} {R : List It} {F : List Fa} {w w' : World} {A : Option Addr} {n c : Nat} (s : St ok W0 (.blk b [p, v] 52 :: BldR v l :: R) F w)
    (h1 : w'.heap[b]? = some (.cells #[.pointer (some ⟨b, 0, none⟩), .slice A n c] 52 (0, 0))) (h2 : ∀ ok, (BldR (.slice A n c) l').holds ok w') (h3 : (Value.slice A n c).ownBlock ≠ some b)
    (h4 : ∀ x, (Value.slice A n c).ownBlock = some x → v.ownBlock = some x ∨ w.heap.size ≤ x) (hc : Chg (b :: v.ownBlock.toList) w w') :
    St ok W0 (.blk b [.pointer (some ⟨b, 0, none⟩), .slice A n c] 52 :: BldR (.slice A n c) l' :: R) F w' := by
  refine St.frame (L := [.blk b [p, v] 52, BldR v l]) (L' := [.blk b [.pointer (some ⟨b, 0, none⟩), .slice A n c] 52, BldR (.slice A n c) l']) (R := R) s (fp := b :: v.ownBlock.toList) ?_ hc ?_ ?_ ?_
  · intro x hx
    rcases List.mem_cons.1 hx with rfl | hx
    · exact ⟨_, .head _, rfl⟩
    · exact ⟨_, .tail _ (.head _), hx⟩
  · intro x hx
    simp only [List.mem_cons, List.not_mem_nil, or_false] at hx
    rcases hx with rfl | rfl
    · exact h1
    · exact h2 _
  · refine List.pairwise_pair.2 fun x hx1 hx2 => ?_
    simp only [BldR, It.has, Option.mem_toList] at hx1 hx2
    subst hx1
    exact h3 hx2
  · intro x hx y hy
    simp only [List.mem_cons, List.not_mem_nil, or_false] at hx
    rcases hx with rfl | rfl
    · exact .inl ⟨_, .head _, hy⟩
    · simp only [BldR, It.has, Option.mem_toList] at hy
      rcases h4 y hy with h | h
      · exact .inl ⟨_, .tail _ (.head _), by simp only [BldR, It.has, Option.mem_toList]; exact h⟩
      · exact .inr h
theorem St.bldNe {ok : Nat → Prop} {W0 : Start} {b : Nat} {p v : Value} {l : List UInt8} {R : List It} {F : List Fa} {w : World} (s : St ok W0 (.blk b [p, v] 52 :: BldR v l :: R) F w) : v.ownBlock ≠ some b := by
  have h := (List.pairwise_cons.1 s.apart).1 (BldR v l) (.head _) b rfl
  simpa [BldR, It.has] using h
theorem St.isBld {ok : Nat → Prop} {w0 : World} {b : Nat} {p v : Value} {l : List UInt8} {R : List It} {F : List Fa} {w : World} (s : St ok (w0 : Start) (.blk b [p, v] 52 :: BldR v l :: R) F w) (hp : p = .pointer none ∨ p = .pointer (some ⟨b, 0, none⟩)) :
    Lib.IsBuilder 52 5 w0.heap.size b (Lib.byteCells l) w := by
  have h1 := s.own _ (.head _)
  have h2 := BldR.get (s.own _ (.tail _ (.head _)))
  have h3 : w0.heap.size ≤ b := (s.mine _ (.head _) b rfl).elim (fun h => (List.not_mem_nil h).elim) id
  have h4 : ∀ x, v.ownBlock = some x → w0.heap.size ≤ x := fun x hx => (s.mine _ (.tail _ (.head _)) x (by simp only [BldR, It.has, Option.mem_toList]; exact hx)).elim (fun h => (List.not_mem_nil h).elim) id
  have h5 : w.ownsRow w0.heap.size 5 1 v (Lib.byteCells l).length (Lib.byteCells l) := by
    rw [Lib.byteCells_length]
    refine ⟨h2.1, ?_⟩
    rcases h2.2 with hn | ⟨g, cap, cur, rfl, hb, rest⟩
    · exact .inl hn
    · exact .inr ⟨g, cap, cur, rfl, h4 g rfl, rest⟩
  rcases hp with rfl | rfl
  · exact .inl ⟨h3, v, h1, h5, s.bldNe⟩
  · exact .inr ⟨h3, v, h1, h5, s.bldNe⟩
theorem Len_ok {w0 w : World} {b : Nat} {l : List UInt8} (h : Lib.IsBuilder 52 5 w0.heap.size b (Lib.byteCells l) w) : Calls Tryd.prog 24 #[.pointer (some ⟨b, 0, none⟩)] w (Ret fun v w' => v = .int .i64 l.length ∧ Below w.heap.size w w') := by
  refine (Tryd.Builder_Len _ b _ w h).mono ?_
  rintro e w' ⟨rfl, rfl⟩
  exact ⟨by rw [Lib.byteCells_length], Below.refl _ _⟩
theorem String_ok {w0 w : World} {b : Nat} {l : List UInt8} (h : Lib.IsBuilder 52 5 w0.heap.size b (Lib.byteCells l) w) (hs : w0.heap.size ≤ w.heap.size) : Calls Tryd.prog 25 #[.pointer (some ⟨b, 0, none⟩)] w (Ret fun v w' => v = .string (ba l) ∧ Below w0.heap.size w w') := by
  refine (Tryd.Builder_String_any _ b l w h hs).mono ?_
  rintro e w' ⟨rfl, hb⟩
  exact ⟨rfl, hb⟩
end Go.Proofs.YtkefaelmamgjiaaDoor
