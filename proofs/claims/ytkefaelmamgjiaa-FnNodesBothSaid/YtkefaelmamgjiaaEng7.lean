/- The engine, part 7: operations on data that is one's own. -/
import Derived.Test.YtkefaelmamgjiaaEng6
set_option linter.unusedVariables false
namespace Go.Proofs.Ytkefaelmamgjiaa
open Go.RowKit
section
variable {E : TypeId → Sh} {P : Program} {n : Nat} {e : Env} {w w' : World} {ops : Array Oper} {K : Env → World → Prop} {rest : List Oper} {o : Oper}
variable {ok : Nat → Prop} {W0 : Start} {C : List It} {F : List Fa} {Φ : Value → World → Prop}
theorem run_slice1 {t el : TypeId} {agg : Bool} {size bytes : Nat} {zero v : Value} {x : Operand} {cs : List Value} (w : World) (ho : o.op = .buildSlice t 1 #[(0, x)]) (hu : P.underlying t = some (.slice el)) (T : TyF P el agg size bytes zero) (hz : 0 < size) (hz' : size ≤ 16777216)
    (hx : ev e x = v) (hv : v.cells = cs.toArray) (hl : cs.length = size) : RunV P o e w (.slice (some ⟨w.heap.size, 0, none⟩) 1 1) (w.alloc (.cells cs.toArray el)) := by
  have hzero : zero.cells.size = size := T.zsz
  have hfill : ∀ A : Array Value, A.size = size → Instr.fill (fun i => some (i * size, size)) A [(0, v)] = some cs.toArray := by
    intro A hA
    rw [fill_one (off := 0) (by simp) hv hl (by omega)]
    simp only [Instr.fill, patch]
    have : A.toList.drop (0 + cs.length) = [] := List.drop_of_length_le (by simp; omega)
    rw [this]
    simp
  unfold RunV execOp
  simp only [ho]
  have hbuild : (Instr.buildSlice t 1 #[(0, v)]).run P w = .ok (.slice (some ⟨w.heap.size, 0, none⟩) 1 1) (w.alloc (.cells cs.toArray el)) := by
    unfold Instr.buildSlice
    simp only [Sem.run_bind, run_underlying hu, Result.andThen_ok, run_sizeOf T]
    rw [if_neg (by omega)]
    have := hfill ((Array.range (1 * size)).map fun i => zero.cells[i % zero.cells.size]!) (by simp)
    rw [if_neg (by omega)]
    simp only [Sem.run_bind, Sem.run_pure, Result.andThen_ok, run_zeroValue T]
    rw [this]
    simp [newRow]
  simp only [List.map_toArray, List.map_cons, List.map_nil, hx]
  rw [Sem.run_bind, hbuild]
  rfl
/-- A slice of one element, which is one's own. -/
theorem does_slice1O {i : Nat} {t el : TypeId} {agg : Bool} {bytes : Nat} {zero v : Value} {x : Operand} {cs : List Value} {d : D} {fp : List Nat} (s : St ok W0 C F w) (ho : o.op = .buildSlice t 1 #[(0, x)]) (hu : P.underlying t = some (.slice el)) (T : TyF P el agg (E el).wd bytes zero) (hz : 0 < (E el).wd) (hz' : (E el).wd ≤ 16777216)
    (hx : ev e x = v) (hv : v.cells = cs.toArray) (hi : C[i]? = some (OwI E d (E el) cs fp)) (h : ∀ g w', St ok W0 (C.set i (OwI E (.sl [d]) (.sl el) [.slice (some ⟨g, 0, none⟩) 1 1] (g :: fp))) F w' → Φ (.slice (some ⟨g, 0, none⟩) 1 1) w') : Does P o e w Φ := by
  obtain ⟨h1, h2, h3⟩ := s.ow hi
  have hl := (Ow.wd _ _ _ _ h1).1
  have hlt := Ow.lt _ _ _ _ h1
  have hb : Below w.heap.size w (w.alloc (.cells cs.toArray el)) := (Below.refl _ _).alloc (Nat.le_refl _) _
  refine does_of (run_slice1 w ho hu T hz hz' hx hv hl) (h _ _ (s.turnOw hi (Chg.of hb fp) ⟨el, rfl, .inr ⟨w.heap.size, 1, cs.toArray, (0, 0), fp, rfl, rfl, heap_alloc_new w _, .inl rfl, Nat.le_refl _, by simp [maxLen], by simpa using hl, ?_⟩⟩ (List.nodup_cons.2 ⟨fun hm => Nat.lt_irrefl _ (hlt _ hm), h2⟩) fun b hb => ?_))
  · have : List.take ([d].length * (E el).wd) cs.toArray.toList = cs := List.take_of_length_le (by simp; omega)
    rw [this]
    exact OwF.one (Ow.keep _ _ _ _ h1 fun b hbm => hb.block b (hlt b hbm))
  · rcases List.mem_cons.1 hb with rfl | hb
    · exact .inr (Nat.le_refl _)
    · exact .inl hb
theorem Ow.row {d : List D} {el : TypeId} {v : Value} {fp : List Nat} (h : Ow E w (.sl d) (.sl el) [v] fp) : ∃ xs f0 f1, ownG w 0 el (E el).wd v d.length xs ∧ OwF E w d (List.replicate d.length (E el)) xs f1 ∧ fp = f0 ++ f1 ∧ (∀ b, b ∈ f0 ↔ v.ownBlock = some b) ∧ f0.length ≤ 1 := by
  obtain ⟨e', he, h2⟩ := h
  obtain rfl : el = e' := by simpa using he
  rcases h2 with ⟨rfl, rfl, h3⟩ | ⟨g, c, cur, fz, fp', hcs, rfl, h3, h4, h5, h6, h7, h8⟩
  · obtain rfl : v = .slice none 0 0 := by simpa using h3
    exact ⟨[], [], [], ⟨by simp, .inl ⟨rfl, rfl⟩⟩, ⟨rfl, rfl, rfl⟩, rfl, by simp [Value.ownBlock], by simp⟩
  · obtain rfl : v = .slice (some ⟨g, 0, none⟩) d.length c := by simpa using hcs
    refine ⟨_, [g], fp', ⟨?_, .inr ⟨g, c, cur, fz, rfl, Nat.zero_le _, h3, h4, h5, h6, h7, rfl⟩⟩, h8, rfl, by simp [Value.ownBlock, eq_comm], by simp⟩
    show (cur.toList.take (d.length * (E el).wd)).length = d.length * (E el).wd
    have hcl : cur.toList.length = c * (E el).wd := by simpa using h7
    rw [List.length_take, hcl]
    exact Nat.min_eq_left (Nat.mul_le_mul_right _ h5)
theorem Ow.form {d : List D} {el : TypeId} {v : Value} {fp : List Nat} (h : Ow E w (.sl d) (.sl el) [v] fp) : ∃ A c, v = .slice A d.length c := by
  obtain ⟨A, c, hcs, _⟩ := (show Rd (fun _ => True) w (.sl d) [v] from Ow.rd _ _ _ _ h fun _ _ => trivial)
  exact ⟨A, c, by simpa using hcs⟩
theorem append_ow {a x : Operand} {t el : TypeId} {agg : Bool} {bytes : Nat} {zero v xv : Value} {ds ds' : List D} {fp fp' : List Nat} (ho : o.op = .call { callee := .builtin .append, args := #[a, x], argTypes := #[t, t] })
    (hu : P.underlying t = some (.slice el)) (T : TyF P el agg (E el).wd bytes zero) (hz : 0 < (E el).wd) (hb : 0 < bytes) (ha : ev e a = v) (hx : ev e x = xv)
    (h : Ow E w (.sl ds) (.sl el) [v] fp) (h' : Ow E w (.sl ds') (.sl el) [xv] fp') (hnd : (fp ++ fp').Nodup) (hlen : (ds.length + ds'.length) * bytes ≤ 140737488355328) :
    ∃ v' w' fp'', RunV P o e w v' w' ∧ Ow E w' (.sl (ds ++ ds')) (.sl el) [v'] fp'' ∧ fp''.Nodup ∧ (∀ b ∈ fp'', b ∈ fp ++ fp' ∨ w.heap.size ≤ b) ∧ Chg fp w w' := by
  have hltx := Ow.lt _ _ _ _ h'
  have hlt0 := Ow.lt _ _ _ _ h
  obtain ⟨xs, f0, f1, hown, hxs, rfl, hf0, hf0l⟩ := h.row
  obtain ⟨news, k0, k1, hownx, hnews, rfl, hk0, hk0l⟩ := h'.row
  obtain ⟨ti, hti, hi1, hi2, hi3⟩ := T.get
  have hnl : news.length = ds'.length * (E el).wd := by rw [(OwF.wd _ _ _ _ hnews).1, Sh.wds_rep]
  have hmax : ds.length + ds'.length ≤ maxLen := by
    have : ds.length + ds'.length ≤ (ds.length + ds'.length) * bytes := Nat.le_mul_of_pos_right _ hb
    simp only [maxLen]; omega
  have hrun : ∀ {v' : Value} {w' : World}, (Builtin.append_ #[t, t] o.type #[v, xv]).run P w = .ok v' w' → RunV P o e w v' w' := by
    intro v' w' hr
    unfold RunV execOp
    simp only [ho]
    simp only [resolve, invoke, builtin, Sem.run_bind, Sem.run_pure, Result.andThen_ok, List.map_toArray, List.map_cons, List.map_nil, ha, hx, hr]
  have hn1 := List.nodup_append.1 hnd
  have hn2 := List.nodup_append.1 hn1.1
  have hn3 := List.nodup_append.1 hn1.2.1
  have key : ∀ {v' : Value} {w' : World} {ys : List Value}, ownG w' 0 el (E el).wd v' (ds.length + ds'.length) ys → ys = xs ++ news → w.grownBy w' v.ownBlock → (v'.ownBlock = v.ownBlock ∨ v'.ownBlock = some w.heap.size) →
      ∃ fp'', Ow E w' (.sl (ds ++ ds')) (.sl el) [v'] fp'' ∧ fp''.Nodup ∧ (∀ b ∈ fp'', b ∈ (f0 ++ f1) ++ (k0 ++ k1) ∨ w.heap.size ≤ b) ∧ Chg (f0 ++ f1) w w' := by
    intro v' w' ys hg hys hgr hat
    subst hys
    have hk1 : ∀ b, b ∈ f1 ∨ b ∈ k1 → w'.heap[b]? = w.heap[b]? := fun b hb => hgr.block b (hb.elim (fun h => hlt0 b (by simp [h])) fun h => hltx b (by simp [h])) fun hm => by
      have hm0 : b ∈ f0 := (hf0 b).2 (by rw [hm])
      rcases hb with hb | hb
      · exact hn2.2.2 b hm0 b hb rfl
      · exact hn1.2.2 b (by simp [hm0]) b (by simp [hb]) rfl
    have hall : OwF E w' (ds ++ ds') (List.replicate (ds ++ ds').length (E el)) (xs ++ news) (f1 ++ k1) := by
      rw [List.length_append, ← List.replicate_append_replicate]
      exact OwF.append (OwF.keep _ _ _ _ hxs fun b hb => hk1 b (.inl hb)) (OwF.keep _ _ _ _ hnews fun b hb => hk1 b (.inr hb))
    obtain ⟨q0, g1, g2, g3⟩ := ow_row (E := E) (by rw [List.length_append]) hg rfl hall
    have hq : ∀ b ∈ q0, b ∈ f0 ∨ w.heap.size ≤ b := fun b hb => by
      have := (g2 b).1 hb
      rcases hat with h | h
      · exact .inl ((hf0 b).2 (h ▸ this))
      · rw [h, Option.some.injEq] at this
        exact .inr (by omega)
    refine ⟨q0 ++ (f1 ++ k1), g1, ?_, fun b hb => ?_, hgr.os, hgr.tape, hgr.output, hgr.size, fun b hb hn => hgr.block b hb fun hm => hn (by have := (hf0 b).2 hm.symm; simp [this])⟩
    · refine List.nodup_append.2 ⟨?_, List.nodup_append.2 ⟨hn2.2.1, hn3.2.1, fun a ha b hb => hn1.2.2 a (by simp [ha]) b (by simp [hb])⟩, fun a ha b hb hab => ?_⟩
      · match q0, g3 with
        | [], _ => exact List.nodup_nil
        | [x], _ => simp
      · subst hab
        rcases hq a ha with h | h
        · rcases List.mem_append.1 hb with h2 | h2
          · exact hn2.2.2 a h a h2 rfl
          · exact hn1.2.2 a (by simp [h]) a (by simp [h2]) rfl
        · rcases List.mem_append.1 hb with h2 | h2
          · have := hlt0 a (by simp [h2]); omega
          · have := hltx a (by simp [h2]); omega
    · rcases List.mem_append.1 hb with hb | hb
      · rcases hq b hb with h | h
        · exact .inl (by simp [h])
        · exact .inr h
      · rcases List.mem_append.1 hb with hb | hb <;> exact .inl (by simp [hb])
  rcases hownx.2 with ⟨rfl, hn⟩ | ⟨g, cap, cur, fz, rfl, _⟩
  · obtain rfl : ds' = [] := List.eq_nil_of_length_eq_zero hn
    obtain ⟨_, rfl, rfl⟩ := hnews
    obtain ⟨fp'', h1, h2, h3, h4⟩ := key (v' := v) (w' := w) (ys := xs) hown (by simp) ⟨rfl, rfl, rfl, Nat.le_refl _, fun _ _ _ => rfl⟩ (.inl rfl)
    refine ⟨v, w, fp'', hrun ?_, h1, h2, h3, h4⟩
    rcases hown.2 with ⟨rfl, h2⟩ | ⟨g, cap, cur, fz, rfl, _, _, _, hnc, _⟩
    · simp [Builtin.append_, run_underlying hu, sizeOf, typeInfo, hti, Builtin.lenOf, Builtin.firstCells]
    · simp [Builtin.append_, run_underlying hu, sizeOf, typeInfo, hti, Builtin.lenOf, Builtin.firstCells, hnc, storeCells]
  · have hone : ∀ u ∈ news, u.oneCell' = true := RdF.ones (ok := fun _ => True) (w := w) ds' news (OwF.rd _ _ _ _ hnews fun _ _ => trivial)
    obtain ⟨v', w', hr, hown', hg, hat⟩ := append_G (P := P) w 0 t o.type el ti zero (E el).wd bytes hu hti hi3 hi1 hi2 T.zsz hz v ds.length xs hown ⟨g, 0, none⟩ ds'.length cap news hnl (ownG.cells hownx rfl) hone hmax hlen (Nat.zero_le _)
    obtain ⟨fp'', h1, h2, h3, h4⟩ := key hown' rfl hg hat
    exact ⟨v', w', fp'', hrun hr, h1, h2, h3, h4⟩
/-- 'append(a, x...)', both one's own; 'x' is the newest thing, and is gone then. -/
theorem does_appendO {i : Nat} {a x : Operand} {t el : TypeId} {agg : Bool} {bytes : Nat} {zero v xv : Value} {ds ds' dd : List D} {fp fp' : List Nat} (s : St ok W0 (OwI E (.sl ds') (.sl el) [xv] fp' :: C) F w) (ho : o.op = .call { callee := .builtin .append, args := #[a, x], argTypes := #[t, t] })
    (hu : P.underlying t = some (.slice el)) (T : TyF P el agg (E el).wd bytes zero) (hz : 0 < (E el).wd) (hb : 0 < bytes) (hi : C[i]? = some (OwI E (.sl ds) (.sl el) [v] fp)) (ha : ev e a = v) (hx : ev e x = xv)
    (hlen : (ds.length + ds'.length) * bytes ≤ 140737488355328) (hdd : ds ++ ds' = dd) {m : Nat} (hm : dd.length = m)
    (h : ∀ A c fp'' w', St ok W0 (C.set i (OwI E (.sl dd) (.sl el) [.slice A m c] fp'')) F w' → Φ (.slice A m c) w') : Does P o e w Φ := by
  subst hdd hm
  obtain ⟨h1, h2, h3⟩ := s.ow (i := i + 1) (by simpa using hi)
  obtain ⟨h1', h2', h3'⟩ := s.ow (i := 0) rfl
  have hap := (List.pairwise_cons.1 s.apart).1 _ (List.mem_of_getElem? hi)
  have hnd : (fp ++ fp').Nodup := List.nodup_append.2 ⟨h2, h2', fun a ha b hb hab => hap a (hab ▸ hb) ha⟩
  obtain ⟨v', w', fp'', g1, g2, g3, g4, g5⟩ := append_ow ho hu T hz hb ha hx h1 h1' hnd hlen
  have s2 := s.merge hi
  have hi2 : (C.set i (.own (fp ++ fp') fun w => (Ow E w (.sl ds) (.sl el) [v] fp ∧ fp.Nodup) ∧ Ow E w (.sl ds') (.sl el) [xv] fp' ∧ fp'.Nodup))[i]? = some (.own (fp ++ fp') fun w => (Ow E w (.sl ds) (.sl el) [v] fp ∧ fp.Nodup) ∧ Ow E w (.sl ds') (.sl el) [xv] fp' ∧ fp'.Nodup) := set_get hi
  have s3 := s2.turn hi2 g5.size g5.os g5.tape g5.output (x' := OwI E (.sl (ds ++ ds')) (.sl el) [v'] fp'') (fun b hb hne => g5.block b hb fun hm => hne (by simp [It.has, hm])) g4 (OwI.mk g2 g3)
  rw [List.set_set] at s3
  obtain ⟨A, c, hcs, _⟩ := (show Rd (fun _ => True) w' (.sl (ds ++ ds')) [v'] from Ow.rd _ _ _ _ g2 fun _ _ => trivial)
  obtain rfl : v' = .slice A (ds ++ ds').length c := by simpa using hcs
  exact does_of g1 (h _ _ _ _ s3)
/-- Some cells of an element of one's own are stored. -/
theorem does_storeO {t : TypeId} {a x : Operand} {agg : Bool} {size bytes : Nat} {zero v : Value} {i : Nat} {g c m : Nat} (j q : Nat) {cs : List Value} {el : TypeId} {ds ds2 : List D} {d' : D} {fp : List Nat} {Ψ : World → Prop} (s : St ok W0 C F w) (ho : o.op = .store t a x) (T : TyF P t agg size bytes zero)
    (ha : ev e a = .pointer (some ⟨g, j * (E el).wd + q, none⟩)) (hx : ev e x = v) (hi : C[i]? = some (OwI E (.sl ds) (.sl el) [.slice (some ⟨g, 0, none⟩) m c] fp)) (hj : j < ds.length) (hv : v.cells = cs.toArray) (hl : cs.length = size) (h1 : ∀ u ∈ cs, u.oneCell' = true) (hq : q + cs.length ≤ (E el).wd)
    (hd : ∀ (w : World) cx fx, Ow E w ds[j] (E el) cx fx → Ow E w d' (E el) (patch cx q cs) fx) (hds : ds.set j d' = ds2)
    (h : ∀ w', St ok W0 (C.set i (OwI E (.sl ds2) (.sl el) [.slice (some ⟨g, 0, none⟩) m c] fp)) F w' → Ψ w') : DoesU P o e w Ψ := by
  subst hds
  obtain ⟨how, hnd, hge⟩ := s.ow hi
  have hlt := Ow.lt _ _ _ _ how
  obtain ⟨e', he, h2⟩ := how
  obtain rfl : el = e' := by simpa using he
  rcases h2 with ⟨_, _, hcon⟩ | ⟨g', c', cur, fz, fp', hcs, rfl, h3, h4, h5, h6, h7, h8⟩
  · simp at hcon
  simp only [List.cons.injEq, Value.slice.injEq, Option.some.injEq, Addr.mk.injEq, and_true] at hcs
  obtain ⟨rfl, rfl, rfl⟩ := hcs
  obtain ⟨sh, c1, cx, c2, f1, fx, f2, e1, ecs, rfl, e2, h9, h10⟩ := h8.at j hj
  obtain rfl : E el = sh := by simpa [List.getElem?_replicate, hj] using e1
  have hc1 : c1.length = j * (E el).wd := by rw [e2, List.take_replicate, Sh.wds_rep, Nat.min_eq_left (by omega)]
  have hcx := (Ow.wd _ _ _ _ h9).1
  have hfit : j * (E el).wd + (E el).wd ≤ ds.length * (E el).wd := by
    have : (j + 1) * (E el).wd ≤ ds.length * (E el).wd := Nat.mul_le_mul_right _ hj
    rw [Nat.add_mul] at this
    omega
  have hcap : ds.length * (E el).wd ≤ c * (E el).wd := Nat.mul_le_mul_right _ h5
  have hst := storeCells_G P g (j * (E el).wd + q) el fz cs 0 cur w h3 h4 (by omega) h1
  simp only [Nat.add_zero] at hst
  have hnd1 := List.nodup_cons.1 hnd
  have hoth : ∀ b, b ≠ g → (w.setRow g (patch cur.toList (j * (E el).wd + q) cs).toArray).heap[b]? = w.heap[b]? := fun b hb => setRow_other w g b _ hb
  have hkeep : ∀ b ∈ f1 ++ (fx ++ f2), (w.setRow g (patch cur.toList (j * (E el).wd + q) cs).toArray).heap[b]? = w.heap[b]? := fun b hb => hoth b fun e => hnd1.1 (e ▸ hb)
  have hlen : (patch cur.toList (j * (E el).wd + q) cs).length = cur.size := by
    simp only [patch, List.length_append, List.length_take, List.length_drop, Array.length_toList]
    omega
  refine ⟨w.setRow g (patch cur.toList (j * (E el).wd + q) cs).toArray, ?_, h _ (s.turnOw hi (w' := w.setRow g (patch cur.toList (j * (E el).wd + q) cs).toArray) ⟨rfl, rfl, rfl, by simp [World.setRow], fun b _ hb => hoth b fun e => hb (by simp [e])⟩
    ⟨el, rfl, .inr ⟨g, c, _, fz, f1 ++ (fx ++ f2), by simp, rfl, setRow_heap w g cur _ el _ h3, ?_, by simpa using h5, h6, ?_, ?_⟩⟩ hnd fun b hb => .inl hb)⟩
  · unfold RunU execOp
    simp only [ho, ha, hx]
    have hsz : v.cells.size = size := by rw [hv]; simpa using hl
    have h2 : (storeVar t ⟨g, j * (E el).wd + q, none⟩ v).run P w = .ok () (w.setRow g (patch cur.toList (j * (E el).wd + q) cs).toArray) := by
      simp only [storeVar, Sem.run_bind, run_sizeOf T, Result.andThen_ok, hsz, ne_eq, not_true_eq_false, if_false]
      rw [hv]
      exact hst
    simp [Instr.storeAt, Instr.sureAddr, h2]
  · rcases h4 with h4 | h4
    · exact .inl h4
    · exact .inr (by simp only [List.size_toArray, hlen]; exact h4)
  · simp only [List.size_toArray, hlen, h7]
  · rw [List.length_set]
    have hp := patch_take cur.toList (j * (E el).wd + q) cs (ds.length * (E el).wd) (by omega) (by simp; omega)
    have hq2 : patch (c1 ++ (cx ++ c2)) (j * (E el).wd + q) cs = c1 ++ (patch cx q cs ++ c2) := by rw [← hc1, patch_right, patch_left (by omega)]
    simp only [hp, ecs, hq2]
    exact h10 _ d' (patch cx q cs) fx (fun b hb => hkeep b (by rcases hb with h | h <;> simp [h])) (hd _ _ _ (Ow.keep _ _ _ _ h9 fun b hb => hkeep b (by simp [hb])))
/-- 'out[j] = x', 'x' one's own and the newest thing. -/
theorem does_storeOE {t : TypeId} {a x : Operand} {agg : Bool} {bytes : Nat} {zero v : Value} {i : Nat} {g c m : Nat} (j : Nat) {cs : List Value} {el : TypeId} {ds ds2 : List D} {d' : D} {fp fp' : List Nat} {Ψ : World → Prop} (s : St ok W0 (OwI E d' (E el) cs fp' :: C) F w) (ho : o.op = .store t a x) (T : TyF P t agg (E el).wd bytes zero)
    (ha : ev e a = .pointer (some ((⟨g, 0, none⟩ : Addr).add (j * (E el).wd)))) (hx : ev e x = v) (hi : C[i]? = some (OwI E (.sl ds) (.sl el) [.slice (some ⟨g, 0, none⟩) m c] fp)) (hj : j < ds.length) (hv : v.cells = cs.toArray) (hds : ds.set j d' = ds2)
    (h : ∀ fp'' w', St ok W0 (C.set i (OwI E (.sl ds2) (.sl el) [.slice (some ⟨g, 0, none⟩) m c] fp'')) F w' → Ψ w') : DoesU P o e w Ψ := by
  subst hds
  obtain ⟨how, hnd, hge⟩ := s.ow (i := i + 1) (by simpa using hi)
  obtain ⟨hx1, hx2, hx3⟩ := s.ow (i := 0) rfl
  have hap := (List.pairwise_cons.1 s.apart).1 _ (List.mem_of_getElem? hi)
  have hlt := Ow.lt _ _ _ _ how
  have hl := (Ow.wd _ _ _ _ hx1).1
  obtain ⟨e', he, h2⟩ := how
  obtain rfl : el = e' := by simpa using he
  rcases h2 with ⟨_, _, hcon⟩ | ⟨g', c', cur, fz, fq, hcs, rfl, h3, h4, h5, h6, h7, h8⟩
  · simp at hcon
  simp only [List.cons.injEq, Value.slice.injEq, Option.some.injEq, Addr.mk.injEq, and_true] at hcs
  obtain ⟨rfl, rfl, rfl⟩ := hcs
  obtain ⟨sh, c1, cx, c2, f1, fx, f2, e1, ecs, rfl, e2, h9, h10⟩ := h8.at j hj
  obtain rfl : E el = sh := by simpa [List.getElem?_replicate, hj] using e1
  have hc1 : c1.length = j * (E el).wd := by rw [e2, List.take_replicate, Sh.wds_rep, Nat.min_eq_left (by omega)]
  have hcx := (Ow.wd _ _ _ _ h9).1
  have hfit : j * (E el).wd + (E el).wd ≤ ds.length * (E el).wd := by
    have : (j + 1) * (E el).wd ≤ ds.length * (E el).wd := Nat.mul_le_mul_right _ hj
    rw [Nat.add_mul] at this
    omega
  have hcap : ds.length * (E el).wd ≤ c * (E el).wd := Nat.mul_le_mul_right _ h5
  have h1 : ∀ u ∈ cs, u.oneCell' = true := Rd.one (ok := fun _ => True) (w := w) d' cs (Ow.rd _ _ _ _ hx1 fun _ _ => trivial)
  have hst := storeCells_G P g (j * (E el).wd) el fz cs 0 cur w h3 h4 (by omega) h1
  simp only [Nat.add_zero] at hst
  have hnd1 := List.nodup_cons.1 hnd
  have hnd2 := List.nodup_append.1 hnd1.2
  have hnd3 := List.nodup_append.1 hnd2.2.1
  have hgx : ∀ b ∈ fp', b ∉ g :: (f1 ++ (fx ++ f2)) := fun b hb => hap b hb
  have hoth : ∀ b, b ≠ g → (w.setRow g (patch cur.toList (j * (E el).wd) cs).toArray).heap[b]? = w.heap[b]? := fun b hb => setRow_other w g b _ hb
  have hkeep : ∀ b, b ∈ f1 ∨ b ∈ f2 → (w.setRow g (patch cur.toList (j * (E el).wd) cs).toArray).heap[b]? = w.heap[b]? := fun b hb => hoth b fun e => hnd1.1 (e ▸ (by rcases hb with h | h <;> simp [h]))
  have hkeepx : ∀ b ∈ fp', (w.setRow g (patch cur.toList (j * (E el).wd) cs).toArray).heap[b]? = w.heap[b]? := fun b hb => hoth b fun e => hgx b hb (by simp [e])
  have hlen : (patch cur.toList (j * (E el).wd) cs).length = cur.size := by
    simp only [patch, List.length_append, List.length_take, List.length_drop, Array.length_toList]
    omega
  have s2 := s.merge hi
  have hi2 := set_get (y := It.own (g :: (f1 ++ (fx ++ f2)) ++ fp') fun w => (Ow E w (.sl ds) (.sl el) [.slice (some ⟨g, 0, none⟩) ds.length c] (g :: (f1 ++ (fx ++ f2))) ∧ (g :: (f1 ++ (fx ++ f2))).Nodup) ∧ Ow E w d' (E el) cs fp' ∧ fp'.Nodup) hi
  have hnew : Ow E (w.setRow g (patch cur.toList (j * (E el).wd) cs).toArray) (.sl (ds.set j d')) (.sl el) [.slice (some ⟨g, 0, none⟩) ds.length c] (g :: (f1 ++ (fp' ++ f2))) := by
    refine ⟨el, rfl, .inr ⟨g, c, _, fz, f1 ++ (fp' ++ f2), by simp, rfl, setRow_heap w g cur _ el _ h3, ?_, by simpa using h5, h6, ?_, ?_⟩⟩
    · rcases h4 with h4 | h4
      · exact .inl h4
      · exact .inr (by simp only [List.size_toArray, hlen]; exact h4)
    · simp only [List.size_toArray, hlen, h7]
    · rw [List.length_set]
      have hp := patch_take cur.toList (j * (E el).wd) cs (ds.length * (E el).wd) (by omega) (by simp; omega)
      simp only [hp, ecs]
      have hp2 : patch (c1 ++ (cx ++ c2)) (j * (E el).wd) cs = c1 ++ (cs ++ c2) := by
        have := patch_right (c1 := c1) (c2 := cx ++ c2) (cs := cs) (q := 0)
        rw [hc1, Nat.add_zero] at this
        rw [this, patch_left (by omega)]
        simp only [patch, List.take_zero, List.nil_append, Nat.zero_add]
        rw [List.drop_of_length_le (by omega), List.append_nil]
      rw [hp2]
      exact h10 _ d' cs fp' hkeep (Ow.keep _ _ _ _ hx1 hkeepx)
  have s3 := s2.turn hi2 (w' := w.setRow g (patch cur.toList (j * (E el).wd) cs).toArray) (by simp [World.setRow]) rfl rfl rfl (x' := OwI E (.sl (ds.set j d')) (.sl el) [.slice (some ⟨g, 0, none⟩) ds.length c] (g :: (f1 ++ (fp' ++ f2))))
    (fun b _ hb => hoth b fun e => hb (by simp [It.has, e])) (fun b hb => .inl (by simp only [OwI, It.has, List.mem_cons, List.mem_append] at hb ⊢; rcases hb with h | h | h | h <;> simp [h]))
    (OwI.mk hnew (List.nodup_cons.2 ⟨fun hm => ?_, List.nodup_append.2 ⟨hnd2.1, List.nodup_append.2 ⟨hx2, hnd3.2.1, fun a ha b hb hab => hgx a ha (by simp [hab, hb])⟩, fun a ha b hb hab => ?_⟩⟩))
  · rw [List.set_set] at s3
    refine ⟨_, ?_, h _ _ s3⟩
    unfold RunU execOp
    simp only [ho, ha, hx]
    have hsz : v.cells.size = (E el).wd := by rw [hv]; simpa using hl
    have h2 : (storeVar t ⟨g, j * (E el).wd, none⟩ v).run P w = .ok () (w.setRow g (patch cur.toList (j * (E el).wd) cs).toArray) := by
      simp only [storeVar, Sem.run_bind, run_sizeOf T, Result.andThen_ok, hsz, ne_eq, not_true_eq_false, if_false]
      rw [hv]
      exact hst
    rw [add_lit0]
    simp [Instr.storeAt, Instr.sureAddr, h2]
  · rcases List.mem_append.1 hm with h | h
    · exact hnd1.1 (by simp [h])
    · rcases List.mem_append.1 h with h | h
      · exact hgx g h (by simp)
      · exact hnd1.1 (by simp [h])
  · subst hab
    rcases List.mem_append.1 hb with h | h
    · exact hgx a h (by simp [ha])
    · exact hnd2.2.2 a ha a (by simp [h]) rfl
/-- 'make([]T, m)', the zero value leading nowhere. -/
theorem does_makeO {t el : TypeId} {x y : Operand} {agg : Bool} {bytes m : Nat} {zero : Value} {zc : List Value} {d : D} (s : St ok W0 C F w) (ho : o.op = .makeSlice t x y) (hu : P.underlying t = some (.slice el)) (T : TyF P el agg (E el).wd bytes zero) (hz : 0 < (E el).wd) (hb : 0 < bytes)
    (hx : ev e x = .int .i64 m) (hy : ev e y = .int .i64 m) (hm : m * bytes ≤ 281474976710656) (hzc : zero.cells = zc.toArray) (hd : ∀ (w : World), Ow E w d (E el) zc [])
    (h : ∀ g w', St ok W0 (OwI E (.sl (zerosD d m)) (.sl el) [.slice (some ⟨g, 0, none⟩) m m] [g] :: C) F w' → Φ (.slice (some ⟨g, 0, none⟩) m m) w') : Does P o e w Φ := by
  obtain ⟨ti, hti, hi1, hi2, hi3⟩ := T.get
  have hsz : zc.length = (E el).wd := by have := T.zsz; rw [hzc] at this; simpa using this
  have hle : m ≤ 281474976710656 := Nat.le_trans (Nat.le_mul_of_pos_right _ hb) hm
  obtain ⟨w', hr, hown, hg⟩ := run_make_full (P := P) w 0 t el ti zero (E el).wd hu hti hi3 hi1 .i64 .i64 m (by rw [hi2, Nat.mul_comm]; exact hm) (by simp only [maxLen]; omega) (Nat.zero_le _)
  have hbl : Below w.heap.size w w' := ⟨hg.os, hg.tape, hg.output, hg.size, fun b hb => hg.block b hb (by simp)⟩
  have hcells : OwF E w' (zerosD d m) (List.replicate (zerosD d m).length (E el)) (madeCells zero.cells (m * (E el).wd)).toList [] := by
    have hrd := made_zeros (okc := fun _ => True) (w := w') (d := d) (zc := zc) (fun w => Ow.rd _ _ _ _ (hd w) fun _ _ => trivial) (by omega) m
    rw [hzc, ← hsz]
    clear hr hown hg hbl h hm hx hy s
    have key : ∀ m, (madeCells zc.toArray (m * zc.length)).toList = (List.replicate m zc).flatten := by
      intro m
      apply List.ext_getElem?
      intro j
      simp only [madeCells, Array.toList_map, Array.toList_range, List.getElem?_map, List.size_toArray]
      induction m generalizing j with
      | zero => simp
      | succ m ih =>
        rw [List.replicate_succ, List.flatten_cons]
        by_cases hj : j < zc.length
        · rw [List.getElem?_append_left hj, List.getElem?_range (by rw [Nat.add_mul]; omega)]
          simp [Nat.mod_eq_of_lt hj, List.getElem?_eq_getElem hj]
        · rw [List.getElem?_append_right (by omega), ← ih]
          by_cases hj2 : j < (m + 1) * zc.length
          · have : (m + 1) * zc.length = m * zc.length + zc.length := by rw [Nat.add_mul]; omega
            rw [List.getElem?_range hj2, List.getElem?_range (by omega)]
            have h3 : j % zc.length = (j - zc.length) % zc.length := Nat.mod_eq_sub_mod (by omega)
            simp [h3]
          · have : (m + 1) * zc.length = m * zc.length + zc.length := by rw [Nat.add_mul]; omega
            rw [List.getElem?_eq_none (by simp; omega), List.getElem?_eq_none (by simp; omega)]
    rw [key]
    simp only [zerosD, List.length_replicate]
    clear hrd key hle
    induction m with
    | zero => exact ⟨rfl, rfl, rfl⟩
    | succ m ih => exact ⟨E el, List.replicate m (E el), zc, _, [], [], rfl, rfl, rfl, hd w', ih⟩
  obtain ⟨f0, h1, h2, h3⟩ := ow_row (E := E) (by simp [zerosD]) (ownG_of hown) rfl hcells
  obtain rfl : f0 = [w.heap.size] := by
    match f0, h2, h3 with
    | [], h2, _ => exact absurd ((h2 w.heap.size).2 rfl) (by simp)
    | [x], h2, _ => simpa [Value.ownBlock, eq_comm] using h2 x
  refine does_of (v := .slice (some ⟨w.heap.size, 0, none⟩) m m) (w' := w') ?_ (h _ _ (s.retOw hbl (by simpa using h1) (by simp) fun b hb => by simp at hb; omega))
  unfold RunV execOp
  simp only [ho, hx, hy]
  rw [Sem.run_bind, hr]
  rfl
end
end Go.Proofs.Ytkefaelmamgjiaa
