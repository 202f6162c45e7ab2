/- The engine, part 4: appending, making, elements. -/
import Derived.Test.YtkefaelmamgjiaaEng3
set_option linter.unusedVariables false
namespace Go.Proofs.Ytkefaelmamgjiaa
open Go.RowKit
section
variable {P : Program} {n : Nat} {e : Env} {w : World} {ops : Array Oper} {K : Env → World → Prop} {rest : List Oper} {o : Oper}
variable {ok : Nat → Prop} {W0 : Start} {C : List It} {F : List Fa} {Φ : Value → World → Prop}
theorem wds_of {z : Nat} : ∀ {ds : List D}, (∀ d ∈ ds, d.wd = z) → D.wds ds = ds.length * z
  | [], _ => by simp [D.wds]
  | d :: ds, h => by
    rw [D.wds, wds_of (fun x hx => h x (by simp [hx])), h d (by simp), List.length_cons, Nat.add_mul]
    omega
/-- What may be appended: some cells, and where they lie. -/
def Src (okc : Nat → Prop) (w : World) (xv : Value) (ds : List D) : Prop :=
  ∃ A c news, xv = .slice A ds.length c ∧ RdF okc w ds news ∧ (A = none → ds = []) ∧ ∀ ad, A = some ad → ∀ j u, news[j]? = some u → w.cell? (ad.add j) = some u
theorem Src.dat {okc : Nat → Prop} {xv : Value} {ds : List D} (h : Rd okc w (.sl ds) [xv]) : Src okc w xv ds := by
  obtain ⟨A, c, h1, h2, h3⟩ := h
  obtain ⟨cs, h4, h5, h6⟩ := RdE.cells h3
  exact ⟨A, c, cs, by simpa using h1, h4, h5, h6⟩
theorem Src.row {okc : Nat → Prop} {xv : Value} {el : TypeId} {size : Nat} {ds : List D} (h : (It.row xv el size ds).holds okc w) : Src okc w xv ds := by
  obtain ⟨h0, xs, h1, h2⟩ := h
  rcases h1.2 with ⟨rfl, hn⟩ | ⟨g, cap, cur, fz, rfl, _⟩
  · exact ⟨none, 0, xs, by rw [hn], h2, fun _ => List.eq_nil_of_length_eq_zero hn, fun ad had => nomatch had⟩
  · refine ⟨_, cap, xs, rfl, h2, (fun h => nomatch h), fun ad had => ?_⟩
    obtain rfl := Option.some.inj had
    exact ownG.cells h1 rfl
theorem append_core {i : Nat} {a x : Operand} {t el : TypeId} {agg : Bool} {size bytes : Nat} {zero v xv : Value} {ds ds' : List D} (s : St ok W0 C F w) (ho : o.op = .call { callee := .builtin .append, args := #[a, x], argTypes := #[t, t] })
    (hu : P.underlying t = some (.slice el)) (T : TyF P el agg size bytes zero) (hz : 0 < size) (hb : 0 < bytes) (hi : C[i]? = some (.row v el size ds)) (ha : ev e a = v) (hx : ev e x = xv)
    (hs : Src (okS ok W0.heap.size C) w xv ds') (hw : ∀ d ∈ ds', d.wd = size) (hlen : (ds.length + ds'.length) * bytes ≤ 140737488355328) :
    ∃ v' w', RunV P o e w v' w' ∧ St ok W0 (C.set i (.row v' el size (ds ++ ds'))) F w' := by
  obtain ⟨A, c, news, rfl, hn, hA, hcell⟩ := hs
  obtain ⟨h0, xs, hown, hxs⟩ := s.own _ (List.mem_of_getElem? hi)
  obtain ⟨ti, hti, hi1, hi2, hi3⟩ := T.get
  have hnl : news.length = ds'.length * size := by rw [RdF.len ds' news hn, wds_of hw]
  have hmax : ds.length + ds'.length ≤ maxLen := by
    have : ds.length + ds'.length ≤ (ds.length + ds'.length) * bytes := Nat.le_mul_of_pos_right _ hb
    simp only [maxLen]; omega
  have hrun : ∀ {v' : Value} {w' : World}, (Builtin.append_ #[t, t] o.type #[v, .slice A ds'.length c]).run P w = .ok v' w' → RunV P o e w v' w' := by
    intro v' w' hr
    unfold RunV execOp
    simp only [ho]
    simp only [resolve, invoke, builtin, Sem.run_bind, Sem.run_pure, Result.andThen_ok, List.map_toArray, List.map_cons, List.map_nil, ha, hx, hr]
  cases A with
  | none =>
    obtain rfl : ds' = [] := hA rfl
    refine ⟨v, w, hrun ?_, ?_⟩
    · rcases hown.2 with ⟨rfl, h2⟩ | ⟨g, cap, cur, fz, rfl, _, _, _, hnc, _⟩
      · simp [Builtin.append_, run_underlying hu, sizeOf, typeInfo, hti, Builtin.lenOf, Builtin.firstCells]
      · simp [Builtin.append_, run_underlying hu, sizeOf, typeInfo, hti, Builtin.lenOf, Builtin.firstCells, hnc, storeCells]
    · rw [List.append_nil]
      have : C.set i (.row v el size ds) = C := by
        obtain ⟨hlt, hval⟩ := List.getElem?_eq_some_iff.1 hi
        rw [← hval]
        exact List.set_getElem_self hlt
      rw [this]
      exact s
  | some ad =>
    obtain ⟨v', w', hr, hown', hg, hat⟩ := append_G (P := P) w 0 t o.type el ti zero size bytes hu hti hi3 hi1 hi2 T.zsz hz v ds.length xs hown ad ds'.length c news hnl (hcell ad rfl) (RdF.ones ds' news hn) hmax hlen (Nat.zero_le _)
    refine ⟨v', w', hrun hr, ?_⟩
    have hob : ∀ b, (It.row v' el size (ds ++ ds')).has b → (It.row v el size ds).has b ∨ w.heap.size ≤ b := by
      intro b hb
      simp only [It.has] at hb ⊢
      rcases hat with h | h
      · exact .inl (h ▸ hb)
      · rw [h, Option.some.injEq] at hb
        right
        omega
    refine s.turn hi hg.size hg.os hg.tape hg.output (fun b hb hne => hg.block b hb (fun e => hne (by simp only [It.has]; exact e.symm))) hob ?_
    have hkp : Keeps (okS ok W0.heap.size C) w w' := ⟨hg.size, fun b hb1 hb2 => hg.block b hb2 (fun e => hb1.2 _ (List.mem_of_getElem? hi) (by simp only [It.has]; exact e.symm))⟩
    refine ⟨fun d hd => ?_, xs ++ news, by rw [List.length_append]; exact hown', RdF.keep hkp (okS_set hi hob) _ _ (RdF.append hxs hn)⟩
    rcases List.mem_append.1 hd with hd | hd
    · exact h0 d hd
    · exact hw d hd
theorem set_get {α : Type} {l : List α} {k : Nat} {x y : α} (h : l[k]? = some x) : (l.set k y)[k]? = some y := by
  have := (List.getElem?_eq_some_iff.1 h).1
  simp [this]
theorem St.rowForm (s : St ok W0 C F w) {i : Nat} {v : Value} {el : TypeId} {size : Nat} {ds : List D} (hi : C[i]? = some (.row v el size ds)) : ∃ A cap, v = .slice A ds.length cap ∧ ds.length ≤ cap ∧ (0 < ds.length → ∃ g, A = some ⟨g, 0, none⟩) := by
  obtain ⟨h0, xs, h1, h2⟩ := s.own _ (List.mem_of_getElem? hi)
  rcases h1.2 with ⟨rfl, hn⟩ | ⟨g, cap, cur, fz, rfl, _, _, _, hc, _⟩
  · exact ⟨none, 0, by rw [hn], by omega, fun h => by omega⟩
  · exact ⟨_, cap, rfl, hc, fun _ => ⟨g, rfl⟩⟩
/-- 'append(a, x...)', x something that is read. -/
theorem does_appendD {i : Nat} {a x : Operand} {t el : TypeId} {agg : Bool} {size bytes : Nat} {zero v xv : Value} {ds ds' dd : List D} {m : Nat} (s : St ok W0 C F w) (ho : o.op = .call { callee := .builtin .append, args := #[a, x], argTypes := #[t, t] })
    (hu : P.underlying t = some (.slice el)) (T : TyF P el agg size bytes zero) (hz : 0 < size) (hb : 0 < bytes) (hi : C[i]? = some (.row v el size ds)) (ha : ev e a = v) (hx : ev e x = xv)
    (hs : Rd (okS ok W0.heap.size C) w (.sl ds') [xv]) (hw : ∀ d ∈ ds', d.wd = size) (hlen : (ds.length + ds'.length) * bytes ≤ 140737488355328)
    (hdd : ds ++ ds' = dd) (hm : dd.length = m)
    (h : ∀ A c w', St ok W0 (C.set i (.row (.slice A m c) el size dd)) F w' → Φ (.slice A m c) w') : Does P o e w Φ := by
  subst hdd hm
  obtain ⟨v', w', h1, h2⟩ := append_core s ho hu T hz hb hi ha hx (Src.dat hs) hw hlen
  obtain ⟨A, c, rfl, _⟩ := h2.rowForm (set_get (by simpa using hi))
  exact does_of h1 (h _ _ _ h2)
/-- 'append(a, x...)', x a row of its own, which is gone then (the newest thing). -/
theorem does_appendR {i : Nat} {a x : Operand} {t el : TypeId} {agg : Bool} {size bytes : Nat} {zero v xv : Value} {ds ds' dd : List D} {m : Nat} (s : St ok W0 (.row xv el size ds' :: C) F w) (ho : o.op = .call { callee := .builtin .append, args := #[a, x], argTypes := #[t, t] })
    (hu : P.underlying t = some (.slice el)) (T : TyF P el agg size bytes zero) (hz : 0 < size) (hb : 0 < bytes) (hi : C[i]? = some (.row v el size ds)) (ha : ev e a = v) (hx : ev e x = xv)
    (hlen : (ds.length + ds'.length) * bytes ≤ 140737488355328)
    (hdd : ds ++ ds' = dd) (hm : dd.length = m)
    (h : ∀ A c w', St ok W0 (C.set i (.row (.slice A m c) el size dd)) F w' → Φ (.slice A m c) w') : Does P o e w Φ := by
  subst hdd hm
  have hrow := s.own _ (List.mem_cons_self ..)
  obtain ⟨v', w', h1, h2⟩ := append_core (i := i + 1) s ho hu T hz hb (by simpa using hi) ha hx (Src.row hrow) hrow.1 hlen
  have h3 : St ok W0 (C.set i (.row v' el size (ds ++ ds'))) F w' := by simpa using h2.drop 0
  obtain ⟨A, c, rfl, _⟩ := h3.rowForm (set_get hi)
  exact does_of h1 (h _ _ _ h3)

/-! ### Elements -/
/-- Element 'j' of a row of its own. -/
theorem St.rowAt (s : St ok W0 C F w) {i g cap : Nat} {el : TypeId} {size m : Nat} {ds : List D} (hi : C[i]? = some (.row (.slice (some ⟨g, 0, none⟩) m cap) el size ds)) (j : Nat) (hj : j < ds.length) :
    ∃ cs, Rd (okS ok W0.heap.size C) w ds[j] cs ∧ cs.length = size ∧ ∀ q u, cs[q]? = some u → w.cell? (((⟨g, 0, none⟩ : Addr).add (j * size)).add q) = some u := by
  obtain ⟨h0, xs, h1, h2⟩ := s.own _ (List.mem_of_getElem? hi)
  have h3 := RdF.get h0 h2 j hj
  have hl := Rd.length _ _ h3
  rw [h0 _ (List.getElem_mem hj)] at hl
  refine ⟨_, h3, hl, fun q u hu => ?_⟩
  rw [addr_add_add _ _ _ rfl]
  have hq : q < size := by have := (List.getElem?_eq_some_iff.1 hu).1; omega
  refine ownG.cells h1 rfl _ _ ?_
  rw [List.getElem?_take, if_pos hq, List.getElem?_drop] at hu
  exact hu
/-- A slice that is read. -/
theorem St.datForm (s : St ok W0 C F w) {i : Nat} {v : Value} {ds : List D} (hi : F[i]? = some (.dat [v] (.sl ds))) : ∃ A c, v = .slice A ds.length c ∧ ds.length ≤ c := by
  obtain ⟨A, c, h1, h2, _⟩ := s.fa _ (List.mem_of_getElem? hi)
  exact ⟨A, c, by simpa using h1, h2⟩
/-- Element 'j' of a slice that is read: its cells are laid open. -/
theorem St.openE (s : St ok W0 C F w) {i : Nat} {A : Option Addr} {m c : Nat} {ds : List D} {z : Nat} (hi : F[i]? = some (.dat [.slice A m c] (.sl ds))) (hz : 0 < z) (hw : ∀ d ∈ ds, d.wd = z) (j : Nat) (hj : j < ds.length) :
    ∃ ad cs, A = some ad ∧ St ok W0 C (.at (ad.add (j * z)) cs :: .dat cs ds[j] :: F) w := by
  obtain ⟨A', c', h1, h2, h3⟩ := s.fa _ (List.mem_of_getElem? hi)
  obtain ⟨rfl, _, _⟩ : A = A' ∧ m = ds.length ∧ c = c' := by simpa using h1
  obtain ⟨ad, cs, h4, h5, h6, h7, h8⟩ := RdE.get hz ds A hw h3 j hj
  exact ⟨ad, cs, h4, (s.know (f := .dat cs ds[j]) h7).know (f := .at _ cs) ⟨by rw [add_block]; exact h5, by rw [add_block]; exact h6, h8⟩⟩
theorem St.at (s : St ok W0 C F w) {i : Nat} {ad : Addr} {cs : List Value} (hi : F[i]? = some (.at ad cs)) (j : Nat) {u : Value} (hu : cs[j]? = some u) : w.cell? (ad.add j) = some u := (s.fa _ (List.mem_of_getElem? hi)).2.2 j u hu
theorem St.dat (s : St ok W0 C F w) {i : Nat} {cs : List Value} {d : D} (hi : F[i]? = some (.dat cs d)) : Rd (okS ok W0.heap.size C) w d cs := s.fa _ (List.mem_of_getElem? hi)
theorem run_load_at1 {i j : Nat} {t : TypeId} {a : Operand} {bytes : Nat} {zero : Value} {ad : Addr} {cs : List Value} {v : Value} (s : St ok W0 C F w) (ho : o.op = .load t a) (T : TyF P t false 1 bytes zero) (ha : ev e a = .pointer (some (ad.add j)))
    (hi : F[i]? = some (.at ad cs)) (hv : cs[j]? = some v) : RunV P o e w v w := run_load1 ho T ha (s.at hi j hv)
theorem run_load_at0 {i : Nat} {t : TypeId} {a : Operand} {bytes : Nat} {zero : Value} {ad : Addr} {cs : List Value} {v : Value} (s : St ok W0 C F w) (ho : o.op = .load t a) (T : TyF P t false 1 bytes zero) (ha : ev e a = .pointer (some ad))
    (hi : F[i]? = some (.at ad cs)) (hv : cs[0]? = some v) : RunV P o e w v w := run_load1 ho T ha (by have := s.at hi 0 hv; exact this)
theorem run_load_atA {i : Nat} {t : TypeId} {a : Operand} {size bytes : Nat} {zero : Value} {ad : Addr} {cs : List Value} (s : St ok W0 C F w) (ho : o.op = .load t a) (T : TyF P t true size bytes zero) (ha : ev e a = .pointer (some ad))
    (hi : F[i]? = some (.at ad cs)) (hl : cs.length = size) : RunV P o e w (.agg cs.toArray) w := run_loadA ho T ha hl fun j u hu => s.at hi j hu

/-! ### What a region that draws its order may look at all along -/
structure Sees (C : List It) (F : List Fa) (w : World) : Prop where
  blk : ∀ b cells ty, It.blk b cells ty ∈ C → w.heap[b]? = some (.cells cells.toArray ty (0, 0))
  adr : ∀ ad cs, Fa.at ad cs ∈ F → ∀ j u, cs[j]? = some u → w.cell? (ad.add j) = some u
theorem St.sees {C' : List It} {F' : List Fa} (s : St ok W0 C F w) (h1 : ∀ b cells ty, It.blk b cells ty ∈ C' → It.blk b cells ty ∈ C) (h2 : ∀ f ∈ F', f ∈ F) : Sees C' F' w :=
  ⟨fun b cells ty hm => s.own _ (h1 b cells ty hm), fun ad cs hm => (s.fa _ (h2 _ hm)).2.2⟩
theorem St.see (s : St ok W0 C F w) : Sees C F w := s.sees (fun _ _ _ h => h) (fun _ h => h)
theorem VS_drawS {id : Nat} {r : List Code} {Q : Post} (k : Nat) (s : St ok W0 C F w) (hm : P.follows .mixedOrders = true)
    (h : St ok W0 C F w.drew → VA P n ops k (Sees C F) (VS P n r Q) ops.size (Array.replicate ops.size false) e w.drew) : VS P n (.region id ops true :: r) Q e w := VS_draw k _ hm (h s.drew)
theorem Sees.cell (s : Sees C F w) {i b : Nat} {cells : List Value} {ty : TypeId} (hi : C[i]? = some (.blk b cells ty)) (j : Nat) : w.cell? ⟨b, j, none⟩ = cells[j]? := by
  have h := s.blk _ _ _ (List.mem_of_getElem? hi)
  rw [cell_of_row w b j _ ty (0, 0) h]
  simp
theorem Sees.seg (s : Sees C F w) {i b : Nat} {cells : List Value} {ty : TypeId} (hi : C[i]? = some (.blk b cells ty)) (o : Nat) {cs : List Value} (hc : (cells.drop o).take cs.length = cs) : ∀ j u, cs[j]? = some u → w.cell? ((⟨b, o, none⟩ : Addr).add j) = some u := by
  intro j u hu
  have : (⟨b, o, none⟩ : Addr).add j = ⟨b, o + j, none⟩ := by unfold Addr.add; split <;> simp_all
  rw [this, s.cell hi]
  rw [← hc] at hu
  rw [List.getElem?_take] at hu
  split at hu
  · rw [List.getElem?_drop] at hu; exact hu
  · cases hu
theorem see_own1 {t : TypeId} {a : Operand} {bytes : Nat} {zero : Value} {i b j : Nat} {cells : List Value} {ty : TypeId} {v : Value} (s : Sees C F w) (ho : o.op = .load t a) (T : TyF P t false 1 bytes zero) (ha : ev e a = .pointer (some ⟨b, j, none⟩))
    (hi : C[i]? = some (.blk b cells ty)) (hv : cells[j]? = some v) : RunV P o e w v w := run_load1 ho T ha ((s.cell hi j).trans hv)
theorem see_ownA {t : TypeId} {a : Operand} {size bytes : Nat} {zero : Value} {i b j : Nat} {cells : List Value} {ty : TypeId} {cs : List Value} (s : Sees C F w) (ho : o.op = .load t a) (T : TyF P t true size bytes zero) (ha : ev e a = .pointer (some ⟨b, j, none⟩))
    (hi : C[i]? = some (.blk b cells ty)) (hl : cs.length = size) (hv : (cells.drop j).take cs.length = cs) : RunV P o e w (.agg cs.toArray) w := run_loadA ho T ha hl (s.seg hi j hv)
theorem see_at1 {i j : Nat} {t : TypeId} {a : Operand} {bytes : Nat} {zero : Value} {ad : Addr} {cs : List Value} {v : Value} (s : Sees C F w) (ho : o.op = .load t a) (T : TyF P t false 1 bytes zero) (ha : ev e a = .pointer (some (ad.add j)))
    (hi : F[i]? = some (.at ad cs)) (hv : cs[j]? = some v) : RunV P o e w v w := run_load1 ho T ha (s.adr _ _ (List.mem_of_getElem? hi) j v hv)
theorem see_at0 {i : Nat} {t : TypeId} {a : Operand} {bytes : Nat} {zero : Value} {ad : Addr} {cs : List Value} {v : Value} (s : Sees C F w) (ho : o.op = .load t a) (T : TyF P t false 1 bytes zero) (ha : ev e a = .pointer (some ad))
    (hi : F[i]? = some (.at ad cs)) (hv : cs[0]? = some v) : RunV P o e w v w := run_load1 ho T ha (by have := s.adr _ _ (List.mem_of_getElem? hi) 0 v hv; exact this)
theorem see_atA {i : Nat} {t : TypeId} {a : Operand} {size bytes : Nat} {zero : Value} {ad : Addr} {cs : List Value} (s : Sees C F w) (ho : o.op = .load t a) (T : TyF P t true size bytes zero) (ha : ev e a = .pointer (some ad))
    (hi : F[i]? = some (.at ad cs)) (hl : cs.length = size) : RunV P o e w (.agg cs.toArray) w := run_loadA ho T ha hl fun j u hu => s.adr _ _ (List.mem_of_getElem? hi) j u hu

/-- A nil slice is a row, too. -/
theorem St.nilrow (s : St ok W0 C F w) (el : TypeId) (size : Nat) : St ok W0 (.row (.slice none 0 0) el size [] :: C) F w :=
  s.more (Below.refl _ _) ⟨fun _ h => (List.not_mem_nil h).elim, [], ownG_of (World.ownsRow_nil w _ _ _), rfl⟩ (fun b hb => by simp [It.has, Value.ownBlock] at hb)
/-- Number 'k' comes to the front. -/
theorem St.front (s : St ok W0 C F w) (k : Nat) {x : It} (hk : C[k]? = some x) : St ok W0 (x :: C.eraseIdx k) F w := by
  have hperm : (x :: C.eraseIdx k).Perm C := by
    clear s
    induction C generalizing k with
    | nil => simp at hk
    | cons y C ih =>
      cases k with
      | zero =>
        obtain rfl : y = x := by simpa using hk
        exact List.Perm.refl _
      | succ k => exact (List.Perm.swap y x _).trans ((ih k (by simpa using hk)).cons y)
  refine s.pick (fun y hy => hperm.subset hy) ?_
  exact (hperm.pairwise_iff (R := fun x y => ∀ b, x.has b → ¬ y.has b) (fun h b h1 h2 => h b h2 h1)).2 s.apart
/-- A call has come back with data. -/
theorem St.ret (s : St ok W0 C F w) {w' : World} (hb : Below w.heap.size w w') {cs : List Value} {d : D} (hd : Rd (okR (okS ok W0.heap.size C) w) w' d cs) : St ok W0 C (.dat cs d :: F) w' := (s.step hb).know (f := .dat cs d) (s.res hb hd)
theorem St.begin {w : World} {cs : List Value} {d : D} {F : List Fa} (s : St ok w [] F w) (h : Rd ok w d cs) : St ok w [] (.dat cs d :: F) w :=
  s.know (f := .dat cs d) (Rd.keep (Keeps.refl _ _) (fun b _ hb => ⟨.inl hb, fun x hx => (List.not_mem_nil hx).elim⟩) _ _ h)

/-! ### A struct written out -/
structure StF (P : Program) (t : TypeId) (ps : List (Nat × Nat)) : Prop where
  ex : ∃ fs, P.underlying t = some (.struct fs) ∧ ∀ w : World, (fs.mapM fun f => do pure (f.offset, ← sizeOf f.type) : Sem (Array (Nat × Nat))).run P w = .ok ps.toArray w
def fillL (ps : List (Nat × Nat)) : List Value → List (Nat × Value) → Option (List Value)
  | cells, [] => some cells
  | cells, (i, v) :: r => match ps[i]? with
    | some (off, size) => bif Nat.beq v.cells.toList.length size && Nat.ble (off + size) cells.length then fillL ps (patch cells off v.cells.toList) r else none
    | none => none
theorem fillL_fill {ps : List (Nat × Nat)} : ∀ {parts : List (Nat × Value)} {cells cs : List Value}, fillL ps cells parts = some cs → Instr.fill (fun i => ps.toArray[i]?) cells.toArray parts = some cs.toArray
  | [], cells, cs, h => by
    simp only [fillL, Option.some.injEq] at h
    subst h
    rfl
  | (i, v) :: r, cells, cs, h => by
    unfold fillL at h
    split at h
    · rename_i off size hp
      cases hb : (Nat.beq v.cells.toList.length size && Nat.ble (off + size) cells.length) with
      | false => rw [hb] at h; cases h
      | true =>
        rw [hb] at h
        simp only [Bool.and_eq_true] at hb
        have h1 := Nat.eq_of_beq_eq_true hb.1
        have h2 := Nat.le_of_ble_eq_true hb.2
        rw [fill_one (cs := v.cells.toList) (off := off) (size := size) (by simpa using hp) (by simp) h1 (by simpa using h2)]
        simpa using fillL_fill h
    · cases h
theorem run_build {t : TypeId} {parts : Array (Nat × Operand)} {agg : Bool} {size bytes : Nat} {zero : Value} {ps : List (Nat × Nat)} {cs : List Value} (ho : o.op = .build t parts) (T : TyF P t agg size bytes zero) (S : StF P t ps)
    (hf : fillL ps zero.cells.toList (parts.toList.map fun p => (p.1, ev e p.2)) = some cs) : RunV P o e w (.agg cs.toArray) w := by
  obtain ⟨fs, h1, h2⟩ := S.ex
  have h3 := fillL_fill hf
  simp only [Array.toArray_toList] at h3
  have hlist : (parts.map fun (x : Nat × Operand) => (x.1, ev e x.2)).toList = parts.toList.map fun p => (p.1, ev e p.2) := by simp
  unfold RunV execOp
  simp only [ho]
  have hb : (Instr.build t (parts.map fun (i, x) => (i, ev e x))).run P w = .ok (.agg cs.toArray) w := by
    unfold Instr.build
    simp only [Sem.run_bind, run_zeroValue T, Result.andThen_ok, run_underlying h1]
    rw [h2 w]
    simp only [Result.andThen_ok]
    rw [hlist, h3]
    rfl
  rw [Sem.run_bind, hb]
  rfl

/-! ### A slice made with a length -/
def zerosD (d : D) (m : Nat) : List D := List.replicate m d
theorem made_zeros {okc : Nat → Prop} {d : D} {zc : List Value} (hd : ∀ w : World, Rd okc w d zc) (hz : 0 < zc.length) : ∀ (m : Nat), RdF okc w (zerosD d m) (madeCells zc.toArray (m * zc.length)).toList := by
  intro m
  have key : ∀ m, (madeCells zc.toArray (m * zc.length)).toList = (List.replicate m zc).flatten := by
    intro m
    apply List.ext_getElem?
    intro j
    simp only [madeCells, Array.toList_map, Array.toList_range, List.getElem?_map, List.size_toArray]
    induction m generalizing j with
    | zero => simp
    | succ m ih =>
      rw [List.replicate_succ, List.flatten_cons]
      by_cases hj : j < zc.length
      · rw [List.getElem?_append_left hj, List.getElem?_range (by rw [Nat.add_mul]; omega)]
        simp [Nat.mod_eq_of_lt hj, List.getElem?_eq_getElem hj]
      · rw [List.getElem?_append_right (by omega), ← ih]
        by_cases hj2 : j < (m + 1) * zc.length
        · have : (m + 1) * zc.length = m * zc.length + zc.length := by rw [Nat.add_mul]; omega
          rw [List.getElem?_range hj2, List.getElem?_range (by omega)]
          have h3 : j % zc.length = (j - zc.length) % zc.length := Nat.mod_eq_sub_mod (by omega)
          simp [h3]
        · have : (m + 1) * zc.length = m * zc.length + zc.length := by rw [Nat.add_mul]; omega
          rw [List.getElem?_eq_none (by simp; omega), List.getElem?_eq_none (by simp; omega)]
  rw [key]
  induction m with
  | zero => exact rfl
  | succ m ih => exact ⟨zc, _, rfl, hd w, ih⟩
theorem does_make {t el : TypeId} {x y : Operand} {agg : Bool} {size bytes m : Nat} {zero : Value} {zc : List Value} {d : D} (s : St ok W0 C F w) (ho : o.op = .makeSlice t x y) (hu : P.underlying t = some (.slice el)) (T : TyF P el agg size bytes zero) (hz : 0 < size) (hb : 0 < bytes)
    (hx : ev e x = .int .i64 m) (hy : ev e y = .int .i64 m) (hm : m * bytes ≤ 281474976710656) (hzc : zero.cells = zc.toArray) (hd : ∀ (okc : Nat → Prop) (w : World), Rd okc w d zc)
    (h : ∀ g w', St ok W0 (.row (.slice (some ⟨g, 0, none⟩) m m) el size (zerosD d m) :: C) F w' → Φ (.slice (some ⟨g, 0, none⟩) m m) w') : Does P o e w Φ := by
  obtain ⟨ti, hti, hi1, hi2, hi3⟩ := T.get
  have hsz : zc.length = size := by have := T.zsz; rw [hzc] at this; simpa using this
  have hle : m ≤ 281474976710656 := Nat.le_trans (Nat.le_mul_of_pos_right _ hb) hm
  obtain ⟨w', hr, hown, hg⟩ := run_make_full (P := P) w 0 t el ti zero size hu hti hi3 hi1 .i64 .i64 m (by rw [hi2, Nat.mul_comm]; exact hm) (by simp only [maxLen]; omega) (Nat.zero_le _)
  have hbl : Below w.heap.size w w' := ⟨hg.os, hg.tape, hg.output, hg.size, fun b hb => hg.block b hb (by simp)⟩
  refine does_of (v := .slice (some ⟨w.heap.size, 0, none⟩) m m) (w' := w') ?_ (h _ _ ?_)
  · unfold RunV execOp
    simp only [ho, hx, hy]
    rw [Sem.run_bind, hr]
    rfl
  · refine s.more hbl ⟨fun d' hd' => ?_, (madeCells zero.cells (m * size)).toList, by simpa [zerosD] using ownG_of hown, ?_⟩ (fun b hb => by simp [It.has, Value.ownBlock] at hb; omega)
    · obtain rfl : d' = d := (List.mem_replicate.1 hd').2
      rw [← Rd.length d' zc (hd (fun _ => True) w), hsz]
    · rw [hzc, ← hsz]
      exact made_zeros (hd _) (by omega) m

/-! ### Stores into a row of its own -/
theorem patch_get {l : List Value} {o : Nat} {cs : List Value} (h : o + cs.length ≤ l.length) (i : Nat) : (patch l o cs)[i]? = if i < o then l[i]? else if i < o + cs.length then cs[i - o]? else l[i]? := by
  unfold patch
  by_cases h1 : i < o
  · rw [if_pos h1, List.append_assoc, List.getElem?_append_left (by simp; omega), List.getElem?_take, if_pos h1]
  · rw [if_neg h1]
    by_cases h2 : i < o + cs.length
    · rw [if_pos h2, List.append_assoc, List.getElem?_append_right (by simp; omega), List.getElem?_append_left (by simp; omega)]
      congr 1
      simp
      omega
    · rw [if_neg h2, List.getElem?_append_right (by simp; omega), List.getElem?_drop]
      congr 1
      simp
      omega
theorem patch_take (l : List Value) (o : Nat) (cs : List Value) (N : Nat) (h : o + cs.length ≤ N) (h0 : o + cs.length ≤ l.length) : (patch l o cs).take N = patch (l.take N) o cs := by
  apply List.ext_getElem?
  intro i
  rw [patch_get (by simp; omega), List.getElem?_take, patch_get h0]
  by_cases h1 : i < N
  · simp [h1]
  · rw [if_neg h1, if_neg (by omega), if_neg (by omega), List.getElem?_take, if_neg h1]
theorem patch_left {c1 c2 cs : List Value} {q : Nat} (h : q + cs.length ≤ c1.length) : patch (c1 ++ c2) q cs = patch c1 q cs ++ c2 := by
  unfold patch
  rw [List.take_append_of_le_length (by omega), List.drop_append_of_le_length h]
  simp
theorem patch_right {c1 c2 cs : List Value} {q : Nat} : patch (c1 ++ c2) (c1.length + q) cs = c1 ++ patch c2 q cs := by
  unfold patch
  rw [List.take_append, List.drop_append, List.take_of_length_le (by omega), List.drop_of_length_le (l := c1) (by omega)]
  have h1 : c1.length + q - c1.length = q := by omega
  have h2 : c1.length + q + cs.length - c1.length = q + cs.length := by omega
  rw [h1, h2]
  simp
theorem RdF.patch {okc : Nat → Prop} {z q : Nat} {cs : List Value} {d' : D} : ∀ {ds : List D} {xs : List Value}, (∀ d ∈ ds, d.wd = z) → RdF okc w ds xs → ∀ j (hj : j < ds.length), q + cs.length ≤ z → (∀ c, c.length = z → Rd okc w ds[j] c → Rd okc w d' (patch c q cs)) →
    RdF okc w (ds.set j d') (Proofs.Ytkefaelmamgjiaa.patch xs (j * z + q) cs)
  | [], _, _, _, j, hj, _, _ => absurd hj (by simp)
  | d :: ds, _, h0, ⟨c1, c2, rfl, h2, h3⟩, j, hj, hq, hd => by
    have hl : c1.length = z := by rw [Rd.length d c1 h2]; exact h0 d (by simp)
    cases j with
    | zero =>
      rw [Nat.zero_mul, Nat.zero_add, patch_left (by omega)]
      exact ⟨_, c2, rfl, hd c1 hl h2, h3⟩
    | succ j =>
      have e : (j + 1) * z + q = c1.length + (j * z + q) := by rw [hl, Nat.add_mul]; omega
      rw [e, patch_right]
      exact ⟨c1, _, rfl, h2, RdF.patch (fun x hx => h0 x (by simp [hx])) h3 j (by simpa using hj) hq hd⟩
/-- Some cells of element 'j' are stored. -/
theorem does_storeRow {t : TypeId} {a x : Operand} {agg : Bool} {size bytes : Nat} {zero v : Value} {i g cap m j q z : Nat} {cs : List Value} {el : TypeId} {ds : List D} {d' : D} {Ψ : World → Prop} (s : St ok W0 C F w) (ho : o.op = .store t a x) (T : TyF P t agg size bytes zero)
    (ha : ev e a = .pointer (some ⟨g, j * z + q, none⟩)) (hx : ev e x = v) (hi : C[i]? = some (.row (.slice (some ⟨g, 0, none⟩) m cap) el z ds)) (hj : j < ds.length) (hv : v.cells = cs.toArray) (hl : cs.length = size) (h1 : ∀ u ∈ cs, u.oneCell' = true) (hq : q + cs.length ≤ z)
    (hd : ∀ c, c.length = z → Rd (okS ok W0.heap.size C) w ds[j] c → Rd (okS ok W0.heap.size C) w d' (patch c q cs)) (hw : d'.wd = z)
    (h : ∀ w', St ok W0 (C.set i (.row (.slice (some ⟨g, 0, none⟩) m cap) el z (ds.set j d'))) F w' → Ψ w') : DoesU P o e w Ψ := by
  obtain ⟨h0, xs, hown, hxs⟩ := s.own _ (List.mem_of_getElem? hi)
  rcases hown.2 with ⟨hcon, _⟩ | ⟨g', cap', cur, fz, hval, hB, hg, hf, hc, hm, hcz, ht⟩
  · cases hcon
  · simp only [Value.slice.injEq, Option.some.injEq, Addr.mk.injEq, and_true] at hval
    obtain ⟨rfl, hmm, rfl⟩ := hval
    have hxl : xs.length = ds.length * z := hown.1
    have hjz : j * z + z ≤ ds.length * z := by
      have : (j + 1) * z ≤ ds.length * z := Nat.mul_le_mul_right _ hj
      rw [Nat.add_mul] at this
      omega
    have hcl : cur.toList.length = cap * z := by simpa using hcz
    have hcapz : ds.length * z ≤ cap * z := Nat.mul_le_mul_right _ hc
    have hst := storeCells_G P g (j * z + q) el fz cs 0 cur w hg hf (by simp at hcl ⊢; omega) h1
    simp only [Nat.add_zero] at hst
    refine ⟨w.setRow g (patch cur.toList (j * z + q) cs).toArray, ?_, h _ ?_⟩
    · unfold RunU execOp
      simp only [ho, ha, hx]
      have hsz : v.cells.size = size := by rw [hv]; simpa using hl
      have h2 : (storeVar t ⟨g, j * z + q, none⟩ v).run P w = .ok () (w.setRow g (patch cur.toList (j * z + q) cs).toArray) := by
        simp only [storeVar, Sem.run_bind, run_sizeOf T, Result.andThen_ok, hsz, ne_eq, not_true_eq_false, if_false]
        rw [hv]
        exact hst
      simp [Instr.storeAt, Instr.sureAddr, h2]
    · have hob : ∀ b, (It.row (.slice (some ⟨g, 0, none⟩) m cap) el z (ds.set j d')).has b → (It.row (.slice (some ⟨g, 0, none⟩) m cap) el z ds).has b ∨ w.heap.size ≤ b := fun _ h => .inl h
      have hoth : ∀ b, b ≠ g → (w.setRow g (patch cur.toList (j * z + q) cs).toArray).heap[b]? = w.heap[b]? := fun b hb => setRow_other w g b _ hb
      refine s.turn hi (by simp [World.setRow]) rfl rfl rfl (fun b hb hne => hoth b (fun e => hne (by simp [It.has, Value.ownBlock, e]))) hob ?_
      have hkp : Keeps (okS ok W0.heap.size C) w (w.setRow g (patch cur.toList (j * z + q) cs).toArray) := ⟨by simp [World.setRow], fun b hb1 hb2 => hoth b (fun e => hb1.2 _ (List.mem_of_getElem? hi) (by simp [It.has, Value.ownBlock, e]))⟩
      refine ⟨fun d hd2 => ?_, patch xs (j * z + q) cs, ⟨?_, .inr ⟨g, cap, _, fz, by rw [List.length_set, ← hmm], hB, setRow_heap w g cur _ el _ hg, ?_, by rw [List.length_set]; exact hc, hm, ?_, ?_⟩⟩, ?_⟩
      · rcases List.mem_or_eq_of_mem_set hd2 with h5 | rfl
        · exact h0 d h5
        · exact hw
      · rw [List.length_set]
        simp only [patch, List.length_append, List.length_take, List.length_drop]
        omega
      · rcases hf with hf | hf
        · exact .inl hf
        · refine .inr (Nat.le_trans (Nat.le_of_eq ?_) hf)
          simp only [patch, List.size_toArray, List.length_append, List.length_take, List.length_drop]
          simp at hcl ⊢
          omega
      · simp only [patch, List.size_toArray, List.length_append, List.length_take, List.length_drop]
        omega
      · rw [List.length_set]
        subst ht
        exact patch_take _ _ _ _ (by omega) (by omega)
      · exact RdF.keep hkp (okS_set hi hob) _ _ (RdF.patch h0 hxs j hj hq hd)

/-! ### Ways that meet behind a region, with a Bool -/
theorem VS_meetB {c : Code} {r : List Code} {Q : Post} (s : St ok W0 C F w) (d : Nat) (b : Bool) (wr : List Nat)
    (h1 : VS P n [c] (thenV (fun e' w' => St ok W0 C F w' ∧ e' d = .bool b ∧ Out wr e e') Q) e w)
    (h2 : ∀ w' j, St ok W0 C F w' → VS P n r Q (upd (mix wr j e) d (.bool b)) w') : VS P n (c :: r) Q e w :=
  VS_join1 wr (fun _ : Unit => [(d, .bool b)]) (fun _ w => St ok W0 C F w)
    (V.mono h1 fun x e2 w2 hx => by
      cases x with
      | normal => exact ⟨(), hx.1, (Has.nil _).cons hx.2.1, hx.2.2⟩
      | exit id => exact hx
      | goto l => exact hx
      | ret => exact hx
      | panic ch => exact hx
      | outgrown => exact hx)
    (fun _ w' j s' => h2 w' j s')
theorem VS_endB {Q : Post} {wr : List Nat} {d : Nat} {b x : Bool} {e0 : Env} (s : St ok W0 C F w) (hv : e d = .bool x) (hx : x = b) (ho : Out wr e0 e) : VS P n [] (thenV (fun e' w' => St ok W0 C F w' ∧ e' d = .bool b ∧ Out wr e0 e') Q) e w :=
  ⟨s, hx ▸ hv, ho⟩
end
end Go.Proofs.Ytkefaelmamgjiaa
