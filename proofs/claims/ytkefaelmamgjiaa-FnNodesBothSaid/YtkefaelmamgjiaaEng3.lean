/- The engine, part 3: operations that turn memory; calls. -/
import Derived.Test.YtkefaelmamgjiaaEng2
set_option linter.unusedVariables false
namespace Go.Proofs.Ytkefaelmamgjiaa
open Go.RowKit

/-- What an operation leads to: a value and a world of which 'Φ' holds. -/
def Does (P : Program) (o : Oper) (e : Env) (w : World) (Φ : Value → World → Prop) : Prop := (∃ v w', RunV P o e w v w' ∧ Φ v w') ∨ RunC P o e w Φ
def DoesU (P : Program) (o : Oper) (e : Env) (w : World) (Φ : World → Prop) : Prop := ∃ w', RunU P o e w w' ∧ Φ w'
/-- The side conditions of an operation, in one. -/
def sideB (n : Nat) (ops : Array Oper) (o : Oper) (d : Nat) : Bool := o.dst == some d && Nat.blt d n && guardB n ops o
section
variable {P : Program} {n : Nat} {e : Env} {w : World} {ops : Array Oper} {K : Env → World → Prop} {rest : List Oper} {o : Oper}
theorem sideB_spec {d : Nat} (h : sideB n ops o d = true) : o.dst = some d ∧ Nat.blt d n = true ∧ guardB n ops o = true := by
  simp only [sideB, Bool.and_eq_true, beq_iff_eq] at h
  exact ⟨h.1.1, h.1.2, h.2⟩
theorem VL_run {d : Nat} {v : Value} (hrun : RunV P o e w v w) (hb : sideB n ops o d = true) (hw : wantedE ops o e = true) (h : VL P n ops rest K (upd e d v) w) : VL P n ops (o :: rest) K e w :=
  let ⟨h1, h2, h3⟩ := sideB_spec hb
  VL_val hrun h1 h2 hw h3 h
theorem VL_does {d : Nat} (h : Does P o e w fun v w' => VL P n ops rest K (upd e d v) w') (hb : sideB n ops o d = true) (hw : wantedE ops o e = true) : VL P n ops (o :: rest) K e w := by
  obtain ⟨h1, h2, h3⟩ := sideB_spec hb
  rcases h with ⟨v, w', hr, hk⟩ | hc
  · exact VL_val hr h1 h2 hw h3 hk
  · exact VL_call hc h1 h2 hw h3 fun v w' hr => hr
theorem VL_doesU (h : DoesU P o e w fun w' => VL P n ops rest K e w') (hd : o.dst = none) (hw : wantedE ops o e = true) (hb : guardB n ops o = true) : VL P n ops (o :: rest) K e w := by
  obtain ⟨w', hr, hk⟩ := h
  exact VL_unit hr hd hw hb hk
variable {k : Nat} {S : World → Prop} {fuel : Nat} {listed : Array Bool}
theorem VO_does {i d : Nat} (ho : ops[i]? = some o) (h : Does P o e w fun v w' => Till k S (listed.setIfInBounds i true) w' ∧ VA P n ops k S K fuel (listed.setIfInBounds i true) (upd e d v) w') (hb : sideB n ops o d = true) (hw : wantedE ops o e = true) : VO P n ops k S K fuel listed e w i := by
  obtain ⟨h1, h2, h3⟩ := sideB_spec hb
  rcases h with ⟨v, w', hr, hk⟩ | hc
  · exact VO_val ho hr h1 h2 hw h3 hk.1 hk.2
  · exact VO_call ho hc h1 h2 hw h3 fun v w' hr => hr
theorem VO_doesU {i : Nat} (ho : ops[i]? = some o) (h : DoesU P o e w fun w' => Till k S (listed.setIfInBounds i true) w' ∧ VA P n ops k S K fuel (listed.setIfInBounds i true) e w') (hd : o.dst = none) (hw : wantedE ops o e = true) (hb : guardB n ops o = true) : VO P n ops k S K fuel listed e w i := by
  obtain ⟨w', hr, hk⟩ := h
  exact VO_unit ho hr hd hw hb hk.1 hk.2
theorem VO_run {i d : Nat} {v : Value} (ho : ops[i]? = some o) (hrun : RunV P o e w v w) (hb : sideB n ops o d = true) (hw : wantedE ops o e = true) (hS : Till k S (listed.setIfInBounds i true) w)
    (h : VA P n ops k S K fuel (listed.setIfInBounds i true) (upd e d v) w) : VO P n ops k S K fuel listed e w i :=
  let ⟨h1, h2, h3⟩ := sideB_spec hb
  VO_val ho hrun h1 h2 hw h3 hS h
/-- One whose guard says no. -/
theorem VO_not {i d : Nat} (ho : ops[i]? = some o) (hb : sideB n ops o d = true) (hw : wantedE ops o e = false) (hS : Till k S (listed.setIfInBounds i true) w)
    (h : VA P n ops k S K fuel (listed.setIfInBounds i true) (upd e d undef) w) : VO P n ops k S K fuel listed e w i := fun a hsz ha => by
  obtain ⟨h1, h2, h3⟩ := sideB_spec hb
  unfold wpOp
  simp only [ho]
  rw [yieldedE ha o (guardB_spec h3), hw, if_neg (by simp), h1]
  exact ⟨hS, h (by simpa using hsz) _ (ha.put (Nat.le_of_ble_eq_true h2) undef)⟩
theorem does_run {v : Value} {Φ : Value → World → Prop} (h : RunV P o e w v w) (hk : Φ v w) : Does P o e w Φ := .inl ⟨v, w, h, hk⟩
theorem does_of {v : Value} {w' : World} {Φ : Value → World → Prop} (h : RunV P o e w v w') (hk : Φ v w') : Does P o e w Φ := .inl ⟨v, w', h, hk⟩

/-! ### Calls -/
def calleeB (P : Program) (f : FuncId) : Bool :=
  match P.funcs[f]? with
  | some fn => !(fn.name == "runtime.NumGoroutine") && fn.body.isSome
  | none => false
theorem run_callFunc' {f : FuncId} (h : calleeB P f = true) (args : Array Value) : (callFunc f args).run P w = .ok (.enter f args) w := by
  unfold calleeB at h
  split at h
  · rename_i fn hf
    simp only [Bool.and_eq_true, Bool.not_eq_true', Option.isSome_iff_exists] at h
    obtain ⟨h1, c, h2⟩ := h
    show (match P.funcs[f]? with
      | none => stuck "call: no such function"
      | some fn => _ : Sem Next).run P w = _
    rw [hf]
    simp only [h1, h2]
    rfl
  · cases h
theorem does_callN {f : FuncId} {args : Array Operand} {ts : Array TypeId} {vals : Array Value} {R Φ : Value → World → Prop} {fv : Operand} (ho : o.op = .call { callee := .value fv, args := args, argTypes := ts }) (hf : ev e fv = .func (.func f) #[] #[]) (hb : calleeB P f = true) (hargs : args.map (ev e) = vals)
    (hc : Calls P f vals w (Ret R)) (h : ∀ v w', R v w' → Φ v w') : Does P o e w Φ := by
  refine .inr ⟨f, vals, ?_, hc.mono fun en w' hr => ?_⟩
  · unfold execOp
    simp only [ho]
    simp [resolve, Deferred.ofValue, hf, invoke, hargs, run_callFunc' hb]
  · cases en <;> first | exact h _ _ hr | exact hr
theorem does_call0 {f : FuncId} {R Φ : Value → World → Prop} (ho : o.op = .call { callee := .value (.func f), args := #[], argTypes := #[] }) (hb : calleeB P f = true)
    (hc : Calls P f #[] w (Ret R)) (h : ∀ v w', R v w' → Φ v w') : Does P o e w Φ := does_callN ho rfl hb (by simp) hc h
theorem does_call1 {f : FuncId} {a : Operand} {ts : Array TypeId} {v1 : Value} {R Φ : Value → World → Prop} (ho : o.op = .call { callee := .value (.func f), args := #[a], argTypes := ts }) (hb : calleeB P f = true) (h1 : ev e a = v1)
    (hc : Calls P f #[v1] w (Ret R)) (h : ∀ v w', R v w' → Φ v w') : Does P o e w Φ := does_callN ho rfl hb (by simp [h1]) hc h
theorem does_call2 {f : FuncId} {a b : Operand} {ts : Array TypeId} {v1 v2 : Value} {R Φ : Value → World → Prop} (ho : o.op = .call { callee := .value (.func f), args := #[a, b], argTypes := ts }) (hb : calleeB P f = true) (h1 : ev e a = v1) (h2 : ev e b = v2)
    (hc : Calls P f #[v1, v2] w (Ret R)) (h : ∀ v w', R v w' → Φ v w') : Does P o e w Φ := does_callN ho rfl hb (by simp [h1, h2]) hc h
theorem does_call3 {f : FuncId} {a b c : Operand} {ts : Array TypeId} {v1 v2 v3 : Value} {R Φ : Value → World → Prop} (ho : o.op = .call { callee := .value (.func f), args := #[a, b, c], argTypes := ts }) (hb : calleeB P f = true) (h1 : ev e a = v1) (h2 : ev e b = v2) (h3 : ev e c = v3)
    (hc : Calls P f #[v1, v2, v3] w (Ret R)) (h : ∀ v w', R v w' → Φ v w') : Does P o e w Φ := does_callN ho rfl hb (by simp [h1, h2, h3]) hc h
theorem does_call4 {f : FuncId} {a b c d : Operand} {ts : Array TypeId} {v1 v2 v3 v4 : Value} {R Φ : Value → World → Prop} (ho : o.op = .call { callee := .value (.func f), args := #[a, b, c, d], argTypes := ts }) (hb : calleeB P f = true) (h1 : ev e a = v1) (h2 : ev e b = v2) (h3 : ev e c = v3) (h4 : ev e d = v4)
    (hc : Calls P f #[v1, v2, v3, v4] w (Ret R)) (h : ∀ v w', R v w' → Φ v w') : Does P o e w Φ := does_callN ho rfl hb (by simp [h1, h2, h3, h4]) hc h

/-! ### New blocks -/
variable {ok : Nat → Prop} {W0 : Start} {C : List It} {F : List Fa} {Φ : Value → World → Prop}
theorem does_box {t : TypeId} {x : Operand} {v : Value} {cs : List Value} (s : St ok W0 C F w) (ho : o.op = .box t x) (hx : ev e x = v) (hv : v.cells = cs.toArray)
    (h : ∀ b w', St ok W0 (.blk b cs t :: C) F w' → Φ (.pointer (some ⟨b, 0, none⟩)) w') : Does P o e w Φ := by
  refine does_of (v := .pointer (some ⟨w.heap.size, 0, none⟩)) (w' := w.alloc (.cells cs.toArray t)) ?_ (h _ _ (s.alloc cs t))
  unfold RunV execOp
  simp only [ho, hx]
  simp [Instr.box, newVar, newRow, hv]
theorem does_alloc {t : TypeId} {agg : Bool} {size bytes : Nat} {zero : Value} {cs : List Value} (s : St ok W0 C F w) (ho : o.op = .alloc t) (T : TyF P t agg size bytes zero) (hv : zero.cells = cs.toArray)
    (h : ∀ b w', St ok W0 (.blk b cs t :: C) F w' → Φ (.pointer (some ⟨b, 0, none⟩)) w') : Does P o e w Φ := by
  refine does_of (v := .pointer (some ⟨w.heap.size, 0, none⟩)) (w' := w.alloc (.cells cs.toArray t)) ?_ (h _ _ (s.alloc cs t))
  unfold RunV execOp
  simp only [ho]
  simp [Instr.alloc, run_zeroValue T, newVar, newRow, hv]

/-! ### Cells of its own -/
def patch (cells : List Value) (o : Nat) (cs : List Value) : List Value := cells.take o ++ cs ++ cells.drop (o + cs.length)
theorem St.cell (s : St ok W0 C F w) {i b : Nat} {cells : List Value} {ty : TypeId} (hi : C[i]? = some (.blk b cells ty)) (j : Nat) : w.cell? ⟨b, j, none⟩ = cells[j]? := by
  have h := s.own _ (List.mem_of_getElem? hi)
  rw [cell_of_row w b j _ ty (0, 0) h]
  simp
theorem St.seg (s : St ok W0 C F w) {i b : Nat} {cells : List Value} {ty : TypeId} (hi : C[i]? = some (.blk b cells ty)) (o : Nat) {cs : List Value} (hc : (cells.drop o).take cs.length = cs) : ∀ j u, cs[j]? = some u → w.cell? ((⟨b, o, none⟩ : Addr).add j) = some u := by
  intro j u hu
  have : (⟨b, o, none⟩ : Addr).add j = ⟨b, o + j, none⟩ := by unfold Addr.add; split <;> simp_all
  rw [this, s.cell hi]
  rw [← hc] at hu
  rw [List.getElem?_take] at hu
  split at hu
  · rw [List.getElem?_drop] at hu; exact hu
  · cases hu
theorem run_load_own1 {t : TypeId} {a : Operand} {bytes : Nat} {zero : Value} {i b j : Nat} {cells : List Value} {ty : TypeId} {v : Value} (s : St ok W0 C F w) (ho : o.op = .load t a) (T : TyF P t false 1 bytes zero) (ha : ev e a = .pointer (some ⟨b, j, none⟩))
    (hi : C[i]? = some (.blk b cells ty)) (hv : cells[j]? = some v) : RunV P o e w v w := run_load1 ho T ha ((s.cell hi j).trans hv)
theorem run_load_ownA {t : TypeId} {a : Operand} {size bytes : Nat} {zero : Value} {i b j : Nat} {cells : List Value} {ty : TypeId} {cs : List Value} (s : St ok W0 C F w) (ho : o.op = .load t a) (T : TyF P t true size bytes zero) (ha : ev e a = .pointer (some ⟨b, j, none⟩))
    (hi : C[i]? = some (.blk b cells ty)) (hl : cs.length = size) (hv : (cells.drop j).take cs.length = cs) : RunV P o e w (.agg cs.toArray) w := run_loadA ho T ha hl (s.seg hi j hv)
theorem res_own1 {a : Tmp} {t : TypeId} {bytes : Nat} {zero : Value} {i b j : Nat} {cells : List Value} {ty : TypeId} {v : Value} (s : St ok W0 C F w) (T : TyF P t false 1 bytes zero) (ha : e a = .pointer (some ⟨b, j, none⟩))
    (hi : C[i]? = some (.blk b cells ty)) (hv : cells[j]? = some v) : ResR P e w (.cell a t) v := res_cell1 T ha ((s.cell hi j).trans hv)
theorem res_ownA {a : Tmp} {t : TypeId} {size bytes : Nat} {zero : Value} {i b j : Nat} {cells : List Value} {ty : TypeId} {cs : List Value} (s : St ok W0 C F w) (T : TyF P t true size bytes zero) (ha : e a = .pointer (some ⟨b, j, none⟩))
    (hi : C[i]? = some (.blk b cells ty)) (hl : cs.length = size) (hv : (cells.drop j).take cs.length = cs) : ResR P e w (.cell a t) (.agg cs.toArray) := res_cellA T ha hl (s.seg hi j hv)
theorem does_store {t : TypeId} {a x : Operand} {agg : Bool} {size bytes : Nat} {zero v : Value} {i b j : Nat} {cells cs : List Value} {ty : TypeId} {Ψ : World → Prop} (s : St ok W0 C F w) (ho : o.op = .store t a x) (T : TyF P t agg size bytes zero) (ha : ev e a = .pointer (some ⟨b, j, none⟩)) (hx : ev e x = v)
    (hi : C[i]? = some (.blk b cells ty)) (hv : v.cells = cs.toArray) (hl : cs.length = size) (h1 : ∀ u ∈ cs, u.oneCell' = true) (hfit0 : Nat.ble (j + cs.length) cells.length = true)
    (h : ∀ w', St ok W0 (C.set i (.blk b (patch cells j cs) ty)) F w' → Ψ w') : DoesU P o e w Ψ := by
  have hfit := Nat.le_of_ble_eq_true hfit0
  have hg := s.own _ (List.mem_of_getElem? hi)
  have hst := run_storeCells_at P b j ty cs 0 cells.toArray w hg (by simpa using hfit) h1
  simp only [Nat.add_zero] at hst
  refine ⟨w.setRow b (patch cells j cs).toArray, ?_, h _ ?_⟩
  · unfold RunU execOp
    simp only [ho, ha, hx]
    have hsz : v.cells.size = size := by rw [hv]; simpa using hl
    have h2 : (storeVar t ⟨b, j, none⟩ v).run P w = .ok () (w.setRow b (patch cells j cs).toArray) := by
      simp only [storeVar, Sem.run_bind, run_sizeOf T, Result.andThen_ok, hsz, ne_eq, not_true_eq_false, if_false]
      rw [hv]
      exact hst
    simp [Instr.storeAt, Instr.sureAddr, h2]
  · refine s.turn hi (by simp [World.setRow]) rfl rfl rfl (fun c hc hne => setRow_other w b c _ (fun e => hne (by simp [It.has, e]))) (fun _ h => .inl h) (setRow_heap w b _ _ ty _ hg)

/-! ### Slices that are made and grow -/
theorem foldl_set : ∀ (cs : List Value) (k off : Nat) (A : Array Value), off + k + cs.length ≤ A.size →
    (cs.zipIdx k).foldl (fun a p => a.setIfInBounds (off + p.2) p.1) A = (A.toList.take (off + k) ++ cs ++ A.toList.drop (off + k + cs.length)).toArray
  | [], k, off, A, _ => by simp
  | c :: cs, k, off, A, h => by
    simp only [List.zipIdx_cons, List.foldl_cons]
    rw [foldl_set cs (k + 1) off _ (by simp at h ⊢; omega)]
    congr 1
    have e := list_seg_step A.toList (off + k) c cs (by simp at h ⊢; omega)
    simpa [Array.toList_setIfInBounds, Nat.add_assoc] using e
theorem fill_one {place : Nat → Option (Nat × Nat)} {i off size : Nat} {v : Value} {cs : List Value} {A : Array Value} {rest : List (Nat × Value)} (hp : place i = some (off, size)) (hv : v.cells = cs.toArray) (hl : cs.length = size) (hfit : off + size ≤ A.size) :
    Instr.fill place A ((i, v) :: rest) = Instr.fill place (patch A.toList off cs).toArray rest := by
  have h1 : v.cells.size = size := by rw [hv]; simpa using hl
  have h2 := foldl_set cs 0 off A (by omega)
  simp only [Instr.fill, hp, h1, ne_eq, not_true_eq_false, decide_false, Bool.false_or, decide_eq_true_eq]
  rw [if_neg (by omega), hv]
  have h3 : (cs.toArray.zipIdx).foldl (fun a p => a.setIfInBounds (off + p.2) p.1) A = (patch A.toList off cs).toArray := by
    rw [← Array.foldl_toList, Array.toList_zipIdx]
    simpa [patch] using h2
  exact congrArg (fun z => Instr.fill place z rest) h3
theorem does_slice0 {t el : TypeId} {agg : Bool} {size bytes : Nat} {zero : Value} (s : St ok W0 C F w) (ho : o.op = .buildSlice t 0 #[]) (hu : P.underlying t = some (.slice el)) (T : TyF P el agg size bytes zero)
    (h : ∀ g w', St ok W0 (.row (.slice (some ⟨g, 0, none⟩) 0 0) el size [] :: C) F w' → Φ (.slice (some ⟨g, 0, none⟩) 0 0) w') : Does P o e w Φ := by
  refine does_of (v := .slice (some ⟨w.heap.size, 0, none⟩) 0 0) (w' := w.alloc (.cells #[] el)) ?_ (h _ _ ?_)
  · unfold RunV execOp
    simp only [ho]
    have hr : Array.range 0 = #[] := Array.eq_empty_of_size_eq_zero (by simp)
    simp [Instr.buildSlice, run_underlying hu, run_sizeOf T, Instr.fill, newRow, hr]
  · refine s.more ((Below.refl _ _).alloc (Nat.le_refl _) _) ⟨fun d hd => (by cases hd), [], ?_, rfl⟩ (fun b hb => by simp [It.has, Value.ownBlock] at hb; omega)
    exact ownG_of (World.ownsRow_lit w #[] 0 (Nat.zero_le _) (by simp [maxLen]) (by simp))
/-- A slice of some elements, filled one behind the other. -/
theorem does_sliceN {t el : TypeId} {m : Nat} {agg : Bool} {size bytes : Nat} {zero : Value} {parts : Array (Nat × Operand)} {cs : List Value} {ds : List D} (s : St ok W0 C F w) (ho : o.op = .buildSlice t m parts) (hu : P.underlying t = some (.slice el)) (T : TyF P el agg size bytes zero) (hz : 0 < size)
    (hm : m * size ≤ 16777216) (hfill : ∀ A : Array Value, A.size = m * size → Instr.fill (fun i => some (i * size, size)) A (parts.toList.map fun p => (p.1, ev e p.2)) = some cs.toArray)
    (hd : RdF (okS ok W0.heap.size C) w ds cs) (hw : ∀ d ∈ ds, d.wd = size) (hn : ds.length = m) (h : ∀ g w', St ok W0 (.row (.slice (some ⟨g, 0, none⟩) m m) el size ds :: C) F w' → Φ (.slice (some ⟨g, 0, none⟩) m m) w') : Does P o e w Φ := by
  have hl : cs.length = m * size := by
    rw [RdF.len ds cs hd, ← hn]
    clear hd hn h hfill
    induction ds with
    | nil => simp [D.wds]
    | cons d ds ih =>
      rw [D.wds, ih (fun x hx => hw x (by simp [hx])), hw d (by simp), List.length_cons, Nat.add_mul]
      omega
  have hb : Below w.heap.size w (w.alloc (.cells cs.toArray el)) := (Below.refl _ _).alloc (Nat.le_refl _) _
  refine does_of (v := .slice (some ⟨w.heap.size, 0, none⟩) m m) (w' := w.alloc (.cells cs.toArray el)) ?_ (h _ _ ?_)
  · unfold RunV execOp
    simp only [ho]
    have hbuild : (Instr.buildSlice t m (parts.map fun (i, x) => (i, ev e x))).run P w = .ok (.slice (some ⟨w.heap.size, 0, none⟩) m m) (w.alloc (.cells cs.toArray el)) := by
      have hlist : (parts.map fun (x : Nat × Operand) => (x.1, ev e x.2)).toList = parts.toList.map fun p => (p.1, ev e p.2) := by simp
      have hzero : zero.cells.size = size := T.zsz
      unfold Instr.buildSlice
      simp only [Sem.run_bind, run_underlying hu, Result.andThen_ok, run_sizeOf T]
      rw [if_neg (by omega)]
      by_cases h0 : m * size = 0
      · have := hfill ((Array.range (m * size)).map fun i => (#[] : Array Value)[i % (#[] : Array Value).size]!) (by simp)
        simp only [h0, if_true, Sem.run_bind, Sem.run_pure, Result.andThen_ok]
        rw [hlist]
        rw [h0] at this
        rw [this]
        simp [newRow]
      · have := hfill ((Array.range (m * size)).map fun i => zero.cells[i % zero.cells.size]!) (by simp)
        simp only [h0, if_false, Sem.run_bind, Sem.run_pure, Result.andThen_ok, run_zeroValue T]
        rw [hlist, this]
        simp [newRow]
    rw [Sem.run_bind, hbuild]
    rfl
  · refine s.more hb ⟨hw, cs, ?_, RdF.keep (Keeps.below hb _) (fun b hlt hok => ⟨hok.1, fun y hy => ?_⟩) ds cs hd⟩ (fun b hb => by simp [It.has, Value.ownBlock] at hb; omega)
    · have := ownG_of <| World.ownsRow_lit w cs.toArray m (e := el) (size := size) (base := 0) (Nat.zero_le _) (by
        have : m ≤ m * size := Nat.le_mul_of_pos_right _ hz
        simp only [maxLen]; omega) (by simpa using hl)
      rw [hn]
      simpa using this
    · rcases List.mem_cons.1 hy with rfl | hy
      · simp [It.has, Value.ownBlock]; omega
      · exact hok.2 y hy
/-- A slice of one element. -/
theorem does_slice1 {t el : TypeId} {agg : Bool} {size bytes : Nat} {zero v : Value} {x : Operand} {cs : List Value} {d : D} (s : St ok W0 C F w) (ho : o.op = .buildSlice t 1 #[(0, x)]) (hu : P.underlying t = some (.slice el)) (T : TyF P el agg size bytes zero) (hz : 0 < size) (hz' : size ≤ 16777216)
    (hx : ev e x = v) (hv : v.cells = cs.toArray) (hd : Rd (okS ok W0.heap.size C) w d cs) (hw : d.wd = size) (h : ∀ g w', St ok W0 (.row (.slice (some ⟨g, 0, none⟩) 1 1) el size [d] :: C) F w' → Φ (.slice (some ⟨g, 0, none⟩) 1 1) w') : Does P o e w Φ := by
  have hl : cs.length = size := by rw [Rd.length d cs hd, hw]
  refine does_sliceN (cs := cs) s ho hu T hz (by omega) (fun A hA => ?_) (RdF.one hd) (fun y hy => by simp at hy; subst hy; exact hw) rfl h
  simp only [List.map_cons, List.map_nil, hx]
  rw [fill_one (off := 0) (by simp) hv hl (by omega)]
  simp only [Instr.fill, patch]
  have : A.toList.drop (0 + cs.length) = [] := List.drop_of_length_le (by simp; omega)
  rw [this]
  simp
end
end Go.Proofs.Ytkefaelmamgjiaa
