/- The engine, part 2: what each operation does. -/
import Derived.Test.YtkefaelmamgjiaaEng1
set_option linter.unusedVariables false
namespace Go.Proofs.Ytkefaelmamgjiaa
open Go.RowKit

/-! ### Types -/
def aggOf (P : Program) (t : TypeId) : Option Bool := (P.underlying t).map fun | .struct _ => true | .array _ _ => true | _ => false
structure TyF (P : Program) (t : TypeId) (agg : Bool) (size bytes : Nat) (zero : Value) : Prop where
  und : aggOf P t = some agg
  info : (P.info? t).map (fun i => (i.size, i.bytes, i.zero)) = some (size, bytes, some zero)
  zsz : zero.cells.size = size
section
variable {P : Program} {w : World}
theorem TyF.get {t : TypeId} {agg : Bool} {size bytes : Nat} {zero : Value} (T : TyF P t agg size bytes zero) : ∃ i, P.info? t = some i ∧ i.size = size ∧ i.bytes = bytes ∧ i.zero = some zero := by
  obtain ⟨i, hi, h⟩ := Option.map_eq_some_iff.1 T.info
  simp only [Prod.mk.injEq] at h
  exact ⟨i, hi, h.1, h.2.1, h.2.2⟩
theorem run_isAgg {t : TypeId} {b : Bool} (h : aggOf P t = some b) : (isAgg t).run P w = .ok b w := by
  unfold aggOf at h
  obtain ⟨d, hd, h2⟩ := Option.map_eq_some_iff.1 h
  simp only [isAgg, Sem.run_bind, run_underlying hd, Result.andThen_ok]
  subst h2
  cases d <;> rfl
theorem run_sizeOf {t : TypeId} {agg : Bool} {size bytes : Nat} {zero : Value} (T : TyF P t agg size bytes zero) : (sizeOf t).run P w = .ok size w := by
  obtain ⟨i, hi, h1, h2, h3⟩ := T.get
  simp [sizeOf, typeInfo, hi, h1]
theorem run_zeroValue {t : TypeId} {agg : Bool} {size bytes : Nat} {zero : Value} (T : TyF P t agg size bytes zero) : (zeroValue t).run P w = .ok zero w := by
  obtain ⟨i, hi, h1, h2, h3⟩ := T.get
  simp [zeroValue, typeInfo, hi, h3]
theorem run_loadVar1 {t : TypeId} {bytes : Nat} {zero : Value} (T : TyF P t false 1 bytes zero) {ad : Addr} {v : Value} (h : w.cell? ad = some v) : (loadVar t ad).run P w = .ok v w := by
  simp [loadVar, run_isAgg T.und, load, Sem.run, h]
theorem run_loadVarA {t : TypeId} {size bytes : Nat} {zero : Value} (T : TyF P t true size bytes zero) {ad : Addr} {cs : List Value} (hl : cs.length = size) (h : ∀ j u, cs[j]? = some u → w.cell? (ad.add j) = some u) :
    (loadVar t ad).run P w = .ok (.agg cs.toArray) w := by
  have h1 := run_loadCells_list (P := P) w ad cs h
  subst hl
  simp [loadVar, run_isAgg T.und, run_sizeOf T, h1]

theorem res_cell1 {e : Env} {a : Tmp} {t : TypeId} {bytes : Nat} {zero : Value} {ad : Addr} {v : Value} (T : TyF P t false 1 bytes zero) (ha : e a = .pointer (some ad)) (h : w.cell? ad = some v) : ResR P e w (.cell a t) v := ⟨ad, ha, run_loadVar1 T h⟩
theorem res_cellA {e : Env} {a : Tmp} {t : TypeId} {size bytes : Nat} {zero : Value} {ad : Addr} {cs : List Value} (T : TyF P t true size bytes zero) (ha : e a = .pointer (some ad)) (hl : cs.length = size) (h : ∀ j u, cs[j]? = some u → w.cell? (ad.add j) = some u) : ResR P e w (.cell a t) (.agg cs.toArray) := ⟨ad, ha, run_loadVarA T hl h⟩

/-! ### Operations that only look -/
variable {o : Oper} {e : Env}
theorem run_move {x : Operand} {v : Value} (ho : o.op = .move x) (h : ev e x = v) : RunV P o e w v w := by
  unfold RunV execOp
  simp only [ho]
  subst h
  rfl
theorem run_assign {x : Operand} {v : Value} (ho : o.op = .assign x) (h : ev e x = v) : RunV P o e w v w := by
  unfold RunV execOp
  simp only [ho]
  subst h
  rfl
theorem run_pick {c a b : Operand} {p q r : Bool} (ho : o.op = .pick c a b) (hc : ev e c = .bool p) (ha : p = true → ev e a = .bool q) (hb : p = false → ev e b = .bool r) : RunV P o e w (.bool (bif p then q else r)) w := by
  unfold RunV execOp
  simp only [ho, hc]
  cases p with
  | true => simp [asBool, ha rfl]
  | false => simp [asBool, hb rfl]
theorem run_pickT {c a b : Operand} {q : Bool} (ho : o.op = .pick c a b) (hc : ev e c = .bool true) (ha : ev e a = .bool q) : RunV P o e w (.bool q) w := run_pick (p := true) (r := false) ho hc (fun _ => ha) (fun h => nomatch h)
theorem run_pickF {c a b : Operand} {r : Bool} (ho : o.op = .pick c a b) (hc : ev e c = .bool false) (hb : ev e b = .bool r) : RunV P o e w (.bool r) w := run_pick (p := false) (q := false) ho hc (fun h => nomatch h) (fun _ => hb)
theorem run_load1 {t : TypeId} {a : Operand} {bytes : Nat} {zero : Value} {ad : Addr} {v : Value} (ho : o.op = .load t a) (T : TyF P t false 1 bytes zero) (ha : ev e a = .pointer (some ad)) (h : w.cell? ad = some v) : RunV P o e w v w := by
  unfold RunV execOp
  simp only [ho, ha]
  simp [Instr.loadAt, Instr.sureAddr, run_loadVar1 T h]
theorem run_loadA {t : TypeId} {a : Operand} {size bytes : Nat} {zero : Value} {ad : Addr} {cs : List Value} (ho : o.op = .load t a) (T : TyF P t true size bytes zero) (ha : ev e a = .pointer (some ad)) (hl : cs.length = size)
    (h : ∀ j u, cs[j]? = some u → w.cell? (ad.add j) = some u) : RunV P o e w (.agg cs.toArray) w := by
  unfold RunV execOp
  simp only [ho, ha]
  simp [Instr.loadAt, Instr.sureAddr, run_loadVarA T hl h]
theorem run_nilCheck {x : Operand} {ad : Addr} (ho : o.op = .nilCheck x) (hx : ev e x = .pointer (some ad)) : RunV P o e w (.pointer (some ad)) w := by
  unfold RunV execOp
  simp only [ho, hx]
  rfl
/-- Where a field lies, if it has cells. -/
def fieldOff (P : Program) (s : TypeId) (f : Nat) : Option Nat :=
  match P.underlying s with
  | some (.struct fs) => match fs[f]? with
    | some x => match P.info? x.type with
      | some i => bif Nat.beq i.size 0 then none else some x.offset
      | none => none
    | none => none
  | _ => none
theorem run_fieldAddr {s : TypeId} {x : Operand} {f k : Nat} {ad : Addr} (ho : o.op = .fieldAddr s x f) (hf : fieldOff P s f = some k) (hx : ev e x = .pointer (some ad)) : RunV P o e w (.pointer (some (ad.add k))) w := by
  unfold RunV execOp
  simp only [ho, hx]
  unfold fieldOff at hf
  split at hf
  · rename_i fs hs
    split at hf
    · rename_i y hy
      split at hf
      · rename_i i hi
        cases hb : Nat.beq i.size 0 with
        | true => rw [hb] at hf; cases hf
        | false =>
          rw [hb] at hf
          simp only [cond_false, Option.some.injEq] at hf
          subst hf
          have hne : i.size ≠ 0 := fun h => by rw [h] at hb; cases hb
          simp [Instr.fieldAt, run_underlying hs, hy, Instr.sureAddr, fieldPlace, sizeOf, typeInfo, hi, hne]
      · cases hf
    · cases hf
  · cases hf
theorem run_indexAddr {t el : TypeId} {x i : Operand} {agg : Bool} {size bytes : Nat} {zero : Value} {ad : Addr} {n c : Nat} {k : IntKind} {m : Int} (ho : o.op = .indexAddr t x i) (hu : P.underlying t = some (.slice el)) (T : TyF P el agg size bytes zero)
    (hx : ev e x = .slice (some ad) n c) (hi : ev e i = .int k m) (h0 : 0 ≤ m) (h1 : m < n) : RunV P o e w (.pointer (some (ad.add (m.toNat * size)))) w := by
  unfold RunV execOp
  simp only [ho, hx, hi]
  have he : P.elem t = el := by simp [Program.elem, hu]
  have hu' : P.underlying t = some (.slice (P.elem t)) := by rw [he]; exact hu
  rw [Sem.run_bind, run_indexAt_slice w t ad n c k m hu', if_pos ⟨h0, h1⟩, he, run_sizeOf T]
  rfl
theorem run_indexAddrN {q : Nat} {t el : TypeId} {x i : Operand} {agg : Bool} {size bytes : Nat} {zero : Value} {ad : Addr} {n c : Nat} {k : IntKind} {m : Int} (ho : o.op = .indexAddr t x i) (hu : P.underlying t = some (.slice el)) (T : TyF P el agg size bytes zero)
    (hx : ev e x = .slice (some ad) n c) (hi : ev e i = .int k m) (h0 : m = q) (h1 : q < n) : RunV P o e w (.pointer (some (ad.add (q * size)))) w := by
  subst h0
  exact run_indexAddr ho hu T hx hi (by omega) (by omega)
theorem run_indexStr {t : TypeId} {x i : Operand} {s : ByteArray} {k : IntKind} {m : Int} {b : UInt8} (ho : o.op = .index t x i) (hu : P.underlying t = some .string) (hx : ev e x = .string s) (hi : ev e i = .int k m) (h0 : 0 ≤ m) (hb : s[m.toNat]? = some b) :
    RunV P o e w (.int .u8 b.toNat) w := by
  unfold RunV execOp
  simp only [ho, hx, hi]
  simp [Instr.index, asIntOf, run_underlying hu, h0, hb]
theorem run_lenSlice {t : TypeId} {x : Operand} {A : Option Addr} {n c : Nat} (ho : o.op = .call { callee := .builtin .len, args := #[x], argTypes := #[t] }) (hu : (∃ el, P.underlying t = some (.slice el))) (hx : ev e x = .slice A n c) : RunV P o e w (.int .i64 n) w := by
  obtain ⟨el, hu⟩ := hu
  unfold RunV execOp
  simp only [ho]
  simp [resolve, invoke, builtin, hx, Builtin.len_, run_underlying hu, goInt]
theorem run_capSlice {t : TypeId} {x : Operand} {A : Option Addr} {n c : Nat} (ho : o.op = .call { callee := .builtin .cap, args := #[x], argTypes := #[t] }) (hu : (∃ el, P.underlying t = some (.slice el))) (hx : ev e x = .slice A n c) : RunV P o e w (.int .i64 c) w := by
  obtain ⟨el, hu⟩ := hu
  unfold RunV execOp
  simp only [ho]
  simp [resolve, invoke, builtin, hx, Builtin.cap_, run_underlying hu, goInt]
theorem run_lenStr {t : TypeId} {x : Operand} {s : ByteArray} (ho : o.op = .call { callee := .builtin .len, args := #[x], argTypes := #[t] }) (hu : P.underlying t = some .string) (hx : ev e x = .string s) : RunV P o e w (.int .i64 s.size) w := by
  unfold RunV execOp
  simp only [ho]
  simp [resolve, invoke, builtin, hx, Builtin.len_, run_underlying hu, goInt]
theorem run_extract {x : Operand} {i : Nat} {vs : Array Value} {v : Value} (ho : o.op = .extract x i) (hx : ev e x = .tuple vs) (hv : vs[i]? = some v) : RunV P o e w v w := by
  unfold RunV execOp
  simp only [ho, hx]
  simp [Instr.extract, hv]
theorem run_not {t : TypeId} {x : Operand} {b : Bool} (ho : o.op = .unOp .not t x) (hx : ev e x = .bool b) : RunV P o e w (.bool (!b)) w := by
  unfold RunV execOp
  simp only [ho, hx]
  simp [Op.unary]
theorem run_neg {t : TypeId} {x : Operand} {m : Int} (ho : o.op = .unOp .neg t x) (hx : ev e x = .int .i64 m) (h0 : -9223372036854775807 ≤ m) (h1 : m ≤ 9223372036854775807) : RunV P o e w (.int .i64 (-m)) w := by
  unfold RunV execOp
  simp only [ho, hx]
  have : IntKind.i64.wrap (-m) = -m := IntWalk.i64_in _ (by omega)
  simp [Op.unary, Op.intArith, this]
/-- Two operands, told apart by what the operation itself says. -/
theorem run_bin {op : BinOp} {t t' : TypeId} {x y : Operand} {a b v : Value} (ho : o.op = .binOp op t x y t') (hx : ev e x = a) (hy : ev e y = b) (hg : eqGuard op t x y a b = pure ()) (hv : (binOp op t a b).run P w = .ok v w) : RunV P o e w v w := by
  unfold RunV execOp
  simp only [ho, hx, hy, hg]
  simp [hv]
variable {t t' : TypeId} {x y : Operand} {k : IntKind} {m q : Int} {s r : ByteArray} {b c : Bool}
theorem run_add (ho : o.op = .binOp .add t x y t') (hx : ev e x = .int .i64 m) (hy : ev e y = .int .i64 q) (h : -9223372036854775808 ≤ m + q ∧ m + q ≤ 9223372036854775807) : RunV P o e w (.int .i64 (m + q)) w :=
  run_bin ho hx hy rfl (by simp [binOp, Op.intArith, IntWalk.i64_in _ h])
theorem run_sub (ho : o.op = .binOp .sub t x y t') (hx : ev e x = .int .i64 m) (hy : ev e y = .int .i64 q) (h : -9223372036854775808 ≤ m - q ∧ m - q ≤ 9223372036854775807) : RunV P o e w (.int .i64 (m - q)) w :=
  run_bin ho hx hy rfl (by simp [binOp, Op.intArith, IntWalk.i64_in _ h])
theorem run_mul (ho : o.op = .binOp .mul t x y t') (hx : ev e x = .int .i64 m) (hy : ev e y = .int .i64 q) (h : -9223372036854775808 ≤ m * q ∧ m * q ≤ 9223372036854775807) : RunV P o e w (.int .i64 (m * q)) w :=
  run_bin ho hx hy rfl (by simp [binOp, Op.intArith, IntWalk.i64_in _ h])
theorem run_quo (ho : o.op = .binOp .quo t x y t') (hx : ev e x = .int .i64 m) (hy : ev e y = .int .i64 q) (h0 : 0 ≤ m) (h1 : m ≤ 9223372036854775807) (h2 : 1 ≤ q) : RunV P o e w (.int .i64 (m / q)) w :=
  run_bin ho hx hy rfl (by
    have hq : ¬ q = 0 := by omega
    simp [binOp, Op.intDiv, hq, IntWalk.i64_quo m q ⟨h0, h1, h2⟩])
theorem run_rem (ho : o.op = .binOp .rem t x y t') (hx : ev e x = .int k m) (hy : ev e y = .int k q) (h0 : 0 ≤ m) (h2 : 1 ≤ q) : RunV P o e w (.int k (m % q)) w :=
  run_bin ho hx hy rfl (by
    have hq : ¬ q = 0 := by omega
    simp [binOp, Op.intDiv, hq, IntWalk.rem_in m q h0])
theorem run_quo8 (ho : o.op = .binOp .quo t x y t') (hx : ev e x = .int .u8 m) (hy : ev e y = .int .u8 q) (h0 : 0 ≤ m) (h1 : m ≤ 255) (h2 : 1 ≤ q) : RunV P o e w (.int .u8 (m / q)) w :=
  run_bin ho hx hy rfl (by
    have hq : ¬ q = 0 := by omega
    simp [binOp, Op.intDiv, hq, IntWalk.u8_quo m q ⟨h0, h1, h2⟩])
theorem run_addu8 (ho : o.op = .binOp .add t x y t') (hx : ev e x = .int .u8 m) (hy : ev e y = .int .u8 q) (h : 0 ≤ m + q ∧ m + q ≤ 255) : RunV P o e w (.int .u8 (m + q)) w :=
  run_bin ho hx hy rfl (by simp [binOp, Op.intArith, IntWalk.u8_in _ h])
theorem run_subu8 (ho : o.op = .binOp .sub t x y t') (hx : ev e x = .int .u8 m) (hy : ev e y = .int .u8 q) (h : 0 ≤ m - q ∧ m - q ≤ 255) : RunV P o e w (.int .u8 (m - q)) w :=
  run_bin ho hx hy rfl (by simp [binOp, Op.intArith, IntWalk.u8_in _ h])
theorem run_eqI (ho : o.op = .binOp .eql t x y t') (hx : ev e x = .int k m) (hy : ev e y = .int k q) : RunV P o e w (.bool (decide (m = q))) w :=
  run_bin ho hx hy rfl (by simp [binOp, Op.intCmp]; exact Bool.beq_eq_decide_eq m q)
theorem run_neI (ho : o.op = .binOp .neq t x y t') (hx : ev e x = .int k m) (hy : ev e y = .int k q) : RunV P o e w (.bool (decide (m ≠ q))) w :=
  run_bin ho hx hy rfl (by simp [binOp, Op.intCmp]; by_cases h : m = q <;> simp [h])
theorem run_ltI (ho : o.op = .binOp .lss t x y t') (hx : ev e x = .int k m) (hy : ev e y = .int k q) : RunV P o e w (.bool (decide (m < q))) w :=
  run_bin ho hx hy rfl (by simp [binOp, Op.intCmp])
theorem run_leI (ho : o.op = .binOp .leq t x y t') (hx : ev e x = .int k m) (hy : ev e y = .int k q) : RunV P o e w (.bool (decide (m ≤ q))) w :=
  run_bin ho hx hy rfl (by simp [binOp, Op.intCmp])
theorem run_gtI (ho : o.op = .binOp .gtr t x y t') (hx : ev e x = .int k m) (hy : ev e y = .int k q) : RunV P o e w (.bool (decide (q < m))) w :=
  run_bin ho hx hy rfl (by simp [binOp, Op.intCmp])
theorem run_geI (ho : o.op = .binOp .geq t x y t') (hx : ev e x = .int k m) (hy : ev e y = .int k q) : RunV P o e w (.bool (decide (q ≤ m))) w :=
  run_bin ho hx hy rfl (by simp [binOp, Op.intCmp])
/-- Texts in Go's order. -/
def bl (s r : ByteArray) : Bool := Op.bytesLess s.toList r.toList
theorem beq_dec (s r : ByteArray) : (s.toList == r.toList) = decide (s = r) := by
  rw [ByteArray.toList_eq, ByteArray.toList_eq]
  by_cases h : s = r
  · subst h; simp
  · have : ¬ s.data = r.data := fun h2 => h (by cases s; cases r; simp_all)
    simp [h, this]
theorem run_eqS (ho : o.op = .binOp .eql t x y t') (hx : ev e x = .string s) (hy : ev e y = .string r) : RunV P o e w (.bool (decide (s = r))) w :=
  run_bin ho hx hy rfl (by simp [binOp, Op.stringOp, beq_dec])
theorem run_neS (ho : o.op = .binOp .neq t x y t') (hx : ev e x = .string s) (hy : ev e y = .string r) : RunV P o e w (.bool (decide (s ≠ r))) w :=
  run_bin ho hx hy rfl (by simp [binOp, Op.stringOp, beq_dec])
theorem run_ltS (ho : o.op = .binOp .lss t x y t') (hx : ev e x = .string s) (hy : ev e y = .string r) : RunV P o e w (.bool (bl s r)) w :=
  run_bin ho hx hy rfl (by simp [binOp, Op.stringOp, bl])
theorem run_leS (ho : o.op = .binOp .leq t x y t') (hx : ev e x = .string s) (hy : ev e y = .string r) : RunV P o e w (.bool (bl s r || decide (s = r))) w :=
  run_bin ho hx hy rfl (by simp [binOp, Op.stringOp, bl, beq_dec])
theorem run_gtS (ho : o.op = .binOp .gtr t x y t') (hx : ev e x = .string s) (hy : ev e y = .string r) : RunV P o e w (.bool (!(bl s r || decide (s = r)))) w :=
  run_bin ho hx hy rfl (by simp [binOp, Op.stringOp, bl, beq_dec])
theorem run_geS (ho : o.op = .binOp .geq t x y t') (hx : ev e x = .string s) (hy : ev e y = .string r) : RunV P o e w (.bool (!bl s r)) w :=
  run_bin ho hx hy rfl (by simp [binOp, Op.stringOp, bl])
theorem run_addS (ho : o.op = .binOp .add t x y t') (hx : ev e x = .string s) (hy : ev e y = .string r) (h : s.size + r.size ≤ 9223372036854775807) : RunV P o e w (.string (s ++ r)) w :=
  run_bin ho hx hy rfl (by simp [binOp, run_string_add_sum w s r h])
theorem equalIn_bool (d : Nat) (hu : P.underlying t = some .bool) : (Op.equalIn (d + 1) t (.bool b) (.bool c)).run P w = .ok (b == c) w := by simp [Op.equalIn, run_underlying hu]
theorem equalIn_nil (d : Nat) {el : TypeId} {A : Option Addr} (hu : P.underlying t = some (.pointer el)) : (Op.equalIn (d + 1) t (.pointer A) (.pointer none)).run P w = .ok A.isNone w := by cases A <;> simp [Op.equalIn, run_underlying hu]
theorem run_eqB (ho : o.op = .binOp .eql t x y t') (hu : P.underlying t = some .bool) (hx : ev e x = .bool b) (hy : ev e y = .bool c) : RunV P o e w (.bool (b == c)) w :=
  run_bin ho hx hy rfl (by
    have h := equalIn_bool (w := w) (b := b) (c := c) 9999 hu
    show (do pure (Value.bool (← Op.equalIn (9999 + 1) t (.bool b) (.bool c))) : Sem Value).run P w = _
    rw [Sem.run_bind, h]; rfl)
theorem run_neB (ho : o.op = .binOp .neq t x y t') (hu : P.underlying t = some .bool) (hx : ev e x = .bool b) (hy : ev e y = .bool c) : RunV P o e w (.bool (b != c)) w :=
  run_bin ho hx hy rfl (by
    have h := equalIn_bool (w := w) (b := b) (c := c) 9999 hu
    show (do pure (Value.bool (!(← Op.equalIn (9999 + 1) t (.bool b) (.bool c)))) : Sem Value).run P w = _
    rw [Sem.run_bind, h]; rfl)
theorem run_eqNil {el : TypeId} {A : Option Addr} (ho : o.op = .binOp .eql t x y t') (hu : P.underlying t = some (.pointer el)) (hx : ev e x = .pointer A) (hy : ev e y = .pointer none) : RunV P o e w (.bool A.isNone) w :=
  run_bin ho hx hy rfl (by
    have h := equalIn_nil (w := w) (A := A) 9999 hu
    show (do pure (Value.bool (← Op.equalIn (9999 + 1) t (.pointer A) (.pointer none))) : Sem Value).run P w = _
    rw [Sem.run_bind, h]; rfl)
theorem run_neNil {el : TypeId} {A : Option Addr} (ho : o.op = .binOp .neq t x y t') (hu : P.underlying t = some (.pointer el)) (hx : ev e x = .pointer A) (hy : ev e y = .pointer none) : RunV P o e w (.bool A.isSome) w :=
  run_bin ho hx hy rfl (by
    have h := equalIn_nil (w := w) (A := A) 9999 hu
    show (do pure (Value.bool (!(← Op.equalIn (9999 + 1) t (.pointer A) (.pointer none)))) : Sem Value).run P w = _
    rw [Sem.run_bind, h]; cases A <;> rfl)
theorem run_convI {src dst : TypeId} {k' : IntKind} (ho : o.op = .convert src dst x) (hs : (P.underlying src).isSome = true) (hd : P.underlying dst = some (.int k')) (hx : ev e x = .int k m) (hw : k'.wrap m = m) : RunV P o e w (.int k' m) w := by
  unfold RunV execOp
  simp only [ho, hx]
  obtain ⟨d, hd'⟩ := Option.isSome_iff_exists.mp hs
  simp [convert, run_underlying hd', run_underlying hd, Conv.intToInt, hw]
/-- A part of a text: 's[lo:hi]'. -/
theorem run_sliceStr {lo hi : Option Operand} {l h : Nat} (ho : o.op = .slice t x lo hi none) (hu : P.underlying t = some .string) (hx : ev e x = .string s)
    (hl : (match lo with | none => l = 0 | some a => ∃ k, ev e a = .int k (l : Int))) (hh : (match hi with | none => h = s.size | some a => ∃ k, ev e a = .int k (h : Int))) (h1 : l ≤ h) (h2 : h ≤ s.size) : RunV P o e w (.string (s.extract l h)) w := by
  unfold RunV execOp
  simp only [ho, hx]
  cases lo with
  | none =>
    cases hi with
    | none => simp only at hl hh; subst hl hh; simp [Instr.sliceAt, Instr.slice, run_underlying hu, Instr.sliceBounds]
    | some q =>
      simp only at hl hh
      subst hl
      obtain ⟨k, hk⟩ := hh
      have : (h : Int) ≤ s.size := by omega
      simp [Instr.sliceAt, Instr.slice, run_underlying hu, Instr.sliceBounds, hk, Instr.sliceBound, asIntOf, h2]
  | some p =>
    cases hi with
    | none =>
      simp only at hl hh
      subst hh
      obtain ⟨k, hk⟩ := hl
      simp [Instr.sliceAt, Instr.slice, run_underlying hu, Instr.sliceBounds, hk, Instr.sliceBound, asIntOf, h1]
    | some q =>
      obtain ⟨k, hk⟩ := hl
      obtain ⟨k', hk'⟩ := hh
      simp [Instr.sliceAt, Instr.slice, run_underlying hu, Instr.sliceBounds, hk, hk', Instr.sliceBound, asIntOf, h1, h2]
/-- A part of a slice: 's[lo:hi]', within its length or its capacity. -/
theorem run_sliceSl {el : TypeId} {agg : Bool} {size bytes : Nat} {zero : Value} {A : Option Addr} {n c : Nat} {lo hi : Option Operand} {l h : Nat} (ho : o.op = .slice t x lo hi none) (hu : P.underlying t = some (.slice el)) (T : TyF P el agg size bytes zero) (hx : ev e x = .slice A n c)
    (hl : (match lo with | none => l = 0 | some a => ∃ k, ev e a = .int k (l : Int))) (hh : (match hi with | none => h = n | some a => ∃ k, ev e a = .int k (h : Int))) (h1 : l ≤ h) (h2 : h ≤ c) :
    RunV P o e w (.slice (if c = l then A else A.map (·.add (l * size))) (h - l) (c - l)) w := by
  unfold RunV execOp
  simp only [ho, hx]
  cases lo with
  | none =>
    cases hi with
    | none => simp only at hl hh; subst hl hh; simp [Instr.sliceAt, Instr.slice, run_underlying hu, Instr.sliceBounds, run_sizeOf T]
    | some q =>
      simp only at hl hh
      subst hl
      obtain ⟨k, hk⟩ := hh
      simp [Instr.sliceAt, Instr.slice, run_underlying hu, Instr.sliceBounds, hk, Instr.sliceBound, asIntOf, h2, run_sizeOf T]
  | some p =>
    cases hi with
    | none =>
      simp only at hl hh
      subst hh
      obtain ⟨k, hk⟩ := hl
      simp [Instr.sliceAt, Instr.slice, run_underlying hu, Instr.sliceBounds, hk, Instr.sliceBound, asIntOf, h1, run_sizeOf T]
    | some q =>
      obtain ⟨k, hk⟩ := hl
      obtain ⟨k', hk'⟩ := hh
      simp [Instr.sliceAt, Instr.slice, run_underlying hu, Instr.sliceBounds, hk, hk', Instr.sliceBound, asIntOf, h1, h2, run_sizeOf T]
/-! The same, bound by bound. -/
section
variable {a b : Operand} {k1 k2 : IntKind} {p1 p2 : Int} {l h : Nat}
theorem run_sliceStrB (ho : o.op = .slice t x (some a) (some b) none) (hu : P.underlying t = some .string) (hx : ev e x = .string s) (ha : ev e a = .int k1 p1) (hp : p1 = (l : Int)) (hb : ev e b = .int k2 p2) (hq : p2 = (h : Int)) (h1 : l ≤ h) (h2 : h ≤ s.size) : RunV P o e w (.string (s.extract l h)) w :=
  run_sliceStr ho hu hx ⟨k1, hp ▸ ha⟩ ⟨k2, hq ▸ hb⟩ h1 h2
theorem run_sliceStrL (ho : o.op = .slice t x (some a) none none) (hu : P.underlying t = some .string) (hx : ev e x = .string s) (ha : ev e a = .int k1 p1) (hp : p1 = (l : Int)) (h1 : l ≤ s.size) : RunV P o e w (.string (s.extract l s.size)) w :=
  run_sliceStr ho hu hx ⟨k1, hp ▸ ha⟩ rfl h1 (Nat.le_refl _)
theorem run_sliceStrH (ho : o.op = .slice t x none (some b) none) (hu : P.underlying t = some .string) (hx : ev e x = .string s) (hb : ev e b = .int k2 p2) (hq : p2 = (h : Int)) (h2 : h ≤ s.size) : RunV P o e w (.string (s.extract 0 h)) w :=
  run_sliceStr ho hu hx rfl ⟨k2, hq ▸ hb⟩ (Nat.zero_le _) h2
theorem run_sliceStrI (ho : o.op = .slice t x (some a) (some b) none) (hu : P.underlying t = some .string) (hx : ev e x = .string s) (ha : ev e a = .int k1 p1) (hb : ev e b = .int k2 p2) (h0 : 0 ≤ p1) (h1 : p1 ≤ p2) (h2 : p2 ≤ s.size) : RunV P o e w (.string (s.extract p1.toNat p2.toNat)) w :=
  run_sliceStrB (l := p1.toNat) (h := p2.toNat) ho hu hx ha (by omega) hb (by omega) (by omega) (by omega)
theorem run_sliceStrIL (ho : o.op = .slice t x (some a) none none) (hu : P.underlying t = some .string) (hx : ev e x = .string s) (ha : ev e a = .int k1 p1) (h0 : 0 ≤ p1) (h1 : p1 ≤ s.size) : RunV P o e w (.string (s.extract p1.toNat s.size)) w :=
  run_sliceStrL (l := p1.toNat) ho hu hx ha (by omega) (by omega)
theorem run_sliceStrIH (ho : o.op = .slice t x none (some b) none) (hu : P.underlying t = some .string) (hx : ev e x = .string s) (hb : ev e b = .int k2 p2) (h0 : 0 ≤ p2) (h2 : p2 ≤ s.size) : RunV P o e w (.string (s.extract 0 p2.toNat)) w :=
  run_sliceStrH (h := p2.toNat) ho hu hx hb (by omega) (by omega)
variable {el : TypeId} {agg : Bool} {size bytes : Nat} {zero : Value} {A : Option Addr} {n c : Nat}
theorem run_sliceSlB (ho : o.op = .slice t x (some a) (some b) none) (hu : P.underlying t = some (.slice el)) (T : TyF P el agg size bytes zero) (hx : ev e x = .slice A n c) (ha : ev e a = .int k1 p1) (hp : p1 = (l : Int)) (hb : ev e b = .int k2 p2) (hq : p2 = (h : Int)) (h1 : l ≤ h) (h2 : h ≤ c) :
    RunV P o e w (.slice (if c = l then A else A.map (·.add (l * size))) (h - l) (c - l)) w :=
  run_sliceSl ho hu T hx ⟨k1, hp ▸ ha⟩ ⟨k2, hq ▸ hb⟩ h1 h2
theorem run_sliceSlL (ho : o.op = .slice t x (some a) none none) (hu : P.underlying t = some (.slice el)) (T : TyF P el agg size bytes zero) (hx : ev e x = .slice A n c) (ha : ev e a = .int k1 p1) (hp : p1 = (l : Int)) (h1 : l ≤ n) (h2 : n ≤ c) :
    RunV P o e w (.slice (if c = l then A else A.map (·.add (l * size))) (n - l) (c - l)) w :=
  run_sliceSl ho hu T hx ⟨k1, hp ▸ ha⟩ rfl h1 h2
theorem run_sliceSlH (ho : o.op = .slice t x none (some b) none) (hu : P.underlying t = some (.slice el)) (T : TyF P el agg size bytes zero) (hx : ev e x = .slice A n c) (hb : ev e b = .int k2 p2) (hq : p2 = (h : Int)) (h2 : h ≤ c) :
    RunV P o e w (.slice (if c = 0 then A else A.map (·.add (0 * size))) (h - 0) (c - 0)) w :=
  run_sliceSl ho hu T hx rfl ⟨k2, hq ▸ hb⟩ (Nat.zero_le _) h2
end
end
end Go.Proofs.Ytkefaelmamgjiaa
