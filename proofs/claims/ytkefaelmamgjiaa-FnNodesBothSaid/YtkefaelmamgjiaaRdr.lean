/- The reader of the draws: a block that a callee is lent and turns. -/
import Derived.Test.YtkefaelmamgjiaaEng8
import Derived.Test.YtkefaelmamgjiaaDat
set_option linter.unusedVariables false
namespace Go.Proofs.Ytkefaelmamgjiaa
open Go.RowKit
theorem sub_nil {α : Type} {F : List α} : ∀ f ∈ ([] : List α), f ∈ F := fun f h => (List.not_mem_nil h).elim
theorem sub_cons {α : Type} {F F' : List α} {a : α} (h : a ∈ F) (hs : ∀ f ∈ F', f ∈ F) : ∀ f ∈ a :: F', f ∈ F := fun f hf => by
  rcases List.mem_cons.1 hf with rfl | hf
  · exact h
  · exact hs f hf
section
variable {P : Program} {w : World} {e : Env} {o : Oper} {t t' : TypeId} {x y : Operand} {m q : Int}
theorem xor_i64 (m q : Int) (hm : 0 ≤ m ∧ m ≤ 9223372036854775807) (hq : 0 ≤ q ∧ q ≤ 9223372036854775807) :
    IntKind.i64.wrap ((BitVec.ofInt IntKind.i64.bits m ^^^ BitVec.ofInt IntKind.i64.bits q).toNat : Int) = ((m.toNat ^^^ q.toNat : Nat) : Int) ∧ ((m.toNat ^^^ q.toNat : Nat) : Int) ≤ 9223372036854775807 := by
  obtain ⟨a, rfl⟩ := Int.eq_ofNat_of_zero_le hm.1
  obtain ⟨b, rfl⟩ := Int.eq_ofNat_of_zero_le hq.1
  have h1 : (BitVec.ofInt IntKind.i64.bits (a : Int)).toNat = a := by
    rw [BitVec.toNat_ofInt]
    show (((a : Int) % ((2 ^ 64 : Nat) : Int))).toNat = a
    omega
  have h2 : (BitVec.ofInt IntKind.i64.bits (b : Int)).toNat = b := by
    rw [BitVec.toNat_ofInt]
    show (((b : Int) % ((2 ^ 64 : Nat) : Int))).toNat = b
    omega
  have h3 : a ^^^ b < 2 ^ 63 := Nat.xor_lt_two_pow (by omega) (by omega)
  rw [BitVec.toNat_xor, h1, h2]
  simp only [Int.toNat_natCast]
  exact ⟨IntWalk.i64_in _ (by omega), by omega⟩
theorem run_xor (ho : o.op = .binOp .xor t x y t') (hx : ev e x = .int .i64 m) (hy : ev e y = .int .i64 q) (hm : 0 ≤ m ∧ m ≤ 9223372036854775807) (hq : 0 ≤ q ∧ q ≤ 9223372036854775807) :
    RunV P o e w (.int .i64 ((m.toNat ^^^ q.toNat : Nat) : Int)) w :=
  run_bin ho hx hy rfl (by
    simp only [binOp, Op.intBits]
    rw [(xor_i64 m q hm hq).1]
    simp)
end
/-- A region that draws its order, of which only some things are seen all through. -/
theorem VS_drawSub {P : Program} {n : Nat} {ops : Array Oper} {e : Env} {w : World} {ok : Nat → Prop} {W0 : Start} {C C' : List It} {F F' : List Fa} {id : Nat} {r : List Code} {Q : Post} (k : Nat) (s : St ok W0 C F w) (hm : P.follows .mixedOrders = true)
    (h : St ok W0 C F w.drew → VA P n ops k (Sees C' F') (VS P n r Q) ops.size (Array.replicate ops.size false) e w.drew) : VS P n (.region id ops true :: r) Q e w := VS_draw k _ hm (h s.drew)
abbrev rdC (v : Value) (p : Int) : List Value := [v, .int .i64 p]
/-- The reader, as a callee finds it. -/
structure Rdr (ok : Nat → Prop) (w : World) (b : Nat) (v : Value) (p : Int) (l : List UInt8) : Prop where
  blk : w.heap[b]? = some (.cells (rdC v p).toArray 121 (0, 0))
  out : ¬ ok b
  dat : Rd ok w (.sl (bytesL l)) [v]
  len : l.length ≤ 2000
  low : 0 ≤ p
/-- The reader, as it leaves it. -/
def Aft (w0 w : World) (b : Nat) (v : Value) (p N : Int) : Prop := Chg [b] w0 w ∧ ∃ p', p ≤ p' ∧ p' ≤ p + N ∧ w.heap[b]? = some (.cells (rdC v p').toArray 121 (0, 0))
theorem Aft.mono {w0 w : World} {b : Nat} {v : Value} {p N M : Int} (h : Aft w0 w b v p N) (hm : N ≤ M) : Aft w0 w b v p M := by
  obtain ⟨h1, p', h2, h3, h4⟩ := h
  exact ⟨h1, p', h2, by omega, h4⟩
section
variable {ok : Nat → Prop} {W0 : Start} {w w' : World} {C : List It} {F : List Fa} {b : Nat} {v : Value} {p N : Int} {l : List UInt8}
theorem Rdr.lt (h : Rdr ok w b v p l) : b < w.heap.size := (Array.getElem?_eq_some_iff.1 h.blk).1
theorem Rdr.rd (h : Rdr ok w b v p l) {d : D} {cs : List Value} (hd : Rd ok w d cs) : Rd (okS ok (⟨w, [b]⟩ : Start).heap.size [.blk b (rdC v p) 121]) w d cs :=
  Rd.keep (Keeps.refl _ _) (fun c _ hc => ⟨.inl hc, fun x hx e => by
    obtain rfl := List.mem_singleton.1 hx
    simp only [It.has] at e
    subst e
    exact h.out hc⟩) d cs hd
theorem Rdr.start (h : Rdr ok w b v p l) : St ok ⟨w, [b]⟩ [.blk b (rdC v p) 121] [.dat [v] (.sl (bytesL l))] w :=
  (St.lent ok w [b] (C := [.blk b (rdC v p) 121]) (fun x hx => by
    obtain rfl := List.mem_singleton.1 hx
    exact h.blk) (fun x hx c hc => by
    obtain rfl := List.mem_singleton.1 hx
    simp only [It.has] at hc
    subst hc
    exact .head _) (List.pairwise_singleton _ _)).know (f := .dat [v] (.sl (bytesL l))) (h.rd h.dat)
theorem St.rdr (s : St ok W0 C F w) {i j : Nat} (hi : C[i]? = some (.blk b (rdC v p) 121)) (hj : F[j]? = some (.dat [v] (.sl (bytesL l)))) (hl : l.length ≤ 2000) (hp : 0 ≤ p) : Rdr (okS ok W0.heap.size C) w b v p l :=
  ⟨s.own _ (List.mem_of_getElem? hi), fun h => h.2 _ (List.mem_of_getElem? hi) rfl, s.dat hj, hl, hp⟩
theorem St.rdrM (s : St ok W0 C F w) {i : Nat} (hi : C[i]? = some (.blk b (rdC v p) 121)) (hj : Fa.dat [v] (.sl (bytesL l)) ∈ F) (hl : l.length ≤ 2000) (hp : 0 ≤ p) : Rdr (okS ok W0.heap.size C) w b v p l :=
  ⟨s.own _ (List.mem_of_getElem? hi), fun h => h.2 _ (List.mem_of_getElem? hi) rfl, s.fa _ hj, hl, hp⟩
theorem St.aft (s : St ok W0 C F w) {i : Nat} (hi : C[i]? = some (.blk b (rdC v p) 121)) (h : Aft w w' b v p N) : ∃ p', p ≤ p' ∧ p' ≤ p + N ∧ St ok W0 (C.set i (.blk b (rdC v p') 121)) F w' := by
  obtain ⟨hc, p', h1, h2, h3⟩ := h
  refine ⟨p', h1, h2, s.turn hi hc.size hc.os hc.tape hc.output (fun c hc1 hc2 => hc.block c hc1 fun hm => hc2 ?_) (fun c hc => .inl hc) h3⟩
  exact (List.mem_singleton.1 hm).symm
theorem St.aftR (s : St ok W0 C F w) {i : Nat} (hi : C[i]? = some (.blk b (rdC v p) 121)) (h : Aft w w' b v p N) {d : D} {cs : List Value} (hd : Rd (okR (okS ok W0.heap.size C) w) w' d cs) :
    ∃ p', p ≤ p' ∧ p' ≤ p + N ∧ St ok W0 (C.set i (.blk b (rdC v p') 121)) (.dat cs d :: F) w' := by
  obtain ⟨p', h1, h2, s'⟩ := s.aft hi h
  refine ⟨p', h1, h2, s'.know (f := .dat cs d) (Rd.keep (Keeps.refl _ _) (fun c hlt hc => ?_) d cs hd)⟩
  have hmem : (It.blk b (rdC v p) 121) ∈ C := List.mem_of_getElem? hi
  rcases hc with hc | hc
  · refine ⟨hc.1, fun x hx => ?_⟩
    rcases List.mem_or_eq_of_mem_set hx with hx | rfl
    · exact hc.2 x hx
    · exact fun e => hc.2 _ hmem e
  · refine ⟨.inr (Nat.le_trans s.size hc), fun x hx e => ?_⟩
    rcases List.mem_or_eq_of_mem_set hx with hx | rfl
    · have := It.lt (s.own x hx) c e
      omega
    · have := It.lt (s.own _ hmem) c (show It.has _ c from e)
      omega
theorem St.aftOut {w0 : World} (s : St ok ⟨w0, [b]⟩ C F w) {i : Nat} {p' : Int} (hi : C[i]? = some (.blk b (rdC v p') 121)) (h1 : p ≤ p') (h2 : p' ≤ p + N) : Aft w0 w b v p N :=
  ⟨s.chg, p', h1, h2, s.own _ (List.mem_of_getElem? hi)⟩
theorem St.tellR (s : St ok W0 C F w) {cs : List Value} {d : D} (hd : Rd (okS ok W0.heap.size C) w d cs) : Rd (okR ok W0.w) w d cs := Rd.keep (Keeps.refl _ _) (fun b _ hb => hb.1) d cs hd
theorem St.freezeR {w0 : World} (s : St ok ⟨w0, [b]⟩ C F w) {k i : Nat} {u : Value} {e : TypeId} {size : Nat} {ds : List D} {cs : List Value} {ty : TypeId} (hk : C[k]? = some (.row u e size ds)) (hi : (C.eraseIdx k)[i]? = some (.blk b cs ty)) :
    St ok ⟨w0, [b]⟩ (C.eraseIdx k) (.dat [u] (.sl ds) :: F) w :=
  s.freezeL hk fun c hc => by
    rcases s.mine _ (List.mem_of_getElem? hk) c hc with h | h
    · obtain rfl := List.mem_singleton.1 h
      exact (s.others hk _ (List.mem_of_getElem? hi) _ hc rfl).elim
    · exact .inr h
/-- A byte that is read. -/
theorem St.openBy (s : St ok W0 C F w) {i : Nat} {A : Option Addr} {m c : Nat} {l : List UInt8} (hi : F[i]? = some (.dat [.slice A m c] (.sl (bytesL l)))) (k : Nat) (hk : k < l.length) :
    ∃ ad, A = some ad ∧ St ok W0 C (.at (ad.add (k * 1)) [.int .u8 (l[k].toNat : Int)] :: F) w := by
  obtain ⟨ad, cs, h1, s⟩ := s.openE hi (by decide) (bytesL_wd _) k (by simpa using hk)
  have h2 := s.dat (i := 1) rfl
  have h3 : (bytesL l)[k]'(by simpa using hk) = .int .u8 (l[k].toNat : Int) := by simp [bytesL]
  rw [h3] at h2
  simp only [Rd] at h2
  subst h2
  exact ⟨ad, h1, s.less fun f hf => by
    rcases List.mem_cons.1 hf with rfl | h
    · exact .head _
    · exact .tail _ (.tail _ h)⟩
end
end Go.Proofs.Ytkefaelmamgjiaa
