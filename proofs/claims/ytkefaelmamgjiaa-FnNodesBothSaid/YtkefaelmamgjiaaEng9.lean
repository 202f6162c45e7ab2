/- The engine, part 9: a row cut short; a row onto which a part of itself is appended. -/
import Derived.Test.YtkefaelmamgjiaaRdr
set_option linter.unusedVariables false
namespace Go.Proofs.Ytkefaelmamgjiaa
open Go.RowKit
theorem RdF.takeZ {ok : Nat → Prop} {w : World} {z : Nat} : ∀ {ds : List D} {cs : List Value} (k : Nat), (∀ d ∈ ds, d.wd = z) → RdF ok w ds cs → RdF ok w (ds.take k) (cs.take (k * z))
  | ds, cs, 0, _, _ => by simp [RdF]
  | [], cs, k + 1, _, h => by simp only [RdF] at h; subst h; simp [RdF]
  | d :: ds, cs, k + 1, hw, h => by
    obtain ⟨c1, c2, rfl, h1, h2⟩ := h
    have hl : c1.length = z := by rw [Rd.length d c1 h1]; exact hw d (by simp)
    have ih := RdF.takeZ k (fun x hx => hw x (by simp [hx])) h2
    refine ⟨c1, c2.take (k * z), ?_, h1, ih⟩
    rw [List.take_append, hl, Nat.add_mul, Nat.one_mul, List.take_of_length_le (by omega)]
    congr 2
    omega
theorem RdF.dropZ {ok : Nat → Prop} {w : World} {z : Nat} : ∀ {ds : List D} {cs : List Value} (k : Nat), (∀ d ∈ ds, d.wd = z) → RdF ok w ds cs → RdF ok w (ds.drop k) (cs.drop (k * z))
  | ds, cs, 0, _, h => by simpa using h
  | [], cs, k + 1, _, h => by simp only [RdF] at h; subst h; simp [RdF]
  | d :: ds, cs, k + 1, hw, h => by
    obtain ⟨c1, c2, rfl, h1, h2⟩ := h
    have hl : c1.length = z := by rw [Rd.length d c1 h1]; exact hw d (by simp)
    have ih := RdF.dropZ k (fun x hx => hw x (by simp [hx])) h2
    have e : k * z + z - z = k * z := by omega
    rw [List.drop_succ_cons, List.drop_append, hl, Nat.add_mul, Nat.one_mul, List.drop_of_length_le (l := c1) (by omega), List.nil_append, e]
    exact ih
section
variable {ok : Nat → Prop} {W0 : Start} {w : World} {C : List It} {F : List Fa}
/-- A row cut short. -/
theorem St.cut (s : St ok W0 C F w) {i g m cap : Nat} {el : TypeId} {z : Nat} {ds : List D} (hi : C[i]? = some (.row (.slice (some ⟨g, 0, none⟩) m cap) el z ds)) (k : Nat) (hk : k ≤ ds.length) :
    St ok W0 (C.set i (.row (.slice (some ⟨g, 0, none⟩) k cap) el z (ds.take k))) F w := by
  refine s.turn hi (Nat.le_refl _) rfl rfl rfl (fun _ _ _ => rfl) (fun b hb => .inl hb) ?_
  obtain ⟨h0, xs, h1, h2⟩ := s.own _ (List.mem_of_getElem? hi)
  have hkl : (ds.take k).length = k := by simp; omega
  refine ⟨fun d hd => h0 d (List.mem_of_mem_take hd), xs.take (k * z), ?_, RdF.keep (Keeps.refl _ _) (okS_set (x' := .row (.slice (some ⟨g, 0, none⟩) k cap) el z (ds.take k)) hi fun b hb => .inl hb) _ _ (RdF.takeZ k h0 h2)⟩
  obtain ⟨hx, h3⟩ := h1
  have hle : k * z ≤ ds.length * z := Nat.mul_le_mul_right _ hk
  rw [hkl]
  refine ⟨by rw [List.length_take]; omega, ?_⟩
  rcases h3 with ⟨h, _⟩ | ⟨g', cap', cur, fz, e, h4, h5, h6, h7, h8, h9, h10⟩
  · cases h
  · obtain ⟨rfl, rfl⟩ : g = g' ∧ cap = cap' := by
      simp only [Value.slice.injEq, Option.some.injEq, Addr.mk.injEq] at e
      exact ⟨e.1.1, e.2.2⟩
    refine .inr ⟨g, cap, cur, fz, rfl, h4, h5, h6, by omega, h8, h9, ?_⟩
    rw [← h10, List.take_take, Nat.min_eq_left hle]
theorem Src.part {okc : Nat → Prop} {g m cap : Nat} {el : TypeId} {z : Nat} {ds : List D} (h : (It.row (.slice (some ⟨g, 0, none⟩) m cap) el z ds).holds okc w) (l : Nat) (hl : l ≤ ds.length) (c' : Nat) :
    Src okc w (.slice (if cap = l then some ⟨g, 0, none⟩ else some ((⟨g, 0, none⟩ : Addr).add (l * z))) (ds.length - l) c') (ds.drop l) := by
  obtain ⟨h0, xs, h1, h2⟩ := h
  have h3 := RdF.dropZ l h0 h2
  have hc : ds.length ≤ cap := by
    rcases h1.2 with ⟨e, _⟩ | ⟨g', cap', cur, fz, e, _, _, _, h7, _⟩
    · cases e
    · simp only [Value.slice.injEq] at e
      omega
  refine ⟨_, c', xs.drop (l * z), by rw [List.length_drop], h3, (fun h => by split at h <;> cases h), fun ad had j u hu => ?_⟩
  split at had
  · have e : ds.drop l = [] := List.drop_of_length_le (by omega)
    rw [e] at h3
    simp only [RdF] at h3
    rw [h3] at hu
    simp at hu
  · obtain rfl := Option.some.inj had
    rw [addr_add_add _ _ _ rfl]
    rw [List.getElem?_drop] at hu
    exact ownG.cells h1 rfl _ _ hu
theorem does_appendSelf {P : Program} {o : Oper} {e : Env} {Φ : Value → World → Prop} (k l : Nat) {i : Nat} {a x : Operand} {t el : TypeId} {agg : Bool} {size bytes : Nat} {zero : Value} {g m cap c' : Nat} {A' : Option Addr} {ds dd : List D} {q r : Nat} (s : St ok W0 C F w) (ho : o.op = .call { callee := .builtin .append, args := #[a, x], argTypes := #[t, t] })
    (hu : P.underlying t = some (.slice el)) (T : TyF P el agg size bytes zero) (hz : 0 < size) (hb : 0 < bytes) (hi : C[i]? = some (.row (.slice (some ⟨g, 0, none⟩) m cap) el size ds)) (ha : ev e a = .slice (some ⟨g, 0, none⟩) k cap) (hx : ev e x = .slice A' r c')
    (hk : k ≤ ds.length) (hl : l ≤ ds.length) (hr : r = ds.length - l) (hA : A' = if cap = l then some ⟨g, 0, none⟩ else some ((⟨g, 0, none⟩ : Addr).add (l * size)))
    (hlen : (k + (ds.length - l)) * bytes ≤ 140737488355328) (hdd : ds.take k ++ ds.drop l = dd) (hq : dd.length = q)
    (h : ∀ A c w', St ok W0 (C.set i (.row (.slice A q c) el size dd)) F w' → Φ (.slice A q c) w') : Does P o e w Φ := by
  subst hdd hq hr hA
  have hrow := s.own _ (List.mem_of_getElem? hi)
  have hsrc := Src.part hrow l hl c'
  have s2 := s.cut hi k hk
  have hset : (C.set i (.row (.slice (some ⟨g, 0, none⟩) k cap) el size (ds.take k)))[i]? = some (.row (.slice (some ⟨g, 0, none⟩) k cap) el size (ds.take k)) := set_get hi
  have hkl : (ds.take k).length = k := by simp; omega
  have hsrc2 : Src (okS ok W0.heap.size (C.set i (.row (.slice (some ⟨g, 0, none⟩) k cap) el size (ds.take k)))) w (.slice (if cap = l then some ⟨g, 0, none⟩ else some ((⟨g, 0, none⟩ : Addr).add (l * size))) (ds.length - l) c') (ds.drop l) := by
    obtain ⟨A, c, news, h1, h2, h3, h4⟩ := hsrc
    exact ⟨A, c, news, h1, RdF.keep (Keeps.refl _ _) (okS_set (x' := .row (.slice (some ⟨g, 0, none⟩) k cap) el size (ds.take k)) hi fun b hb => .inl hb) _ _ h2, h3, h4⟩
  obtain ⟨v', w', h1, h2⟩ := append_core s2 ho hu T hz hb hset ha hx hsrc2 (fun d hd => hrow.1 d (List.mem_of_mem_drop hd)) (by rw [hkl, List.length_drop]; exact hlen)
  rw [List.set_set] at h2
  obtain ⟨A, c, rfl, _⟩ := h2.rowForm (set_get hi)
  exact does_of h1 (h _ _ _ h2)
theorem St.aftR2 {w' : World} {b : Nat} {v : Value} {p N : Int} (s : St ok W0 C F w) {i : Nat} (hi : C[i]? = some (.blk b (rdC v p) 121)) (h : Aft w w' b v p N) {d d2 : D} {cs cs2 : List Value} (hd : Rd (okR (okS ok W0.heap.size C) w) w' d cs) (hd2 : Rd (okR (okS ok W0.heap.size C) w) w' d2 cs2) :
    ∃ p', p ≤ p' ∧ p' ≤ p + N ∧ St ok W0 (C.set i (.blk b (rdC v p') 121)) (.dat cs d :: .dat cs2 d2 :: F) w' := by
  obtain ⟨p', h1, h2, s'⟩ := s.aftR hi h hd
  refine ⟨p', h1, h2, ?_⟩
  obtain ⟨p2, h3, h4, s2⟩ := s.aftR hi h hd2
  have e : p2 = p' := by
    have h5 := s'.own (.blk b (rdC v p') 121) (by
      obtain ⟨hlt, -⟩ := List.getElem?_eq_some_iff.1 hi
      exact List.mem_iff_getElem.2 ⟨i, by simpa using hlt, by simp⟩)
    have h6 := s2.own (.blk b (rdC v p2) 121) (by
      obtain ⟨hlt, -⟩ := List.getElem?_eq_some_iff.1 hi
      exact List.mem_iff_getElem.2 ⟨i, by simpa using hlt, by simp⟩)
    simp only [It.holds] at h5 h6
    rw [h5] at h6
    simpa using h6.symm
  subst e
  have s3 := s'.know (f := .dat cs2 d2) (s2.fa _ (.head _))
  exact s3.less fun f hf => by
    rcases List.mem_cons.1 hf with rfl | hf
    · exact .tail _ (.head _)
    · rcases List.mem_cons.1 hf with rfl | hf
      · exact .head _
      · exact .tail _ (.tail _ hf)
/-- Where the reader is made. -/
theorem St.opened {w' : World} {b : Nat} {v : Value} {l : List UInt8} (s : St ok W0 C F w) (hd : Rd (okS ok W0.heap.size C) w (.sl (bytesL l)) [v]) (hb : Below w.heap.size w w') (hge : w.heap.size ≤ b) (hblk : w'.heap[b]? = some (.cells (rdC v 0).toArray 121 (0, 0))) :
    St ok W0 (.blk b (rdC v 0) 121 :: C) (.dat [v] (.sl (bytesL l)) :: F) w' :=
  (s.know (f := .dat [v] (.sl (bytesL l))) hd).more hb hblk (fun c hc => by simp only [It.has] at hc; omega)
theorem St.partsNd (s : St ok W0 C F w) {i : Nat} {n : Nd} {A : Option Addr} {c : Nat} (hi : F[i]? = some (.dat [.int .i64 n.next, .slice A n.list.length c] n.toD)) :
    St ok W0 C (.dat [.slice A n.list.length c] (.sl (nodeDs n.list)) :: F) w := by
  obtain ⟨A', c', h, -, g⟩ := Nd.opn (s.dat hi)
  obtain ⟨rfl, rfl⟩ : A = A' ∧ c = c' := by simpa using h
  exact s.know (f := .dat [.slice A n.list.length c] (.sl (nodeDs n.list))) g
end
end Go.Proofs.Ytkefaelmamgjiaa
