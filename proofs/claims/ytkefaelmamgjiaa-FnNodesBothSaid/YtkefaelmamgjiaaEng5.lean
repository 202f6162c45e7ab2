/- The engine, part 5: texts and bytes. -/
import Derived.Test.YtkefaelmamgjiaaEng4
import Derived.Laws.IdiomStrings
import Derived.Laws.BytesArg
import Derived.Lib.AppendStr
set_option linter.unusedVariables false
set_option linter.unusedSimpArgs false
namespace Go.Proofs.Ytkefaelmamgjiaa
open Go.RowKit
def bytesL (l : List UInt8) : List D := l.map fun b => .int .u8 (b.toNat : Int)
@[simp] theorem bytesL_length (l : List UInt8) : (bytesL l).length = l.length := by simp [bytesL]
theorem bytesL_wd (l : List UInt8) : ∀ d ∈ bytesL l, d.wd = 1 := by
  intro d hd
  obtain ⟨x, _, rfl⟩ := List.mem_map.1 hd
  rfl
theorem bytesL_cells {okc : Nat → Prop} {w : World} : ∀ {l : List UInt8} {xs : List Value}, RdF okc w (bytesL l) xs → xs = l.map fun b => .int .u8 (b.toNat : Int)
  | [], xs, h => h
  | b :: l, xs, h => by
    obtain ⟨c1, c2, rfl, h1, h2⟩ := h
    simp only [Rd] at h1
    subst h1
    have := bytesL_cells (l := l) h2
    subst this
    rfl
theorem bytesL_rd {okc : Nat → Prop} {w : World} : ∀ (l : List UInt8), RdF okc w (bytesL l) (l.map fun b => .int .u8 (b.toNat : Int))
  | [] => rfl
  | b :: l => ⟨[_], _, rfl, rfl, bytesL_rd l⟩
section
variable {P : Program} {n : Nat} {e : Env} {w : World} {ops : Array Oper} {K : Env → World → Prop} {rest : List Oper} {o : Oper}
variable {ok : Nat → Prop} {W0 : Start} {C : List It} {F : List Fa} {Φ : Value → World → Prop}
/-- '[]byte(s)'. -/
theorem does_s2b {src dst el : TypeId} {x : Operand} {t : ByteArray} (s : St ok W0 C F w) (ho : o.op = .convert src dst x) (hs : P.underlying src = some .string) (hd : P.underlying dst = some (.slice el)) (he : P.underlying el = some (.int .u8))
    (hx : ev e x = .string t) (hl : t.size ≤ 1000000000000)
    (h : ∀ g c w', St ok W0 (.row (.slice (some ⟨g, 0, none⟩) t.size c) el 1 (bytesL t.data.toList) :: C) F w' → Φ (.slice (some ⟨g, 0, none⟩) t.size c) w') : Does P o e w Φ := by
  have hr := run_bytes_of_string (P := P) w src dst el t hs hd he
  have hge := grownCap_ge w t.size 0 el
  have hcm := grownCap_le_maxLen w t.size 0 el (by simp only [maxLen]; omega)
  have hsz : (bytesRow t (grownCap w t.size 0 el)).size = grownCap w t.size 0 el := by
    simp only [bytesRow, Array.size_append, Array.size_map, Array.size_replicate]
    have : t.data.size = t.size := rfl
    omega
  refine does_of (v := .slice (some ⟨w.heap.size, 0, none⟩) t.size (grownCap w t.size 0 el)) (w' := w.drew.alloc (.cells (bytesRow t (grownCap w t.size 0 el)) el ((bytesRow t (grownCap w t.size 0 el)).size, (bytesRow t (grownCap w t.size 0 el)).size + 1))) ?_ (h _ _ _ ?_)
  · unfold RunV execOp
    simp only [ho, hx]
    rw [Sem.run_bind, hr]
    rfl
  · have hbl : Below w.heap.size w (w.drew.alloc (.cells (bytesRow t (grownCap w t.size 0 el)) el ((bytesRow t (grownCap w t.size 0 el)).size, (bytesRow t (grownCap w t.size 0 el)).size + 1))) :=
      ((Below.refl w.heap.size w).drew).alloc (Nat.le_refl _) _
    refine s.more hbl ⟨bytesL_wd _, t.data.toList.map (fun b => .int .u8 (b.toNat : Int)), ⟨by simp, .inr ⟨w.heap.size, grownCap w t.size 0 el, bytesRow t (grownCap w t.size 0 el), ((bytesRow t (grownCap w t.size 0 el)).size, (bytesRow t (grownCap w t.size 0 el)).size + 1), ?_, (Nat.zero_le _), ?_, .inr (Nat.le_refl _), ?_, hcm, by simpa using hsz, ?_⟩⟩, bytesL_rd _⟩ (fun b hb => by simp [It.has, Value.ownBlock] at hb; omega)
    · simp [bytesL]
    · exact heap_alloc_new w.drew _
    · simpa [bytesL] using hge
    · simp only [bytesL, bytesRow, Array.toList_append, Array.toList_map, List.length_map, Nat.mul_one]
      rw [List.take_append_of_le_length (by simp)]
      simp only [List.length_map, bytesL_length, List.map_map, Array.length_toList]
      exact List.take_of_length_le (by simp only [List.length_map, Array.length_toList]; exact Nat.le_refl _)
/-- 'string(b)' of a row of its own. -/
theorem run_b2s {src dst el : TypeId} {x : Operand} {i : Nat} {v : Value} {l : List UInt8} (s : St ok W0 C F w) (ho : o.op = .convert src dst x) (hs : P.underlying src = some (.slice el)) (hd : P.underlying dst = some .string) (he : P.underlying el = some (.int .u8))
    (hi : C[i]? = some (.row v el 1 (bytesL l))) (hx : ev e x = v) : RunV P o e w (.string ⟨l.toArray⟩) w := by
  obtain ⟨h0, xs, hown, hxs⟩ := s.own _ (List.mem_of_getElem? hi)
  obtain rfl := bytesL_cells hxs
  unfold RunV execOp
  simp only [ho, hx]
  rcases hown.2 with ⟨rfl, hn⟩ | ⟨g, cap, cur, fz, rfl, _⟩
  · obtain rfl : l = [] := List.eq_nil_of_length_eq_zero (by simpa using hn)
    have := run_convert_bytes_nil (P := P) w src el hs he 0 0 dst hd
    rw [Sem.run_bind, this]
    rfl
  · have := run_convert_bytes_back (P := P) w src dst el ⟨g, 0, none⟩ cap l hs he hd (fun j hj => by
      refine ownG.cells hown rfl j _ ?_
      rw [List.getElem?_map, List.getElem?_eq_getElem hj]
      rfl)
    simp only [bytesL_length]
    rw [Sem.run_bind, this]
    rfl
theorem add_lit0 (g n : Nat) : (⟨g, 0, none⟩ : Addr).add n = ⟨g, n, none⟩ := by unfold Addr.add; split <;> simp_all
theorem add_lit1 (g j q : Nat) : ((⟨g, 0, none⟩ : Addr).add j).add q = ⟨g, j + q, none⟩ := by rw [add_lit0]; unfold Addr.add; split <;> simp_all
/-- A whole element is stored. -/
theorem does_storeE {t : TypeId} {a x : Operand} {agg : Bool} {bytes : Nat} {zero v : Value} {i g cap m z : Nat} (j : Nat) {cs : List Value} {el : TypeId} {ds ds2 : List D} {d' : D} {Ψ : World → Prop} (s : St ok W0 C F w) (ho : o.op = .store t a x) (T : TyF P t agg z bytes zero)
    (ha : ev e a = .pointer (some ((⟨g, 0, none⟩ : Addr).add (j * z)))) (hx : ev e x = v) (hi : C[i]? = some (.row (.slice (some ⟨g, 0, none⟩) m cap) el z ds)) (hj : j < ds.length) (hv : v.cells = cs.toArray)
    (hd : Rd (okS ok W0.heap.size C) w d' cs) (hw : d'.wd = z) (hds : ds.set j d' = ds2)
    (h : ∀ w', St ok W0 (C.set i (.row (.slice (some ⟨g, 0, none⟩) m cap) el z ds2)) F w' → Ψ w') : DoesU P o e w Ψ := by
  subst hds
  have hl : cs.length = z := by rw [Rd.length d' cs hd, hw]
  refine does_storeRow (j := j) (q := 0) s ho T (by rw [ha, add_lit0]; rfl) hx hi hj hv hl (Rd.one d' cs hd) (by omega) (fun c hc _ => ?_) hw h
  have : patch c 0 cs = cs := by
    simp only [patch, List.take_zero, List.nil_append, Nat.zero_add]
    rw [List.drop_of_length_le (by omega), List.append_nil]
  rw [this]
  exact hd
/-- A field of an element is stored; the element's data are told before and behind. -/
theorem does_storeQ {t : TypeId} {a x : Operand} {agg : Bool} {size bytes : Nat} {zero v : Value} {i g cap m z : Nat} (j q : Nat) {cs : List Value} {el : TypeId} {ds ds2 : List D} {d' : D} {Ψ : World → Prop} (s : St ok W0 C F w) (ho : o.op = .store t a x) (T : TyF P t agg size bytes zero)
    (ha : ev e a = .pointer (some (((⟨g, 0, none⟩ : Addr).add (j * z)).add q))) (hx : ev e x = v) (hi : C[i]? = some (.row (.slice (some ⟨g, 0, none⟩) m cap) el z ds)) (hj : j < ds.length) (hv : v.cells = cs.toArray) (hl : cs.length = size) (h1 : ∀ u ∈ cs, u.oneCell' = true) (hq : q + cs.length ≤ z)
    (hd : ∀ c, c.length = z → Rd (okS ok W0.heap.size C) w ds[j] c → Rd (okS ok W0.heap.size C) w d' (patch c q cs)) (hw : d'.wd = z) (hds : ds.set j d' = ds2)
    (h : ∀ w', St ok W0 (C.set i (.row (.slice (some ⟨g, 0, none⟩) m cap) el z ds2)) F w' → Ψ w') : DoesU P o e w Ψ := by
  subst hds
  exact does_storeRow (j := j) (q := q) s ho T (by rw [ha, add_lit1]) hx hi hj hv hl h1 hq hd hw h
theorem bytesL_set (l : List UInt8) (j : Nat) (b : UInt8) : (bytesL l).set j (.int .u8 (b.toNat : Int)) = bytesL (l.set j b) := by simp [bytesL, List.map_set]
theorem bytesL_snoc (l : List UInt8) (b : UInt8) : bytesL l ++ [.int .u8 (b.toNat : Int)] = bytesL (l ++ [b]) := by simp [bytesL]
/-- 'append(b, s...)', s a text. -/
theorem append_GS {P : Program} (w : World) (t u ty e : TypeId) (i : TypeInfo) (ht : P.underlying t = some (.slice e)) (hu : P.underlying u = some .string) (hi : P.info? e = some i) (hz : i.zero = some (.int .u8 0)) (hsize : i.size = 1) (hby : i.bytes = 1)
    (v : Value) (n : Nat) (xs : List Value) (hown : ownG w 0 e 1 v n xs) (r : ByteArray) (hb : n + r.size ≤ 140737488355328) :
    ∃ v' w', (Builtin.append_ #[t, u] ty #[v, .string r]).run P w = .ok v' w' ∧ ownG w' 0 e 1 v' (n + r.size) (xs ++ Lib.strCells r) ∧ w.grownBy w' v.ownBlock ∧ (v'.ownBlock = v.ownBlock ∨ v'.ownBlock = some w.heap.size) := by
  have hxl : xs.length = n := by simpa using hown.1
  have hlen : (xs ++ Lib.strCells r).length = (n + r.size) * 1 := by rw [List.length_append, hxl, Lib.strCells_length, Nat.mul_one]
  have h63 : n + r.size ≤ maxLen := by simp only [maxLen]; omega
  rcases hown.2 with ⟨rfl, hn⟩ | ⟨g, cap, cur, fz, rfl, hB, hg, hf, hc, hm, hcz, htk⟩
  · subst hn
    obtain rfl : xs = [] := List.eq_nil_of_length_eq_zero hxl
    obtain ⟨v', w', h1, h2, h3, h4⟩ := Lib.run_append_own_string (P := P) w w.heap.size t u ty e i ht hu hi hz hsize hby (.slice none 0 0) 0 [] (World.ownsRow_nil w _ _ _) r h63 hb (Nat.le_refl _)
    refine ⟨v', w', h1, ?_, h3, ?_⟩
    · obtain ⟨g1, g2⟩ := ownG_of h2
      refine ⟨g1, ?_⟩
      rcases g2 with g2 | ⟨g, cap, cur, fz, k1, k2, k3⟩
      · exact .inl g2
      · exact .inr ⟨g, cap, cur, fz, k1, Nat.zero_le _, k3⟩
    · rcases h2.2 with ⟨rfl, _⟩ | ⟨g, cap, cur, rfl, k2, k3, _⟩
      · exact .inl rfl
      · right
        by_cases h0 : r.size = 0
        · have := h4.2 ⟨rfl, h0⟩
          cases this
        · have hr := run_append_nil_string (P := P) w t u ty e i (.int .u8 0) ht hu hi hz r (by omega) (by omega) (by rw [hby]; omega)
          rw [h1] at hr
          injection hr with e1 e2
          simp only [Value.slice.injEq, Option.some.injEq, Addr.mk.injEq] at e1
          simp [Value.ownBlock, e1.1.1]
  · by_cases hroom : n + r.size ≤ cap
    · have hfit : n + (Lib.strCells r).length ≤ cur.size := by rw [Lib.strCells_length]; omega
      have hst := storeCells_G P g n e fz (Lib.strCells r) 0 cur w hg hf (by simpa using hfit) (Lib.strCells_oneCell r)
      have hfc := Lib.run_firstCells_string (P := P) w 1 r
      simp only [Nat.add_zero, Lib.strCells_length] at hst
      have hcl : (cur.toList.take n ++ Lib.strCells r ++ cur.toList.drop (n + r.size)).length = cur.size := by
        have h0 := Lib.strCells_length r
        simp only [List.length_append, List.length_take, List.length_drop, Array.length_toList, h0]
        omega
      refine ⟨.slice (some ⟨g, 0, none⟩) (n + r.size) cap, w.setRow g (cur.toList.take n ++ Lib.strCells r ++ cur.toList.drop (n + r.size)).toArray, ?_, ⟨hlen, .inr ⟨g, cap, _, fz, rfl, hB, setRow_heap w g cur _ e _ hg, ?_, hroom, hm, ?_, ?_⟩⟩, ⟨rfl, rfl, rfl, by simp [World.setRow], fun k _ hk => setRow_other w g k _ (fun e => hk (by simp [Value.ownBlock, e]))⟩, .inl rfl⟩
      · simp [Builtin.append_, run_underlying ht, run_underlying hu, sizeOf, typeInfo, hi, hsize, Builtin.lenOf, hroom, hfc, Addr.add_lit, hst]
      · rcases hf with hf | hf
        · exact .inl hf
        · exact .inr (by simp only [List.size_toArray, hcl]; exact hf)
      · simp only [List.size_toArray, hcl]; exact hcz
      · rw [← hlen]
        have htk2 : cur.toList.take n = xs := by rw [← htk, Nat.mul_one]
        simp only [htk2]
        exact List.take_left
    · have hr := Lib.run_append_grow_string (P := P) w t u ty e i (.int .u8 0) ht hu hi hz ⟨g, 0, none⟩ n cap xs (by rw [hsize]; exact hown.1) (ownG.cells hown rfl) r (by omega) (by omega) (growslice_fits (by omega) (by rw [hby]; omega))
      have hge := grownCap_ge w (n + r.size) cap e
      have hcm := grownCap_le_maxLen w (n + r.size) cap e h63
      refine ⟨_, _, hr, ⟨hlen, .inr ⟨w.heap.size, _, _, (0, 0), rfl, Nat.zero_le _, heap_alloc_new w.drew _, .inl rfl, hge, hcm, ?_, ?_⟩⟩, ⟨rfl, rfl, rfl, by simp, fun k hk _ => heap_alloc_old w.drew _ hk⟩, .inr rfl⟩
      · have h0 := Lib.strCells_length r
        simp only [Array.size_append, List.size_toArray, Builtin.zeroCells, hxl, h0]
        simp [Value.cells]
        omega
      · simp only [Array.toList_append, List.append_assoc]
        rw [← List.append_assoc, ← hlen]
        exact List.take_left
theorem strCells_rd {okc : Nat → Prop} {w : World} (r : ByteArray) : RdF okc w (bytesL r.data.toList) (Lib.strCells r) := bytesL_rd _
theorem does_appendS {i : Nat} {a x : Operand} {t u el : TypeId} {v : Value} {l : List UInt8} {r : ByteArray} (s : St ok W0 C F w) (ho : o.op = .call { callee := .builtin .append, args := #[a, x], argTypes := #[t, u] })
    (hu : P.underlying t = some (.slice el)) (hu2 : P.underlying u = some .string) (T : TyF P el false 1 1 (.int .u8 0)) (hi : C[i]? = some (.row v el 1 (bytesL l))) (ha : ev e a = v) (hx : ev e x = .string r) (hlen : l.length + r.size ≤ 140737488355328)
    (h : ∀ A c w', St ok W0 (C.set i (.row (.slice A (l.length + r.size) c) el 1 (bytesL (l ++ r.data.toList)))) F w' → Φ (.slice A (l.length + r.size) c) w') : Does P o e w Φ := by
  obtain ⟨h0, xs, hown, hxs⟩ := s.own _ (List.mem_of_getElem? hi)
  obtain ⟨ti, hti, hi1, hi2, hi3⟩ := T.get
  rw [bytesL_length] at hown
  obtain ⟨v', w', hr, hown', hg, hat⟩ := append_GS (P := P) w t u o.type el ti hu hu2 hti hi3 hi1 hi2 v l.length xs hown r hlen
  have hl : (l ++ r.data.toList).length = l.length + r.size := by rw [List.length_append]; rfl
  have s2 : St ok W0 (C.set i (.row v' el 1 (bytesL (l ++ r.data.toList)))) F w' := by
    have hob : ∀ b, (It.row v' el 1 (bytesL (l ++ r.data.toList))).has b → (It.row v el 1 (bytesL l)).has b ∨ w.heap.size ≤ b := by
      intro b hb
      simp only [It.has] at hb ⊢
      rcases hat with h | h
      · exact .inl (h ▸ hb)
      · rw [h, Option.some.injEq] at hb
        right
        omega
    refine s.turn hi hg.size hg.os hg.tape hg.output (fun b hb hne => hg.block b hb (fun e => hne (by simp only [It.has]; exact e.symm))) hob ⟨bytesL_wd _, xs ++ Lib.strCells r, by rw [bytesL_length, hl]; exact hown', ?_⟩
    have : bytesL (l ++ r.data.toList) = bytesL l ++ bytesL r.data.toList := by simp [bytesL]
    rw [this, bytesL_cells hxs]
    exact RdF.append (bytesL_rd l) (strCells_rd r)
  obtain ⟨A, c, rfl, _⟩ := s2.rowForm (set_get hi)
  rw [bytesL_length, hl] at s2
  refine does_of (v := .slice A (l.length + r.size) c) (w' := w') ?_ (h _ _ _ s2)
  rw [bytesL_length, hl] at hr
  unfold RunV execOp
  simp only [ho]
  simp only [resolve, invoke, builtin, Sem.run_bind, Sem.run_pure, Result.andThen_ok, List.map_toArray, List.map_cons, List.map_nil, ha, hx, hr]
end
end Go.Proofs.Ytkefaelmamgjiaa
