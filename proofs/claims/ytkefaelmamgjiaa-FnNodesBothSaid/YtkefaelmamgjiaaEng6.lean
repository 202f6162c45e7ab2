/- The engine, part 6: data that is one's own, with all that it leads to. -/
import Derived.Test.YtkefaelmamgjiaaEng5
set_option linter.unusedVariables false
namespace Go.Proofs.Ytkefaelmamgjiaa
open Go.RowKit

/-- The shape of a type: what lies in its cells, and which slices go out of it. -/
inductive Sh where
  | leaf
  | st (fs : List Sh)
  | sl (e : TypeId)
mutual
def Sh.wd : Sh → Nat
  | .leaf => 1
  | .st fs => Sh.wds fs
  | .sl _ => 1
def Sh.wds : List Sh → Nat
  | [] => 0
  | s :: ss => s.wd + Sh.wds ss
end
theorem Sh.wds_rep (s : Sh) : ∀ n, Sh.wds (List.replicate n s) = n * s.wd
  | 0 => by simp [Sh.wds]
  | n + 1 => by rw [List.replicate_succ, Sh.wds, Sh.wds_rep s n, Nat.add_mul]; omega
theorem Sh.wds_app : ∀ a b, Sh.wds (a ++ b) = Sh.wds a + Sh.wds b
  | [], b => by simp [Sh.wds]
  | s :: a, b => by rw [List.cons_append, Sh.wds, Sh.wds, Sh.wds_app a b]; omega
mutual
/-- The cells hold this data; the blocks that they lead to are 'fp', one by one. 'E': the shapes of the elements' types. -/
def Ow (E : TypeId → Sh) (w : World) : D → Sh → List Value → List Nat → Prop
  | .int k n, s, cs, fp => s = .leaf ∧ cs = [.int k n] ∧ fp = []
  | .bool b, s, cs, fp => s = .leaf ∧ cs = [.bool b] ∧ fp = []
  | .str x, s, cs, fp => s = .leaf ∧ cs = [.string x] ∧ fp = []
  | .st ds, s, cs, fp => ∃ ss, s = .st ss ∧ OwF E w ds ss cs fp
  | .sl ds, s, cs, fp => ∃ e, s = .sl e ∧ ((ds = [] ∧ fp = [] ∧ cs = [.slice none 0 0]) ∨
      ∃ g c cur fz fp', cs = [.slice (some ⟨g, 0, none⟩) ds.length c] ∧ fp = g :: fp' ∧ w.heap[g]? = some (.cells cur e fz) ∧ (fz = (0, 0) ∨ cur.size ≤ fz.1) ∧ ds.length ≤ c ∧ c ≤ maxLen ∧ cur.size = c * (E e).wd ∧
        OwF E w ds (List.replicate ds.length (E e)) (cur.toList.take (ds.length * (E e).wd)) fp')
def OwF (E : TypeId → Sh) (w : World) : List D → List Sh → List Value → List Nat → Prop
  | [], ss, cs, fp => ss = [] ∧ cs = [] ∧ fp = []
  | d :: ds, ss, cs, fp => ∃ s ss' c1 c2 f1 f2, ss = s :: ss' ∧ cs = c1 ++ c2 ∧ fp = f1 ++ f2 ∧ Ow E w d s c1 f1 ∧ OwF E w ds ss' c2 f2
end
section
variable {E : TypeId → Sh} {w w' : World}
mutual
theorem Ow.keep : ∀ (d : D) (s : Sh) (cs : List Value) (fp : List Nat), Ow E w d s cs fp → (∀ b ∈ fp, w'.heap[b]? = w.heap[b]?) → Ow E w' d s cs fp
  | .int _ _, _, _, _, h, _ => h
  | .bool _, _, _, _, h, _ => h
  | .str _, _, _, _, h, _ => h
  | .st ds, s, cs, fp, ⟨ss, h1, h2⟩, hk => ⟨ss, h1, OwF.keep ds ss cs fp h2 hk⟩
  | .sl ds, s, cs, fp, ⟨e, h1, h2⟩, hk => by
    refine ⟨e, h1, ?_⟩
    rcases h2 with h2 | ⟨g, c, cur, fz, fp', rfl, rfl, h3, h4, h5, h6, h7, h8⟩
    · exact .inl h2
    · exact .inr ⟨g, c, cur, fz, fp', rfl, rfl, (hk g (by simp)).trans h3, h4, h5, h6, h7, OwF.keep ds _ _ fp' h8 fun b hb => hk b (by simp [hb])⟩
theorem OwF.keep : ∀ (ds : List D) (ss : List Sh) (cs : List Value) (fp : List Nat), OwF E w ds ss cs fp → (∀ b ∈ fp, w'.heap[b]? = w.heap[b]?) → OwF E w' ds ss cs fp
  | [], _, _, _, h, _ => h
  | d :: ds, _, _, _, ⟨s, ss', c1, c2, f1, f2, rfl, rfl, rfl, h1, h2⟩, hk => ⟨s, ss', c1, c2, f1, f2, rfl, rfl, rfl, Ow.keep d s c1 f1 h1 fun b hb => hk b (by simp [hb]), OwF.keep ds ss' c2 f2 h2 fun b hb => hk b (by simp [hb])⟩
end
mutual
theorem Ow.lt : ∀ (d : D) (s : Sh) (cs : List Value) (fp : List Nat), Ow E w d s cs fp → ∀ b ∈ fp, b < w.heap.size
  | .int _ _, _, _, _, ⟨_, _, rfl⟩, b, hb => by cases hb
  | .bool _, _, _, _, ⟨_, _, rfl⟩, b, hb => by cases hb
  | .str _, _, _, _, ⟨_, _, rfl⟩, b, hb => by cases hb
  | .st ds, s, cs, fp, ⟨ss, h1, h2⟩, b, hb => OwF.lt ds ss cs fp h2 b hb
  | .sl ds, s, cs, fp, ⟨e, h1, h2⟩, b, hb => by
    rcases h2 with ⟨_, rfl, _⟩ | ⟨g, c, cur, fz, fp', rfl, rfl, h3, h4, h5, h6, h7, h8⟩
    · cases hb
    · rcases List.mem_cons.1 hb with rfl | hb
      · exact (Array.getElem?_eq_some_iff.1 h3).1
      · exact OwF.lt ds _ _ fp' h8 b hb
theorem OwF.lt : ∀ (ds : List D) (ss : List Sh) (cs : List Value) (fp : List Nat), OwF E w ds ss cs fp → ∀ b ∈ fp, b < w.heap.size
  | [], _, _, _, ⟨_, _, rfl⟩, b, hb => by cases hb
  | d :: ds, _, _, _, ⟨s, ss', c1, c2, f1, f2, rfl, rfl, rfl, h1, h2⟩, b, hb => by
    rcases List.mem_append.1 hb with hb | hb
    · exact Ow.lt d s c1 f1 h1 b hb
    · exact OwF.lt ds ss' c2 f2 h2 b hb
end
mutual
theorem Ow.wd : ∀ (d : D) (s : Sh) (cs : List Value) (fp : List Nat), Ow E w d s cs fp → cs.length = s.wd ∧ d.wd = s.wd
  | .int _ _, _, _, _, ⟨rfl, rfl, rfl⟩ => ⟨rfl, rfl⟩
  | .bool _, _, _, _, ⟨rfl, rfl, rfl⟩ => ⟨rfl, rfl⟩
  | .str _, _, _, _, ⟨rfl, rfl, rfl⟩ => ⟨rfl, rfl⟩
  | .st ds, _, cs, fp, ⟨ss, rfl, h2⟩ => by have := OwF.wd ds ss cs fp h2; simp only [Sh.wd, D.wd]; omega
  | .sl ds, s, cs, fp, ⟨e, h1, h2⟩ => by
    subst h1
    rcases h2 with ⟨_, rfl, rfl⟩ | ⟨g, c, cur, fz, fp', rfl, _⟩ <;> exact ⟨rfl, rfl⟩
theorem OwF.wd : ∀ (ds : List D) (ss : List Sh) (cs : List Value) (fp : List Nat), OwF E w ds ss cs fp → cs.length = Sh.wds ss ∧ D.wds ds = Sh.wds ss ∧ ds.length = ss.length
  | [], _, _, _, ⟨rfl, rfl, rfl⟩ => ⟨rfl, rfl, rfl⟩
  | d :: ds, _, _, _, ⟨s, ss', c1, c2, f1, f2, rfl, rfl, rfl, h1, h2⟩ => by
    have := Ow.wd d s c1 f1 h1
    have := OwF.wd ds ss' c2 f2 h2
    simp only [Sh.wds, D.wds, List.length_append, List.length_cons]
    omega
end
mutual
/-- It may be read. -/
theorem Ow.rd {ok : Nat → Prop} : ∀ (d : D) (s : Sh) (cs : List Value) (fp : List Nat), Ow E w d s cs fp → (∀ b ∈ fp, ok b) → Rd ok w d cs
  | .int _ _, _, _, _, ⟨_, h, _⟩, _ => h
  | .bool _, _, _, _, ⟨_, h, _⟩, _ => h
  | .str _, _, _, _, ⟨_, h, _⟩, _ => h
  | .st ds, s, cs, fp, ⟨ss, h1, h2⟩, hk => OwF.rd ds ss cs fp h2 hk
  | .sl ds, s, cs, fp, ⟨e, h1, h2⟩, hk => by
    rcases h2 with ⟨rfl, rfl, rfl⟩ | ⟨g, c, cur, fz, fp', rfl, rfl, h3, h4, h5, h6, h7, h8⟩
    · exact ⟨none, 0, rfl, Nat.le_refl _, trivial⟩
    · have h9 := OwF.rd (ok := ok) ds _ _ fp' h8 fun b hb => hk b (by simp [hb])
      refine ⟨some ⟨g, 0, none⟩, c, rfl, h5, RdE.make (hk g (by simp)) (Array.getElem?_eq_some_iff.1 h3).1 rfl h9 fun j u hu => ?_⟩
      rw [add_lit0, cell_of_row w g j cur e fz h3]
      rw [List.getElem?_take] at hu
      split at hu
      · simpa using hu
      · cases hu
theorem OwF.rd {ok : Nat → Prop} : ∀ (ds : List D) (ss : List Sh) (cs : List Value) (fp : List Nat), OwF E w ds ss cs fp → (∀ b ∈ fp, ok b) → RdF ok w ds cs
  | [], _, _, _, ⟨_, h, _⟩, _ => h
  | d :: ds, _, _, _, ⟨s, ss', c1, c2, f1, f2, rfl, rfl, rfl, h1, h2⟩, hk => ⟨c1, c2, rfl, Ow.rd d s c1 f1 h1 fun b hb => hk b (by simp [hb]), OwF.rd ds ss' c2 f2 h2 fun b hb => hk b (by simp [hb])⟩
end
theorem OwF.append : ∀ {ds ds' : List D} {ss ss' : List Sh} {cs cs' : List Value} {fp fp' : List Nat}, OwF E w ds ss cs fp → OwF E w ds' ss' cs' fp' → OwF E w (ds ++ ds') (ss ++ ss') (cs ++ cs') (fp ++ fp')
  | [], _, _, _, _, _, _, _, ⟨rfl, rfl, rfl⟩, h' => h'
  | d :: ds, _, _, _, _, _, _, _, ⟨s, ss', c1, c2, f1, f2, rfl, rfl, rfl, h1, h2⟩, h' => ⟨s, _, c1, _, f1, _, rfl, List.append_assoc _ _ _, List.append_assoc _ _ _, h1, OwF.append h2 h'⟩
theorem OwF.parts : ∀ {ds ds' : List D} {ss : List Sh} {cs : List Value} {fp : List Nat}, OwF E w (ds ++ ds') ss cs fp →
    ∃ s1 s2 c1 c2 f1 f2, ss = s1 ++ s2 ∧ cs = c1 ++ c2 ∧ fp = f1 ++ f2 ∧ OwF E w ds s1 c1 f1 ∧ OwF E w ds' s2 c2 f2
  | [], ds', ss, cs, fp, h => ⟨[], ss, [], cs, [], fp, rfl, rfl, rfl, ⟨rfl, rfl, rfl⟩, h⟩
  | d :: ds, ds', _, _, _, ⟨s, ss', c1, c2, f1, f2, rfl, rfl, rfl, h1, h2⟩ => by
    obtain ⟨s1, s2, k1, k2, g1, g2, rfl, rfl, rfl, h3, h4⟩ := OwF.parts h2
    exact ⟨s :: s1, s2, c1 ++ k1, k2, f1 ++ g1, g2, rfl, (List.append_assoc _ _ _).symm, (List.append_assoc _ _ _).symm, ⟨s, s1, c1, k1, f1, g1, rfl, rfl, rfl, h1, h3⟩, h4⟩
theorem OwF.one {d : D} {s : Sh} {cs : List Value} {fp : List Nat} (h : Ow E w d s cs fp) : OwF E w [d] [s] cs fp := ⟨s, [], cs, [], fp, [], rfl, by simp, by simp, h, rfl, rfl, rfl⟩
theorem OwF.hd {d : D} {ds : List D} {ss : List Sh} {cs : List Value} {fp : List Nat} (h : OwF E w (d :: ds) ss cs fp) : ∃ s ss' c1 c2 f1 f2, ss = s :: ss' ∧ cs = c1 ++ c2 ∧ fp = f1 ++ f2 ∧ Ow E w d s c1 f1 ∧ OwF E w ds ss' c2 f2 := h
/-- One element. -/
theorem OwF.at : ∀ {ds : List D} {ss : List Sh} {cs : List Value} {fp : List Nat}, OwF E w ds ss cs fp → ∀ (j : Nat) (hj : j < ds.length),
    ∃ s c1 cx c2 f1 fx f2, ss[j]? = some s ∧ cs = c1 ++ (cx ++ c2) ∧ fp = f1 ++ (fx ++ f2) ∧ c1.length = Sh.wds (ss.take j) ∧ Ow E w ds[j] s cx fx ∧
      ∀ (w' : World) d' cx' fx', (∀ b, b ∈ f1 ∨ b ∈ f2 → w'.heap[b]? = w.heap[b]?) → Ow E w' d' s cx' fx' → OwF E w' (ds.set j d') ss (c1 ++ (cx' ++ c2)) (f1 ++ (fx' ++ f2))
  | [], _, _, _, _, j, hj => absurd hj (by simp)
  | d :: ds, _, _, _, ⟨s, ss', c1, c2, f1, f2, rfl, rfl, rfl, h1, h2⟩, 0, _ =>
    ⟨s, [], c1, c2, [], f1, f2, rfl, rfl, rfl, rfl, h1, fun w' d' cx' fx' hk h => ⟨s, ss', cx', c2, fx', f2, rfl, rfl, rfl, h, OwF.keep ds ss' c2 f2 h2 fun b hb => hk b (.inr hb)⟩⟩
  | d :: ds, _, _, _, ⟨s, ss', c1, c2, f1, f2, rfl, rfl, rfl, h1, h2⟩, j + 1, hj => by
    obtain ⟨s', k1, kx, k2, g1, gx, g2, e1, rfl, rfl, e2, h3, h4⟩ := OwF.at h2 j (by simpa using hj)
    refine ⟨s', c1 ++ k1, kx, k2, f1 ++ g1, gx, g2, by simpa using e1, (List.append_assoc _ _ _).symm, (List.append_assoc _ _ _).symm, ?_, h3, fun w' d' cx' fx' hk h => ?_⟩
    · rw [List.length_append, List.take_succ_cons, Sh.wds, e2, (Ow.wd d s c1 f1 h1).1]
    · rw [List.set_cons_succ, List.append_assoc, List.append_assoc]
      exact ⟨s, ss', c1, _, f1, _, rfl, rfl, rfl, Ow.keep d s c1 f1 h1 fun b hb => hk b (.inl (by simp [hb])), h4 w' d' cx' fx' (fun b hb => hk b (hb.imp (fun h => by simp [h]) id)) h⟩

/-- A slice of one's own, laid open at an element. -/
theorem Ow.elem {ds : List D} {e : TypeId} {A : Option Addr} {n c : Nat} {fp : List Nat} (h : Ow E w (.sl ds) (.sl e) [.slice A n c] fp) (hn : fp.Nodup) (j : Nat) (hj : j < ds.length) :
    ∃ g cx fx, A = some ⟨g, 0, none⟩ ∧ n = ds.length ∧ Ow E w ds[j] (E e) cx fx ∧ fx.Nodup ∧ (∀ b ∈ fx, b ∈ fp) ∧ g ∉ fx ∧ g ∈ fp ∧
      (∀ q u, cx[q]? = some u → w.cell? (((⟨g, 0, none⟩ : Addr).add (j * (E e).wd)).add q) = some u) ∧
      ∀ (w' : World) d' fx', Chg fx w w' → Ow E w' d' (E e) cx fx' → fx'.Nodup → (∀ b ∈ fx', b ∈ fx ∨ w.heap.size ≤ b) → ∃ fp', Ow E w' (.sl (ds.set j d')) (.sl e) [.slice A n c] fp' ∧ fp'.Nodup ∧ ∀ b ∈ fp', b ∈ fp ∨ w.heap.size ≤ b := by
  have hlt := Ow.lt _ _ _ _ h
  obtain ⟨e', he, h2⟩ := h
  obtain rfl : e = e' := by simpa using he
  rcases h2 with ⟨rfl, _⟩ | ⟨g, c', cur, fz, fp', hcs, rfl, h3, h4, h5, h6, h7, h8⟩
  · simp at hj
  simp only [List.cons.injEq, Value.slice.injEq, and_true] at hcs
  obtain ⟨rfl, rfl, rfl⟩ := hcs
  obtain ⟨s, c1, cx, c2, f1, fx, f2, e1, ecs, rfl, e2, h9, h10⟩ := h8.at j hj
  obtain rfl : E e = s := by simpa [List.getElem?_replicate, hj] using e1
  have hc1 : c1.length = j * (E e).wd := by rw [e2, List.take_replicate, Sh.wds_rep, Nat.min_eq_left (by omega)]
  have hnd := List.nodup_cons.1 hn
  have hn1 := List.nodup_append.1 hnd.2
  have hn2 := List.nodup_append.1 hn1.2.1
  refine ⟨g, cx, fx, rfl, rfl, h9, hn2.1, fun b hb => by simp [hb], fun hg => hnd.1 (by simp [hg]), by simp, fun q u hu => ?_, fun w' d' fx' hc hd hfx hsub => ?_⟩
  · rw [add_lit1, cell_of_row w g _ cur e fz h3]
    have h11 : (cur.toList.take (ds.length * (E e).wd))[j * (E e).wd + q]? = some u := by
      rw [ecs, ← hc1, List.getElem?_append_right (by omega), List.getElem?_append_left (by have := (List.getElem?_eq_some_iff.1 hu).1; omega)]
      simpa using hu
    rw [List.getElem?_take] at h11
    split at h11
    · simpa using h11
    · cases h11
  · have hold : ∀ b, b ∈ g :: (f1 ++ (fx ++ f2)) → b ∉ fx → w'.heap[b]? = w.heap[b]? := fun b hb hnb => hc.block b (hlt b hb) hnb
    have hg2 : g ∉ fx := fun hg => hnd.1 (by simp [hg])
    have hf1 : ∀ b ∈ f1, b ∉ fx := fun b hb hb2 => (hn1.2.2 b hb b (by simp [hb2])) rfl
    have hf2 : ∀ b ∈ f2, b ∉ fx := fun b hb hb2 => (hn2.2.2 b hb2 b hb) rfl
    have hnew : ∀ b ∈ fx', ∀ x, x ∈ g :: (f1 ++ f2) → b ≠ x := fun b hb x hx hbx => by
      subst hbx
      have hlt2 : b < w.heap.size := by
        refine hlt b ?_
        rcases List.mem_cons.1 hx with h | h
        · simp [h]
        · rcases List.mem_append.1 h with h | h <;> simp [h]
      rcases hsub b hb with h | h
      · rcases List.mem_cons.1 hx with h1 | h1
        · exact hg2 (h1 ▸ h)
        · rcases List.mem_append.1 h1 with h1 | h1
          · exact hf1 b h1 h
          · exact hf2 b h1 h
      · omega
    refine ⟨g :: (f1 ++ (fx' ++ f2)), ⟨e, rfl, .inr ⟨g, c, cur, fz, _, by simp, rfl, (hold g (by simp) hg2).trans h3, h4, by simpa using h5, h6, h7, ?_⟩⟩, ?_, ?_⟩
    · rw [List.length_set, ecs]
      exact h10 w' d' cx fx' (fun b hb => hold b (by rcases hb with h | h <;> simp [h]) (hb.elim (hf1 b) (hf2 b))) hd
    · refine List.nodup_cons.2 ⟨fun hg => ?_, List.nodup_append.2 ⟨hn1.1, List.nodup_append.2 ⟨hfx, hn2.2.1, fun a ha b hb => hnew a ha b (by simp [hb])⟩, fun a ha b hb => ?_⟩⟩
      · rcases List.mem_append.1 hg with h | h
        · exact hnd.1 (by simp [h])
        · rcases List.mem_append.1 h with h | h
          · exact hnew g h g (by simp) rfl
          · exact hnd.1 (by simp [h])
      · rcases List.mem_append.1 hb with h | h
        · exact fun e => hnew b h a (by simp [ha]) e.symm
        · exact hn1.2.2 a ha b (by simp [h])
    · intro b hb
      rcases List.mem_cons.1 hb with rfl | hb
      · simp
      · rcases List.mem_append.1 hb with h | h
        · simp [h]
        · rcases List.mem_append.1 h with h | h
          · rcases hsub b h with h | h
            · simp [h]
            · exact .inr h
          · simp [h]

/-! ### Such data among a call's own things -/
def OwI (E : TypeId → Sh) (d : D) (sh : Sh) (cs : List Value) (fp : List Nat) : It := .own fp fun w => Ow E w d sh cs fp ∧ fp.Nodup
theorem OwI.mk {ok : Nat → Prop} {d : D} {sh : Sh} {cs : List Value} {fp : List Nat} (h : Ow E w d sh cs fp) (hn : fp.Nodup) : (OwI E d sh cs fp).holds ok w :=
  ⟨fun b hb => Ow.lt _ _ _ _ h b hb, fun w' hk => ⟨Ow.keep _ _ _ _ h hk, hn⟩⟩
section
variable {ok : Nat → Prop} {W0 : Start} {C : List It} {F : List Fa} {d d' : D} {sh : Sh} {cs cs' : List Value} {fp fp' : List Nat}
theorem St.ow (s : St ok W0 C F w) {i : Nat} (hi : C[i]? = some (OwI E d sh cs fp)) : Ow E w d sh cs fp ∧ fp.Nodup ∧ ∀ b ∈ fp, W0.mine b := by
  obtain ⟨h1, h2⟩ := s.own _ (List.mem_of_getElem? hi)
  obtain ⟨h3, h4⟩ := h2 w fun _ _ => rfl
  exact ⟨h3, h4, s.mine _ (List.mem_of_getElem? hi)⟩
/-- A call came back with data that is nobody else's. -/
theorem St.retOw (s : St ok W0 C F w) (hb : Below w.heap.size w w') (h : Ow E w' d sh cs fp) (hn : fp.Nodup) (hge : ∀ b ∈ fp, w.heap.size ≤ b) : St ok W0 (OwI E d sh cs fp :: C) F w' :=
  s.more hb (OwI.mk h hn) hge
/-- It is turned. -/
theorem St.turnOw (s : St ok W0 C F w) {i : Nat} (hi : C[i]? = some (OwI E d sh cs fp)) (hc : Chg fp w w') {E' : TypeId → Sh} {sh' : Sh} (h : Ow E' w' d' sh' cs' fp') (hn : fp'.Nodup) (hsub : ∀ b ∈ fp', b ∈ fp ∨ w.heap.size ≤ b) :
    St ok W0 (C.set i (OwI E' d' sh' cs' fp')) F w' := by
  exact s.turn hi hc.size hc.os hc.tape hc.output (fun b hb hne => hc.block b hb hne) hsub (OwI.mk h hn)
/-- It is read from now on. -/
theorem St.melt {w0 : World} (s : St ok (w0 : Start) C F w) {k : Nat} (hk : C[k]? = some (OwI E d sh cs fp)) : St ok (w0 : Start) (C.eraseIdx k) (.dat cs d :: F) w := by
  obtain ⟨h1, h2, h3⟩ := s.ow hk
  exact (s.drop k).know (f := .dat cs d) (Ow.rd _ _ _ _ h1 fun b hb => ⟨(h3 b hb).elim (fun h => (List.not_mem_nil h).elim) .inr, fun y hy hyb => s.others hk y hy b hb hyb⟩)
/-- Two things become one; the newest is the one that goes into number 'i' of the others. -/
theorem St.merge {p p' : World → Prop} (s : St ok W0 (.own fp p :: C) F w) {i : Nat} (hi : C[i]? = some (.own fp' p')) : St ok W0 (C.set i (.own (fp' ++ fp) fun w => p' w ∧ p w)) F w := by
  obtain ⟨C1, C2, rfl, hset⟩ := set_split (.own (fp' ++ fp) fun w => p' w ∧ p w) hi
  rw [hset]
  have hm1 : It.own fp p ∈ It.own fp p :: (C1 ++ It.own fp' p' :: C2) := by simp
  have hm2 : It.own fp' p' ∈ It.own fp p :: (C1 ++ It.own fp' p' :: C2) := by simp
  have a1 := List.pairwise_cons.1 s.apart
  have a2 := List.pairwise_append.1 a1.2
  have a3 := List.pairwise_cons.1 a2.2.1
  have hi : ∀ b, b < w.heap.size → okS ok W0.heap.size (It.own fp p :: (C1 ++ It.own fp' p' :: C2)) b → okS ok W0.heap.size (C1 ++ It.own (fp' ++ fp) (fun w => p' w ∧ p w) :: C2) b := fun b _ hok => ⟨hok.1, fun y hy => by
    rcases List.mem_append.1 hy with hy | hy
    · exact hok.2 y (by simp [hy])
    · rcases List.mem_cons.1 hy with rfl | hy
      · intro hb
        rcases List.mem_append.1 hb with hb | hb
        · exact hok.2 _ hm2 hb
        · exact hok.2 _ hm1 hb
      · exact hok.2 y (by simp [hy])⟩
  have hk : ∀ y ∈ C1 ++ C2, y.holds (okS ok W0.heap.size (C1 ++ It.own (fp' ++ fp) (fun w => p' w ∧ p w) :: C2)) w := fun y hy =>
    It.keep (Keeps.refl _ _) hi (s.own y (by rcases List.mem_append.1 hy with h | h <;> simp [h])) (fun _ _ => rfl)
  refine ⟨s.chg, fun y hy => ?_, fun y hy b hyb => ?_, List.pairwise_append.2 ⟨a2.1, List.pairwise_cons.2 ⟨fun y hy b hb => ?_, a3.2⟩, fun y hy z hz b hb1 hb2 => ?_⟩, fun f hf => Fa.keep (Keeps.refl _ _) hi (s.fa f hf)⟩
  · rcases List.mem_append.1 hy with hy | hy
    · exact hk y (by simp [hy])
    · rcases List.mem_cons.1 hy with rfl | hy
      · obtain ⟨g1, g2⟩ := s.own _ hm1
        obtain ⟨g3, g4⟩ := s.own _ hm2
        exact ⟨fun b hb => (List.mem_append.1 hb).elim (g3 b) (g1 b), fun w' h => ⟨g4 w' fun b hb => h b (by simp [hb]), g2 w' fun b hb => h b (by simp [hb])⟩⟩
      · exact hk y (by simp [hy])
  · rcases List.mem_append.1 hy with hy | hy
    · exact s.mine y (by simp [hy]) b hyb
    · rcases List.mem_cons.1 hy with rfl | hy
      · exact (List.mem_append.1 hyb).elim (s.mine _ hm2 b) (s.mine _ hm1 b)
      · exact s.mine y (by simp [hy]) b hyb
  · rcases List.mem_append.1 hb with hb | hb
    · exact a3.1 y hy b hb
    · exact a1.1 y (by simp [hy]) b hb
  · rcases List.mem_cons.1 hz with rfl | hz
    · rcases List.mem_append.1 hb2 with hb2 | hb2
      · exact a2.2.2 y hy (.own fp' p') (by simp) b hb1 hb2
      · exact a1.1 y (by simp [hy]) b hb2 hb1
    · exact a2.2.2 y hy z (by simp [hz]) b hb1 hb2
/-- A call was lent the first things, and came back with others in their place. -/
theorem St.frame {L L' R : List It} (s : St ok W0 (L ++ R) F w) {fp : List Nat} (hfp : ∀ b ∈ fp, ∃ x ∈ L, x.has b) (hc : Chg fp w w') (hL : ∀ x ∈ L', x.holds (okS ok W0.heap.size (L' ++ R)) w')
    (hap : L'.Pairwise fun x y => ∀ b, x.has b → ¬ y.has b) (hsub : ∀ x ∈ L', ∀ b, x.has b → (∃ y ∈ L, y.has b) ∨ w.heap.size ≤ b) : St ok W0 (L' ++ R) F w' := by
  have a1 := List.pairwise_append.1 s.apart
  have hi : ∀ b, b < w.heap.size → okS ok W0.heap.size (L ++ R) b → okS ok W0.heap.size (L' ++ R) b := fun b hlt hok => ⟨hok.1, fun y hy hb => by
    rcases List.mem_append.1 hy with hy | hy
    · rcases hsub y hy b hb with ⟨z, hz, hzb⟩ | h
      · exact hok.2 z (List.mem_append_left _ hz) hzb
      · omega
    · exact hok.2 y (List.mem_append_right _ hy) hb⟩
  have hkp : Keeps (okS ok W0.heap.size (L ++ R)) w w' := ⟨hc.size, fun b hb hlt => hc.block b hlt fun hm => by
    obtain ⟨x, hx, hxb⟩ := hfp b hm
    exact hb.2 x (List.mem_append_left _ hx) hxb⟩
  have hR : ∀ y ∈ R, y.holds (okS ok W0.heap.size (L' ++ R)) w' := fun y hy => It.keep hkp hi (s.own y (List.mem_append_right _ hy)) fun b hb => hc.block b (It.lt (s.own y (List.mem_append_right _ hy)) b hb) fun hm => by
    obtain ⟨x, hx, hxb⟩ := hfp b hm
    exact a1.2.2 x hx y hy b hxb hb
  refine ⟨?_, fun y hy => (List.mem_append.1 hy).elim (hL y) (hR y), fun y hy b hb => ?_, List.pairwise_append.2 ⟨hap, a1.2.1, fun x hx y hy b hb1 hb2 => ?_⟩, fun f hf => Fa.keep hkp hi (s.fa f hf)⟩
  · refine ⟨hc.os.trans s.chg.os, hc.tape.trans s.chg.tape, hc.output.trans s.chg.output, Nat.le_trans s.size hc.size, fun b hb hn => (hc.block b (Nat.lt_of_lt_of_le hb s.size) fun hm => ?_).trans (s.chg.block b hb hn)⟩
    obtain ⟨x, hx, hxb⟩ := hfp b hm
    rcases s.mine x (List.mem_append_left _ hx) b hxb with h | h
    · exact hn h
    · omega
  · rcases List.mem_append.1 hy with hy | hy
    · rcases hsub y hy b hb with ⟨z, hz, hzb⟩ | h
      · exact s.mine z (List.mem_append_left _ hz) b hzb
      · exact .inr (Nat.le_trans s.size h)
    · exact s.mine y (List.mem_append_right _ hy) b hb
  · rcases hsub x hx b hb1 with ⟨z, hz, hzb⟩ | h
    · exact a1.2.2 z hz y hy b hzb hb2
    · have := It.lt (s.own y (List.mem_append_right _ hy)) b hb2
      omega
/-- What is known of a thing of one's own is told in other words. -/
theorem St.say (s : St ok W0 C F w) {i : Nat} {p p' : World → Prop} (hi : C[i]? = some (.own fp p)) (hsub : ∀ b ∈ fp', b ∈ fp) (h : ∀ w, p w → ∀ w', (∀ b ∈ fp', w'.heap[b]? = w.heap[b]?) → p' w') : St ok W0 (C.set i (.own fp' p')) F w := by
  obtain ⟨h1, h2⟩ := s.own _ (List.mem_of_getElem? hi)
  refine s.turn hi (Nat.le_refl _) rfl rfl rfl (fun _ _ _ => rfl) (fun b hb => .inl (hsub b hb)) ⟨fun b hb => h1 b (hsub b hb), fun w' hk => h w (h2 w fun _ _ => rfl) w' hk⟩
/-- A row whose elements lead nowhere. -/
theorem OwF.leaves {ok : Nat → Prop} : ∀ {ds : List D} {cs : List Value}, (∀ d ∈ ds, (∃ k n, d = .int k n) ∨ (∃ b, d = .bool b) ∨ ∃ x, d = .str x) → RdF ok w ds cs → OwF E w ds (List.replicate ds.length .leaf) cs []
  | [], _, _, h => ⟨rfl, h, rfl⟩
  | d :: ds, _, hl, ⟨c1, c2, rfl, h1, h2⟩ => by
    refine ⟨.leaf, List.replicate ds.length .leaf, c1, c2, [], [], rfl, rfl, rfl, ?_, OwF.leaves (fun x hx => hl x (by simp [hx])) h2⟩
    rcases hl d (by simp) with ⟨k, n, rfl⟩ | ⟨b, rfl⟩ | ⟨x, rfl⟩ <;> exact ⟨rfl, h1, rfl⟩
theorem ow_row {B : Nat} {v : Value} {e : TypeId} {size n : Nat} {ds : List D} {xs : List Value} {fp : List Nat} (hn : n = ds.length) (h : ownG w B e size v n xs) (hsz : (E e).wd = size) (hx : OwF E w ds (List.replicate ds.length (E e)) xs fp) :
    ∃ f0, Ow E w (.sl ds) (.sl e) [v] (f0 ++ fp) ∧ (∀ b, b ∈ f0 ↔ v.ownBlock = some b) ∧ f0.length ≤ 1 := by
  subst hn
  rcases h.2 with ⟨rfl, hn⟩ | ⟨g, cap, cur, fz, rfl, hb, hg, hf, hc, hm, hz, ht⟩
  · obtain rfl : ds = [] := List.eq_nil_of_length_eq_zero hn
    obtain ⟨_, _, rfl⟩ := hx
    exact ⟨[], ⟨e, rfl, .inl ⟨rfl, rfl, rfl⟩⟩, by simp [Value.ownBlock], by simp⟩
  · exact ⟨[g], ⟨e, rfl, .inr ⟨g, cap, cur, fz, fp, rfl, rfl, hg, hf, hc, hm, by rw [hsz]; exact hz, by rw [hsz, ht]; exact hx⟩⟩, by simp [Value.ownBlock, eq_comm], by simp⟩
theorem St.deep (s : St ok W0 C F w) {i : Nat} {v : Value} {e : TypeId} {size : Nat} {ds : List D} (hi : C[i]? = some (.row v e size ds)) (hsz : (E e).wd = size) (hl : ds = [] ∨ E e = .leaf ∧ ∀ d ∈ ds, (∃ k n, d = .int k n) ∨ (∃ b, d = .bool b) ∨ ∃ x, d = .str x) :
    ∃ fp, St ok W0 (C.set i (OwI E (.sl ds) (.sl e) [v] fp)) F w := by
  obtain ⟨h0, xs, h1, h2⟩ := s.own _ (List.mem_of_getElem? hi)
  have hx : OwF E w ds (List.replicate ds.length (E e)) xs [] := by
    rcases hl with rfl | ⟨he, hl⟩
    · exact ⟨rfl, h2, rfl⟩
    · rw [he]; exact OwF.leaves hl h2
  obtain ⟨f0, h3, h4, h5⟩ := ow_row rfl h1 hsz hx
  rw [List.append_nil] at h3
  have hnd : f0.Nodup := by
    match f0, h5 with
    | [], _ => exact List.nodup_nil
    | [x], _ => simp
  refine ⟨f0, s.turn hi (Nat.le_refl _) rfl rfl rfl (fun _ _ _ => rfl) (fun b hb => .inl ((h4 b).1 hb)) (OwI.mk h3 hnd)⟩
end
end
end Go.Proofs.Ytkefaelmamgjiaa
