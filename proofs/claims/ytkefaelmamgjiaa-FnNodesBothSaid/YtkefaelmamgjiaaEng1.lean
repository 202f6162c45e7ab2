/- The engine, part 1: data in memory, and the state of a call: its own blocks, its own rows, the data it may read. -/
import Derived.Test.YtkefaelmamgjiaaEng0
import Derived.Maps.AppendAt
set_option linter.unusedVariables false
namespace Go.Proofs.Ytkefaelmamgjiaa
open Go.RowKit

/-! ### Data -/
inductive D where
  | int (k : IntKind) (n : Int)
  | bool (b : Bool)
  | str (s : ByteArray)
  | st (fs : List D)
  | sl (ds : List D)
mutual
/-- How many cells. -/
def D.wd : D → Nat
  | .int _ _ => 1
  | .bool _ => 1
  | .str _ => 1
  | .sl _ => 1
  | .st fs => D.wds fs
def D.wds : List D → Nat
  | [] => 0
  | d :: ds => d.wd + D.wds ds
end
mutual
/-- The cells hold this data; all that they lead to lies in blocks that are 'ok'. -/
def Rd (ok : Nat → Prop) (w : World) : D → List Value → Prop
  | .int k n, cs => cs = [.int k n]
  | .bool b, cs => cs = [.bool b]
  | .str s, cs => cs = [.string s]
  | .st fs, cs => RdF ok w fs cs
  | .sl ds, cs => ∃ A c, cs = [.slice A ds.length c] ∧ ds.length ≤ c ∧ RdE ok w ds A
def RdF (ok : Nat → Prop) (w : World) : List D → List Value → Prop
  | [], cs => cs = []
  | d :: ds, cs => ∃ c1 c2, cs = c1 ++ c2 ∧ Rd ok w d c1 ∧ RdF ok w ds c2
def RdE (ok : Nat → Prop) (w : World) : List D → Option Addr → Prop
  | [], _ => True
  | d :: ds, A => ∃ ad cs, A = some ad ∧ ok ad.block ∧ ad.block < w.heap.size ∧ Rd ok w d cs ∧ (∀ j u, cs[j]? = some u → w.cell? (ad.add j) = some u) ∧ RdE ok w ds (some (ad.add cs.length))
end
/-- What is looked at of a world that only grows, but for blocks that are not ok. -/
structure Keeps (ok : Nat → Prop) (w w' : World) : Prop where
  size : w.heap.size ≤ w'.heap.size
  same : ∀ b, ok b → b < w.heap.size → w'.heap[b]? = w.heap[b]?
theorem Keeps.refl (ok : Nat → Prop) (w : World) : Keeps ok w w := ⟨Nat.le_refl _, fun _ _ _ => rfl⟩
theorem Keeps.trans {ok : Nat → Prop} {a b c : World} (h : Keeps ok a b) (k : Keeps ok b c) : Keeps ok a c :=
  ⟨Nat.le_trans h.size k.size, fun i hi hl => (k.same i hi (Nat.lt_of_lt_of_le hl h.size)).trans (h.same i hi hl)⟩
theorem Keeps.weaken {ok ok' : Nat → Prop} {a b : World} (h : Keeps ok a b) (hi : ∀ x, ok' x → ok x) : Keeps ok' a b := ⟨h.size, fun i h1 h2 => h.same i (hi i h1) h2⟩
theorem Keeps.below {w w' : World} (h : Below w.heap.size w w') (ok : Nat → Prop) : Keeps ok w w' := ⟨h.size, fun b _ hb => h.block b hb⟩
theorem add_block (a : Addr) (n : Nat) : (a.add n).block = a.block := by unfold Addr.add; split <;> rfl
mutual
theorem Rd.keep {ok ok' : Nat → Prop} {w w' : World} (h : Keeps ok w w') (hk : ∀ b, b < w.heap.size → ok b → ok' b) : ∀ (d : D) (cs : List Value), Rd ok w d cs → Rd ok' w' d cs
  | .int _ _, _, h1 => h1
  | .bool _, _, h1 => h1
  | .str _, _, h1 => h1
  | .st fs, cs, h1 => RdF.keep h hk fs cs h1
  | .sl ds, cs, h1 => by
    obtain ⟨A, c, h2, h3, h4⟩ := h1
    exact ⟨A, c, h2, h3, RdE.keep h hk ds A h4⟩
theorem RdF.keep {ok ok' : Nat → Prop} {w w' : World} (h : Keeps ok w w') (hk : ∀ b, b < w.heap.size → ok b → ok' b) : ∀ (ds : List D) (cs : List Value), RdF ok w ds cs → RdF ok' w' ds cs
  | [], _, h1 => h1
  | d :: ds, cs, h1 => by
    obtain ⟨c1, c2, h2, h3, h4⟩ := h1
    exact ⟨c1, c2, h2, Rd.keep h hk d c1 h3, RdF.keep h hk ds c2 h4⟩
theorem RdE.keep {ok ok' : Nat → Prop} {w w' : World} (h : Keeps ok w w') (hk : ∀ b, b < w.heap.size → ok b → ok' b) : ∀ (ds : List D) (A : Option Addr), RdE ok w ds A → RdE ok' w' ds A
  | [], _, _ => trivial
  | d :: ds, A, h1 => by
    obtain ⟨ad, cs, h2, h3, h4, h5, h6, h7⟩ := h1
    exact ⟨ad, cs, h2, hk _ h4 h3, Nat.lt_of_lt_of_le h4 h.size, Rd.keep h hk d cs h5, fun j u hu => (World.cell?_of_block (by rw [add_block]; exact h.same _ h3 h4)).trans (h6 j u hu), RdE.keep h hk ds _ h7⟩
end
mutual
theorem Rd.length {ok : Nat → Prop} {w : World} : ∀ (d : D) (cs : List Value), Rd ok w d cs → cs.length = d.wd
  | .int _ _, _, h => by simp only [Rd] at h; subst h; rfl
  | .bool _, _, h => by simp only [Rd] at h; subst h; rfl
  | .str _, _, h => by simp only [Rd] at h; subst h; rfl
  | .st fs, cs, h => RdF.len fs cs h
  | .sl ds, cs, h => by obtain ⟨A, c, rfl, _⟩ := h; rfl
theorem RdF.len {ok : Nat → Prop} {w : World} : ∀ (ds : List D) (cs : List Value), RdF ok w ds cs → cs.length = D.wds ds
  | [], cs, h => by simp only [RdF] at h; subst h; rfl
  | d :: ds, cs, h => by
    obtain ⟨c1, c2, rfl, h2, h3⟩ := h
    rw [List.length_append, Rd.length d c1 h2, RdF.len ds c2 h3]
    rfl
end
theorem addr_add_add (a : Addr) (i j : Nat) (h : a.spot = none) : (a.add i).add j = a.add (i + j) := by
  cases a with
  | mk b o s =>
    simp only at h
    subst h
    unfold Addr.add
    by_cases h1 : i = 0
    · subst h1; simp
    · by_cases h2 : j = 0
      · subst h2; simp
      · have h3 : ¬ i + j = 0 := by omega
        simp only [h1, h2, h3, if_false]
        simp
theorem cell_spot {w : World} {a : Addr} {v : Value} (h : w.cell? a = some v) : a.spot = none := by
  unfold World.cell? at h
  split at h
  · cases hs : a.spot with
    | none => rfl
    | some x => simp [hs] at h
  · cases h
/-- Element 'i' of a slice all of whose elements have 'z' cells. -/
theorem RdE.get {ok : Nat → Prop} {w : World} {z : Nat} (hz : 0 < z) : ∀ (ds : List D) (A : Option Addr), (∀ d ∈ ds, d.wd = z) → RdE ok w ds A → ∀ i (hi : i < ds.length),
    ∃ ad cs, A = some ad ∧ ok ad.block ∧ ad.block < w.heap.size ∧ Rd ok w ds[i] cs ∧ (∀ j u, cs[j]? = some u → w.cell? ((ad.add (i * z)).add j) = some u)
  | [], _, _, _, i, hi => absurd hi (by simp)
  | d :: ds, A, hw, h, i, hi => by
    obtain ⟨ad, cs, rfl, h3, h4, h5, h6, h7⟩ := h
    have hl : cs.length = z := by rw [Rd.length d cs h5]; exact hw d (by simp)
    cases i with
    | zero =>
      refine ⟨ad, cs, rfl, h3, h4, h5, fun j u hu => ?_⟩
      rw [Nat.zero_mul]
      have : ad.add 0 = ad := rfl
      rw [this]
      exact h6 j u hu
    | succ i =>
      have hi' : i < ds.length := by simpa using hi
      obtain ⟨ad', cs', h8, h9, h10, h11, h12⟩ := RdE.get hz ds _ (fun x hx => hw x (by simp [hx])) h7 i hi'
      have hsp : ad.spot = none := by
        cases cs with
        | nil => simp at hl; omega
        | cons v vs => exact cell_spot (h6 0 v rfl)
      obtain rfl : ad.add cs.length = ad' := by simpa using h8
      refine ⟨ad, cs', rfl, h3, h4, h11, fun j u hu => ?_⟩
      have := h12 j u hu
      rw [addr_add_add _ _ _ (by rw [hl]; unfold Addr.add; split <;> first | exact hsp | rfl), addr_add_add _ _ _ hsp] at this
      rw [addr_add_add _ _ _ hsp]
      have e : cs.length + (i * z + j) = (i + 1) * z + j := by rw [hl, Nat.add_mul]; omega
      rw [← e]
      exact this

theorem RdF.append {ok : Nat → Prop} {w : World} : ∀ {ds ds' : List D} {cs cs' : List Value}, RdF ok w ds cs → RdF ok w ds' cs' → RdF ok w (ds ++ ds') (cs ++ cs')
  | [], _, cs, _, h, h' => by
    simp only [RdF] at h
    subst h
    exact h'
  | d :: ds, _, _, _, ⟨c1, c2, rfl, h2, h3⟩, h' => ⟨c1, _, List.append_assoc _ _ _, h2, RdF.append h3 h'⟩
theorem RdF.one {ok : Nat → Prop} {w : World} {d : D} {cs : List Value} (h : Rd ok w d cs) : RdF ok w [d] cs := ⟨cs, [], by simp, h, rfl⟩
theorem RdF.get {ok : Nat → Prop} {w : World} {z : Nat} : ∀ {ds : List D} {cs : List Value}, (∀ d ∈ ds, d.wd = z) → RdF ok w ds cs → ∀ i (hi : i < ds.length), Rd ok w ds[i] ((cs.drop (i * z)).take z)
  | [], _, _, _, i, hi => absurd hi (by simp)
  | d :: ds, _, hw, ⟨c1, c2, rfl, h2, h3⟩, i, hi => by
    have hl : c1.length = z := by rw [Rd.length d c1 h2]; exact hw d (by simp)
    cases i with
    | zero =>
      rw [Nat.zero_mul, List.drop_zero, ← hl, List.take_left]
      exact h2
    | succ i =>
      have := RdF.get (fun x hx => hw x (by simp [hx])) h3 i (by simpa using hi)
      have e : (c1 ++ c2).drop ((i + 1) * z) = c2.drop (i * z) := by
        rw [List.drop_append, List.drop_of_length_le (by rw [hl, Nat.add_mul]; omega), List.nil_append]
        congr 1
        rw [hl, Nat.add_mul]
        omega
      rw [e]
      exact this
/-- The cells of a slice's elements, one behind the other. -/
theorem RdE.cells {ok : Nat → Prop} {w : World} : ∀ {ds : List D} {A : Option Addr}, RdE ok w ds A → ∃ cs, RdF ok w ds cs ∧ (A = none → ds = []) ∧ ∀ ad, A = some ad → ∀ j u, cs[j]? = some u → w.cell? (ad.add j) = some u
  | [], A, _ => ⟨[], rfl, fun _ => rfl, fun _ _ j u h => by simp at h⟩
  | d :: ds, _, ⟨ad, c1, rfl, h3, h4, h5, h6, h7⟩ => by
    obtain ⟨c2, g1, g2, g3⟩ := RdE.cells h7
    refine ⟨c1 ++ c2, ⟨c1, c2, rfl, h5, g1⟩, (fun h => nomatch h), fun ad' had j u hu => ?_⟩
    obtain rfl : ad = ad' := by simpa using had
    by_cases hj : j < c1.length
    · rw [List.getElem?_append_left hj] at hu
      exact h6 j u hu
    · rw [List.getElem?_append_right (by omega)] at hu
      have h8 := g3 _ rfl (j - c1.length) u hu
      by_cases h0 : c1 = []
      · subst h0
        exact h8
      · have hsp : ad.spot = none := by
          obtain ⟨v, vs, rfl⟩ := List.exists_cons_of_ne_nil h0
          exact cell_spot (h6 0 v rfl)
        rw [addr_add_add _ _ _ hsp] at h8
        have e : c1.length + (j - c1.length) = j := by omega
        rw [e] at h8
        exact h8
/-- Elements that lie in one block. -/
theorem RdE.make {ok : Nat → Prop} {w : World} : ∀ {ds : List D} {cs : List Value} {ad : Addr}, ok ad.block → ad.block < w.heap.size → ad.spot = none → RdF ok w ds cs → (∀ j u, cs[j]? = some u → w.cell? (ad.add j) = some u) → RdE ok w ds (some ad)
  | [], _, _, _, _, _, _, _ => trivial
  | d :: ds, _, ad, h1, h2, hs, ⟨c1, c2, rfl, h3, h4⟩, h5 => by
    refine ⟨ad, c1, rfl, h1, h2, h3, fun j u hu => h5 j u (by rw [List.getElem?_append_left (List.getElem?_eq_some_iff.1 hu).1]; exact hu), ?_⟩
    refine RdE.make (by rw [add_block]; exact h1) (by rw [add_block]; exact h2) (by unfold Addr.add; split <;> first | exact hs | rfl) h4 fun j u hu => ?_
    rw [addr_add_add _ _ _ hs]
    exact h5 _ u (by rw [List.getElem?_append_right (by omega)]; simpa using hu)
def oneC : Value → Bool
  | .agg _ => false
  | .tuple _ => false
  | _ => true
mutual
theorem Rd.one {ok : Nat → Prop} {w : World} : ∀ (d : D) (cs : List Value), Rd ok w d cs → ∀ u ∈ cs, u.oneCell' = true
  | .int _ _, _, h, u, hu => by simp only [Rd] at h; subst h; simp at hu; subst hu; rfl
  | .bool _, _, h, u, hu => by simp only [Rd] at h; subst h; simp at hu; subst hu; rfl
  | .str _, _, h, u, hu => by simp only [Rd] at h; subst h; simp at hu; subst hu; rfl
  | .st fs, cs, h, u, hu => RdF.ones fs cs h u hu
  | .sl ds, cs, h, u, hu => by obtain ⟨A, c, rfl, _⟩ := h; simp at hu; subst hu; rfl
theorem RdF.ones {ok : Nat → Prop} {w : World} : ∀ (ds : List D) (cs : List Value), RdF ok w ds cs → ∀ u ∈ cs, u.oneCell' = true
  | [], cs, h, u, hu => by simp only [RdF] at h; subst h; simp at hu
  | d :: ds, cs, h, u, hu => by
    obtain ⟨c1, c2, rfl, h2, h3⟩ := h
    rcases List.mem_append.1 hu with hu | hu
    · exact Rd.one d c1 h2 u hu
    · exact RdF.ones ds c2 h3 u hu
end

/-! ### Rows: a slice of the call's own, with room to spare; a mark may lie behind its cells (what '[]byte(s)' leaves) -/
def ownG (w : World) (B : Nat) (e : TypeId) (size : Nat) (v : Value) (n : Nat) (xs : List Value) : Prop :=
  xs.length = n * size ∧ ((v = .slice none 0 0 ∧ n = 0) ∨
    ∃ g cap cur fz, v = .slice (some ⟨g, 0, none⟩) n cap ∧ B ≤ g ∧ w.heap[g]? = some (.cells cur e fz) ∧ (fz = (0, 0) ∨ cur.size ≤ fz.1) ∧ n ≤ cap ∧ cap ≤ maxLen ∧ cur.size = cap * size ∧ cur.toList.take (n * size) = xs)
section
variable {w w' : World} {B : Nat} {e : TypeId} {size n : Nat} {v : Value} {xs : List Value}
theorem ownG_of (h : w.ownsRow B e size v n xs) : ownG w B e size v n xs := by
  refine ⟨h.1, ?_⟩
  rcases h.2 with hn | ⟨g, cap, cur, hv, hb, hg, rest⟩
  · exact .inl hn
  · exact .inr ⟨g, cap, cur, _, hv, hb, hg, .inl rfl, rest⟩
theorem ownG.lt (h : ownG w B e size v n xs) : ∀ k, v.ownBlock = some k → B ≤ k ∧ k < w.heap.size := by
  intro k hk
  rcases h.2 with ⟨rfl, _⟩ | ⟨g, cap, cur, fz, rfl, hb, hg, _⟩
  · cases hk
  · obtain rfl : g = k := by simpa [Value.ownBlock] using hk
    exact ⟨hb, (Array.getElem?_eq_some_iff.1 hg).1⟩
theorem ownG.keep (h : ownG w B e size v n xs) (hk : ∀ b, v.ownBlock = some b → w'.heap[b]? = w.heap[b]?) : ownG w' B e size v n xs := by
  refine ⟨h.1, ?_⟩
  rcases h.2 with hn | ⟨g, cap, cur, fz, rfl, hb, hg, rest⟩
  · exact .inl hn
  · exact .inr ⟨g, cap, cur, fz, rfl, hb, (hk g rfl).trans hg, rest⟩
theorem ownG.cells (h : ownG w B e size v n xs) {g : Nat} (hg : v.ownBlock = some g) : ∀ j u, xs[j]? = some u → w.cell? ((⟨g, 0, none⟩ : Addr).add j) = some u := by
  intro j u hu
  rcases h.2 with ⟨rfl, _⟩ | ⟨g', cap, cur, fz, rfl, _, hgg, _, _, _, _, ht⟩
  · cases hg
  · obtain rfl : g' = g := by simpa [Value.ownBlock] using hg
    have : (⟨g', 0, none⟩ : Addr).add j = ⟨g', j, none⟩ := by unfold Addr.add; split <;> simp_all
    rw [this, cell_of_row w g' j cur e fz hgg]
    rw [← ht, List.getElem?_take] at hu
    split at hu
    · simpa using hu
    · cases hu
theorem free_G {g o : Nat} {t : TypeId} {cur : Array Value} {fz : Nat × Nat} (hg : w.heap[g]? = some (.cells cur t fz)) (hf : fz = (0, 0) ∨ cur.size ≤ fz.1) (ho : o < cur.size) : w.frozen? ⟨g, o, none⟩ = false := by
  obtain ⟨lo, hi⟩ := fz
  simp only [World.frozen?, hg, Bool.and_eq_false_iff, decide_eq_false_iff_not]
  rcases hf with h | h
  · cases h
    right
    omega
  · left
    simp only at h
    omega
/-- Cells of such a row are stored. -/
theorem storeCells_G (P : Program) (g o : Nat) (t : TypeId) (fz : Nat × Nat) : ∀ (vs : List Value) (i : Nat) (cur : Array Value) (w : World), w.heap[g]? = some (.cells cur t fz) → (fz = (0, 0) ∨ cur.size ≤ fz.1) → o + i + vs.length ≤ cur.size → (∀ v ∈ vs, v.oneCell' = true) →
    (storeCells ⟨g, o, none⟩ vs i).run P w = .ok () (w.setRow g (cur.toList.take (o + i) ++ vs ++ cur.toList.drop (o + i + vs.length)).toArray)
  | [], i, cur, w, hg, _, _, _ => by
    simp only [storeCells, List.append_nil, List.length_nil, Nat.add_zero, List.take_append_drop, Array.toArray_toList]
    rw [setRow_self w g cur t fz hg]
    rfl
  | v :: rest, i, cur, w, hg, hf, hl, h1 => by
    have hi : o + i < cur.size := by simp at hl; omega
    have hadd : (⟨g, o, none⟩ : Addr).add i = ⟨g, o + i, none⟩ := by unfold Addr.add; split <;> simp_all
    have hst : (store ((⟨g, o, none⟩ : Addr).add i) v).run P w = .ok () (w.setRow g (cur.setIfInBounds (o + i) v)) := by
      rw [hadd, run_store P w _ v _ (h1 v (by simp)), cell_of_row w g (o + i) cur t fz hg]
      simp [free_G hg hf hi, hi, setCell_eq_setRow w g (o + i) cur t fz v hg]
    have ih := storeCells_G P g o t fz rest (i + 1) (cur.setIfInBounds (o + i) v) (w.setRow g (cur.setIfInBounds (o + i) v)) (setRow_heap w g cur _ t _ hg) (by simpa using hf) (by simp at hl ⊢; omega) (fun x hx => h1 x (by simp [hx]))
    simp only [storeCells, Sem.run_bind, hst, Result.andThen_ok, ih, setRow_setRow]
    have e := list_seg_step cur.toList (o + i) v rest (by simp at hl ⊢; omega)
    have e2 : ((cur.setIfInBounds (o + i) v).toList.take (o + (i + 1)) ++ rest ++ (cur.setIfInBounds (o + i) v).toList.drop (o + (i + 1) + rest.length)) = cur.toList.take (o + i) ++ v :: rest ++ cur.toList.drop (o + i + (v :: rest).length) := by
      simpa [Array.toList_setIfInBounds, Nat.add_assoc] using e
    rw [e2]
/-- 'append' onto such a row. -/
theorem append_G {P : Program} (w : World) (B : Nat) (t ty e : TypeId) (i : TypeInfo) (z : Value) (size bytes : Nat) (ht : P.underlying t = some (.slice e)) (hi : P.info? e = some i) (hz : i.zero = some z)
    (hsize : i.size = size) (hby : i.bytes = bytes) (hzs : z.cells.size = size) (hsz : 0 < size)
    (v : Value) (n : Nat) (xs : List Value) (hown : ownG w B e size v n xs)
    (a : Addr) (m c : Nat) (news : List Value) (hl : news.length = m * size) (hnews : ∀ j u, news[j]? = some u → w.cell? (a.add j) = some u) (h1 : ∀ u ∈ news, u.oneCell' = true)
    (h63 : n + m ≤ maxLen) (hbytes : (n + m) * bytes ≤ 140737488355328) (hbase : B ≤ w.heap.size) :
    ∃ v' w', (Builtin.append_ #[t, t] ty #[v, .slice (some a) m c]).run P w = .ok v' w' ∧ ownG w' B e size v' (n + m) (xs ++ news) ∧ w.grownBy w' v.ownBlock ∧ (v'.ownBlock = v.ownBlock ∨ v'.ownBlock = some w.heap.size) := by
  have plain : w.ownsRow B e size v n xs → _ := fun h => run_append_own_at (P := P) w B t ty e i z size bytes ht hi hz hsize hby hzs hsz v n xs h a m c news hl hnews h1 h63 hbytes hbase
  have lift : w.ownsRow B e size v n xs → ∃ v' w', (Builtin.append_ #[t, t] ty #[v, .slice (some a) m c]).run P w = .ok v' w' ∧ ownG w' B e size v' (n + m) (xs ++ news) ∧ w.grownBy w' v.ownBlock ∧ (v'.ownBlock = v.ownBlock ∨ v'.ownBlock = some w.heap.size) := fun h => by
    obtain ⟨v', w', g1, g2, g3, _, g5⟩ := plain h
    exact ⟨v', w', g1, ownG_of g2, g3, g5⟩
  rcases hown.2 with hn | ⟨g, cap, cur, fz, rfl, hB, hg, hf, hc, hm, hcz, htk⟩
  · exact lift ⟨hown.1, .inl hn⟩
  rcases hf with rfl | hf
  · exact lift ⟨hown.1, .inr ⟨g, cap, cur, rfl, hB, hg, hc, hm, hcz, htk⟩⟩
  have hxl : xs.length = n * size := hown.1
  have hlen : (xs ++ news).length = (n + m) * size := by rw [List.length_append, hxl, hl, Nat.add_mul]
  by_cases hroom : n + m ≤ cap
  · have hfit : n * size + news.length ≤ cur.size := by rw [hl, hcz, ← Nat.add_mul]; exact Nat.mul_le_mul_right _ hroom
    have hst := storeCells_G P g (n * size) e fz news 0 cur w hg (.inr hf) (by simpa using hfit) h1
    have hfc := run_firstCells_some (P := P) w i.size m a m c news (by rw [hsize]; exact hl) hnews
    simp only [Nat.add_zero] at hst
    refine ⟨.slice (some ⟨g, 0, none⟩) (n + m) cap, w.setRow g (cur.toList.take (n * size) ++ news ++ cur.toList.drop (n * size + news.length)).toArray, ?_, ⟨hlen, .inr ⟨g, cap, _, fz, rfl, hB, setRow_heap w g cur _ e _ hg, .inr ?_, hroom, hm, ?_, ?_⟩⟩, ⟨rfl, rfl, rfl, by simp [World.setRow], fun k _ hk => setRow_other w g k _ (fun e => hk (by simp [Value.ownBlock, e]))⟩, .inl rfl⟩
    · subst hsize
      simp [Builtin.append_, run_underlying ht, sizeOf, typeInfo, hi, Builtin.lenOf, hroom, hfc, Addr.add_lit, hst]
    · simp only [List.size_toArray, List.length_append, List.length_take, List.length_drop, Array.length_toList]
      omega
    · simp only [List.size_toArray, List.length_append, List.length_take, List.length_drop, Array.length_toList]
      omega
    · simp only [htk]
      rw [← hlen]
      exact List.take_left
  · have hcells := hown.cells (g := g) rfl
    have hr := run_append_grow (P := P) w t ty e i z ht hi hz ⟨g, 0, none⟩ n cap xs (by rw [hsize]; exact hxl) hcells a m c news (by rw [hsize]; exact hl) hnews (by omega) (by simp only [maxLen] at h63; omega) (growslice_fits (by omega) (by rw [hby]; exact hbytes))
    have hge := grownCap_ge w (n + m) cap e
    have hcm := grownCap_le_maxLen w (n + m) cap e h63
    refine ⟨_, _, hr, ⟨hlen, .inr ⟨w.heap.size, _, _, (0, 0), rfl, hbase, heap_alloc_new w.drew _, .inl rfl, hge, hcm, ?_, ?_⟩⟩, ⟨rfl, rfl, rfl, by simp, fun k hk _ => heap_alloc_old w.drew _ hk⟩, .inr rfl⟩
    · simp only [Array.size_append, List.size_toArray, size_zeroCells, hzs, hxl, hl, ← Nat.add_mul]
      congr 1
      omega
    · simp only [Array.toList_append, List.append_assoc]
      rw [← List.append_assoc, ← hlen]
      exact List.take_left
end

/-! ### What turns -/
/-- Only these blocks turn, and new ones come. -/
structure Chg (fp : List Nat) (w w' : World) : Prop where
  os : w'.os = w.os
  tape : w'.tape = w.tape
  output : w'.output = w.output
  size : w.heap.size ≤ w'.heap.size
  block : ∀ b, b < w.heap.size → b ∉ fp → w'.heap[b]? = w.heap[b]?
theorem Chg.refl (fp : List Nat) (w : World) : Chg fp w w := ⟨rfl, rfl, rfl, Nat.le_refl _, fun _ _ _ => rfl⟩
theorem Chg.of {w w' : World} (h : Below w.heap.size w w') (fp : List Nat) : Chg fp w w' := ⟨h.os, h.tape, h.output, h.size, fun b hb _ => h.block b hb⟩
theorem Chg.none {w w' : World} (h : Chg [] w w') : Below w.heap.size w w' := ⟨h.os, h.tape, h.output, h.size, fun b hb => h.block b hb (by simp)⟩
theorem Chg.below {w w' : World} {fp : List Nat} (h : Chg fp w w') {B : Nat} (hB : B ≤ w.heap.size) (hf : ∀ b ∈ fp, B ≤ b) : Below B w w' :=
  ⟨h.os, h.tape, h.output, h.size, fun b hb => h.block b (by omega) fun hm => by have := hf b hm; omega⟩
theorem Chg.mono {w w' : World} {fp fp' : List Nat} (h : Chg fp w w') (hs : ∀ b ∈ fp, b ∈ fp') : Chg fp' w w' := ⟨h.os, h.tape, h.output, h.size, fun b hb hn => h.block b hb fun hm => hn (hs b hm)⟩
theorem Chg.trans {fp fp' : List Nat} {a b c : World} (h : Chg fp a b) (k : Chg fp' b c) (hs : ∀ x ∈ fp', x ∈ fp ∨ a.heap.size ≤ x) : Chg fp a c :=
  ⟨k.os.trans h.os, k.tape.trans h.tape, k.output.trans h.output, Nat.le_trans h.size k.size, fun x hx hn => (k.block x (Nat.lt_of_lt_of_le hx h.size) fun hm => by
    rcases hs x hm with h1 | h1
    · exact hn h1
    · omega).trans (h.block x hx hn)⟩

/-! ### The state of a call -/
/-- Where a call begins: the world, and the blocks that it was lent: these it may turn. -/
structure Start where
  w : World
  bw : List Nat
instance : Coe World Start := ⟨fun w => ⟨w, []⟩⟩
abbrev Start.heap (s : Start) := s.w.heap
def Start.mine (s : Start) (b : Nat) : Prop := b ∈ s.bw ∨ s.w.heap.size ≤ b
/-- What a call has of its own: a block whose cells are known; a slice that it made, which may have room to spare, with its data; or blocks of which something is known that hangs on these blocks alone. -/
inductive It where
  | blk (b : Nat) (cells : List Value) (ty : TypeId)
  | row (v : Value) (e : TypeId) (size : Nat) (ds : List D)
  | own (fp : List Nat) (p : World → Prop)
def It.has : It → Nat → Prop
  | .blk b' _ _, b => b' = b
  | .row v _ _ _, b => v.ownBlock = some b
  | .own fp _, b => b ∈ fp
def It.holds (ok : Nat → Prop) (w : World) : It → Prop
  | .blk b cells ty => w.heap[b]? = some (.cells cells.toArray ty (0, 0))
  | .row v e size ds => (∀ d ∈ ds, d.wd = size) ∧ ∃ xs, ownG w 0 e size v ds.length xs ∧ RdF ok w ds xs
  | .own fp p => (∀ b ∈ fp, b < w.heap.size) ∧ ∀ w' : World, (∀ b ∈ fp, w'.heap[b]? = w.heap[b]?) → p w'
/-- What it may read: cells that hold data; an address with its cells. -/
inductive Fa where
  | dat (cs : List Value) (d : D)
  | at (ad : Addr) (cs : List Value)
def Fa.holds (ok : Nat → Prop) (w : World) : Fa → Prop
  | .dat cs d => Rd ok w d cs
  | .at ad cs => ok ad.block ∧ ad.block < w.heap.size ∧ ∀ j u, cs[j]? = some u → w.cell? (ad.add j) = some u
theorem Fa.keep {ok ok' : Nat → Prop} {w w' : World} (h : Keeps ok w w') (hk : ∀ b, b < w.heap.size → ok b → ok' b) : ∀ {f : Fa}, f.holds ok w → f.holds ok' w'
  | .dat cs d, h1 => Rd.keep h hk d cs h1
  | .at ad cs, ⟨h1, h2, h3⟩ => ⟨hk _ h2 h1, Nat.lt_of_lt_of_le h2 h.size, fun j u hu => (World.cell?_of_block (by rw [add_block]; exact h.same _ h1 h2)).trans (h3 j u hu)⟩
/-- Blocks that may be read, beside the call's own: those that the caller says, and new ones. -/
def okS (ok : Nat → Prop) (B : Nat) (C : List It) (b : Nat) : Prop := (ok b ∨ B ≤ b) ∧ ∀ x ∈ C, ¬ x.has b
structure St (ok : Nat → Prop) (W0 : Start) (C : List It) (F : List Fa) (w : World) : Prop where
  chg : Chg W0.bw W0.w w
  own : ∀ x ∈ C, x.holds (okS ok W0.heap.size C) w
  mine : ∀ x ∈ C, ∀ b, x.has b → W0.mine b
  apart : C.Pairwise fun x y => ∀ b, x.has b → ¬ y.has b
  fa : ∀ f ∈ F, f.holds (okS ok W0.heap.size C) w
section
variable {ok ok' : Nat → Prop} {W0 : Start} {w w' : World} {C C' : List It} {F F' : List Fa}
theorem It.lt : ∀ {x : It}, x.holds ok w → ∀ b, x.has b → b < w.heap.size
  | .blk b cells ty, h2, b', hb => by
    simp only [It.has] at hb
    subst hb
    exact (Array.getElem?_eq_some_iff.1 h2).1
  | .row v e size ds, ⟨_, xs, h, _⟩, b', hb => (ownG.lt h b' hb).2
  | .own fp p, ⟨h, _⟩, b, hb => h b hb
theorem It.keep (hs : Keeps ok w w') (hi : ∀ b, b < w.heap.size → ok b → ok' b) : ∀ {x : It}, x.holds ok w → (∀ b, x.has b → w'.heap[b]? = w.heap[b]?) → x.holds ok' w'
  | .blk b cells ty, h2, hk => (hk b rfl).trans h2
  | .row v e size ds, ⟨h0, xs, h, h2⟩, hk => ⟨h0, xs, ownG.keep h hk, RdF.keep hs hi ds xs h2⟩
  | .own fp p, ⟨h1, h2⟩, hk => ⟨fun b hb => Nat.lt_of_lt_of_le (h1 b hb) hs.size, fun w2 h => h2 w2 fun b hb => (h b hb).trans (hk b hb)⟩
theorem St.start (ok : Nat → Prop) (w : World) : St ok (w : Start) [] [] w := ⟨Chg.refl _ _, fun _ h => (List.not_mem_nil h).elim, fun _ h => (List.not_mem_nil h).elim, List.Pairwise.nil, fun _ h => (List.not_mem_nil h).elim⟩
theorem St.below {w0 : World} (s : St ok (w0 : Start) C F w) : Below w0.heap.size w0 w := s.chg.none
theorem St.size (s : St ok W0 C F w) : W0.w.heap.size ≤ w.heap.size := s.chg.size
/-- It begins with things that it was lent. -/
theorem St.lent (ok : Nat → Prop) (w : World) (bw : List Nat) {C : List It} (h1 : ∀ x ∈ C, x.holds (okS ok w.heap.size C) w) (h2 : ∀ x ∈ C, ∀ b, x.has b → b ∈ bw) (h3 : C.Pairwise fun x y => ∀ b, x.has b → ¬ y.has b) : St ok ⟨w, bw⟩ C [] w :=
  ⟨Chg.refl _ _, h1, fun x hx b hb => .inl (h2 x hx b hb), h3, fun _ h => (List.not_mem_nil h).elim⟩
/-- More is known. -/
theorem St.know (s : St ok W0 C F w) {f : Fa} (h : f.holds (okS ok W0.heap.size C) w) : St ok W0 C (f :: F) w :=
  ⟨s.chg, s.own, s.mine, s.apart, fun g hg => by
    rcases List.mem_cons.1 hg with rfl | hg
    · exact h
    · exact s.fa g hg⟩
/-- Less is said. -/
theorem St.less (s : St ok W0 C F w) (h : ∀ f ∈ F', f ∈ F) : St ok W0 C F' w := ⟨s.chg, s.own, s.mine, s.apart, fun f hf => s.fa f (h f hf)⟩
/-- The world goes on in such a way that all that is known stays. -/
theorem St.step (s : St ok W0 C F w) (h : Below w.heap.size w w') : St ok W0 C F w' :=
  ⟨s.chg.trans (Chg.of h []) (fun _ h => (List.not_mem_nil h).elim), fun x hx => It.keep (Keeps.below h _) (fun _ _ hb => hb) (s.own x hx) (fun b hb => h.block b (It.lt (s.own x hx) b hb)), s.mine, s.apart,
    fun f hf => Fa.keep (Keeps.below h _) (fun _ _ hb => hb) (s.fa f hf)⟩
theorem St.drew (s : St ok W0 C F w) : St ok W0 C F w.drew := s.step (Below.refl _ _).drew
/-- New things of its own, in new blocks. -/
theorem St.more (s : St ok W0 C F w) {x : It} (h : Below w.heap.size w w') (hx : x.holds (okS ok W0.heap.size (x :: C)) w') (hob : ∀ b, x.has b → w.heap.size ≤ b) : St ok W0 (x :: C) F w' := by
  have hi : ∀ b, b < w.heap.size → okS ok W0.heap.size C b → okS ok W0.heap.size (x :: C) b := fun b hlt hok => ⟨hok.1, fun y hy => by
    rcases List.mem_cons.1 hy with rfl | hy
    · intro e
      have := hob b e
      omega
    · exact hok.2 y hy⟩
  refine ⟨s.chg.trans (Chg.of h []) (fun _ h => (List.not_mem_nil h).elim), fun y hy => ?_, fun y hy b hb => ?_, ?_, fun f hf => ?_⟩
  · rcases List.mem_cons.1 hy with rfl | hy
    · exact hx
    · exact It.keep (Keeps.below h _) hi (s.own y hy) (fun b hb' => h.block b (It.lt (s.own y hy) b hb'))
  · rcases List.mem_cons.1 hy with rfl | hy
    · exact .inr (Nat.le_trans s.size (hob b hb))
    · exact s.mine y hy b hb
  · refine List.Pairwise.cons (fun y hy b hb1 hb2 => ?_) s.apart
    have := hob b hb1
    have := It.lt (s.own y hy) b hb2
    omega
  · exact Fa.keep (Keeps.below h _) hi (s.fa f hf)
/-- A new block. -/
theorem St.alloc (s : St ok W0 C F w) (cells : List Value) (ty : TypeId) : St ok W0 (.blk w.heap.size cells ty :: C) F (w.alloc (.cells cells.toArray ty)) :=
  s.more ((Below.refl _ _).alloc (Nat.le_refl _) _) (heap_alloc_new w _) (fun b hb => by simp only [It.has] at hb; omega)
theorem set_split {α : Type} : ∀ {l : List α} {k : Nat} {x : α} (x' : α), l[k]? = some x → ∃ l1 l2, l = l1 ++ x :: l2 ∧ l.set k x' = l1 ++ x' :: l2
  | [], k, x, x', h => by simp at h
  | a :: l, 0, x, x', h => by
    obtain rfl : a = x := by simpa using h
    exact ⟨[], l, rfl, rfl⟩
  | a :: l, k + 1, x, x', h => by
    obtain ⟨l1, l2, rfl, h2⟩ := set_split x' (show l[k]? = some x by simpa using h)
    exact ⟨a :: l1, l2, rfl, by simp [h2]⟩
/-- One thing of its own is turned into another one that lies in the same blocks, or in new ones; nothing else turns. -/
theorem St.turn {k : Nat} {x x' : It} (s : St ok W0 C F w) (hk0 : C[k]? = some x) (hs : w.heap.size ≤ w'.heap.size) (ho : w'.os = w.os) (ht : w'.tape = w.tape) (hp : w'.output = w.output)
    (hk : ∀ b, b < w.heap.size → ¬ x.has b → w'.heap[b]? = w.heap[b]?) (hob : ∀ b, x'.has b → x.has b ∨ w.heap.size ≤ b)
    (hx : x'.holds (okS ok W0.heap.size (C.set k x')) w') : St ok W0 (C.set k x') F w' := by
  obtain ⟨C1, C2, rfl, hset⟩ := set_split x' hk0
  rw [hset] at hx ⊢
  have hmem : x ∈ C1 ++ x :: C2 := by simp
  have hlt := It.lt (s.own x hmem)
  have hne : ∀ y ∈ C1 ++ C2, ∀ b, x.has b → ¬ y.has b := by
    intro y hy b hb hyb
    rcases List.mem_append.1 hy with hy | hy
    · have := (List.pairwise_append.1 s.apart).2.2 y hy x (by simp) b hyb
      exact this hb
    · have := (List.pairwise_cons.1 (List.pairwise_append.1 s.apart).2.1).1 y hy b hb
      exact this hyb
  have hb : Chg W0.bw W0.w w' := ⟨ho.trans s.chg.os, ht.trans s.chg.tape, hp.trans s.chg.output, Nat.le_trans s.size hs, fun b hb hn => (hk b (Nat.lt_of_lt_of_le hb s.size) (fun e => by
    rcases s.mine _ hmem b e with h | h
    · exact hn h
    · omega)).trans (s.chg.block b hb hn)⟩
  have hi : ∀ b, b < w.heap.size → okS ok W0.heap.size (C1 ++ x :: C2) b → okS ok W0.heap.size (C1 ++ x' :: C2) b := fun b hlt1 hok => ⟨hok.1, fun y hy => by
    rcases List.mem_append.1 hy with hy | hy
    · exact hok.2 y (by simp [hy])
    · rcases List.mem_cons.1 hy with rfl | hy
      · intro e
        rcases hob b e with h | h
        · exact hok.2 x hmem h
        · omega
      · exact hok.2 y (by simp [hy])⟩
  have hkp : Keeps (okS ok W0.heap.size (C1 ++ x :: C2)) w w' := ⟨hs, fun b hb1 hb2 => hk b hb2 (hb1.2 x hmem)⟩
  have hold : ∀ y ∈ C1 ++ C2, y.holds (okS ok W0.heap.size (C1 ++ x :: C2)) w ∧ y.holds (okS ok W0.heap.size (C1 ++ x' :: C2)) w' := by
    intro y hy
    have hy1 : y.holds (okS ok W0.heap.size (C1 ++ x :: C2)) w := s.own y (by rcases List.mem_append.1 hy with h | h <;> simp [h])
    exact ⟨hy1, It.keep hkp hi hy1 fun b hyb => hk b (It.lt hy1 b hyb) (fun e => hne y hy b e hyb)⟩
  have hx'ne : ∀ y ∈ C1 ++ C2, ∀ b, x'.has b → ¬ y.has b := by
    intro y hy b hb1 hyb
    rcases hob b hb1 with h | h
    · exact hne y hy b h hyb
    · have h2 := It.lt (hold y hy).1 b hyb
      omega
  refine ⟨hb, fun y hy => ?_, fun y hy b hyb => ?_, ?_, fun f hf => Fa.keep hkp hi (s.fa f hf)⟩
  · rcases List.mem_append.1 hy with hy | hy
    · exact (hold y (by simp [hy])).2
    · rcases List.mem_cons.1 hy with rfl | hy
      · exact hx
      · exact (hold y (by simp [hy])).2
  · rcases List.mem_append.1 hy with hy | hy
    · exact s.mine y (by simp [hy]) b hyb
    · rcases List.mem_cons.1 hy with rfl | hy
      · rcases hob b hyb with h | h
        · exact s.mine _ hmem b h
        · exact .inr (Nat.le_trans s.size h)
      · exact s.mine y (by simp [hy]) b hyb
  · have h1 := List.pairwise_append.1 s.apart
    refine List.pairwise_append.2 ⟨h1.1, List.pairwise_cons.2 ⟨fun y hy => hx'ne y (by simp [hy]), (List.pairwise_cons.1 h1.2.1).2⟩, fun y hy z hz => ?_⟩
    rcases List.mem_cons.1 hz with rfl | hz
    · exact fun b hb1 hb2 => hx'ne y (by simp [hy]) b hb2 hb1
    · exact h1.2.2 y hy z (by simp [hz])
/-- The same, where the new thing's data are known beside the old state. -/
theorem okS_set {B : Nat} {k : Nat} {x x' : It} (hk0 : C[k]? = some x) (hob : ∀ b, x'.has b → x.has b ∨ w.heap.size ≤ b) : ∀ b, b < w.heap.size → okS ok B C b → okS ok B (C.set k x') b := by
  intro b hlt hok
  refine ⟨hok.1, fun y hy => ?_⟩
  rcases List.mem_or_eq_of_mem_set hy with hy | rfl
  · exact hok.2 y hy
  · intro e
    rcases hob b e with h | h
    · exact hok.2 x (List.mem_of_getElem? hk0) h
    · omega
/-- Things are forgotten; what they held may be read from then on. -/
theorem St.drop (s : St ok W0 C F w) (k : Nat) : St ok W0 (C.eraseIdx k) F w := by
  have hsub : (C.eraseIdx k).Sublist C := List.eraseIdx_sublist C k
  have hi : ∀ b, b < w.heap.size → okS ok W0.heap.size C b → okS ok W0.heap.size (C.eraseIdx k) b := fun b _ hok => ⟨hok.1, fun y hy => hok.2 y (hsub.subset hy)⟩
  exact ⟨s.chg, fun x hx => It.keep (Keeps.refl _ _) hi (s.own x (hsub.subset hx)) (fun _ _ => rfl), fun x hx => s.mine x (hsub.subset hx), s.apart.sublist hsub, fun f hf => Fa.keep (Keeps.refl _ _) hi (s.fa f hf)⟩
/-- In another order, or without some. -/
theorem St.pick (s : St ok W0 C F w) (h : ∀ x ∈ C', x ∈ C) (hp : C'.Pairwise fun x y => ∀ b, x.has b → ¬ y.has b) : St ok W0 C' F w := by
  have hi : ∀ b, b < w.heap.size → okS ok W0.heap.size C b → okS ok W0.heap.size C' b := fun b _ hok => ⟨hok.1, fun y hy => hok.2 y (h y hy)⟩
  exact ⟨s.chg, fun x hx => It.keep (Keeps.refl _ _) hi (s.own x (h x hx)) (fun _ _ => rfl), fun x hx => s.mine x (h x hx), hp, fun f hf => Fa.keep (Keeps.refl _ _) hi (s.fa f hf)⟩
/-- What a call tells of its results. -/
def okR (ok : Nat → Prop) (w : World) (b : Nat) : Prop := ok b ∨ w.heap.size ≤ b
theorem St.res (s : St ok W0 C F w) (h : Below w.heap.size w w') {cs : List Value} {d : D} (hd : Rd (okR (okS ok W0.heap.size C) w) w' d cs) : Rd (okS ok W0.heap.size C) w' d cs :=
  Rd.keep (Keeps.refl _ _) (fun b _ hb => by
    rcases hb with hb | hb
    · exact hb
    · exact ⟨.inr (Nat.le_trans s.size hb), fun x hx e => by
        have := It.lt (s.own x hx) b e
        omega⟩) d cs hd
/-- At the end: what the caller is told. -/
theorem St.tell {w0 : World} (s : St ok (w0 : Start) C F w) {cs : List Value} {d : D} (hd : Rd (okS ok (w0 : Start).heap.size C) w d cs) : Rd (okR ok w0) w d cs := Rd.keep (Keeps.refl _ _) (fun b _ hb => hb.1) d cs hd
/-- A row of its own becomes something that is read. -/
theorem row_dat {v : Value} {e : TypeId} {size : Nat} {ds : List D} (h : (It.row v e size ds).holds ok w) (hk : ∀ b, v.ownBlock = some b → ok b) : Rd ok w (.sl ds) [v] := by
  obtain ⟨h0, xs, h1, h2⟩ := h
  rcases h1.2 with ⟨rfl, hn⟩ | ⟨g, cap, cur, fz, rfl, hb, hg, hf, hc, hm, hz, ht⟩
  · obtain rfl : ds = [] := List.eq_nil_of_length_eq_zero hn
    exact ⟨none, 0, rfl, by simp, trivial⟩
  · refine ⟨_, cap, rfl, hc, RdE.make (hk g rfl) (Array.getElem?_eq_some_iff.1 hg).1 rfl h2 (ownG.cells h1 rfl)⟩
/-- Number 'k' is apart from all others. -/
theorem St.others (s : St ok W0 C F w) {k : Nat} {x : It} (hk : C[k]? = some x) : ∀ y ∈ C.eraseIdx k, ∀ b, x.has b → ¬ y.has b := by
  intro y hy b hb hyb
  obtain ⟨i, hi, hne⟩ : ∃ i, C[i]? = some y ∧ i ≠ k := by
    obtain ⟨i, hi⟩ := List.getElem?_of_mem hy
    rw [List.getElem?_eraseIdx] at hi
    split at hi
    · exact ⟨i, hi, by omega⟩
    · exact ⟨i + 1, hi, by omega⟩
  have hp := List.pairwise_iff_getElem.1 s.apart
  obtain ⟨h5, h6⟩ := List.getElem?_eq_some_iff.1 hi
  obtain ⟨h7, h8⟩ := List.getElem?_eq_some_iff.1 hk
  rcases Nat.lt_or_gt_of_ne hne with hlt | hlt
  · exact hp i k h5 h7 hlt b (by rw [h6]; exact hyb) (by rw [h8]; exact hb)
  · exact hp k i h7 h5 hlt b (by rw [h8]; exact hb) (by rw [h6]; exact hyb)
theorem St.freezeL (s : St ok W0 C F w) {k : Nat} {v : Value} {e : TypeId} {size : Nat} {ds : List D} (hk : C[k]? = some (.row v e size ds)) (hm : ∀ b, v.ownBlock = some b → ok b ∨ W0.heap.size ≤ b) : St ok W0 (C.eraseIdx k) (.dat [v] (.sl ds) :: F) w := by
  have hmem := List.mem_of_getElem? hk
  have hsub : (C.eraseIdx k).Sublist C := List.eraseIdx_sublist C k
  have s' := s.drop k
  refine s'.know ?_
  have h1 := s.own _ hmem
  refine row_dat (e := e) (size := size) (It.keep (Keeps.refl _ _) (fun b _ hok => ⟨hok.1, fun y hy => hok.2 y (hsub.subset hy)⟩) h1 (fun _ _ => rfl)) fun b hb => ?_
  exact ⟨hm b hb, fun y hy hyb => s.others hk y hy b hb hyb⟩
theorem St.freeze {w0 : World} (s : St ok (w0 : Start) C F w) {k : Nat} {v : Value} {e : TypeId} {size : Nat} {ds : List D} (hk : C[k]? = some (.row v e size ds)) : St ok (w0 : Start) (C.eraseIdx k) (.dat [v] (.sl ds) :: F) w :=
  s.freezeL hk fun b hb => (s.mine _ (List.mem_of_getElem? hk) b hb).elim (fun h => (List.not_mem_nil h).elim) .inr
end
end Go.Proofs.Ytkefaelmamgjiaa
