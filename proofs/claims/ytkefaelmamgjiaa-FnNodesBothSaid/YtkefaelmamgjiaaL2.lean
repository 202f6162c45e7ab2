/- Plain facts on trees: how big a tree is that is ok, parts at paths, trees with something else at a path. -/
import Derived.Test.YtkefaelmamgjiaaS7
import Derived.Test.YtkefaelmamgjiaaL1
set_option linter.unusedVariables false
set_option linter.unusedSimpArgs false
set_option maxHeartbeats 1000000
namespace Go.Proofs.Ytkefaelmamgjiaa
open Go.RowKit

theorem Tr.at_some {n : ByteArray} {p : List ByteArray} {t x : Tr} (h : Tr.at (n :: p) t = some x) : ∃ k ∈ t.kids, Tr.at p k = some x := by
  rw [Tr.at] at h
  split at h
  · cases h
  · split at h
    · exact ⟨_, List.mem_of_getElem? (by assumption), h⟩
    · cases h
theorem Tr.at_wt : ∀ (p : List ByteArray) (t x : Tr), Tr.at p t = some x → x.wt ≤ t.wt
  | [], t, x, h => by simp only [Tr.at, Option.some.injEq] at h; subst h; exact Nat.le_refl _
  | n :: p, t, x, h => by
    obtain ⟨k, hk, hx⟩ := Tr.at_some h
    have := Tr.at_wt p k x hx
    have := wts_mem hk
    have := t.wt_eq
    omega
theorem Tr.at_even : ∀ (p : List ByteArray) (t x : Tr), Tr.at p t = some x → t.Even → x.Even
  | [], t, x, h, he => by simp only [Tr.at, Option.some.injEq] at h; subst h; exact he
  | n :: p, t, x, h, he => by
    obtain ⟨k, hk, hx⟩ := Tr.at_some h
    exact Tr.at_even p k x hx (he.kid k hk)
theorem Tr.zero_even : Tr.zero.Even := by simp [Tr.zero, Tr.Even, Tr.Evens]
theorem Tr.zero_wt : Tr.zero.wt = 1 := rfl
theorem Tr.atD_wt (p : List ByteArray) (t : Tr) : ((Tr.at p t).getD Tr.zero).wt ≤ t.wt := by
  cases h : Tr.at p t with
  | none => exact t.wt_pos
  | some x => exact Tr.at_wt p t x h
theorem Tr.atD_even (p : List ByteArray) {t : Tr} (he : t.Even) : ((Tr.at p t).getD Tr.zero).Even := by
  cases h : Tr.at p t with
  | none => exact Tr.zero_even
  | some x => exact Tr.at_even p t x h he
theorem Tr.even_mk {d : Bool} {m : Int} {s : ByteArray} {ns : List ByteArray} {ks : List Tr} (h : ns.length = ks.length) (hk : ∀ k ∈ ks, k.Even) : (Tr.mk d m s ns ks).Even := ⟨h, Tr.Evens_iff.2 hk⟩
theorem setZ_mem {f : Tr → Tr} {one gone : Bool} {q : ByteArray} {x : Tr} : ∀ (ks : List Tr) (ns : List ByteArray) (done : Bool), ∀ y ∈ setZ f one gone q x ks ns done, y.2 = x ∨ ∃ k ∈ ks, y.2 = k ∨ y.2 = f k
  | [], ns, done, y, hy => by
    simp only [setZ] at hy
    cases hc : (one && !done && !gone) <;> simp [hc] at hy
    exact .inl (by rw [hy])
  | k :: ks, [], done, y, hy => by
    simp only [setZ] at hy
    cases hc : (one && !done && !gone) <;> simp [hc] at hy
    exact .inl (by rw [hy])
  | k :: ks, n :: ns, done, y, hy => by
    simp only [setZ, List.mem_append] at hy
    rcases hy with hy | hy | hy
    · cases hc : setIns one gone q n done <;> simp [hc] at hy
      exact .inl (by rw [hy])
    · cases hc : (decide (n = q) && one) <;> simp [hc] at hy
      refine .inr ⟨k, .head _, ?_⟩
      rw [hy]
      cases decide (n = q) <;> simp
    · rcases setZ_mem ks ns _ y hy with h | ⟨j, hj, h⟩
      · exact .inl h
      · exact .inr ⟨j, .tail _ hj, h⟩
theorem setP_even : ∀ (p : List ByteArray) (x : Tr) (gone : Bool) (t : Tr), x.Even → t.Even → (setP p x gone t).Even
  | [], x, gone, t, hx, ht => by rw [setP]; exact ht
  | q :: p, x, gone, t, hx, ht => by
    rw [setP]
    refine Tr.even_mk (by simp) ?_
    intro k hk
    obtain ⟨y, hy, rfl⟩ := List.mem_map.1 hk
    rcases setZ_mem _ _ _ y hy with h | ⟨j, hj, h | h⟩
    · rw [h]; exact hx
    · rw [h]; exact ht.kid j hj
    · rw [h]; exact setP_even p x gone j hx (ht.kid j hj)
def Tr.wData (t : Tr) (d : ByteArray) : Tr := .mk t.dir t.mode d t.names t.kids
def Tr.wMode (t : Tr) (m : Int) : Tr := .mk t.dir m t.data t.names t.kids
theorem Tr.wData_even {t : Tr} (h : t.Even) (d : ByteArray) : (t.wData d).Even := Tr.even_mk h.len h.kid
theorem Tr.wMode_even {t : Tr} (h : t.Even) (m : Int) : (t.wMode m).Even := Tr.even_mk h.len h.kid
theorem Tr.wData_wt (t : Tr) (d : ByteArray) : (t.wData d).wt ≤ t.wt + d.size := by rw [t.wt_eq]; simp only [Tr.wData, Tr.wt]; omega
theorem Tr.wMode_wt (t : Tr) (m : Int) : (t.wMode m).wt = t.wt := by rw [t.wt_eq]; simp only [Tr.wMode, Tr.wt]
theorem writeB_size (s : ByteArray) (a : Nat) (d : ByteArray) : (writeB s a d).size = max s.size (a + d.size) := by
  have e : ∀ l : List UInt8, (⟨l.toArray⟩ : ByteArray).size = l.length := fun l => by simp [ByteArray.size]
  have h1 : s.data.toList.length = s.size := rfl
  have h2 : d.data.toList.length = d.size := rfl
  rw [writeB, e]
  simp only [writeL, List.length_append, List.length_take, List.length_drop, List.length_replicate, h1, h2]
  omega
theorem nameFrom_size (s : ByteArray) : ∀ m i, s.size - i = m → nameFrom s i = true → 1 ≤ s.size ∧ s.size ≤ 5 := by
  intro m
  induction m with
  | zero =>
    intro i hi h
    rw [nameFrom, dif_neg (by omega)] at h
    simp [inI] at h
    omega
  | succ m ih =>
    intro i hi h
    rw [nameFrom, dif_pos (by omega)] at h
    simp only [Bool.and_eq_true] at h
    exact ih (i + 1) (by omega) h.2
theorem namesUp_all (ns : List ByteArray) : ∀ m i, ns.length - i = m → namesUp ns i = true → ∀ j (hj : j < ns.length), i ≤ j → nameFrom ns[j] 0 = true := by
  intro m
  induction m with
  | zero => intro i hi h j hj hij; omega
  | succ m ih =>
    intro i hi h j hj hij
    rw [namesUp, dif_pos (by omega)] at h
    simp only [Bool.and_eq_true] at h
    by_cases hji : i = j
    · subst hji; exact h.1.1
    · exact ih (i + 1) (by omega) h.2 j hj (by omega)
theorem namesWt_le {ns : List ByteArray} (h : ∀ n ∈ ns, nameFrom n 0 = true) : namesWt ns ≤ 6 * ns.length := by
  induction ns with
  | nil => simp [namesWt]
  | cons n r ih =>
    have := ih fun x hx => h x (.tail _ hx)
    have := (nameFrom_size n _ 0 rfl (h n (.head _))).2
    simp only [namesWt, List.length_cons]
    omega
theorem Tr.plain_names {t : Tr} (h : t.plainOk = true) : ∀ n ∈ t.names, nameFrom n 0 = true := by
  simp only [Tr.plainOk, Bool.and_eq_true, decide_eq_true_eq] at h
  intro n hn
  obtain ⟨j, hj, rfl⟩ := List.getElem_of_mem hn
  cases hd : t.dir with
  | true =>
    simp only [hd, cond_true, Bool.and_eq_true] at h
    exact namesUp_all _ _ 0 rfl h.2.1 j hj (by omega)
  | false =>
    simp only [hd, cond_false, Bool.and_eq_true, decide_eq_true_eq] at h
    omega
theorem Tr.plain_data {t : Tr} (h : t.plainOk = true) : t.data.size ≤ 24 := by
  simp only [Tr.plainOk, Bool.and_eq_true, decide_eq_true_eq] at h
  cases hd : t.dir with
  | true =>
    simp only [hd, cond_true, Bool.and_eq_true, decide_eq_true_eq] at h
    rw [h.2.2]
    decide
  | false =>
    simp only [hd, cond_false, Bool.and_eq_true, decide_eq_true_eq] at h
    exact h.2.1
theorem Tr.plain_even {t : Tr} (h : t.plainOk = true) : t.names.length = t.kids.length := by
  simp only [Tr.plainOk, Bool.and_eq_true, decide_eq_true_eq] at h
  exact h.1.2
mutual
theorem Tr.parts_wt : ∀ (t : Tr) (dep : Nat), t.partsOk dep = true → t.wt ≤ 25 + 31 * t.count ∧ t.Even
  | .mk d m s ns ks, dep, h => by
    simp only [Tr.partsOk, Bool.and_eq_true] at h
    have h1 := namesWt_le (Tr.plain_names h.1.1)
    have h2 := Tr.plain_data h.1.1
    have h3 := Tr.plain_even h.1.1
    have h4 := Tr.parts_wts ks _ h.2
    simp only [Tr.wt, Tr.count, Tr.names, Tr.data, Tr.kids] at *
    exact ⟨by omega, h3, h4.2⟩
theorem Tr.parts_wts : ∀ (ts : List Tr) (dep : Nat), Tr.partsOks ts dep = true → Tr.wts ts ≤ 25 * ts.length + 31 * Tr.counts ts ∧ Tr.Evens ts
  | [], dep, h => ⟨by simp [Tr.wts], trivial⟩
  | t :: ts, dep, h => by
    simp only [Tr.partsOks, Bool.and_eq_true] at h
    have h1 := Tr.parts_wt t _ h.1
    have h2 := Tr.parts_wts ts _ h.2
    simp only [Tr.wts, Tr.counts, List.length_cons]
    exact ⟨by omega, h1.2, h2.2⟩
end
theorem Tr.ok_wt {t : Tr} (h : t.ok = true) : t.wt ≤ 1000 := by
  simp only [Tr.ok, Bool.and_eq_true, decide_eq_true_eq] at h
  have := (Tr.parts_wt t 0 h.1.2).1
  omega
theorem Tr.ok_even {t : Tr} (h : t.ok = true) : t.Even := by
  simp only [Tr.ok, Bool.and_eq_true, decide_eq_true_eq] at h
  exact (Tr.parts_wt t 0 h.1.2).2
theorem pathOk_wt {p : List ByteArray} (h : pathOk p = true) : namesWt p ≤ 24 ∧ p ≠ [] ∧ p.length ≤ 4 := by
  simp only [pathOk, Bool.and_eq_true, List.all_eq_true, inI, decide_eq_true_eq] at h
  have := namesWt_le h.1
  refine ⟨by omega, ?_, by omega⟩
  rintro rfl
  simp at h
theorem Tr.zero_rd {ok : Nat → Prop} {w : World} : Rd ok w Tr.zero.toD tr0 := Rd_mk5 rfl rfl rfl ⟨none, 0, rfl, Nat.le_refl _, trivial⟩ ⟨none, 0, rfl, Nat.le_refl _, trivial⟩
section
variable {ok : Nat → Prop} {W0 : Start} {w : World} {C : List It} {F : List Fa}
/-- A tree's cells, laid open as facts. -/
theorem St.openTr (s : St ok W0 C F w) {i : Nat} {cs : List Value} {x : Tr} (hi : F[i]? = some (.dat cs x.toD)) :
    ∃ B3 d3 B4 d4, cs = trC x B3 d3 B4 d4 ∧ St ok W0 C (.dat [.slice B4 x.kids.length d4] (.sl (Tr.toDs x.kids)) :: .dat [.slice B3 x.names.length d3] (.sl (strsD x.names)) :: F) w := by
  obtain ⟨B3, d3, B4, d4, rfl, -, -, g3, g4⟩ := Tr.opn (s.dat hi)
  exact ⟨B3, d3, B4, d4, rfl, (s.know (f := .dat [.slice B3 x.names.length d3] (.sl (strsD x.names))) g3).know (f := .dat [.slice B4 x.kids.length d4] (.sl (Tr.toDs x.kids))) g4⟩
end
end Go.Proofs.Ytkefaelmamgjiaa
