/- nodes: the plain law. -/
import Derived.Test.YtkefaelmamgjiaaN2
set_option linter.unusedVariables false
set_option linter.unusedSimpArgs false
set_option maxHeartbeats 1000000
namespace Go.Proofs.Ytkefaelmamgjiaa
open Go.RowKit

theorem bytesLess_trans : ∀ a b c, Op.bytesLess a b = true → Op.bytesLess b c = true → Op.bytesLess a c = true
  | _, [], _, h, _ => by cases ‹List UInt8› <;> simp [Op.bytesLess] at h
  | [], _ :: _, [], _, h => by simp [Op.bytesLess] at h
  | [], _ :: _, _ :: _, _, _ => by simp [Op.bytesLess]
  | _ :: _, _ :: _, [], _, h => by simp [Op.bytesLess] at h
  | x :: a, y :: b, z :: c, h1, h2 => by
    have ih := bytesLess_trans a b c
    simp only [Op.bytesLess] at h1 h2 ⊢
    grind
theorem bl_trans {a b c : ByteArray} (h1 : bl a b = true) (h2 : bl b c = true) : bl a c = true := bytesLess_trans _ _ _ h1 h2
theorem pathLt_irrefl : ∀ p, pathLt p p = false
  | [] => rfl
  | x :: a => by rw [pathLt, if_pos rfl]; exact pathLt_irrefl a
theorem pathLt_trans : ∀ p q r, pathLt p q = true → pathLt q r = true → pathLt p r = true
  | p, [], _, h, _ => by cases p <;> simp [pathLt] at h
  | _, _ :: _, [], _, h => by simp [pathLt] at h
  | [], _ :: _, _ :: _, _, _ => by simp [pathLt]
  | x :: a, y :: b, z :: c, h1, h2 => by
    rw [pathLt] at h1 h2 ⊢
    by_cases hxy : x = y
    · subst hxy
      rw [if_pos rfl] at h1
      by_cases hyz : x = z
      · rw [if_pos hyz] at h2 ⊢
        exact pathLt_trans a b c h1 h2
      · rw [if_neg hyz] at h2 ⊢
        exact h2
    · rw [if_neg hxy] at h1
      by_cases hyz : y = z
      · subst hyz
        rw [if_neg hxy]
        exact h1
      · rw [if_neg hyz] at h2
        have h3 := bl_trans h1 h2
        have hxz : x ≠ z := by
          rintro rfl
          rw [bl_irrefl] at h3
          cases h3
        rw [if_neg hxz]
        exact h3
theorem Nd.okFrom_at {n : Nd} : ∀ m i, n.list.length - i = m → n.okFrom i = true → ∀ j (hj : j < n.list.length), i ≤ j → n.okAt j hj = true := by
  intro m
  induction m with
  | zero => intro i hi h j hj hij; omega
  | succ m ih =>
    intro i hi h j hj hij
    rw [Nd.okFrom, dif_pos (by omega)] at h
    simp only [Bool.and_eq_true] at h
    by_cases hji : i = j
    · subst hji; exact h.1
    · exact ih (i + 1) (by omega) h.2 j hj (by omega)
theorem Nd.ok_at {n : Nd} (h : n.ok = true) (j : Nat) (hj : j < n.list.length) : n.okAt j hj = true := by
  simp only [Nd.ok, Bool.and_eq_true] at h
  exact Nd.okFrom_at _ 0 rfl h.2 j hj (by omega)
theorem Nd.ok_ids {n : Nd} (h : n.ok = true) {i j : Nat} (hij : i < j) (hj : j < n.list.length) : (n.list[i]'(by omega)).1 ≠ n.list[j].1 := by
  have := Nd.ok_at h j hj
  simp only [Nd.okAt, Bool.and_eq_true, List.all_eq_true, decide_eq_true_eq] at this
  exact this.2 _ (List.mem_take_iff_getElem.2 ⟨i, by omega, rfl⟩)
theorem Nd.ok_paths {n : Nd} (h : n.ok = true) {i : Nat} : ∀ {j : Nat} (hij : i < j) (hj : j < n.list.length), pathLt (n.list[i]'(by omega)).2 n.list[j].2 = true
  | j + 1, hij, hj => by
    have h1 := Nd.ok_at h (j + 1) hj
    simp only [Nd.okAt, Bool.and_eq_true, Bool.or_eq_true, decide_eq_true_eq] at h1
    have h2 : pathLt n.list[j].2 n.list[j + 1].2 = true := by
      rcases h1.1.2 with h | h
      · omega
      · exact h
    by_cases hji : i = j
    · subst hji; exact h2
    · exact pathLt_trans _ _ _ (Nd.ok_paths h (show i < j by omega) (by omega)) h2
theorem idOf_at : ∀ (l : List (Int × List ByteArray)) (k : Nat) (hk : k < l.length), (∀ j (hj : j < k), (l[j]'(by omega)).2 ≠ l[k].2) → idOf l l[k].2 = l[k].1
  | x :: r, 0, hk, h => by simp [idOf]
  | x :: r, k + 1, hk, h => by
    have h0 := h 0 (by omega)
    simp only [List.getElem_cons_zero, List.getElem_cons_succ] at h0
    rw [List.getElem_cons_succ, idOf, if_neg h0]
    exact idOf_at r k (by simpa using hk) fun j hj => by
      have := h (j + 1) (by omega)
      simpa using this
theorem idOf_mem : ∀ (l : List (Int × List ByteArray)) (p : List ByteArray), idOf l p ≠ 0 → ∃ j, ∃ hj : j < l.length, l[j].2 = p ∧ l[j].1 = idOf l p
  | [], p, h => absurd rfl h
  | x :: r, p, h => by
    by_cases hx : x.2 = p
    · exact ⟨0, by simp, hx, by simp [idOf, hx]⟩
    · rw [idOf, if_neg hx] at h ⊢
      obtain ⟨j, hj, h1, h2⟩ := idOf_mem r p h
      exact ⟨j + 1, by simpa using hj, h1, h2⟩
theorem pathAt_some (n : Nd) (id : Int) (p : List ByteArray) : ∀ m i, n.list.length - i = m → pathAt n id i = some p → ∃ k, ∃ hk : k < n.list.length, n.list[k].1 = id ∧ n.list[k].2 = p := by
  intro m
  induction m with
  | zero => intro i hi h; rw [pathAt, dif_neg (by omega)] at h; cases h
  | succ m ih =>
    intro i hi h
    rw [pathAt, dif_pos (by omega)] at h
    split at h
    · exact ⟨i, by omega, by assumption, by simpa using h⟩
    · exact ih (i + 1) (by omega) h
theorem pathAt_at (n : Nd) (k : Nat) (hk : k < n.list.length) : ∀ m i, k - i = m → i ≤ k → (∀ j (hj : j < k), i ≤ j → (n.list[j]'(by omega)).1 ≠ n.list[k].1) → pathAt n n.list[k].1 i = some n.list[k].2 := by
  intro m
  induction m with
  | zero =>
    intro i hi hik h
    obtain rfl : i = k := by omega
    rw [pathAt, dif_pos hk, if_pos rfl]
  | succ m ih =>
    intro i hi hik h
    rw [pathAt, dif_pos (by omega), if_neg (h i (by omega) (Nat.le_refl _))]
    exact ih (i + 1) (by omega) (by omega) fun j hj hij => h j hj (by omega)
theorem both_one {n : Nd} {id : Int} {p : List ByteArray} (h : pathOf n id = some p) : (bif n.ok then idOf n.list p else 0) = id := by
  unfold pathOf at h
  cases hok : n.ok with
  | false => rw [hok] at h; cases h
  | true =>
    rw [hok, cond_true] at h
    obtain ⟨k, hk, rfl, rfl⟩ := pathAt_some n id p _ 0 rfl h
    exact idOf_at n.list k hk fun j hj he => by
      have := Nd.ok_paths hok hj hk
      rw [he, pathLt_irrefl] at this
      cases this
theorem both_two {n : Nd} {p : List ByteArray} (h : (bif n.ok then idOf n.list p else 0) ≠ 0) : pathOf n (bif n.ok then idOf n.list p else 0) = some p := by
  cases hok : n.ok with
  | false => rw [hok] at h; exact absurd rfl h
  | true =>
    rw [hok, cond_true] at h
    obtain ⟨j, hj, h1, h2⟩ := idOf_mem _ _ h
    rw [cond_true, pathOf, hok, cond_true, ← h2, ← h1]
    exact pathAt_at n j hj _ 0 rfl (by omega) fun i hi _ => Nd.ok_ids hok hi hj
end Go.Proofs.Ytkefaelmamgjiaa
