/- What a law's argument reads as, by its type: lists of texts, entries, uppers. -/
import Derived.Test.YtkefaelmamgjiaaEng8
import Derived.Test.YtkefaelmamgjiaaTys
set_option linter.unusedVariables false
set_option maxHeartbeats 1000000
namespace Go.Proofs.Ytkefaelmamgjiaa
open Go.RowKit

section
variable {P : Program} {d : D} {t e : TypeId}
theorem Sp_st {fs : Array Field} (h : Sp P d t) (hu : P.underlying t = some (.struct fs)) : ∃ ds, d = .st ds ∧ SpF P ds fs.toList := by
  cases d with
  | int k n => rw [h.1] at hu; cases hu
  | bool b => rw [show P.underlying t = some .bool from h] at hu; cases hu
  | str s => rw [show P.underlying t = some .string from h] at hu; cases hu
  | sl ds => obtain ⟨e, h1, _⟩ := h; rw [h1] at hu; cases hu
  | st ds =>
    obtain ⟨fs', h1, h2⟩ := h
    rw [h1] at hu
    obtain rfl : fs' = fs := by simpa using hu
    exact ⟨ds, rfl, h2⟩
theorem Sp_sl (h : Sp P d t) (hu : P.underlying t = some (.slice e)) : ∃ ds, d = .sl ds ∧ SpE P ds e := by
  cases d with
  | int k n => rw [h.1] at hu; cases hu
  | bool b => rw [show P.underlying t = some .bool from h] at hu; cases hu
  | str s => rw [show P.underlying t = some .string from h] at hu; cases hu
  | st ds => obtain ⟨e, h1, _⟩ := h; rw [h1] at hu; cases hu
  | sl ds =>
    obtain ⟨e', h1, h2⟩ := h
    rw [h1] at hu
    obtain rfl : e' = e := by simpa using hu
    exact ⟨ds, rfl, h2⟩
theorem Sp_str (h : Sp P d t) (hu : P.underlying t = some .string) : ∃ s, d = .str s := by
  cases d with
  | int k n => rw [h.1] at hu; cases hu
  | bool b => rw [show P.underlying t = some .bool from h] at hu; cases hu
  | str s => exact ⟨s, rfl⟩
  | sl ds => obtain ⟨e, h1, _⟩ := h; rw [h1] at hu; cases hu
  | st ds => obtain ⟨e, h1, _⟩ := h; rw [h1] at hu; cases hu
theorem Sp_bool (h : Sp P d t) (hu : P.underlying t = some .bool) : ∃ b, d = .bool b := by
  cases d with
  | int k n => rw [h.1] at hu; cases hu
  | bool b => exact ⟨b, rfl⟩
  | str s => rw [show P.underlying t = some .string from h] at hu; cases hu
  | sl ds => obtain ⟨e, h1, _⟩ := h; rw [h1] at hu; cases hu
  | st ds => obtain ⟨e, h1, _⟩ := h; rw [h1] at hu; cases hu
theorem Sp_int {k : IntKind} (h : Sp P d t) (hu : P.underlying t = some (.int k)) : ∃ n, d = .int k n ∧ (Lit.int k n).wf = true := by
  cases d with
  | int k' n =>
    obtain ⟨h1, h2⟩ := h
    rw [h1] at hu
    obtain rfl : k' = k := by simpa using hu
    exact ⟨n, rfl, h2⟩
  | bool b => rw [show P.underlying t = some .bool from h] at hu; cases hu
  | str s => rw [show P.underlying t = some .string from h] at hu; cases hu
  | sl ds => obtain ⟨e, h1, _⟩ := h; rw [h1] at hu; cases hu
  | st ds => obtain ⟨e, h1, _⟩ := h; rw [h1] at hu; cases hu
theorem SpF_cons {f : Field} {fs : List Field} {ds : List D} (h : SpF P ds (f :: fs)) : ∃ d r, ds = d :: r ∧ Sp P d f.type ∧ SpF P r fs := by
  cases ds with
  | nil => cases h
  | cons d r =>
    obtain ⟨f', r', h1, h2, h3⟩ := h
    obtain ⟨rfl, rfl⟩ := List.cons.inj h1
    exact ⟨d, r, rfl, h2, h3⟩
theorem SpF_nil {ds : List D} (h : SpF P ds []) : ds = [] := by
  cases ds with
  | nil => rfl
  | cons d r => obtain ⟨f', r', h1, _⟩ := h; cases h1
/-- All elements of a list, one by one. -/
theorem SpE_map {α : Type} {f : α → D} (h1 : ∀ d, Sp P d e → ∃ a, d = f a) : ∀ {ds : List D}, SpE P ds e → ∃ l : List α, ds = l.map f
  | [], _ => ⟨[], rfl⟩
  | d :: ds, ⟨h2, h3⟩ => by
    obtain ⟨a, rfl⟩ := h1 d h2
    obtain ⟨l, rfl⟩ := SpE_map h1 h3
    exact ⟨a :: l, rfl⟩
theorem bks_map {α : Type} (f : α → D) : ∀ l : List α, D.bks (l.map f) = (l.map fun a => (f a).bk).sum
  | [] => rfl
  | a :: l => by rw [List.map_cons, D.bks, bks_map f l]; simp
theorem bk_strs : ∀ p : List ByteArray, D.bks (strsD p) = namesWt p
  | [] => rfl
  | x :: p => by
    have := bk_strs p
    simp only [strsD, List.map_cons, D.bks, D.bk, namesWt] at *
    omega
theorem bk_paths : ∀ p : List (List ByteArray), D.bks (pathsD p) = pathsWt p
  | [] => rfl
  | x :: p => by
    have := bk_paths p
    have h2 := bk_strs x
    simp only [pathsD, List.map_cons, D.bks, D.bk, pathsWt, List.length_cons, List.sum_cons] at *
    omega
theorem bk_en (e : En) : e.wt + 1 ≤ e.toD.bk := by
  have := bk_strs e.path
  simp only [En.toD, En.wt, D.bk, D.bks]
  omega
theorem bk_ents : ∀ p : List En, entsWt p ≤ D.bks (entsD p)
  | [] => Nat.zero_le _
  | x :: p => by
    have := bk_ents p
    have h2 := bk_en x
    simp only [entsD, List.map_cons, D.bks, entsWt, List.length_cons, List.sum_cons] at *
    omega
theorem bk_up (u : Up) : u.wt ≤ u.toD.bk := by
  have h1 := bk_paths u.gone
  have h2 := bk_ents u.puts
  simp only [Up.toD, Up.wt, D.bk, D.bks]
  omega
end
theorem Sp_strs {d : D} (h : Sp Try.prog d 23) : ∃ p, d = .sl (strsD p) := by
  obtain ⟨ds, rfl, h1⟩ := Sp_sl h Try.underlying23
  obtain ⟨l, rfl⟩ := SpE_map (f := D.str) (fun d hd => Sp_str hd Try.underlying9) h1
  exact ⟨l, rfl⟩
theorem Sp_paths {d : D} (h : Sp Try.prog d 74) : ∃ p, d = .sl (pathsD p) := by
  obtain ⟨ds, rfl, h1⟩ := Sp_sl h Try.underlying74
  obtain ⟨l, rfl⟩ := SpE_map (f := fun p => D.sl (strsD p)) (fun d hd => Sp_strs hd) h1
  exact ⟨l, rfl⟩
theorem Sp_en {d : D} (h : Sp Try.prog d 100) : ∃ e : En, d = e.toD := by
  obtain ⟨ds, rfl, h1⟩ := Sp_st h Try.underlying100
  obtain ⟨d1, r1, rfl, k1, h1⟩ := SpF_cons h1
  obtain ⟨d2, r2, rfl, k2, h1⟩ := SpF_cons h1
  obtain ⟨d3, r3, rfl, k3, h1⟩ := SpF_cons h1
  obtain ⟨d4, r4, rfl, k4, h1⟩ := SpF_cons h1
  obtain ⟨d5, r5, rfl, k5, h1⟩ := SpF_cons h1
  obtain rfl := SpF_nil h1
  obtain ⟨p, rfl⟩ := Sp_strs k1
  obtain ⟨a, rfl, _⟩ := Sp_int k2 Try.underlying3
  obtain ⟨b, rfl⟩ := Sp_bool k3 Try.underlying4
  obtain ⟨c, rfl, _⟩ := Sp_int k4 Try.underlying3
  obtain ⟨s, rfl⟩ := Sp_str k5 Try.underlying9
  exact ⟨⟨p, a, b, c, s⟩, rfl⟩
theorem Sp_ents {d : D} (h : Sp Try.prog d 51) : ∃ p, d = .sl (entsD p) := by
  obtain ⟨ds, rfl, h1⟩ := Sp_sl h Try.underlying51
  obtain ⟨l, rfl⟩ := SpE_map (f := En.toD) (fun d hd => Sp_en hd) h1
  exact ⟨l, rfl⟩
end Go.Proofs.Ytkefaelmamgjiaa
