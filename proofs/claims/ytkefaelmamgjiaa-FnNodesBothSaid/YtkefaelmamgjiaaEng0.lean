/- The engine, part 0: a frame's slots as a function, rules for each form of code, regions that draw their order. -/
import Derived.Below
import Derived.Orders
import Derived.OrdersHeld
import Derived.OwnWalk
import Derived.WalkKit
import Derived.KernelRfl
set_option linter.unusedVariables false
namespace Go.Proofs.Ytkefaelmamgjiaa
open Go.RowKit

/-! ### Slots as a function -/
def Env : Type := Nat → Value
def upd (e : Env) (d : Nat) (v : Value) : Env := fun t => bif Nat.beq t d then v else e t
def elemB (l : List Nat) (t : Nat) : Bool := match l with | [] => false | x :: r => bif Nat.beq t x then true else elemB r t
/-- Slots of 'wr' hold what 'j' says, the others what 'e' says. -/
def mix (wr : List Nat) (j e : Env) : Env := fun t => bif elemB wr t then j t else e t
def ev (e : Env) : Operand → Value
  | .tmp t => e t
  | .const v => v
  | .global g => .pointer (some ⟨g, 0, none⟩)
  | .func f => .func (.func f) #[] #[]
def Ag (n : Nat) (e : Env) (a : Act) : Prop := a.tmps.size = n ∧ a.defers = [] ∧ ∀ t, a.tmps.getD t undef = e t
theorem Ag.eval {n : Nat} {e : Env} {a : Act} (h : Ag n e a) : a.eval = ev e := by
  funext x
  cases x <;> simp [Act.eval, ev]
  rename_i t
  have := h.2.2 t
  simpa using this
theorem upd_same (e : Env) (d : Nat) (v : Value) : upd e d v d = v := by simp [upd]
theorem upd_other (e : Env) {d t : Nat} (v : Value) (h : t ≠ d) : upd e d v t = e t := by
  have : Nat.beq t d = false := by cases hb : Nat.beq t d with
    | false => rfl
    | true => exact absurd (Nat.eq_of_beq_eq_true hb) h
  simp [upd, this]
theorem Ag.put {n : Nat} {e : Env} {a : Act} (h : Ag n e a) {d : Nat} (hd : d < n) (v : Value) : Ag n (upd e d v) (a.put (some d) v) := by
  refine ⟨by simp [Act.put, h.1], h.2.1, fun t => ?_⟩
  by_cases ht : t = d
  · subst ht
    rw [upd_same]
    simp [Act.put, h.1, hd]
  · rw [upd_other _ _ ht]
    rw [← h.2.2 t]
    simp [Act.put, Ne.symm ht]
theorem Ag.congr {n : Nat} {e e' : Env} {a : Act} (h : Ag n e a) (he : ∀ t, e t = e' t) : Ag n e' a := ⟨h.1, h.2.1, fun t => (h.2.2 t).trans (he t)⟩
/-- Outside 'wr' the slots are as they were. -/
def Out (wr : List Nat) (e0 e : Env) : Prop := ∀ t, elemB wr t = false → e t = e0 t
theorem Out.refl (wr : List Nat) (e : Env) : Out wr e e := fun _ _ => rfl
theorem elemB_eq {l : List Nat} {t : Nat} : elemB l t = true ↔ t ∈ l := by
  induction l with
  | nil => simp [elemB]
  | cons x r ih =>
    unfold elemB
    cases h : Nat.beq t x with
    | true => have := Nat.eq_of_beq_eq_true h; simp [this]
    | false => have : t ≠ x := fun e => by rw [e, Nat.beq_refl] at h; cases h
               simp [ih, this]
theorem Out.upd {wr : List Nat} {e0 e : Env} {d : Nat} {v : Value} (hd : elemB wr d = true) (h : Out wr e0 e) : Out wr e0 (upd e d v) := by
  intro t ht
  by_cases e1 : t = d
  · subst e1; rw [hd] at ht; cases ht
  · rw [upd_other _ _ e1]; exact h t ht
theorem Out.mix (wr : List Nat) (j e : Env) : Out wr e (mix wr j e) := fun t ht => by simp [Proofs.Ytkefaelmamgjiaa.mix, ht]
theorem Out.mix_in {wr wr' : List Nat} {j e0 e : Env} (hw : wr'.all (fun t => elemB wr t) = true) (h : Out wr e0 e) : Out wr e0 (Proofs.Ytkefaelmamgjiaa.mix wr' j e) := by
  intro t ht
  have h1 : elemB wr' t = false := by
    cases hh : elemB wr' t with
    | false => rfl
    | true =>
      have hm := elemB_eq.1 hh
      have h2 := List.all_eq_true.1 hw t hm
      simp [ht] at h2
  simp only [Proofs.Ytkefaelmamgjiaa.mix, h1, cond_false]
  exact h t ht
theorem Out.eq_mix {wr : List Nat} {e0 e : Env} (h : Out wr e0 e) : e = Proofs.Ytkefaelmamgjiaa.mix wr e e0 := by
  funext t
  unfold Proofs.Ytkefaelmamgjiaa.mix
  cases hh : elemB wr t with
  | true => simp
  | false => simp [h t hh]
/-- Some slots hold what is listed. -/
def Has (sl : List (Nat × Value)) (e : Env) : Prop := ∀ p ∈ sl, e p.1 = p.2
theorem Has.nil (e : Env) : Has [] e := fun _ h => by cases h
theorem Has.cons {sl : List (Nat × Value)} {e : Env} {t : Nat} {v : Value} (h : e t = v) (hs : Has sl e) : Has ((t, v) :: sl) e := by
  intro p hp
  rcases List.mem_cons.1 hp with rfl | hp
  · exact h
  · exact hs p hp
def setAll (e : Env) : List (Nat × Value) → Env
  | [] => e
  | (t, v) :: r => upd (setAll e r) t v
theorem Has.setAll {sl : List (Nat × Value)} {e : Env} (h : Has sl e) : e = Proofs.Ytkefaelmamgjiaa.setAll e sl := by
  induction sl with
  | nil => rfl
  | cons p r ih =>
    obtain ⟨d, v⟩ := p
    unfold Proofs.Ytkefaelmamgjiaa.setAll
    rw [← ih (fun q hq => h q (by simp [hq]))]
    funext t
    by_cases ht : t = d
    · subst ht
      rw [upd_same]
      exact h (t, v) (by simp)
    · rw [upd_other _ _ ht]
theorem slots_eq {wr : List Nat} {sl : List (Nat × Value)} {e0 e : Env} (h : Out wr e0 e) (hs : Has sl e) : e = setAll (mix wr e e0) sl := by
  rw [← h.eq_mix]
  exact hs.setAll
/-! ### Code -/
abbrev Post := Exit → Env → World → Prop
def V (P : Program) (n : Nat) (c : Code) (Q : Post) (e : Env) (w : World) : Prop :=
  ∀ a, Ag n e a → c.wp P (fun x a' w' => ∃ e', Ag n e' a' ∧ Q x e' w') a w
def thenV (N : Env → World → Prop) (Q : Post) : Post
  | .normal, e, w => N e w
  | x, e, w => Q x e w
def blockV (id : Nat) (N : Env → World → Prop) (Q : Post) : Post
  | .normal, e, w => N e w
  | .exit id', e, w => bif Nat.beq id' id then N e w else Q (.exit id') e w
  | x, e, w => Q x e w
section
variable {P : Program} {n : Nat} {Q : Post} {e : Env} {w : World}
theorem V.congr {c : Code} {e' : Env} (he : ∀ t, e t = e' t) (h : V P n c Q e' w) : V P n c Q e w := fun a ha => h a (ha.congr he)
theorem V.mono {c : Code} {Q' : Post} (h : V P n c Q e w) (hq : ∀ x e w, Q x e w → Q' x e w) : V P n c Q' e w := fun a ha =>
  Code.wp_mono (fun x a w hx => let ⟨e', h1, h2⟩ := hx; ⟨e', h1, hq _ _ _ h2⟩) (h a ha)
theorem V_seq {x y : Code} (h : V P n x (thenV (V P n y Q) Q) e w) : V P n (.seq x y) Q e w := fun a ha =>
  wp_seq (Code.wp_mono (fun ex a' w' hx => by
    obtain ⟨e', h1, h2⟩ := hx
    cases ex with
    | normal => exact h2 a' h1
    | exit id => exact ⟨e', h1, h2⟩
    | goto l => exact ⟨e', h1, h2⟩
    | ret => exact ⟨e', h1, h2⟩
    | panic ch => exact ⟨e', h1, h2⟩
    | outgrown => exact ⟨e', h1, h2⟩) (h a ha))
/-- Pieces of code, one behind the other. -/
def VS (P : Program) (n : Nat) : List Code → Post → Env → World → Prop
  | [], Q, e, w => Q .normal e w
  | c :: r, Q, e, w => V P n c (thenV (VS P n r Q) Q) e w
theorem VS_one {c : Code} (h : VS P n [c] Q e w) : V P n c Q e w :=
  V.mono h fun x e w hx => by cases x <;> exact hx
theorem VS_seq {x y : Code} {r : List Code} (h : VS P n (x :: y :: r) Q e w) : VS P n (.seq x y :: r) Q e w :=
  V_seq (V.mono h fun ex e w hx => by cases ex <;> exact hx)
theorem VS_skip {r : List Code} (h : VS P n r Q e w) : VS P n (.skip :: r) Q e w := fun a ha => wp_skip ⟨e, ha, h⟩
theorem VS_ret {r : List Code} (h : Q .ret e w) : VS P n (.ret :: r) Q e w := fun a ha => wp_ret ⟨e, ha, h⟩
theorem VS_exit {id : Nat} {r : List Code} (h : Q (.exit id) e w) : VS P n (.exit id :: r) Q e w := fun a ha => wp_exit ⟨e, ha, h⟩
theorem VS_nil (h : Q .normal e w) : VS P n [] Q e w := h
theorem VS_block {id : Nat} {c : Code} {r : List Code} (h : VS P n [c] (blockV id (VS P n r Q) Q) e w) : VS P n (.block id c :: r) Q e w := fun a ha =>
  wp_block (Code.wp_mono (fun ex a' w' hx => by
    obtain ⟨e', h1, h2⟩ := hx
    cases ex with
    | exit id' =>
      simp only [Exit.inBlock]
      have h3 : (bif Nat.beq id' id then VS P n r Q e' w' else Q (.exit id') e' w') := h2
      by_cases hid : id' = id
      · subst hid
        rw [Nat.beq_refl] at h3
        rw [if_pos rfl]
        exact ⟨e', h1, h3⟩
      · rw [if_neg hid]
        have hb : Nat.beq id' id = false := by
          cases hb : Nat.beq id' id with
          | false => rfl
          | true => exact absurd (Nat.eq_of_beq_eq_true hb) hid
        rw [hb] at h3
        exact ⟨e', h1, h3⟩
    | normal => exact ⟨e', h1, h2⟩
    | goto l => exact ⟨e', h1, h2⟩
    | ret => exact ⟨e', h1, h2⟩
    | panic ch => exact ⟨e', h1, h2⟩
    | outgrown => exact ⟨e', h1, h2⟩) (VS_one h a ha))
theorem VS_cond {c : Operand} {x y : Code} {r : List Code} {b : Bool} (hc : ev e c = .bool b) (ht : b = true → VS P n (x :: r) Q e w) (hf : b = false → VS P n (y :: r) Q e w) :
    VS P n (.cond c x y :: r) Q e w := fun a ha => by
  refine wp_cond_split (t := b) (by rw [ha.eval]; exact hc) (fun h => ?_) (fun h => ?_)
  · exact ht h a ha
  · exact hf h a ha
theorem VS_nil_block {id : Nat} {N : Env → World → Prop} (h : N e w) : VS P n [] (blockV id N Q) e w := h
theorem VS_nil_then {N : Env → World → Prop} (h : N e w) : VS P n [] (thenV N Q) e w := h
theorem blockV_hit {id : Nat} {N : Env → World → Prop} (h : N e w) : blockV id N Q (.exit id) e w := by
  show (bif Nat.beq id id then N e w else Q (.exit id) e w)
  rw [Nat.beq_refl]
  exact h
theorem blockV_miss {id id' : Nat} {N : Env → World → Prop} (hb : Nat.beq id id' = false) (h : Q (.exit id) e w) : blockV id' N Q (.exit id) e w := by
  show (bif Nat.beq id id' then N e w else Q (.exit id) e w)
  rw [hb]
  exact h
theorem blockV_ret {id : Nat} {N : Env → World → Prop} (h : Q .ret e w) : blockV id N Q .ret e w := h
theorem thenV_ret {N : Env → World → Prop} (h : Q .ret e w) : thenV N Q .ret e w := h
theorem thenV_exit {id : Nat} {N : Env → World → Prop} (h : Q (.exit id) e w) : thenV N Q (.exit id) e w := h
theorem nat_least {p : Nat → Prop} (h : ∃ k, p k) : ∃ k, p k ∧ ∀ j, p j → k ≤ j := by
  obtain ⟨k, hk⟩ := h
  induction k using Nat.strongRecOn with
  | _ k ih =>
    by_cases h2 : ∃ j, j < k ∧ p j
    · obtain ⟨j, hj, hp⟩ := h2
      exact ih j hj hp
    · exact ⟨k, hk, fun j hj => Nat.le_of_not_lt fun hlt => h2 ⟨j, hlt, hj⟩⟩
/-- A loop. 'X': what turns; 'sl': the slots that turn, with their values; 'wr': all slots that the body writes. -/
def backV (wr : List Nat) {X : Type} (sl : X → List (Nat × Value)) (I : X → World → Prop) (μ : X → Nat) (e0 : Env) (x : X) (Q : Post) : Post :=
  thenV (fun e' w' => ∃ x', I x' w' ∧ Has (sl x') e' ∧ Out wr e0 e' ∧ μ x' < μ x) Q
theorem backV_exit {id : Nat} {wr : List Nat} {X : Type} {sl : X → List (Nat × Value)} {I : X → World → Prop} {μ : X → Nat} {e0 : Env} {x : X} (h : Q (.exit id) e w) : backV wr sl I μ e0 x Q (.exit id) e w := h
theorem backV_ret {wr : List Nat} {X : Type} {sl : X → List (Nat × Value)} {I : X → World → Prop} {μ : X → Nat} {e0 : Env} {x : X} (h : Q .ret e w) : backV wr sl I μ e0 x Q .ret e w := h
theorem VS_back {wr : List Nat} {X : Type} {sl : X → List (Nat × Value)} {I : X → World → Prop} {μ : X → Nat} {e0 : Env} {x : X} (x' : X) (h1 : I x' w) (h2 : Has (sl x') e) (h3 : Out wr e0 e) (h4 : μ x' < μ x) : VS P n [] (backV wr sl I μ e0 x Q) e w := ⟨x', h1, h2, h3, h4⟩
open Classical in
theorem VS_loop {c : Code} {r : List Code} (wr : List Nat) {X : Type} (sl : X → List (Nat × Value)) (I : X → World → Prop) (μ : X → Nat) (x0 : X)
    (h0 : I x0 w) (hs : Has (sl x0) e)
    (hr : ∀ x w' j, I x w' → VS P n [c] (backV wr sl I μ e x Q) (setAll (mix wr j e) (sl x)) w') : VS P n (.loop c :: r) Q e w := fun a ha => by
  let K : Act → World → Nat → Prop := fun a' w' k => ∃ x e', Ag n e' a' ∧ I x w' ∧ Has (sl x) e' ∧ Out wr e e' ∧ μ x = k
  let M : Act → World → Nat := fun a' w' => if h : ∃ k, K a' w' k then Classical.choose (nat_least h) else 0
  refine wp_loop (fun a' w' => ∃ k, K a' w' k) M ⟨μ x0, x0, e, ha, h0, hs, Out.refl _ _, rfl⟩ ?_
  intro a1 w1 hex
  have hM : K a1 w1 (M a1 w1) := by simp only [M]; rw [dif_pos hex]; exact (Classical.choose_spec (nat_least hex)).1
  obtain ⟨x, e', h1, h2, h3, h4, h5⟩ := hM
  have hag : Ag n (setAll (mix wr e' e) (sl x)) a1 := by rw [← slots_eq h4 h3]; exact h1
  refine Code.wp_mono ?_ (VS_one (hr x w1 e' h2) _ hag)
  intro ex a2 w2 hx
  obtain ⟨e2, g1, g2⟩ := hx
  cases ex with
  | normal =>
    obtain ⟨x2, i1, i2, i3, i4⟩ := g2
    have hk : K a2 w2 (μ x2) := ⟨x2, e2, g1, i1, i2, i3, rfl⟩
    refine ⟨⟨_, hk⟩, ?_⟩
    have hle : M a2 w2 ≤ μ x2 := by
      simp only [M]
      rw [dif_pos ⟨_, hk⟩]
      exact (Classical.choose_spec (nat_least ⟨_, hk⟩)).2 _ hk
    omega
  | exit id => exact ⟨e2, g1, g2⟩
  | goto l => exact ⟨e2, g1, g2⟩
  | ret => exact ⟨e2, g1, g2⟩
  | panic ch => exact ⟨e2, g1, g2⟩
  | outgrown => exact ⟨e2, g1, g2⟩
/-- The ways meet again behind the first pieces. -/
theorem VS_join {l r : List Code} (wr : List Nat) {X : Type} (sl : X → List (Nat × Value)) (I : X → World → Prop)
    (h1 : VS P n l (thenV (fun e' w' => ∃ x, I x w' ∧ Has (sl x) e' ∧ Out wr e e') Q) e w)
    (h2 : ∀ x w' j, I x w' → VS P n r Q (setAll (mix wr j e) (sl x)) w') : VS P n (l ++ r) Q e w := by
  have key : ∀ (l : List Code) (e1 : Env) (w1 : World), VS P n l (thenV (fun e' w' => ∃ x, I x w' ∧ Has (sl x) e' ∧ Out wr e e') Q) e1 w1 → VS P n (l ++ r) Q e1 w1 := by
    intro l
    induction l with
    | nil =>
      intro e1 w1 h
      obtain ⟨x, i1, i2, i3⟩ := h
      have := h2 x w1 e1 i1
      rw [← slots_eq i3 i2] at this
      exact this
    | cons c l ih =>
      intro e1 w1 h
      refine V.mono h fun ex e2 w2 hx => ?_
      cases ex with
      | normal => exact ih e2 w2 hx
      | exit id => exact hx
      | goto l => exact hx
      | ret => exact hx
      | panic ch => exact hx
      | outgrown => exact hx
  exact key l e w h1

theorem VS_join1 {c : Code} {r : List Code} (wr : List Nat) {X : Type} (sl : X → List (Nat × Value)) (I : X → World → Prop)
    (h1 : VS P n [c] (thenV (fun e' w' => ∃ x, I x w' ∧ Has (sl x) e' ∧ Out wr e e') Q) e w)
    (h2 : ∀ x w' j, I x w' → VS P n r Q (setAll (mix wr j e) (sl x)) w') : VS P n (c :: r) Q e w := VS_join (l := [c]) wr sl I h1 h2
theorem VS_met {wr : List Nat} {X : Type} {sl : X → List (Nat × Value)} {I : X → World → Prop} {e0 : Env} (x : X) (h1 : I x w) (h2 : Has (sl x) e) (h3 : Out wr e0 e) : VS P n [] (thenV (fun e' w' => ∃ x, I x w' ∧ Has (sl x) e' ∧ Out wr e0 e') Q) e w := ⟨x, h1, h2, h3⟩

/-! Loops with two or three things that turn. -/
def backV2 (wr : List Nat) {X Y : Type} (sl : X → Y → List (Nat × Value)) (I : X → Y → World → Prop) (μ : X → Y → Nat) (e0 : Env) (x : X) (y : Y) (Q : Post) : Post :=
  backV wr (fun p : X × Y => sl p.1 p.2) (fun p w => I p.1 p.2 w) (fun p => μ p.1 p.2) e0 (x, y) Q
def backV3 (wr : List Nat) {X Y Z : Type} (sl : X → Y → Z → List (Nat × Value)) (I : X → Y → Z → World → Prop) (μ : X → Y → Z → Nat) (e0 : Env) (x : X) (y : Y) (z : Z) (Q : Post) : Post :=
  backV wr (fun p : X × Y × Z => sl p.1 p.2.1 p.2.2) (fun p w => I p.1 p.2.1 p.2.2 w) (fun p => μ p.1 p.2.1 p.2.2) e0 (x, y, z) Q
section
variable {wr : List Nat} {X Y Z : Type} {e0 : Env} {x : X} {y : Y} {z : Z} {id : Nat}
variable {sl : X → Y → List (Nat × Value)} {I : X → Y → World → Prop} {μ : X → Y → Nat}
theorem backV2_exit (h : Q (.exit id) e w) : backV2 wr sl I μ e0 x y Q (.exit id) e w := h
theorem backV2_ret (h : Q .ret e w) : backV2 wr sl I μ e0 x y Q .ret e w := h
theorem VS_back2 (x' : X) (y' : Y) (h1 : I x' y' w) (h2 : Has (sl x' y') e) (h3 : Out wr e0 e) (h4 : μ x' y' < μ x y) : VS P n [] (backV2 wr sl I μ e0 x y Q) e w := ⟨(x', y'), h1, h2, h3, h4⟩
theorem VS_loop2 {c : Code} {r : List Code} (wr : List Nat) {X Y : Type} (sl : X → Y → List (Nat × Value)) (I : X → Y → World → Prop) (μ : X → Y → Nat) (x0 : X) (y0 : Y)
    (h0 : I x0 y0 w) (hs : Has (sl x0 y0) e)
    (hr : ∀ x y w' j, I x y w' → VS P n [c] (backV2 wr sl I μ e x y Q) (setAll (mix wr j e) (sl x y)) w') : VS P n (.loop c :: r) Q e w :=
  VS_loop wr (fun p : X × Y => sl p.1 p.2) (fun p w => I p.1 p.2 w) (fun p => μ p.1 p.2) (x0, y0) h0 hs fun p w' j hi => hr p.1 p.2 w' j hi
variable {sl' : X → Y → Z → List (Nat × Value)} {I' : X → Y → Z → World → Prop} {μ' : X → Y → Z → Nat}
theorem backV3_exit (h : Q (.exit id) e w) : backV3 wr sl' I' μ' e0 x y z Q (.exit id) e w := h
theorem backV3_ret (h : Q .ret e w) : backV3 wr sl' I' μ' e0 x y z Q .ret e w := h
theorem VS_back3 (x' : X) (y' : Y) (z' : Z) (h1 : I' x' y' z' w) (h2 : Has (sl' x' y' z') e) (h3 : Out wr e0 e) (h4 : μ' x' y' z' < μ' x y z) : VS P n [] (backV3 wr sl' I' μ' e0 x y z Q) e w := ⟨(x', y', z'), h1, h2, h3, h4⟩
theorem VS_loop3 {c : Code} {r : List Code} (wr : List Nat) {X Y Z : Type} (sl : X → Y → Z → List (Nat × Value)) (I : X → Y → Z → World → Prop) (μ : X → Y → Z → Nat) (x0 : X) (y0 : Y) (z0 : Z)
    (h0 : I x0 y0 z0 w) (hs : Has (sl x0 y0 z0) e)
    (hr : ∀ x y z w' j, I x y z w' → VS P n [c] (backV3 wr sl I μ e x y z Q) (setAll (mix wr j e) (sl x y z)) w') : VS P n (.loop c :: r) Q e w :=
  VS_loop wr (fun p : X × Y × Z => sl p.1 p.2.1 p.2.2) (fun p w => I p.1 p.2.1 p.2.2 w) (fun p => μ p.1 p.2.1 p.2.2) (x0, y0, z0) h0 hs fun p w' j hi => hr p.1 p.2.1 p.2.2 w' j hi
/-- Ways that meet with two things. -/
def metV2 (wr : List Nat) {X Y : Type} (sl : X → Y → List (Nat × Value)) (I : X → Y → World → Prop) (e0 : Env) (Q : Post) : Post :=
  thenV (fun e' w' => ∃ p : X × Y, I p.1 p.2 w' ∧ Has (sl p.1 p.2) e' ∧ Out wr e0 e') Q
theorem metV2_exit (h : Q (.exit id) e w) : metV2 wr sl I e0 Q (.exit id) e w := h
theorem metV2_ret (h : Q .ret e w) : metV2 wr sl I e0 Q .ret e w := h
theorem VS_met2 (x : X) (y : Y) (h1 : I x y w) (h2 : Has (sl x y) e) (h3 : Out wr e0 e) : VS P n [] (metV2 wr sl I e0 Q) e w := ⟨(x, y), h1, h2, h3⟩
theorem VS_join2 {c : Code} {r : List Code} (wr : List Nat) {X Y : Type} (sl : X → Y → List (Nat × Value)) (I : X → Y → World → Prop)
    (h1 : VS P n [c] (metV2 wr sl I e Q) e w)
    (h2 : ∀ x y w' j, I x y w' → VS P n r Q (setAll (mix wr j e) (sl x y)) w') : VS P n (c :: r) Q e w :=
  VS_join1 wr (fun p : X × Y => sl p.1 p.2) (fun p w => I p.1 p.2 w) h1 fun p w' j hi => h2 p.1 p.2 w' j hi
end

/-! ### Operations in the order of the text -/
def wantedE (ops : Array Oper) (o : Oper) (e : Env) : Bool :=
  match o.guard with
  | none => true
  | some (g, want) => match (ops[g]?).bind (·.dst) with
    | some t => match e t with | .bool b => b == want | _ => false
    | none => false
theorem yieldedE {ops : Array Oper} {a : Act} (h : Ag n e a) (o : Oper) (hd : ∀ g want t, o.guard = some (g, want) → (ops[g]?).bind (·.dst) = some t → t < n) :
    Region.wanted o (yielded ops a.tmps) = wantedE ops o e := by
  unfold Region.wanted wantedE
  cases hg : o.guard with
  | none => rfl
  | some gw =>
    obtain ⟨g, want⟩ := gw
    simp only [yielded]
    cases ht : (ops[g]?).bind (·.dst) with
    | none => simp
    | some t =>
      have hlt := hd g want t hg ht
      have h2 := h.2.2 t
      have h3 : a.tmps[t]? = some (e t) := by
        rw [Array.getElem?_eq_getElem (by rw [h.1]; exact hlt)]
        rw [← h2]
        simp [Array.getD, h.1, hlt]
      simp only [Option.bind_some, h3]
      cases e t <;> simp
def guardB (n : Nat) (ops : Array Oper) (o : Oper) : Bool :=
  match o.guard with
  | none => true
  | some (g, _) => match (ops[g]?).bind (·.dst) with | some t => Nat.blt t n | none => true
theorem guardB_spec {ops : Array Oper} {o : Oper} (h : guardB n ops o = true) : ∀ g want t, o.guard = some (g, want) → (ops[g]?).bind (·.dst) = some t → t < n := by
  intro g want t hg ht
  unfold guardB at h
  simp only [hg, ht] at h
  exact Nat.le_of_ble_eq_true h
def VL (P : Program) (n : Nat) (ops : Array Oper) (l : List Oper) (K : Env → World → Prop) (e : Env) (w : World) : Prop :=
  ∀ a, Ag n e a → wpList P ops (fun x a' w' => x = .normal ∧ ∃ e', Ag n e' a' ∧ K e' w') l a w
theorem VS_region {id : Nat} {ops : Array Oper} {r : List Code} (h : VL P n ops ops.toList (VS P n r Q) e w) : VS P n (.region id ops false :: r) Q e w := fun a ha =>
  Code.wp_mono (fun ex a' w' hx => by
    obtain ⟨rfl, e', h1, h2⟩ := hx
    exact ⟨e', h1, h2⟩) (wp_region_list (h a ha))
theorem VS_region_lit {id : Nat} {l : List Oper} {r : List Code} (h : VL P n l.toArray l (VS P n r Q) e w) : VS P n (.region id l.toArray false :: r) Q e w := VS_region h
variable {ops : Array Oper} {K : Env → World → Prop} {rest : List Oper} {o : Oper}
theorem VL_nil (h : K e w) : VL P n ops [] K e w := fun a ha => ⟨rfl, e, ha, h⟩
/-- What one operation does: its value, and the world behind it. -/
def RunV (P : Program) (o : Oper) (e : Env) (w : World) (v : Value) (w' : World) : Prop := (execOp (ev e) o).run P w = .ok (.value v) w'
def RunU (P : Program) (o : Oper) (e : Env) (w : World) (w' : World) : Prop := (execOp (ev e) o).run P w = .ok .skip w'
theorem VL_val {d : Nat} {v : Value} {w' : World} (hrun : RunV P o e w v w') (hd : o.dst = some d) (hn : Nat.blt d n = true) (hw : wantedE ops o e = true) (hgb : guardB n ops o = true)
    (h : VL P n ops rest K (upd e d v) w') : VL P n ops (o :: rest) K e w := fun a ha => by
  have h1 := h _ (ha.put (Nat.le_of_ble_eq_true hn) v)
  unfold wpList
  rw [yieldedE ha o (guardB_spec hgb), hw, if_pos rfl]
  left
  unfold Oper.wp
  rw [ha.eval, hrun]
  show wpList P ops _ rest (a.put o.dst v) w'
  rw [hd]
  exact h1
theorem VL_unit {w' : World} (hrun : RunU P o e w w') (hd : o.dst = none) (hw : wantedE ops o e = true) (hgb : guardB n ops o = true)
    (h : VL P n ops rest K e w') : VL P n ops (o :: rest) K e w := fun a ha => by
  have h1 := h _ ha
  unfold wpList
  rw [yieldedE ha o (guardB_spec hgb), hw, if_pos rfl]
  left
  unfold Oper.wp
  rw [ha.eval, hrun]
  show wpList P ops _ rest (a.put o.dst undef) w'
  rw [hd]
  exact h1
/-- An operation whose guard says no. -/
theorem VL_not {d : Nat} (hd : o.dst = some d) (hn : Nat.blt d n = true) (hw : wantedE ops o e = false) (hgb : guardB n ops o = true)
    (h : VL P n ops rest K (upd e d undef) w) : VL P n ops (o :: rest) K e w := fun a ha => by
  have h1 := h _ (ha.put (Nat.le_of_ble_eq_true hn) undef)
  unfold wpList
  rw [yieldedE ha o (guardB_spec hgb), hw, if_neg (by simp), hd]
  exact h1
/-- The outcomes of calls that return. -/
def Ret (R : Value → World → Prop) : Ending → World → Prop
  | .returned v, w => R v w
  | _, _ => False
def RunC (P : Program) (o : Oper) (e : Env) (w : World) (R : Value → World → Prop) : Prop :=
  ∃ f args, (execOp (ev e) o).run P w = .ok (.enter f args) w ∧ Calls P f args w (Ret R)
theorem VL_call {d : Nat} {R : Value → World → Prop} (hrun : RunC P o e w R) (hd : o.dst = some d) (hn : Nat.blt d n = true) (hw : wantedE ops o e = true) (hgb : guardB n ops o = true)
    (h : ∀ v w', R v w' → VL P n ops rest K (upd e d v) w') : VL P n ops (o :: rest) K e w := fun a ha => by
  obtain ⟨f, args, h1, h2⟩ := hrun
  unfold wpList
  rw [yieldedE ha o (guardB_spec hgb), hw, if_pos rfl]
  left
  unfold Oper.wp
  rw [ha.eval, h1, Oper.upon_enter]
  refine h2.mono fun en w' hr => ?_
  cases en with
  | returned v =>
    show wpList P ops _ rest (a.put o.dst v) w'
    rw [hd]
    exact h v w' hr _ (ha.put (Nat.le_of_ble_eq_true hn) v)
  | panicked c => exact hr.elim
  | outgrown => exact hr.elim
/-- A slot that holds a Bool: both ways, the Bool written out. -/
theorem VL_split {l : List Oper} (t : Nat) {b : Bool} (ht : e t = .bool b) (h1 : b = true → VL P n ops l K (upd e t (.bool true)) w) (h2 : b = false → VL P n ops l K (upd e t (.bool false)) w) : VL P n ops l K e w := by
  have hu : ∀ u, e t = u → upd e t u = e := fun u hu => by
    funext s
    by_cases hs : s = t
    · subst hs; rw [upd_same]; exact hu.symm
    · rw [upd_other _ _ hs]
  cases b with
  | true => have := h1 rfl; rw [hu _ ht] at this; exact this
  | false => have := h2 rfl; rw [hu _ ht] at this; exact this
/-- The rest of a region only computes: the ways meet again. -/
theorem VL_join {l : List Oper} (wr : List Nat) {X : Type} (sl : X → List (Nat × Value)) (I : X → World → Prop)
    (h1 : VL P n ops l (fun e' w' => ∃ x, I x w' ∧ Has (sl x) e' ∧ Out wr e e') e w)
    (h2 : ∀ x w' j, I x w' → K (setAll (mix wr j e) (sl x)) w') : VL P n ops l K e w := fun a ha => by
  have key : ∀ (l : List Oper) (a : Act) (w : World), wpList P ops (fun x a' w' => x = .normal ∧ ∃ e', Ag n e' a' ∧ ∃ x, I x w' ∧ Has (sl x) e' ∧ Out wr e e') l a w →
      wpList P ops (fun x a' w' => x = .normal ∧ ∃ e', Ag n e' a' ∧ K e' w') l a w := by
    intro l
    induction l with
    | nil =>
      intro a w h
      obtain ⟨hx, e', g1, x, i1, i2, i3⟩ := h
      refine ⟨hx, e', g1, ?_⟩
      have := h2 x w e' i1
      rw [← slots_eq i3 i2] at this
      exact this
    | cons o l ih =>
      intro a w h
      unfold wpList at h ⊢
      split
      · rename_i hw
        rw [if_pos hw] at h
        rcases h with h | ⟨_, a2, w2, hx, _⟩
        · refine .inl ?_
          have h3 := Oper.wp_mono (fun a w hh => ih a w hh) h
          clear h
          unfold Oper.wp at h3 ⊢
          generalize (execOp a.eval o).run P w = r at h3 ⊢
          cases r with
          | ok nx w' =>
            cases nx <;> simp only [Oper.upon] at h3 ⊢ <;> first | exact h3 | skip
            refine h3.mono fun en w'' he => ?_
            cases en with
            | returned v => exact he
            | panicked c => exact absurd he.1 (by simp)
            | outgrown => obtain ⟨a3, w3, hh, _⟩ := he; cases hh
          | halt hh w' => cases hh <;> simp only [Oper.upon] at h3 ⊢; exact absurd h3.1 (by simp)
        · cases hx
      · rename_i hw
        rw [if_neg hw] at h
        exact ih _ _ h
  exact key l a w (h1 a ha)

/-! ### A function's beginning and end -/
def argE (args : Array Value) : Env := fun t => args.getD t undef
theorem argE_ag {args : Array Value} (h : args.size ≤ n) : Ag n (argE args) { tmps := args ++ Array.replicate (n - args.size) undef, defers := [] } := by
  refine ⟨by simp; omega, rfl, fun t => ?_⟩
  unfold argE
  simp only [Array.getD_eq_getD_getElem?, Array.getElem?_append]
  by_cases h1 : t < args.size
  · simp [h1]
  · rw [if_neg h1]
    have h2 : args[t]? = none := Array.getElem?_eq_none (by omega)
    rw [h2, Array.getElem?_replicate]
    split <;> rfl
def resE (e : Env) : ResultVar → Sem Value
  | .tmp t => pure (e t)
  | .cell a t => do loadVar t (← asAddr (e a))
def resultsE (fn : Func) (e : Env) : Sem Value := do
  let vs ← fn.results.mapM (resE e)
  pure (if h : vs.size = 1 then vs[0] else .tuple vs)
theorem resultsE_ag {fn : Func} {a : Act} (h : Ag n e a) : results fn a.tmps = resultsE fn e := by
  unfold results resultsE
  congr 1
  congr 1
  funext r
  cases r with
  | tmp t => simp only [resE, h.2.2]
  | cell x t => simp only [resE, h.2.2]
def retV (P : Program) (fn : Func) (R : Value → World → Prop) : Post
  | .normal, e, w => ∃ v, (resultsE fn e).run P w = .ok v w ∧ R v w
  | .ret, e, w => ∃ v, (resultsE fn e).run P w = .ok v w ∧ R v w
  | _, _, _ => False
theorem calls_enter {f : FuncId} {fn : Func} {c : Code} {args : Array Value} {R : Value → World → Prop} (hf : P.funcs[f]? = some fn) (hb : fn.body = some c) (hn : fn.ntmps = n) (hs : Nat.ble args.size n = true)
    (h : VS P n [c] (retV P fn R) (argE args) w) : Calls P f args w (Ret R) := by
  subst hn
  refine calls_of_wp hf hb ?_
  refine Code.wp_mono ?_ (VS_one h _ (argE_ag (Nat.le_of_ble_eq_true hs)))
  intro ex a' w' hx
  obtain ⟨e', h1, h2⟩ := hx
  cases ex with
  | normal =>
    obtain ⟨v, hv, hR⟩ := h2
    exact ⟨h1.2.1, v, by rw [resultsE_ag h1]; exact hv, hR⟩
  | ret =>
    obtain ⟨v, hv, hR⟩ := h2
    exact ⟨h1.2.1, v, by rw [resultsE_ag h1]; exact hv, hR⟩
  | exit id => exact h2
  | goto l => exact h2
  | panic ch => exact h2.elim
  | outgrown => exact h2
/-- One result variable read. -/
def ResR (P : Program) (e : Env) (w : World) : ResultVar → Value → Prop
  | .tmp t, v => e t = v
  | .cell a t, v => ∃ ad, e a = .pointer (some ad) ∧ (loadVar t ad).run P w = .ok v w
theorem res_tmp {t : Tmp} {v : Value} (h : e t = v) : ResR P e w (.tmp t) v := h
theorem ResR.run {r : ResultVar} {v : Value} (h : ResR P e w r v) : (resE e r).run P w = .ok v w := by
  cases r with
  | tmp t => simp only [ResR] at h; subst h; rfl
  | cell a t =>
    obtain ⟨ad, h1, h2⟩ := h
    simp [resE, h1, asAddr, h2]
theorem ret_none {fn : Func} (h : fn.results = #[]) : (resultsE fn e).run P w = .ok (.tuple #[]) w := by
  simp [resultsE, h]
theorem ret_one {fn : Func} {r : ResultVar} {v : Value} (h : fn.results = #[r]) (hr : ResR P e w r v) : (resultsE fn e).run P w = .ok v w := by
  have h1 := hr.run
  simp [resultsE, h, h1]
theorem ret_two {fn : Func} {r r' : ResultVar} {v v' : Value} (h : fn.results = #[r, r']) (hr : ResR P e w r v) (hr' : ResR P e w r' v') : (resultsE fn e).run P w = .ok (.tuple #[v, v']) w := by
  have h1 := hr.run
  have h2 := hr'.run
  simp [resultsE, h, h1, h2]
theorem ret_three {fn : Func} {r r' r'' : ResultVar} {v v' v'' : Value} (h : fn.results = #[r, r', r'']) (hr : ResR P e w r v) (hr' : ResR P e w r' v') (hr'' : ResR P e w r'' v'') :
    (resultsE fn e).run P w = .ok (.tuple #[v, v', v'']) w := by
  have h1 := hr.run
  have h2 := hr'.run
  have h3 := hr''.run
  simp [resultsE, h, h1, h2, h3]

theorem fin_none {fn : Func} {R : Value → World → Prop} (h : fn.results = #[]) (hR : R (.tuple #[]) w) : retV P fn R .ret e w := ⟨_, ret_none h, hR⟩
theorem fin_one {fn : Func} {R : Value → World → Prop} {r : ResultVar} {v : Value} (h : fn.results = #[r]) (hr : ResR P e w r v) (hR : R v w) : retV P fn R .ret e w := ⟨_, ret_one h hr, hR⟩
theorem fin_two {fn : Func} {R : Value → World → Prop} {r r' : ResultVar} {v v' : Value} (h : fn.results = #[r, r']) (hr : ResR P e w r v) (hr' : ResR P e w r' v') (hR : R (.tuple #[v, v']) w) : retV P fn R .ret e w := ⟨_, ret_two h hr hr', hR⟩
theorem fin_three {fn : Func} {R : Value → World → Prop} {r r' r'' : ResultVar} {v v' v'' : Value} (h : fn.results = #[r, r', r'']) (hr : ResR P e w r v) (hr' : ResR P e w r' v') (hr'' : ResR P e w r'' v'') (hR : R (.tuple #[v, v', v'']) w) : retV P fn R .ret e w := ⟨_, ret_three h hr hr' hr'', hR⟩

/-! ### Regions that draw their order -/
variable {md : Region.Mode} {k : Nat} {S : World → Prop}
/-- 'S' holds till number 'k' has come up (for good, if there is no such number). -/
def Till (k : Nat) (S : World → Prop) (l : Array Bool) (w : World) : Prop := l.getD k false = false → S w
/-- Whatever order is picked from here on. -/
def wpAnyS (P : Program) (md : Region.Mode) (ops : Array Oper) (Q : Exit → Act → World → Prop) (k : Nat) (S : World → Prop) : Nat → Array Bool → Act → World → Prop
  | 0, listed, a, w => Region.ready md ops listed = [] ∧ Q .normal a w
  | fuel + 1, listed, a, w =>
    (Region.ready md ops listed = [] → Q .normal a w) ∧
    ∀ i ∈ Region.ready md ops listed, wpOp P ops Q i (fun a' w' => Till k S (listed.setIfInBounds i true) w' ∧ wpAnyS P md ops Q k S fuel (listed.setIfInBounds i true) a' w') a w
theorem wpAny_of_S {Q : Exit → Act → World → Prop} : ∀ (fuel : Nat) (listed : Array Bool) (a : Act) (w : World), wpAnyS P md ops Q k S fuel listed a w → wpAny P md ops Q fuel listed a w
  | 0, _, _, _, h => h
  | fuel + 1, _, _, _, h => ⟨h.1, fun i hi => wpOp_mono (fun a' w' h' => wpAny_of_S fuel _ a' w' h'.2) (h.2 i hi)⟩
def waitsB (md : Region.Mode) (ops : Array Oper) (k i : Nat) : Bool :=
  match ops[k]? with
  | none => true
  | some o => o.after.any fun e => Region.binds md e && Nat.beq e.on i
theorem wpAnyS_first {Q : Exit → Act → World → Prop} {i : Nat} {oi : Oper} {v : Value} (hi : ops[i]? = some oi) (hsel : ∀ (j : Nat) (o : Oper) cs b, ops[j]? = some o → o.op ≠ .select cs b)
    (hQ : ∀ c a w, Q (.panic c) (a.put oi.dst v) w → Q (.panic c) a w) (hik : i ≠ k) (hwk : waitsB md ops k i = true) :
    ∀ (fuel : Nat) (listed : Array Bool) (a : Act) (w : World), listed.size = ops.size →
      (∀ j oj, ops[j]? = some oj → j ≠ i → listed.getD j true = false → (∀ e ∈ oj.after, Region.binds md e = true → e.on ≠ i) → oi.apart ops oj = true) →
      i ∈ Region.ready md ops listed → YieldsIf P ops S oi v a → listed.getD k false = false → S w →
      wpAnyS P md ops Q k S fuel (listed.setIfInBounds i true) (a.put oi.dst v) w → wpAnyS P md ops Q k S (fuel + 1) listed a w := by
  intro fuel
  induction fuel with
  | zero =>
    intro listed a w hsz _ hr hy hk hS H
    refine ⟨fun h => (by rw [h] at hr; cases hr), fun j hj => ?_⟩
    by_cases hji : j = i
    · subst hji; exact hy.wpOp hi hS ⟨fun _ => hS, H⟩
    · have := ready_mono hj hji
      rw [H.1] at this
      cases this
  | succ fuel ih =>
    intro listed a w hsz hfree hr hy hk hS H
    refine ⟨fun h => (by rw [h] at hr; cases hr), fun j hj => ?_⟩
    by_cases hji : j = i
    · subst hji; exact hy.wpOp hi hS ⟨fun _ => hS, H⟩
    · have h1 := H.2 j (ready_mono hj hji)
      obtain ⟨hjun, oj, hoj, hall⟩ := mem_ready.1 hj
      have hnot : ∀ e ∈ oj.after, Region.binds md e = true → e.on ≠ i := fun e he hb heq => by
        have h1 := hall e he hb
        have h0 := (mem_ready.1 hr).1
        rw [heq] at h1
        rcases Nat.lt_or_ge i listed.size with h' | h'
        · simp [h'] at h0 h1; rw [h0] at h1; cases h1
        · simp [Array.getElem?_eq_none h'] at h1
      have hjk : j ≠ k := fun hjk => by
        subst hjk
        unfold waitsB at hwk
        simp only [hoj] at hwk
        obtain ⟨e, he, hb⟩ := Array.any_eq_true'.1 hwk
        simp only [Bool.and_eq_true] at hb
        exact hnot e he hb.1 (Nat.eq_of_beq_eq_true hb.2)
      have h2 := wpOp_putIf hoj (hfree j oj hoj hji hjun hnot) (fun cs b => hsel i oi cs b hi) (fun cs b => hsel j oj cs b hoj) hQ hy h1
      have hfree' : ∀ m om, ops[m]? = some om → m ≠ i → (listed.setIfInBounds j true).getD m true = false →
          (∀ e ∈ om.after, Region.binds md e = true → e.on ≠ i) → oi.apart ops om = true := fun m om hm hmi hun hno => by
        refine hfree m om hm hmi ?_ hno
        by_cases hjm : j = m
        · subst hjm; exact hjun
        · rw [getD_set_ne true hjm] at hun; exact hun
      have hk2 : (listed.setIfInBounds j true).getD k false = false := by rw [getD_set_ne false hjk]; exact hk
      have hk3 : ((listed.setIfInBounds i true).setIfInBounds j true).getD k false = false := by rw [getD_set_ne false hjk, getD_set_ne false hik]; exact hk
      refine wpOp_mono (fun a' w' h3 => ?_) h2
      obtain ⟨h4, h5, h6⟩ := h3
      have h7 : S w' := h5 hk3
      rw [Array.setIfInBounds_comm _ _ (Ne.symm hji)] at h6
      exact ⟨fun _ => h7, ih (listed.setIfInBounds j true) a' w' (by simpa using hsz) hfree' (ready_mono hr (Ne.symm hji)) h4 hk2 h7 h6⟩

def VA (P : Program) (n : Nat) (ops : Array Oper) (k : Nat) (S : World → Prop) (K : Env → World → Prop) (fuel : Nat) (listed : Array Bool) (e : Env) (w : World) : Prop :=
  listed.size = ops.size → ∀ a, Ag n e a → wpAnyS P .any ops (fun x a' w' => x = .normal ∧ ∃ e', Ag n e' a' ∧ K e' w') k S fuel listed a w
theorem VS_draw {id : Nat} {r : List Code} (k : Nat) (S : World → Prop) (hm : P.follows .mixedOrders = true)
    (h : VA P n ops k S (VS P n r Q) ops.size (Array.replicate ops.size false) e w.drew) : VS P n (.region id ops true :: r) Q e w := fun a ha =>
  Code.wp_mono (fun ex a' w' hx => by
    obtain ⟨rfl, e', h1, h2⟩ := hx
    exact ⟨e', h1, h2⟩) (wp_region_any hm (wpAny_of_S _ _ _ _ (h (by simp) a ha)))
variable {fuel : Nat} {listed : Array Bool}
/-- All that is asked of a taking, but for what it yields. -/
def takeB (n : Nat) (ops : Array Oper) (listed : Array Bool) (k i d : Nat) : Bool :=
  Region.noSelect ops && Region.free .any ops listed i && (Region.ready .any ops listed).contains i && waitsB .any ops k i && !listed.getD k false && !Nat.beq i k &&
    (match ops[i]? with | some o => o.dst == some d && guardB n ops o && Nat.blt d n | none => false)
theorem VA_take (i : Nat) {d : Nat} {v : Value} (ho : ops[i]? = some o) (hb : takeB n ops listed k i d = true) (hw : wantedE ops o e = true)
    (hrun : ∀ w, S w → RunV P o e w v w) (hS : S w)
    (h : VA P n ops k S K fuel (listed.setIfInBounds i true) (upd e d v) w) : VA P n ops k S K (fuel + 1) listed e w := fun hsz a ha => by
  simp only [takeB, Bool.and_eq_true, ho, Bool.not_eq_true', beq_iff_eq] at hb
  obtain ⟨⟨⟨⟨⟨⟨h1, h2⟩, h3⟩, h4⟩, h5⟩, h6⟩, ⟨h7, h8⟩, h9⟩ := hb
  have hne : i ≠ k := fun e => by subst e; rw [Nat.beq_refl] at h6; cases h6
  have hlt : d < n := Nat.le_of_ble_eq_true h9
  refine wpAnyS_first (v := v) ho (Region.noSelect_spec h1) (fun c a w hh => absurd hh.1 (by simp)) hne h4 fuel listed a w hsz (Region.free_spec ho h2) (by simpa using h3) ?_ h5 hS ?_
  · refine .inl ⟨by rw [yieldedE ha o (guardB_spec h8)]; exact hw, fun w hs => ?_⟩
    rw [ha.eval]
    exact hrun w hs
  · rw [h7]
    exact h (by simpa using hsz) _ (ha.put hlt v)
/-- The same of an operation whose guard says no. -/
theorem VA_not (i : Nat) {d : Nat} (ho : ops[i]? = some o) (hb : takeB n ops listed k i d = true) (hw : wantedE ops o e = false) (hS : S w)
    (h : VA P n ops k S K fuel (listed.setIfInBounds i true) (upd e d undef) w) : VA P n ops k S K (fuel + 1) listed e w := fun hsz a ha => by
  simp only [takeB, Bool.and_eq_true, ho, Bool.not_eq_true', beq_iff_eq] at hb
  obtain ⟨⟨⟨⟨⟨⟨h1, h2⟩, h3⟩, h4⟩, h5⟩, h6⟩, ⟨h7, h8⟩, h9⟩ := hb
  have hne : i ≠ k := fun e => by subst e; rw [Nat.beq_refl] at h6; cases h6
  have hlt : d < n := Nat.le_of_ble_eq_true h9
  refine wpAnyS_first (v := undef) ho (Region.noSelect_spec h1) (fun c a w hh => absurd hh.1 (by simp)) hne h4 fuel listed a w hsz (Region.free_spec ho h2) (by simpa using h3) ?_ h5 hS ?_
  · exact .inr ⟨by rw [yieldedE ha o (guardB_spec h8)]; exact hw, rfl⟩
  · rw [h7]
    exact h (by simpa using hsz) _ (ha.put hlt undef)
/-- Whichever comes up. -/
theorem VA_all {rs : List Nat} (hr : Region.ready .any ops listed = rs) (hne : rs.isEmpty = false)
    (h : ∀ i ∈ rs, ∀ a, listed.size = ops.size → Ag n e a → wpOp P ops (fun x a' w' => x = .normal ∧ ∃ e', Ag n e' a' ∧ K e' w') i (fun a' w' => Till k S (listed.setIfInBounds i true) w' ∧
      wpAnyS P .any ops (fun x a' w' => x = .normal ∧ ∃ e', Ag n e' a' ∧ K e' w') k S fuel (listed.setIfInBounds i true) a' w') a w) : VA P n ops k S K (fuel + 1) listed e w := fun hsz a ha =>
  ⟨fun h0 => by rw [h0] at hr; subst hr; simp at hne, fun i hi => h i (hr ▸ hi) a hsz ha⟩
/-- One of those that may come up. -/
def VO (P : Program) (n : Nat) (ops : Array Oper) (k : Nat) (S : World → Prop) (K : Env → World → Prop) (fuel : Nat) (listed : Array Bool) (e : Env) (w : World) (i : Nat) : Prop :=
  ∀ a, listed.size = ops.size → Ag n e a → wpOp P ops (fun x a' w' => x = .normal ∧ ∃ e', Ag n e' a' ∧ K e' w') i (fun a' w' => Till k S (listed.setIfInBounds i true) w' ∧
      wpAnyS P .any ops (fun x a' w' => x = .normal ∧ ∃ e', Ag n e' a' ∧ K e' w') k S fuel (listed.setIfInBounds i true) a' w') a w
theorem VA_one {i : Nat} (hr : Region.ready .any ops listed = [i]) (h : VO P n ops k S K fuel listed e w i) : VA P n ops k S K (fuel + 1) listed e w :=
  VA_all hr rfl fun j hj => by obtain rfl : j = i := by simpa using hj
                               exact h
theorem VA_two {i j : Nat} (hr : Region.ready .any ops listed = [i, j]) (h : VO P n ops k S K fuel listed e w i) (h' : VO P n ops k S K fuel listed e w j) : VA P n ops k S K (fuel + 1) listed e w :=
  VA_all hr rfl fun m hm => by
    rcases List.mem_cons.1 hm with rfl | hm
    · exact h
    · obtain rfl : m = j := by simpa using hm
      exact h'
theorem VA_done (hr : Region.ready .any ops listed = []) (h : K e w) : VA P n ops k S K fuel listed e w := fun hsz a ha => by
  cases fuel with
  | zero => exact ⟨hr, rfl, e, ha, h⟩
  | succ f => exact ⟨fun _ => ⟨rfl, e, ha, h⟩, by rw [hr]; simp⟩
theorem VO_val {i d : Nat} {v : Value} {w' : World} (ho : ops[i]? = some o) (hrun : RunV P o e w v w') (hd : o.dst = some d) (hn : Nat.blt d n = true) (hw : wantedE ops o e = true) (hgb : guardB n ops o = true)
    (hS : Till k S (listed.setIfInBounds i true) w') (h : VA P n ops k S K fuel (listed.setIfInBounds i true) (upd e d v) w') : VO P n ops k S K fuel listed e w i := fun a hsz ha => by
  unfold wpOp
  simp only [ho]
  rw [yieldedE ha o (guardB_spec hgb), hw, if_pos rfl]
  left
  unfold Oper.wp
  rw [ha.eval, hrun]
  show _ ∧ wpAnyS P .any ops _ k S fuel _ (a.put o.dst v) w'
  rw [hd]
  exact ⟨hS, h (by simpa using hsz) _ (ha.put (Nat.le_of_ble_eq_true hn) v)⟩
theorem VO_unit {i : Nat} {w' : World} (ho : ops[i]? = some o) (hrun : RunU P o e w w') (hd : o.dst = none) (hw : wantedE ops o e = true) (hgb : guardB n ops o = true)
    (hS : Till k S (listed.setIfInBounds i true) w') (h : VA P n ops k S K fuel (listed.setIfInBounds i true) e w') : VO P n ops k S K fuel listed e w i := fun a hsz ha => by
  unfold wpOp
  simp only [ho]
  rw [yieldedE ha o (guardB_spec hgb), hw, if_pos rfl]
  left
  unfold Oper.wp
  rw [ha.eval, hrun]
  show _ ∧ wpAnyS P .any ops _ k S fuel _ (a.put o.dst undef) w'
  rw [hd]
  exact ⟨hS, h (by simpa using hsz) _ ha⟩
theorem VO_call {i d : Nat} {R : Value → World → Prop} (ho : ops[i]? = some o) (hrun : RunC P o e w R) (hd : o.dst = some d) (hn : Nat.blt d n = true) (hw : wantedE ops o e = true) (hgb : guardB n ops o = true)
    (h : ∀ v w', R v w' → Till k S (listed.setIfInBounds i true) w' ∧ VA P n ops k S K fuel (listed.setIfInBounds i true) (upd e d v) w') : VO P n ops k S K fuel listed e w i := fun a hsz ha => by
  obtain ⟨f, args, h1, h2⟩ := hrun
  unfold wpOp
  simp only [ho]
  rw [yieldedE ha o (guardB_spec hgb), hw, if_pos rfl]
  left
  unfold Oper.wp
  rw [ha.eval, h1, Oper.upon_enter]
  refine h2.mono fun en w' hr => ?_
  cases en with
  | returned v =>
    show _ ∧ wpAnyS P .any ops _ k S fuel _ (a.put o.dst v) w'
    rw [hd]
    obtain ⟨g1, g2⟩ := h v w' hr
    exact ⟨g1, g2 (by simpa using hsz) _ (ha.put (Nat.le_of_ble_eq_true hn) v)⟩
  | panicked c => exact hr.elim
  | outgrown => exact hr.elim
theorem VA_split (t : Nat) {b : Bool} (ht : e t = .bool b) (h1 : b = true → VA P n ops k S K fuel listed (upd e t (.bool true)) w) (h2 : b = false → VA P n ops k S K fuel listed (upd e t (.bool false)) w) : VA P n ops k S K fuel listed e w := by
  have hu : ∀ u, e t = u → upd e t u = e := fun u hu => by
    funext s
    by_cases hs : s = t
    · subst hs; rw [upd_same]; exact hu.symm
    · rw [upd_other _ _ hs]
  cases b with
  | true => have := h1 rfl; rw [hu _ ht] at this; exact this
  | false => have := h2 rfl; rw [hu _ ht] at this; exact this
end
end Go.Proofs.Ytkefaelmamgjiaa
