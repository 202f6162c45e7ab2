/- Plain facts on trees: how big they are, parts at paths. -/
import Derived.Test.YtkefaelmamgjiaaS5
set_option linter.unusedVariables false
set_option linter.unusedSimpArgs false
set_option maxHeartbeats 1000000
namespace Go.Proofs.Ytkefaelmamgjiaa
open Go.RowKit

theorem setZ_wt {f : Tr → Tr} {one gone : Bool} {q : ByteArray} {x : Tr} {G : Nat} (hG : 1 ≤ G) (hf : ∀ k, (f k).wt ≤ k.wt * G) : ∀ (ks : List Tr) (ns : List ByteArray) (done : Bool),
    namesWt ((setZ f one gone q x ks ns done).map Prod.fst) + Tr.wts ((setZ f one gone q x ks ns done).map Prod.snd) ≤ namesWt ns + Tr.wts ks * G + (bif done then 0 else 1 + q.size + x.wt)
  | [], ns, done => by
    simp only [setZ]
    cases done <;> cases one <;> cases gone <;> simp [namesWt, Tr.wts] <;> omega
  | k :: ks, [], done => by
    simp only [setZ]
    cases done <;> cases one <;> cases gone <;> simp [namesWt, Tr.wts] <;> omega
  | k :: ks, n :: ns, done => by
    have ih := setZ_wt (one := one) (gone := gone) (q := q) (x := x) hG hf ks ns (done || setIns one gone q n done)
    have h1 := hf k
    have h2 : k.wt ≤ k.wt * G := Nat.le_mul_of_pos_right _ hG
    simp only [setZ, List.map_append, Tr.wts, namesWt]
    have happ : ∀ a b : List ByteArray, namesWt (a ++ b) = namesWt a + namesWt b := by
      intro a b
      induction a with
      | nil => simp [namesWt]
      | cons x a ih => simp [namesWt, ih]; omega
    have happ2 : ∀ a b : List Tr, Tr.wts (a ++ b) = Tr.wts a + Tr.wts b := by
      intro a b
      induction a with
      | nil => simp [Tr.wts]
      | cons x a ih => simp [Tr.wts, ih]; omega
    rw [happ, happ, happ2, happ2, Nat.add_mul]
    clear hf
    have hi : setIns one gone q n done = true → done = false := by unfold setIns; cases done <;> simp
    cases hs : setIns one gone q n done <;> cases hd : done <;> cases ho : (decide (n = q) && one) <;> cases hn : decide (n = q) <;> simp_all [namesWt, Tr.wts] <;> omega
theorem setP_wt : ∀ (p : List ByteArray) (x : Tr) (gone : Bool) (t : Tr), (setP p x gone t).wt ≤ t.wt * (x.wt + namesWt p + 1)
  | [], x, gone, t => by rw [setP]; exact Nat.le_mul_of_pos_right _ (by omega)
  | q :: p, x, gone, t => by
    have h := setZ_wt (f := setP p x gone) (one := decide (p.length = 0)) (gone := gone) (q := q) (x := x) (G := x.wt + namesWt p + 1) (by omega) (fun k => setP_wt p x gone k) t.kids t.names false
    rw [setP, t.wt_eq]
    simp only [Tr.wt, namesWt, cond_false] at h ⊢
    have e : x.wt + (1 + q.size + namesWt p) + 1 = (x.wt + namesWt p + 1) + (1 + q.size) := by omega
    rw [e]
    have hG : 1 + x.wt ≤ x.wt + namesWt p + 1 := by omega
    generalize x.wt + namesWt p + 1 = G at *
    generalize namesWt t.names = a at *
    generalize Tr.wts t.kids = b at *
    generalize t.data.size = c at *
    have h1 : (1 + c + a + b) * (G + (1 + q.size)) = (1 + c + a + b) * G + (1 + c + a + b) * (1 + q.size) := Nat.mul_add _ _ _
    have h2 : (1 + c + a + b) * G = G + c * G + a * G + b * G := by rw [Nat.add_mul, Nat.add_mul, Nat.add_mul, Nat.one_mul]
    have h3 : c ≤ c * G := Nat.le_mul_of_pos_right _ (by omega)
    have h4 : a ≤ a * G := Nat.le_mul_of_pos_right _ (by omega)
    have h5 : 1 + q.size ≤ (1 + c + a + b) * (1 + q.size) := Nat.le_mul_of_pos_left _ (by omega)
    omega
end Go.Proofs.Ytkefaelmamgjiaa
