/- Texts as lists of bytes: paths, numbers, bytes in hexadecimal, lines. -/
import Derived.Test.YtkefaelmamgjiaaDoorShp

set_option linter.unusedVariables false
namespace Go.Proofs.YtkefaelmamgjiaaDoor
open Go.RowKit

def ba (l : List UInt8) : ByteArray := ⟨l.toArray⟩
theorem ba_ext {s r : ByteArray} (h : s.data.toList = r.data.toList) : s = r := by
  cases s with
  | mk a => cases r with
    | mk b => cases a with
      | mk x => cases b with
        | mk y => obtain rfl : x = y := h
                  rfl
theorem ba_list (l : List UInt8) : (ba l).data.toList = l := rfl
theorem ba_eta (s : ByteArray) : ba s.data.toList = s := ba_ext rfl
theorem ba_size (l : List UInt8) : (ba l).size = l.length := rfl
theorem app_list (s r : ByteArray) : (s ++ r).data.toList = s.data.toList ++ r.data.toList := ByteArray.toList_data_append
theorem app_size (s r : ByteArray) : (s ++ r).size = s.size + r.size := ByteArray.size_append
theorem size_list (s : ByteArray) : s.data.toList.length = s.size := rfl
theorem eq_empty (s : ByteArray) : s = ⟨#[]⟩ ↔ s.data.toList = [] := ⟨fun h => by rw [h], fun h => ba_ext (by rw [h])⟩
/-- A path, '/' ahead of each name. -/
def pathL (p : List ByteArray) : List UInt8 := p.flatMap fun x => 47 :: x.data.toList
def pathT (p : List ByteArray) : ByteArray := bif p.isEmpty then ba [47] else ba (pathL p)
theorem pathL_snoc (p : List ByteArray) (x : ByteArray) : pathL (p ++ [x]) = pathL p ++ (47 :: x.data.toList) := by simp [pathL]
theorem pathL_len : ∀ p : List ByteArray, (pathL p).length = namesWt p
  | [] => rfl
  | x :: p => by
    have := pathL_len p
    have h2 := size_list x
    simp only [pathL, List.flatMap_cons, List.length_append, List.length_cons, namesWt] at *
    omega
theorem pathT_size (p : List ByteArray) : (pathT p).size ≤ namesWt p + 1 := by
  cases p with
  | nil => simp [pathT, ba_size, namesWt]
  | cons x p =>
    have := pathL_len (x :: p)
    simp only [pathT, List.isEmpty_cons, cond_false, ba_size]
    omega
/-- A figure. -/
def dig (n : Nat) : UInt8 := [48, 49, 50, 51, 52, 53, 54, 55, 56, 57, 97, 98, 99, 100, 101, 102].getD n 0
def digT : ByteArray := ⟨#[48, 49, 50, 51, 52, 53, 54, 55, 56, 57, 97, 98, 99, 100, 101, 102]⟩
def hexL (l : List UInt8) : List UInt8 := l.flatMap fun b => [dig (b.toNat / 16), dig (b.toNat % 16)]
theorem hexL_snoc (l : List UInt8) (b : UInt8) : hexL (l ++ [b]) = hexL l ++ [dig (b.toNat / 16), dig (b.toNat % 16)] := by simp [hexL]
theorem hexL_len (l : List UInt8) : (hexL l).length = 2 * l.length := by
  induction l with
  | nil => rfl
  | cons b l ih => simp only [hexL, List.flatMap_cons, List.length_append, List.length_cons, List.length_nil] at *; omega
def hexT (s : ByteArray) : ByteArray := bif decide (s = ⟨#[]⟩) then ba [45] else ba (hexL s.data.toList)
theorem hexT_size (s : ByteArray) : (hexT s).size ≤ 2 * s.size + 1 := by
  unfold hexT
  cases decide (s = ⟨#[]⟩) with
  | true => simp [ba_size]
  | false =>
    have := hexL_len s.data.toList
    have := size_list s
    simp only [cond_false, ba_size]
    omega
theorem dig_cut : ∀ n : Nat, n < 16 → (digT.extract n (n + 1)).data.toList = [dig n] := by
  intro n h
  match n, h with
  | 0, _ | 1, _ | 2, _ | 3, _ | 4, _ | 5, _ | 6, _ | 7, _ | 8, _ | 9, _ | 10, _ | 11, _ | 12, _ | 13, _ | 14, _ | 15, _ => rfl
  | n + 16, h => omega
theorem dig_get : ∀ n : Nat, n < 16 → digT[n]? = some (dig n) := by
  intro n h
  match n, h with
  | 0, _ | 1, _ | 2, _ | 3, _ | 4, _ | 5, _ | 6, _ | 7, _ | 8, _ | 9, _ | 10, _ | 11, _ | 12, _ | 13, _ | 14, _ | 15, _ => rfl
  | n + 16, h => omega
/-- The line of a part. -/
def lineL (path : List UInt8) (dir : Bool) (mode : Nat) (data : ByteArray) : List UInt8 :=
  bif dir then [100, 105, 114, 32] ++ path ++ [32] ++ [dig mode] ++ [10] else [102, 105, 108, 101, 32] ++ path ++ [32] ++ [dig mode] ++ [32] ++ (hexT data).data.toList ++ [10]
theorem lineL_len (path : List UInt8) (dir : Bool) (mode : Nat) (data : ByteArray) : (lineL path dir mode data).length ≤ path.length + 2 * data.size + 10 := by
  have h := hexT_size data
  have h2 := size_list (hexT data)
  unfold lineL
  cases dir <;> simp only [cond_true, cond_false, List.length_append, List.length_cons, List.length_nil] <;> omega
end Go.Proofs.YtkefaelmamgjiaaDoor
