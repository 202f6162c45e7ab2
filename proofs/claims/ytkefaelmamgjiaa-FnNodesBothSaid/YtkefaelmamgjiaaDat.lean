/- Trees and paths as data. -/
import Derived.Test.YtkefaelmamgjiaaEng7
set_option linter.unusedVariables false
namespace Go.Proofs.Ytkefaelmamgjiaa
open Go.RowKit

inductive Tr where
  | mk (dir : Bool) (mode : Int) (data : ByteArray) (names : List ByteArray) (kids : List Tr)
def Tr.dir : Tr → Bool | .mk d _ _ _ _ => d
def Tr.mode : Tr → Int | .mk _ m _ _ _ => m
def Tr.data : Tr → ByteArray | .mk _ _ s _ _ => s
def Tr.names : Tr → List ByteArray | .mk _ _ _ n _ => n
def Tr.kids : Tr → List Tr | .mk _ _ _ _ k => k
def strsD (xs : List ByteArray) : List D := xs.map .str
mutual
def Tr.toD : Tr → D
  | .mk d m s ns ks => .st [.bool d, .int .i64 m, .str s, .sl (strsD ns), .sl (Tr.toDs ks)]
def Tr.toDs : List Tr → List D
  | [] => []
  | t :: ts => t.toD :: Tr.toDs ts
end
theorem Tr.ind {p : Tr → Prop} (h : ∀ t, (∀ k ∈ t.kids, p k) → p t) : ∀ t, p t := by
  intro t
  have key : ∀ n, ∀ t : Tr, SizeOf.sizeOf t ≤ n → p t := by
    intro n
    induction n with
    | zero =>
      intro t ht
      cases t
      simp at ht
    | succ n ih =>
      intro t ht
      refine h t fun k hk => ih k ?_
      cases t with
      | mk a b c d ks =>
        have : SizeOf.sizeOf k < SizeOf.sizeOf ks := List.sizeOf_lt_of_mem hk
        simp at ht
        omega
  exact key _ t (Nat.le_refl _)
/-- How much there is in it. -/
def namesWt (ns : List ByteArray) : Nat := match ns with | [] => 0 | n :: r => 1 + n.size + namesWt r
mutual
def Tr.wt : Tr → Nat
  | .mk _ _ s ns ks => 1 + s.size + namesWt ns + Tr.wts ks
def Tr.wts : List Tr → Nat
  | [] => 0
  | t :: ts => t.wt + Tr.wts ts
end
def Tr.Fit (t : Tr) : Prop := t.wt ≤ 1000000000
theorem Tr.wt_pos (t : Tr) : 1 ≤ t.wt := by cases t; simp only [Tr.wt]; omega
theorem namesWt_len : ∀ ns : List ByteArray, ns.length ≤ namesWt ns
  | [] => Nat.le_refl _
  | n :: r => by have := namesWt_len r; simp only [namesWt, List.length_cons]; omega
theorem namesWt_mem : ∀ {ns : List ByteArray} {n : ByteArray}, n ∈ ns → n.size ≤ namesWt ns
  | m :: r, n, h => by
    rcases List.mem_cons.1 h with rfl | h
    · simp only [namesWt]; omega
    · have := namesWt_mem h; simp only [namesWt]; omega
theorem wts_len : ∀ ts : List Tr, ts.length ≤ Tr.wts ts
  | [] => Nat.le_refl _
  | t :: r => by have := wts_len r; have := t.wt_pos; simp only [Tr.wts, List.length_cons]; omega
theorem wts_mem : ∀ {ts : List Tr} {t : Tr}, t ∈ ts → t.wt ≤ Tr.wts ts
  | m :: r, n, h => by
    rcases List.mem_cons.1 h with rfl | h
    · simp only [Tr.wts]; omega
    · have := wts_mem h; simp only [Tr.wts]; omega
theorem Tr.wt_eq (t : Tr) : t.wt = 1 + t.data.size + namesWt t.names + Tr.wts t.kids := by cases t; rfl
theorem Tr.Fit.names {t : Tr} (h : t.Fit) : t.names.length ≤ 1000000000 := by have := namesWt_len t.names; have := t.wt_eq; unfold Tr.Fit at h; omega
theorem Tr.Fit.kids {t : Tr} (h : t.Fit) : t.kids.length ≤ 1000000000 := by have := wts_len t.kids; have := t.wt_eq; unfold Tr.Fit at h; omega
theorem Tr.Fit.data {t : Tr} (h : t.Fit) : t.data.size ≤ 1000000000 := by have := t.wt_eq; unfold Tr.Fit at h; omega
theorem Tr.Fit.name {t : Tr} (h : t.Fit) : ∀ x ∈ t.names, x.size ≤ 1000000000 := fun x hx => by have := namesWt_mem hx; have := t.wt_eq; unfold Tr.Fit at h; omega
theorem Tr.Fit.kid {t : Tr} (h : t.Fit) : ∀ x ∈ t.kids, x.Fit := fun x hx => by have := wts_mem hx; have := t.wt_eq; unfold Tr.Fit at h ⊢; omega
theorem Tr.toDs_map : ∀ ts : List Tr, Tr.toDs ts = ts.map Tr.toD
  | [] => rfl
  | t :: ts => by simp [Tr.toDs, Tr.toDs_map ts]
theorem Tr.toD_wd (t : Tr) : t.toD.wd = 5 := by cases t; rfl
theorem Tr.toDs_wd (ts : List Tr) : ∀ d ∈ Tr.toDs ts, d.wd = 5 := by
  intro d hd
  rw [Tr.toDs_map] at hd
  obtain ⟨t, _, rfl⟩ := List.mem_map.1 hd
  exact t.toD_wd
@[simp] theorem Tr.toDs_length (ts : List Tr) : (Tr.toDs ts).length = ts.length := by rw [Tr.toDs_map]; simp
@[simp] theorem strsD_length (xs : List ByteArray) : (strsD xs).length = xs.length := by simp [strsD]
theorem strsD_wd (xs : List ByteArray) : ∀ d ∈ strsD xs, d.wd = 1 := by
  intro d hd
  obtain ⟨x, _, rfl⟩ := List.mem_map.1 hd
  rfl
theorem strsD_get {xs : List ByteArray} {i : Nat} (h : i < (strsD xs).length) : (strsD xs)[i] = .str (xs[i]'(by simpa using h)) := by simp [strsD]
theorem Tr.toDs_get {ts : List Tr} {i : Nat} (h : i < (Tr.toDs ts).length) : (Tr.toDs ts)[i] = (ts[i]'(by simpa using h)).toD := by simp [Tr.toDs_map]
theorem Tr.toDs_snoc (ts : List Tr) (t : Tr) : Tr.toDs ts ++ [t.toD] = Tr.toDs (ts ++ [t]) := by simp [Tr.toDs_map]
theorem strsD_snoc (xs : List ByteArray) (x : ByteArray) : strsD xs ++ [.str x] = strsD (xs ++ [x]) := by simp [strsD]
theorem take_snoc {α : Type} {l : List α} {k : Nat} (h : k < l.length) : l.take k ++ [l[k]] = l.take (k + 1) := by rw [List.take_succ_eq_append_getElem h]
section
variable {okc : Nat → Prop} {w : World}
theorem Rd_st5 {a b c d f : D} {cs : List Value} (h : Rd okc w (.st [a, b, c, d, f]) cs) : ∃ c1 c2 c3 c4 c5, cs = c1 ++ (c2 ++ (c3 ++ (c4 ++ c5))) ∧ Rd okc w a c1 ∧ Rd okc w b c2 ∧ Rd okc w c c3 ∧ Rd okc w d c4 ∧ Rd okc w f c5 := by
  obtain ⟨c1, _, rfl, h1, c2, _, rfl, h2, c3, _, rfl, h3, c4, _, rfl, h4, c5, _, rfl, h5, rfl⟩ := h
  exact ⟨c1, c2, c3, c4, c5, by simp, h1, h2, h3, h4, h5⟩
theorem Rd_mk5 {a b c d f : D} {x1 x2 x3 x4 x5 : Value} (h1 : Rd okc w a [x1]) (h2 : Rd okc w b [x2]) (h3 : Rd okc w c [x3]) (h4 : Rd okc w d [x4]) (h5 : Rd okc w f [x5]) : Rd okc w (.st [a, b, c, d, f]) [x1, x2, x3, x4, x5] :=
  ⟨[x1], _, rfl, h1, [x2], _, rfl, h2, [x3], _, rfl, h3, [x4], _, rfl, h4, [x5], [], rfl, h5, rfl⟩
theorem Rd_sl1 {ds : List D} {cs : List Value} (h : Rd okc w (.sl ds) cs) : ∃ A c, cs = [.slice A ds.length c] ∧ ds.length ≤ c := by
  obtain ⟨A, c, h1, h2, _⟩ := h
  exact ⟨A, c, h1, h2⟩
abbrev trC (t : Tr) (A3 : Option Addr) (c3 : Nat) (A4 : Option Addr) (c4 : Nat) : List Value := [.bool t.dir, .int .i64 t.mode, .string t.data, .slice A3 t.names.length c3, .slice A4 t.kids.length c4]
abbrev tr0 : List Value := [.bool false, .int .i64 0, .string ⟨#[]⟩, .slice none 0 0, .slice none 0 0]
/-- A tree's cells, laid open. -/
theorem Tr.opn {t : Tr} {cs : List Value} (h : Rd okc w t.toD cs) : ∃ A3 c3 A4 c4, cs = [.bool t.dir, .int .i64 t.mode, .string t.data, .slice A3 t.names.length c3, .slice A4 t.kids.length c4] ∧ t.names.length ≤ c3 ∧ t.kids.length ≤ c4 ∧
    Rd okc w (.sl (strsD t.names)) [.slice A3 t.names.length c3] ∧ Rd okc w (.sl (Tr.toDs t.kids)) [.slice A4 t.kids.length c4] := by
  cases t with
  | mk dd m s ns ks =>
    obtain ⟨c1, c2, c3, c4, c5, rfl, h1, h2, h3, h4, h5⟩ := Rd_st5 h
    simp only [Rd] at h1 h2 h3
    subst h1 h2 h3
    obtain ⟨A3, c3, rfl, hl3⟩ := Rd_sl1 h4
    obtain ⟨A4, c4, rfl, hl4⟩ := Rd_sl1 h5
    simp only [strsD_length, Tr.toDs_length] at h4 h5 hl3 hl4 ⊢
    exact ⟨A3, c3, A4, c4, rfl, hl3, hl4, h4, h5⟩
theorem Tr.shut {dd : Bool} {m : Int} {s : ByteArray} {ns : List ByteArray} {ks : List Tr} {v3 v4 : Value} (h3 : Rd okc w (.sl (strsD ns)) [v3]) (h4 : Rd okc w (.sl (Tr.toDs ks)) [v4]) : Rd okc w (Tr.mk dd m s ns ks).toD [.bool dd, .int .i64 m, .string s, v3, v4] :=
  Rd_mk5 rfl rfl rfl h3 h4
theorem Tr.shut' {t : Tr} {v3 v4 : Value} (h3 : Rd okc w (.sl (strsD t.names)) [v3]) (h4 : Rd okc w (.sl (Tr.toDs t.kids)) [v4]) : Rd okc w t.toD [.bool t.dir, .int .i64 t.mode, .string t.data, v3, v4] := by
  cases t
  exact Rd_mk5 rfl rfl rfl h3 h4
theorem Rd_str {s : ByteArray} {cs : List Value} (h : Rd okc w (.str s) cs) : cs = [.string s] := h
end

/-! ### Parts of slices -/
theorem RdE.drop {ok : Nat → Prop} {w : World} {z : Nat} : ∀ {ds : List D} {ad : Addr} (l : Nat), (∀ d ∈ ds, d.wd = z) → 0 < z → l ≤ ds.length → RdE ok w ds (some ad) → RdE ok w (ds.drop l) (some (ad.add (l * z)))
  | ds, ad, 0, _, _, _, h => by rw [Nat.zero_mul]; exact h
  | [], ad, l + 1, _, _, h0, h => absurd h0 (by simp)
  | d :: ds, _, l + 1, hw, hz, h0, ⟨ad, cs, rfl, h3, h4, h5, h6, h7⟩ => by
    have hl : cs.length = z := by rw [Rd.length d cs h5]; exact hw d (by simp)
    have hsp : ad.spot = none := by
      cases cs with
      | nil => simp at hl; omega
      | cons v vs => exact cell_spot (h6 0 v rfl)
    have := RdE.drop (z := z) l (fun x hx => hw x (by simp [hx])) hz (by simpa using h0) h7
    rw [addr_add_add _ _ _ hsp, hl] at this
    have e : z + l * z = (l + 1) * z := by rw [Nat.add_mul]; omega
    rw [e] at this
    exact this
theorem RdE.none_nil {ok : Nat → Prop} {w : World} : ∀ {ds : List D}, RdE ok w ds none → ds = []
  | [], _ => rfl
  | d :: ds, h => by obtain ⟨ad, cs, h1, _⟩ := h; cases h1
theorem RdE.take {ok : Nat → Prop} {w : World} : ∀ {ds : List D} {A : Option Addr} (l : Nat), RdE ok w ds A → RdE ok w (ds.take l) A
  | _, _, 0, _ => trivial
  | [], _, l + 1, _ => trivial
  | d :: ds, _, l + 1, ⟨ad, cs, h2, h3, h4, h5, h6, h7⟩ => ⟨ad, cs, h2, h3, h4, h5, h6, RdE.take l h7⟩
/-- What 's[l:h]' is. -/
theorem Rd.part {ok : Nat → Prop} {w : World} {z l h : Nat} {ds : List D} {A : Option Addr} {n c : Nat} (hw : ∀ d ∈ ds, d.wd = z) (hz : 0 < z) (hd : Rd ok w (.sl ds) [.slice A n c]) (h1 : l ≤ h) (h2 : h ≤ n) :
    Rd ok w (.sl ((ds.drop l).take (h - l))) [.slice (if c = l then A else A.map (·.add (l * z))) (h - l) (c - l)] := by
  obtain ⟨A', c', h3, h4, h5⟩ := hd
  obtain ⟨rfl, rfl, rfl⟩ : A = A' ∧ n = ds.length ∧ c = c' := by simpa using h3
  have hlen : ((ds.drop l).take (h - l)).length = h - l := by simp; omega
  refine ⟨_, _, by rw [hlen], by omega, ?_⟩
  refine RdE.take _ ?_
  cases A with
  | none =>
    have := h5.none_nil
    subst this
    simp only [List.drop_nil]
    exact trivial
  | some ad =>
    split
    · rename_i hc
      have : ds.drop l = [] := List.drop_eq_nil_of_le (by omega)
      rw [this]
      exact trivial
    · exact RdE.drop l hw hz (by omega) h5

/-! ### Paths, nodes -/
def PFit (p : List ByteArray) : Prop := namesWt p ≤ 1000000000
theorem PFit.len {p : List ByteArray} (h : PFit p) : p.length ≤ 1000000000 := Nat.le_trans (namesWt_len p) h
theorem PFit.mem {p : List ByteArray} (h : PFit p) : ∀ x ∈ p, x.size ≤ 1000000000 := fun x hx => Nat.le_trans (namesWt_mem hx) h
def pathsD (ps : List (List ByteArray)) : List D := ps.map fun p => .sl (strsD p)
@[simp] theorem pathsD_length (ps : List (List ByteArray)) : (pathsD ps).length = ps.length := by simp [pathsD]
theorem pathsD_wd (ps : List (List ByteArray)) : ∀ d ∈ pathsD ps, d.wd = 1 := by
  intro d hd
  obtain ⟨x, _, rfl⟩ := List.mem_map.1 hd
  rfl
theorem pathsD_get {ps : List (List ByteArray)} {i : Nat} (h : i < (pathsD ps).length) : (pathsD ps)[i] = .sl (strsD (ps[i]'(by simpa using h))) := by simp [pathsD]
structure Nd where
  next : Int
  list : List (Int × List ByteArray)
def nodeD (x : Int × List ByteArray) : D := .st [.int .i64 x.1, .sl (strsD x.2)]
def nodeDs (xs : List (Int × List ByteArray)) : List D := xs.map nodeD
def Nd.toD (n : Nd) : D := .st [.int .i64 n.next, .sl (nodeDs n.list)]
@[simp] theorem nodeDs_length (xs : List (Int × List ByteArray)) : (nodeDs xs).length = xs.length := by simp [nodeDs]
theorem nodeDs_wd (xs : List (Int × List ByteArray)) : ∀ d ∈ nodeDs xs, d.wd = 2 := by
  intro d hd
  obtain ⟨x, _, rfl⟩ := List.mem_map.1 hd
  rfl
theorem nodeDs_get {xs : List (Int × List ByteArray)} {i : Nat} (h : i < (nodeDs xs).length) : (nodeDs xs)[i] = nodeD (xs[i]'(by simpa using h)) := by simp [nodeDs]
theorem nodeDs_snoc (xs : List (Int × List ByteArray)) (x : Int × List ByteArray) : nodeDs xs ++ [nodeD x] = nodeDs (xs ++ [x]) := by simp [nodeDs]
theorem pathsD_snoc (xs : List (List ByteArray)) (x : List ByteArray) : pathsD xs ++ [.sl (strsD x)] = pathsD (xs ++ [x]) := by simp [pathsD]
theorem pathsD_append (xs ys : List (List ByteArray)) : pathsD xs ++ pathsD ys = pathsD (xs ++ ys) := by simp [pathsD]
theorem strsD_append (xs ys : List ByteArray) : strsD xs ++ strsD ys = strsD (xs ++ ys) := by simp [strsD]
section
variable {okc : Nat → Prop} {w : World}
theorem Rd_st2 {a b : D} {cs : List Value} (h : Rd okc w (.st [a, b]) cs) : ∃ c1 c2, cs = c1 ++ c2 ∧ Rd okc w a c1 ∧ Rd okc w b c2 := by
  obtain ⟨c1, _, rfl, h1, c2, _, rfl, h2, rfl⟩ := h
  exact ⟨c1, c2, by simp, h1, h2⟩
theorem Rd_mk2 {a b : D} {x1 x2 : Value} (h1 : Rd okc w a [x1]) (h2 : Rd okc w b [x2]) : Rd okc w (.st [a, b]) [x1, x2] := ⟨[x1], _, rfl, h1, [x2], [], rfl, h2, rfl⟩
theorem Rd_strs {p : List ByteArray} {cs : List Value} (h : Rd okc w (.sl (strsD p)) cs) : ∃ A c, cs = [.slice A p.length c] ∧ p.length ≤ c := by
  obtain ⟨A, c, h1, h2⟩ := Rd_sl1 h
  exact ⟨A, c, by simpa using h1, by simpa using h2⟩
theorem Rd_paths {p : List (List ByteArray)} {cs : List Value} (h : Rd okc w (.sl (pathsD p)) cs) : ∃ A c, cs = [.slice A p.length c] ∧ p.length ≤ c := by
  obtain ⟨A, c, h1, h2⟩ := Rd_sl1 h
  exact ⟨A, c, by simpa using h1, by simpa using h2⟩
theorem Nd.opn {n : Nd} {cs : List Value} (h : Rd okc w n.toD cs) : ∃ A c, cs = [.int .i64 n.next, .slice A n.list.length c] ∧ n.list.length ≤ c ∧ Rd okc w (.sl (nodeDs n.list)) [.slice A n.list.length c] := by
  obtain ⟨c1, c2, rfl, h1, h2⟩ := Rd_st2 h
  simp only [Rd] at h1
  subst h1
  obtain ⟨A, c, rfl, hl⟩ := Rd_sl1 h2
  simp only [nodeDs_length] at h2 hl ⊢
  exact ⟨A, c, rfl, hl, h2⟩
theorem node_opn {x : Int × List ByteArray} {cs : List Value} (h : Rd okc w (nodeD x) cs) : ∃ A c, cs = [.int .i64 x.1, .slice A x.2.length c] ∧ x.2.length ≤ c ∧ Rd okc w (.sl (strsD x.2)) [.slice A x.2.length c] := by
  obtain ⟨c1, c2, rfl, h1, h2⟩ := Rd_st2 h
  simp only [Rd] at h1
  subst h1
  obtain ⟨A, c, rfl, hl⟩ := Rd_strs h2
  exact ⟨A, c, rfl, hl, h2⟩
end
theorem Rd.strs {ok : Nat → Prop} {w : World} {l h : Nat} {p : List ByteArray} {A : Option Addr} {n c : Nat} (hd : Rd ok w (.sl (strsD p)) [.slice A n c]) (h1 : l ≤ h) (h2 : h ≤ n) :
    Rd ok w (.sl (strsD ((p.drop l).take (h - l)))) [.slice (if c = l then A else A.map (·.add (l * 1))) (h - l) (c - l)] := by
  have := hd.part (strsD_wd p) (by decide) h1 h2
  simpa [strsD, List.map_drop, List.map_take] using this
section
variable {ok : Nat → Prop} {W0 : Start} {w : World} {C : List It} {F : List Fa}
/-- A text of a path that is read. -/
theorem St.openS (s : St ok W0 C F w) {i : Nat} {A : Option Addr} {m c : Nat} {xs : List ByteArray} (hi : F[i]? = some (.dat [.slice A m c] (.sl (strsD xs)))) (k : Nat) (hk : k < xs.length) :
    ∃ ad, A = some ad ∧ St ok W0 C (.at (ad.add (k * 1)) [.string xs[k]] :: F) w := by
  obtain ⟨ad, cs, h1, s⟩ := s.openE hi (by decide) (strsD_wd _) k (by simpa using hk)
  obtain rfl := Rd_str (by have := s.dat (i := 1) rfl; rw [strsD_get] at this; exact this)
  exact ⟨ad, h1, s.less fun f hf => by
    rcases List.mem_cons.1 hf with rfl | h
    · exact .head _
    · exact .tail _ (.tail _ h)⟩
/-- A part of a path that is read. -/
theorem St.partS (s : St ok W0 C F w) {i : Nat} {A : Option Addr} {m c : Nat} {xs : List ByteArray} (hi : F[i]? = some (.dat [.slice A m c] (.sl (strsD xs)))) (l h : Nat) (h1 : l ≤ h) (h2 : h ≤ m) (ys : List ByteArray) (hy : (xs.drop l).take (h - l) = ys) :
    St ok W0 C (.dat [.slice (if c = l then A else A.map (·.add (l * 1))) (h - l) (c - l)] (.sl (strsD ys)) :: F) w := by
  subst hy
  exact s.know (f := .dat _ _) (Rd.strs (s.dat hi) h1 h2)
/-- A tree of a list that is read. -/
theorem St.openT (s : St ok W0 C F w) {i : Nat} {A : Option Addr} {m c : Nat} {ts : List Tr} (hi : F[i]? = some (.dat [.slice A m c] (.sl (Tr.toDs ts)))) (k : Nat) (hk : k < ts.length) :
    ∃ ad A5 c5 A6 c6, A = some ad ∧ ts[k].names.length ≤ c5 ∧ ts[k].kids.length ≤ c6 ∧ St ok W0 C (.at (ad.add (k * 5)) (trC ts[k] A5 c5 A6 c6) :: .dat (trC ts[k] A5 c5 A6 c6) ts[k].toD :: F) w := by
  obtain ⟨ad, cs, h1, s⟩ := s.openE hi (by decide) (Tr.toDs_wd _) k (by simpa using hk)
  rw [Tr.toDs_get] at s
  obtain ⟨A5, c5, A6, c6, rfl, h5, h6, _⟩ := Tr.opn (s.dat (i := 1) rfl)
  exact ⟨ad, A5, c5, A6, c6, h1, h5, h6, s⟩
/-- A path of a list that is read. -/
theorem St.openP (s : St ok W0 C F w) {i : Nat} {A : Option Addr} {m c : Nat} {ps : List (List ByteArray)} (hi : F[i]? = some (.dat [.slice A m c] (.sl (pathsD ps)))) (k : Nat) (hk : k < ps.length) :
    ∃ ad A5 c5, A = some ad ∧ ps[k].length ≤ c5 ∧ St ok W0 C (.at (ad.add (k * 1)) [.slice A5 ps[k].length c5] :: .dat [.slice A5 ps[k].length c5] (.sl (strsD ps[k])) :: F) w := by
  obtain ⟨ad, cs, h1, s⟩ := s.openE hi (by decide) (pathsD_wd _) k (by simpa using hk)
  rw [pathsD_get] at s
  obtain ⟨A5, c5, rfl, h5⟩ := Rd_strs (s.dat (i := 1) rfl)
  exact ⟨ad, A5, c5, h1, h5, s⟩
/-- A node of a list that is read. -/
theorem St.openN (s : St ok W0 C F w) {i : Nat} {A : Option Addr} {m c : Nat} {xs : List (Int × List ByteArray)} (hi : F[i]? = some (.dat [.slice A m c] (.sl (nodeDs xs)))) (k : Nat) (hk : k < xs.length) :
    ∃ ad A5 c5, A = some ad ∧ xs[k].2.length ≤ c5 ∧ St ok W0 C (.at (ad.add (k * 2)) [.int .i64 xs[k].1, .slice A5 xs[k].2.length c5] :: .dat [.slice A5 xs[k].2.length c5] (.sl (strsD xs[k].2)) :: F) w := by
  obtain ⟨ad, cs, h1, s⟩ := s.openE hi (by decide) (nodeDs_wd _) k (by simpa using hk)
  rw [nodeDs_get] at s
  obtain ⟨A5, c5, rfl, h5, h6⟩ := node_opn (s.dat (i := 1) rfl)
  have s2 := s.know (f := .dat [.slice A5 xs[k].2.length c5] (.sl (strsD xs[k].2))) h6
  exact ⟨ad, A5, c5, h1, h5, s2.less fun f hf => by
    rcases List.mem_cons.1 hf with rfl | h
    · exact .tail _ (.head _)
    · rcases List.mem_cons.1 h with rfl | h
      · exact .head _
      · exact .tail _ (.tail _ (.tail _ h))⟩
end

/-! ### Trees with as many names as parts, at all levels -/
def Tr.zero : Tr := .mk false 0 ⟨#[]⟩ [] []
mutual
def Tr.Even : Tr → Prop
  | .mk _ _ _ ns ks => ns.length = ks.length ∧ Tr.Evens ks
def Tr.Evens : List Tr → Prop
  | [] => True
  | t :: ts => t.Even ∧ Tr.Evens ts
end
theorem Tr.Evens_iff : ∀ {ts : List Tr}, Tr.Evens ts ↔ ∀ t ∈ ts, t.Even
  | [] => by simp [Tr.Evens]
  | t :: ts => by simp [Tr.Evens, Tr.Evens_iff (ts := ts)]
theorem Tr.Even.len {t : Tr} (h : t.Even) : t.names.length = t.kids.length := by cases t; exact h.1
theorem Tr.Even.kid {t : Tr} (h : t.Even) : ∀ k ∈ t.kids, k.Even := by cases t; exact Tr.Evens_iff.1 h.2

/-! ### Calls -/
structure Cl where
  kind : Int
  path : List ByteArray
  to : List ByteArray
  off : Int
  data : ByteArray
def Cl.toD (c : Cl) : D := .st [.int .i64 c.kind, .sl (strsD c.path), .sl (strsD c.to), .int .i64 c.off, .str c.data]
def Cl.Fit (c : Cl) : Prop := PFit c.path ∧ PFit c.to ∧ c.data.size ≤ 1000000000
abbrev clC (c : Cl) (A1 : Option Addr) (c1 : Nat) (A2 : Option Addr) (c2 : Nat) : List Value := [.int .i64 c.kind, .slice A1 c.path.length c1, .slice A2 c.to.length c2, .int .i64 c.off, .string c.data]
theorem Cl.opn {okc : Nat → Prop} {w : World} {c : Cl} {cs : List Value} (h : Rd okc w c.toD cs) : ∃ A1 c1 A2 c2, cs = clC c A1 c1 A2 c2 ∧ c.path.length ≤ c1 ∧ c.to.length ≤ c2 ∧
    Rd okc w (.sl (strsD c.path)) [.slice A1 c.path.length c1] ∧ Rd okc w (.sl (strsD c.to)) [.slice A2 c.to.length c2] := by
  obtain ⟨x1, x2, x3, x4, x5, rfl, h1, h2, h3, h4, h5⟩ := Rd_st5 h
  simp only [Rd] at h1 h4 h5
  subst h1 h4 h5
  obtain ⟨A1, c1, rfl, l1⟩ := Rd_strs h2
  obtain ⟨A2, c2, rfl, l2⟩ := Rd_strs h3
  exact ⟨A1, c1, A2, c2, rfl, l1, l2, h2, h3⟩
theorem Cl.shut {okc : Nat → Prop} {w : World} {c : Cl} {v1 v2 : Value} (h1 : Rd okc w (.sl (strsD c.path)) [v1]) (h2 : Rd okc w (.sl (strsD c.to)) [v2]) : Rd okc w c.toD [.int .i64 c.kind, v1, v2, .int .i64 c.off, .string c.data] :=
  Rd_mk5 rfl h1 h2 rfl rfl

/-! ### Entries, uppers -/
structure En where
  path : List ByteArray
  what : Int
  dir : Bool
  mode : Int
  data : ByteArray
def En.toD (e : En) : D := .st [.sl (strsD e.path), .int .i64 e.what, .bool e.dir, .int .i64 e.mode, .str e.data]
abbrev enC (e : En) (A : Option Addr) (c : Nat) : List Value := [.slice A e.path.length c, .int .i64 e.what, .bool e.dir, .int .i64 e.mode, .string e.data]
theorem En.opn {okc : Nat → Prop} {w : World} {e : En} {cs : List Value} (h : Rd okc w e.toD cs) : ∃ A c, cs = enC e A c ∧ e.path.length ≤ c ∧ Rd okc w (.sl (strsD e.path)) [.slice A e.path.length c] := by
  obtain ⟨x1, x2, x3, x4, x5, rfl, h1, h2, h3, h4, h5⟩ := Rd_st5 h
  simp only [Rd] at h2 h3 h4 h5
  subst h2 h3 h4 h5
  obtain ⟨A, c, rfl, l1⟩ := Rd_strs h1
  exact ⟨A, c, rfl, l1, h1⟩
theorem En.shut {okc : Nat → Prop} {w : World} {e : En} {v : Value} (h : Rd okc w (.sl (strsD e.path)) [v]) : Rd okc w e.toD [v, .int .i64 e.what, .bool e.dir, .int .i64 e.mode, .string e.data] := Rd_mk5 h rfl rfl rfl rfl
theorem En.toD_wd (e : En) : e.toD.wd = 5 := rfl
def entsD (es : List En) : List D := es.map En.toD
@[simp] theorem entsD_length (es : List En) : (entsD es).length = es.length := by simp [entsD]
theorem entsD_wd (es : List En) : ∀ d ∈ entsD es, d.wd = 5 := by
  intro d hd
  obtain ⟨x, _, rfl⟩ := List.mem_map.1 hd
  rfl
theorem entsD_get {es : List En} {i : Nat} (h : i < (entsD es).length) : (entsD es)[i] = (es[i]'(by simpa using h)).toD := by simp [entsD]
theorem entsD_snoc (es : List En) (e : En) : entsD es ++ [e.toD] = entsD (es ++ [e]) := by simp [entsD]
theorem Rd_ents {okc : Nat → Prop} {w : World} {es : List En} {cs : List Value} (h : Rd okc w (.sl (entsD es)) cs) : ∃ A c, cs = [.slice A es.length c] ∧ es.length ≤ c := by
  obtain ⟨A, c, h1, h2⟩ := Rd_sl1 h
  exact ⟨A, c, by simpa using h1, by simpa using h2⟩
structure Up where
  gone : List (List ByteArray)
  puts : List En
def Up.toD (u : Up) : D := .st [.sl (pathsD u.gone), .sl (entsD u.puts)]
theorem Up.opn {okc : Nat → Prop} {w : World} {u : Up} {cs : List Value} (h : Rd okc w u.toD cs) : ∃ A c B d, cs = [.slice A u.gone.length c, .slice B u.puts.length d] ∧ u.gone.length ≤ c ∧ u.puts.length ≤ d ∧
    Rd okc w (.sl (pathsD u.gone)) [.slice A u.gone.length c] ∧ Rd okc w (.sl (entsD u.puts)) [.slice B u.puts.length d] := by
  obtain ⟨c1, c2, rfl, h1, h2⟩ := Rd_st2 h
  obtain ⟨A, c, rfl, l1⟩ := Rd_paths h1
  obtain ⟨B, d, rfl, l2⟩ := Rd_ents h2
  exact ⟨A, c, B, d, rfl, l1, l2, h1, h2⟩
theorem Up.shut {okc : Nat → Prop} {w : World} {u : Up} {v1 v2 : Value} (h1 : Rd okc w (.sl (pathsD u.gone)) [v1]) (h2 : Rd okc w (.sl (entsD u.puts)) [v2]) : Rd okc w u.toD [v1, v2] := Rd_mk2 h1 h2
section
variable {ok : Nat → Prop} {W0 : Start} {w : World} {C : List It} {F : List Fa}
/-- An entry of a list that is read. -/
theorem St.openEn (s : St ok W0 C F w) {i : Nat} {A : Option Addr} {m c : Nat} {es : List En} (hi : F[i]? = some (.dat [.slice A m c] (.sl (entsD es)))) (k : Nat) (hk : k < es.length) :
    ∃ ad A5 c5, A = some ad ∧ es[k].path.length ≤ c5 ∧ St ok W0 C (.at (ad.add (k * 5)) (enC es[k] A5 c5) :: .dat (enC es[k] A5 c5) es[k].toD :: F) w := by
  obtain ⟨ad, cs, h1, s⟩ := s.openE hi (by decide) (entsD_wd _) k (by simpa using hk)
  rw [entsD_get] at s
  obtain ⟨A5, c5, rfl, h5, h6⟩ := En.opn (s.dat (i := 1) rfl)
  exact ⟨ad, A5, c5, h1, h5, s⟩
end
def En.wt (e : En) : Nat := namesWt e.path + e.data.size
def pathsWt (ps : List (List ByteArray)) : Nat := ps.length + (ps.map namesWt).sum
def entsWt (es : List En) : Nat := es.length + (es.map En.wt).sum
def Up.wt (u : Up) : Nat := pathsWt u.gone + entsWt u.puts
theorem namesWt_sum : ∀ p : List ByteArray, namesWt p = p.length + (p.map ByteArray.size).sum
  | [] => rfl
  | x :: p => by have := namesWt_sum p; simp only [namesWt, List.length_cons, List.map_cons, List.sum_cons]; omega
theorem sum_mem {α : Type} {f : α → Nat} : ∀ {l : List α} {x : α}, x ∈ l → f x ≤ (l.map f).sum
  | y :: l, x, h => by
    rcases List.mem_cons.1 h with rfl | h
    · simp
    · have := sum_mem (f := f) h; simp; omega
theorem sum_drop {α : Type} (f : α → Nat) {l : List α} {k : Nat} (h : k < l.length) : ((l.drop k).map f).sum = f l[k] + ((l.drop (k + 1)).map f).sum := by
  rw [List.drop_eq_getElem_cons h, List.map_cons, List.sum_cons]
end Go.Proofs.Ytkefaelmamgjiaa
