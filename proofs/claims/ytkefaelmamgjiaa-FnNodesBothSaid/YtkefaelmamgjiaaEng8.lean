/- The engine, part 8: what a law's arguments read as is data in memory; what is told at a law's end. -/
import Derived.Test.YtkefaelmamgjiaaDat
import Derived.Test.YtkefaelmamgjiaaRows
import Derived.ProofKit
import Derived.Carry
import Derived.OpenShut
set_option linter.unusedVariables false
namespace Go.Proofs.Ytkefaelmamgjiaa
open Go.RowKit Go.ChangeShapes Go.WideShapes

/-! ### Data of a type -/
mutual
def Sp (P : Program) : D → TypeId → Prop
  | .int k n, t => P.underlying t = some (.int k) ∧ (Lit.int k n).wf = true
  | .bool b, t => P.underlying t = some .bool
  | .str s, t => P.underlying t = some .string
  | .sl ds, t => ∃ e, P.underlying t = some (.slice e) ∧ SpE P ds e
  | .st ds, t => ∃ fs, P.underlying t = some (.struct fs) ∧ SpF P ds fs.toList
def SpE (P : Program) : List D → TypeId → Prop
  | [], _ => True
  | d :: ds, e => Sp P d e ∧ SpE P ds e
def SpF (P : Program) : List D → List Field → Prop
  | [], fs => fs = []
  | d :: ds, fs => ∃ f r, fs = f :: r ∧ Sp P d f.type ∧ SpF P ds r
end
mutual
/-- How much there is in it. -/
def D.bk : D → Nat
  | .str s => s.size + 1
  | .sl ds => D.bks ds + 1
  | .st ds => D.bks ds + 1
  | .int _ _ => 1
  | .bool _ => 1
def D.bks : List D → Nat
  | [] => 0
  | d :: ds => d.bk + D.bks ds
end
def offsB (P : Program) : List Field → Nat → Nat → Bool
  | [], o, n => Nat.beq o n
  | f :: r, o, n => Nat.beq f.offset o && offsB P r (o + P.cellsOf f.type) n
def plainB (P : Program) (T : List TypeId) (t : TypeId) : Bool :=
  match P.underlying t with
  | some .bool => Nat.beq (P.cellsOf t) 1
  | some (.int _) => Nat.beq (P.cellsOf t) 1
  | some .string => Nat.beq (P.cellsOf t) 1
  | some (.slice e) => T.contains e && Nat.beq (P.cellsOf t) 1 && Nat.blt 0 (P.cellsOf e)
  | some (.struct fs) => fs.toList.all (fun f => T.contains f.type) && offsB P fs.toList 0 (P.cellsOf t)
  | _ => false
section
variable {H : Type} {enc : TypeId × Value → H} {P : Program} {w : World}
theorem bulk_pos (d : DataW H) : 1 ≤ Rows.uptoBulk d := by
  cases d with
  | lit l => cases l <;> simp [Rows.uptoBulk]
  | nil => simp [Rows.uptoBulk]
  | ptr d => simp [Rows.uptoBulk]
  | slice elems spare => simp [Rows.uptoBulk]
  | agg parts => simp [Rows.uptoBulk]
  | iface t d => simp [Rows.uptoBulk]
  | map entries => simp [Rows.uptoBulk]
  | held h => simp [Rows.uptoBulk]
theorem offsB_le {P : Program} : ∀ {fs : List Field} {o n : Nat}, offsB P fs o n = true → o ≤ n
  | [], o, n, h => by simp only [offsB] at h; have := Nat.eq_of_beq_eq_true h; omega
  | f :: r, o, n, h => by simp only [offsB, Bool.and_eq_true] at h; have := offsB_le h.2; omega
theorem trod_rd {T : List TypeId} (hT : T.all (plainB P T) = true) : ∀ (fuel : Nat) (t : TypeId) (cs : List Value) (x : DataW H × List MemPlace), T.contains t = true →
    DataW.trod enc P w 0 (fun _ => true) true fuel t cs = some x → ∃ d, Rd (fun _ => True) w d cs ∧ Sp P d t ∧ d.bk ≤ Rows.uptoBulk x.1 ∧ cs.length = P.cellsOf t := by
  intro fuel
  induction fuel with
  | zero => intro t cs x _ h; simp [DataW.trod] at h
  | succ n ih =>
    intro t cs x ht h
    have hp := List.all_eq_true.1 hT t (by simpa using ht)
    unfold plainB at hp
    split at hp
    · rename_i hu
      obtain ⟨b, rfl, rfl⟩ := DataW.trod_bool hu h
      exact ⟨.bool b, rfl, hu, by simp [D.bk, Rows.uptoBulk], (Nat.eq_of_beq_eq_true hp).symm⟩
    · rename_i k hu
      obtain ⟨m, rfl, rfl, hw⟩ := DataW.trod_int hu h
      exact ⟨.int k m, rfl, ⟨hu, hw⟩, by simp [D.bk, Rows.uptoBulk], (Nat.eq_of_beq_eq_true hp).symm⟩
    · rename_i hu
      obtain ⟨s, rfl, rfl, hm⟩ := DataW.trod_string hu h
      refine ⟨.str s, rfl, hu, ?_, (Nat.eq_of_beq_eq_true hp).symm⟩
      simp only [D.bk, Rows.uptoBulk]
      have : s.data.toList.length = s.size := rfl
      omega
    · rename_i e hu
      simp only [Bool.and_eq_true] at hp
      have hz : 0 < P.cellsOf e := Nat.le_of_ble_eq_true hp.2
      rcases DataW.trod_slice hu h with ⟨rfl, rfl⟩ | ⟨a, len, cap, elems, rest, n', hn, rfl, rfl, hb, hl, hm, hlen, hel, _, _⟩
      · exact ⟨.sl [], ⟨none, 0, rfl, Nat.le_refl _, trivial⟩, ⟨e, hu, trivial⟩, by simp [D.bk, D.bks, Rows.uptoBulk], (Nat.eq_of_beq_eq_true hp.1.2).symm⟩
      · obtain rfl : n = n' := by omega
        have hsa : 0 < len → a.spot = none := fun h0 => by
          have h5 := hel 0 h0
          rw [List.getElem?_eq_getElem (by omega)] at h5
          obtain ⟨cs', h6, _⟩ := Option.bind_eq_some_iff.1 h5
          obtain ⟨_, h8, h9⟩ := World.cells?_some h6
          have h10 := h9 0 hz
          cases cs' with
          | nil => simp at h8; omega
          | cons v vs =>
            have h11 : w.cell? a = some v := by simpa [Addr.add] using h10
            exact cell_spot h11
        have key : ∀ m k, k + m = len → ∃ ds : List D, ds.length = m ∧ RdE (fun _ => True) w ds (some (a.add (k * P.cellsOf e))) ∧ SpE P ds e ∧ D.bks ds ≤ Rows.uptoBulkAll ((elems.drop k).map (·.1)) := by
          intro m
          induction m with
          | zero => exact fun k hk => ⟨[], rfl, trivial, trivial, Nat.zero_le _⟩
          | succ m ihm =>
            intro k hk
            obtain ⟨ds, h1, h2, h3, h4⟩ := ihm (k + 1) (by omega)
            have hkl : k < elems.length := by omega
            have h5 := hel k (by omega)
            rw [List.getElem?_eq_getElem hkl] at h5
            obtain ⟨cs', h6, h7⟩ := Option.bind_eq_some_iff.1 h5
            obtain ⟨d, g1, g2, g3, g4⟩ := ih e cs' _ hp.1.1 h7
            obtain ⟨_, h8, h9⟩ := World.cells?_some h6
            have hcell : ∀ j u, cs'[j]? = some u → w.cell? ((a.add (k * P.cellsOf e)).add j) = some u := fun j u hu => by
              rw [h9 j (by have := (List.getElem?_eq_some_iff.1 hu).1; omega)]
              exact hu
            refine ⟨d :: ds, by simp [h1], ⟨_, cs', rfl, trivial, ?_, g1, hcell, ?_⟩, ⟨g2, h3⟩, ?_⟩
            · rw [add_block]
              have := World.cells?_block h6 hz
              rwa [add_block] at this
            · have hsa := hsa (by omega)
              rw [addr_add_add _ _ _ hsa, h8]
              have e1 : k * P.cellsOf e + P.cellsOf e = (k + 1) * P.cellsOf e := by rw [Nat.add_mul]; omega
              rw [e1]
              exact h2
            · rw [List.drop_eq_getElem_cons hkl, List.map_cons, D.bks, Rows.uptoBulkAll]
              omega
        obtain ⟨ds, h1, h2, h3, h4⟩ := key len 0 (by omega)
        refine ⟨.sl ds, ⟨some a, cap, by rw [h1], by omega, by simpa [Addr.add] using h2⟩, ⟨e, hu, h3⟩, ?_, (Nat.eq_of_beq_eq_true hp.1.2).symm⟩
        simp only [D.bk, Rows.uptoBulk]
        rw [List.drop_zero] at h4
        omega
    · rename_i fs hu
      simp only [Bool.and_eq_true] at hp
      obtain ⟨xs, n', hn, rfl, hlen, hxs, hel⟩ := DataW.trod_struct hu h
      obtain rfl : n = n' := by omega
      have key : ∀ (r : List Field) (k o : Nat), fs.toList.drop k = r → offsB P r o (P.cellsOf t) = true → ∃ ds : List D, RdF (fun _ => True) w ds (cs.drop o) ∧ SpF P ds r ∧ D.bks ds ≤ Rows.uptoBulkAll ((xs.drop k).map (·.1)) := by
        intro r
        induction r with
        | nil =>
          intro k o hr ho
          simp only [offsB] at ho
          have := Nat.eq_of_beq_eq_true ho
          exact ⟨[], List.drop_eq_nil_of_le (by omega), rfl, Nat.zero_le _⟩
        | cons f r ihr =>
          intro k o hr ho
          simp only [offsB, Bool.and_eq_true] at ho
          have hoff := Nat.eq_of_beq_eq_true ho.1
          have hk : k < fs.toList.length := by
            rcases Nat.lt_or_ge k fs.toList.length with h | h
            · exact h
            · rw [List.drop_eq_nil_of_le h] at hr; cases hr
          rw [List.drop_eq_getElem_cons hk] at hr
          obtain ⟨hf, hr2⟩ := List.cons.inj hr
          obtain ⟨ds, g1, g2, g3⟩ := ihr (k + 1) _ hr2 ho.2
          have hfk : fs[k]? = some f := by rw [← hf]; simp at hk ⊢
          have h5 := hel k f hfk
          have hkl : k < xs.length := by simp at hk; omega
          rw [List.getElem?_eq_getElem hkl] at h5
          obtain ⟨d, g4, g5, g6, g7⟩ := ih f.type _ _ (List.all_eq_true.1 hp.1 f (by rw [← hf]; exact List.getElem_mem hk)) h5
          rw [hoff] at g4 g7
          refine ⟨d :: ds, ⟨_, _, ?_, g4, g1⟩, ⟨f, r, rfl, g5, g2⟩, ?_⟩
          · rw [← List.drop_drop, List.take_append_drop]
          · rw [List.drop_eq_getElem_cons hkl, List.map_cons, D.bks, Rows.uptoBulkAll]
            omega
      obtain ⟨ds, g1, g2, g3⟩ := key fs.toList 0 0 (by simp) hp.2
      refine ⟨.st ds, (by simpa using g1 : RdF (fun _ => True) w ds cs), ⟨fs, hu, g2⟩, ?_, hlen⟩
      simp only [D.bk, Rows.uptoBulk]
      rw [List.drop_zero] at g3
      omega
    · cases hp
theorem trod_Rd {T : List TypeId} (hT : T.all (plainB P T) = true) {t : TypeId} {v : Value} {d : DataW H} {ps : List MemPlace} (ht : T.contains t = true) (h : DataW.Trod enc P w 0 (fun _ => true) true t v d ps) :
    ∃ d', Rd (fun _ => True) w d' v.cells.toList ∧ Sp P d' t ∧ d'.bk ≤ Rows.uptoBulk d := by
  obtain ⟨n, hn⟩ := h
  obtain ⟨d', h1, h2, h3, _⟩ := trod_rd hT n t _ _ ht hn
  exact ⟨d', h1, h2, h3⟩

/-! ### A law's end -/
theorem post_of_below {f : Func} {s : ChangeSpec} {apart fresh handsOn again : Bool} {W W' : World} {args : Array Value} {v : Value} {ds gs : List (DataW H)} {before pa pv : List MemPlace}
    (hW : DataW.Whole enc P f.params.toList s.vars apart W args.toList ds gs before)
    (hres : ∀ (b : Nat) (sp : Nat → Bool) (hd : Bool), DataW.TrodAll enc P W' b sp hd f.resultTypes.toList (v.resultList f.resultTypes.size) (s.fn H (ds ++ gs)).results [])
    (hargs : ∀ sp : Nat → Bool, (∀ p ∈ before, sp p.block = true) → DataW.TrodAll enc P W' 0 sp true f.params.toList args.toList (s.fn H (ds ++ gs)).args pa)
    (hvars : ∀ sp : Nat → Bool, (∀ p ∈ before, sp p.block = true) → DataW.TrodVars enc P W' sp s.vars (s.fn H (ds ++ gs)).vars pv)
    (hps : before = pa ++ pv) (hb : Below W.heap.size W W')
    (hok : ∀ (j : Nat) (t : TypeId) (r : Value), f.resultTypes[j]? = some t → (v.resultList f.resultTypes.size)[j]? = some r → Value.okWide P W' .any 0 t r) :
    s.post enc P f apart fresh handsOn again W args v W' := by
  have hlt : ∀ p ∈ before, p.block < W.heap.size := fun p hp => hW.lt p hp
  have hold : ∀ p ∈ before, (fun b => decide (b < W.heap.size)) p.block = true := fun p hp => by simpa using hlt p hp
  refine ⟨ds, gs, before, [], pa, pv, hW, hres _ _ _, hargs _ hold, hvars _ hold, World.keptBut_mono (fun p hp => ⟨hp, ?_⟩) (hb.frame (· ∈ before)), fun _ => ?_⟩
  · rw [hps, List.mem_append] at hp
    exact Or.inr hp
  · obtain ⟨_, _, _, _, _, hz, hn⟩ := hW
    refine ⟨hok, _, _, ([] ++ pa) ++ pv, ⟨[] ++ pa, pv, trodAll_append (hargs _ (fun _ _ => rfl)) (hres _ _ _), hvars _ (fun _ _ => rfl), rfl, ?_, ?_⟩, ?_⟩
    · intro b off hp
      have hin : MemPlace.cell b off ∈ before := by rw [hps]; simpa using hp
      rw [hb.frozen (hlt _ hin)]
      exact hz b off hin
    · intro ha
      have := hn ha
      rw [hps] at this
      simpa using this
    · intro p hp _
      rw [hps]
      simpa using hp
theorem trodAll_below (hl : laidOutB P = true) (hm : mapsRowed P = true) (hfull : ∀ t e, t < P.types.size → P.underlying t = some (.slice e) → 0 < P.cellsOf e) {W W' : World} (hb : Below W.heap.size W W') {sp : Nat → Bool} :
    ∀ {ts : List TypeId} {vs : List Value} {ds : List (DataW H)} {ps : List MemPlace}, (∀ t ∈ ts, t < P.types.size) → DataW.TrodAll enc P W 0 (fun _ => true) true ts vs ds ps → (∀ p ∈ ps, p.block < W.heap.size) → (∀ p ∈ ps, sp p.block = true) →
      DataW.TrodAll enc P W' 0 sp true ts vs ds ps := by
  intro ts vs ds ps hts h hlt hsp
  refine DataW.TrodAll.respare (kids_rows hl hm) hfull hts ?_ hsp
  clear hsp
  induction ts generalizing vs ds ps with
  | nil =>
    cases vs <;> cases ds <;> first | exact h | exact h.elim
  | cons t ts ih =>
    cases vs with
    | nil => cases ds <;> exact h.elim
    | cons v vs =>
      cases ds with
      | nil => exact h.elim
      | cons d ds =>
        obtain ⟨p, q, ⟨n, h1⟩, h2, rfl⟩ := h
        exact ⟨p, q, ⟨n, DataW.trod_carry n _ _ _ h1 fun x hx => hb.same (hlt x (by simp [hx]))⟩, ih (fun t ht => hts t (by simp [ht])) h2 fun x hx => hlt x (by simp [hx]), rfl⟩
end
end Go.Proofs.Ytkefaelmamgjiaa
