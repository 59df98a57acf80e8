/-
  From a row's list of package variables to the walks' hypothesis: a datum of numbers tells its cells; a world in which the listed variables hold their tables.
-/
import Derived.Test.YtfnkpjkbgfgbkaaDoorH1
import Derived.Test.YtfnkpjkbgfgbkaaDoorRows
import Derived.OpenShut
import Derived.MakeChecks
import Derived.LaidOnce
import Derived.LaidSub
import Derived.Deep.DeepHandedRow
namespace Go.Proofs.YtfnkpjkbgfgbkaaDoor.Pr
open Go.RowKit Go.ChangeShapes Go.WideShapes HK
set_option linter.unusedVariables false

/-- Pieces that lie end to end, from k to n. -/
def cover : Nat → List (Nat × Nat) → Nat → Bool
  | k, [], n => k == n
  | k, x :: r, n => x.1 == k && cover (k + x.2) r n

/-- The cells that a datum of numbers asks for. -/
def flatOf (P : Program) : Nat → TypeId → DataW Unit → Option (List Value)
  | 0, _, _ => none
  | n + 1, t, d =>
    match P.underlying t, d with
    | some (.int k), .lit (.int k' z) => if k = k' then some [.int k z] else none
    | some (.array m e), .agg ds =>
      if ((List.range m).map fun i => (e, i * P.cellsOf e)).length = ds.length ∧ cover 0 (((List.range m).map fun i => (e, i * P.cellsOf e)).map fun x => (x.2, P.cellsOf x.1)) (P.cellsOf t) = true then
        ((((List.range m).map fun i => (e, i * P.cellsOf e)).zip ds).mapM fun x => flatOf P n x.1.1 x.2).map List.flatten else none
    | some (.struct fs), .agg ds =>
      if (fs.toList.map fun f => (f.type, f.offset)).length = ds.length ∧ cover 0 ((fs.toList.map fun f => (f.type, f.offset)).map fun x => (x.2, P.cellsOf x.1)) (P.cellsOf t) = true then
        (((fs.toList.map fun f => (f.type, f.offset)).zip ds).mapM fun x => flatOf P n x.1.1 x.2).map List.flatten else none
    | _, _ => none

section
variable {P : Program} {w : World} {base : Nat} {spare : Nat → Bool} {held : Bool} {enc : TypeId × Value → Unit}

theorem flat_parts {fuel n : Nat} {cs : List Value} (ih : ∀ (t : TypeId) (d : DataW Unit) (c : List Value) (p : List MemPlace) (out : List Value), DataW.trod enc P w base spare held fuel t c = some (d, p) → flatOf P n t d = some out → c = out) :
    ∀ (parts : List (TypeId × Nat)) (xs : List (DataW Unit × List MemPlace)) (k : Nat) (outs : List (List Value)), cover k (parts.map fun x => (x.2, P.cellsOf x.1)) cs.length = true → xs.length = parts.length →
      (∀ (i : Nat) (x : TypeId × Nat), parts[i]? = some x → DataW.trod enc P w base spare held fuel x.1 ((cs.drop x.2).take (P.cellsOf x.1)) = xs[i]?) →
      (parts.zip (xs.map (·.1))).mapM (fun x => flatOf P n x.1.1 x.2) = some outs → cs.drop k = outs.flatten
  | [], xs, k, outs, hc, _, _, ho => by
    simp [cover] at hc
    simp at ho
    subst ho
    rw [hc, List.drop_length]
    rfl
  | x :: parts, [], k, outs, hc, hl, _, ho => by simp at hl
  | x :: parts, y :: xs, k, outs, hc, hl, ht, ho => by
    simp only [List.map_cons, cover, Bool.and_eq_true, beq_iff_eq] at hc
    simp only [List.map_cons, List.zip_cons_cons, List.mapM_cons, Option.bind_eq_bind, Option.bind_eq_some_iff, Option.pure_def, Option.some.injEq] at ho
    obtain ⟨o, ho1, os, ho2, rfl⟩ := ho
    have h0 := ht 0 x rfl
    simp only [List.getElem?_cons_zero] at h0
    have e1 := ih x.1 y.1 _ y.2 o h0 ho1
    have e2 := flat_parts ih parts xs (k + P.cellsOf x.1) os hc.2 (by simpa using hl) (fun i z hz => by simpa using ht (i + 1) z (by simpa using hz)) ho2
    rw [List.flatten_cons, ← e2, ← e1, hc.1, ← List.drop_drop, List.take_append_drop]

theorem flatOf_cells : ∀ (n : Nat) (t : TypeId) (d : DataW Unit) (cs : List Value) (fuel : Nat) (p : List MemPlace) (out : List Value),
    DataW.trod enc P w base spare held fuel t cs = some (d, p) → flatOf P n t d = some out → cs = out
  | 0, t, d, cs, fuel, p, out, h, ho => by simp [flatOf] at ho
  | n + 1, t, d, cs, fuel, p, out, h, ho => by
    unfold flatOf at ho
    split at ho
    · next k k' z hu =>
      obtain ⟨m, rfl, hx, _⟩ := DataW.trod_int hu h
      split at ho
      · simp only [Prod.mk.injEq, DataW.lit.injEq, Lit.int.injEq] at hx
        injection ho with ho
        rw [← ho, hx.1.2]
      · cases ho
    · next m e ds hu =>
      split at ho
      · next hc =>
        obtain ⟨xs, f', rfl, hx, hl, hn, hel⟩ := DataW.trod_array hu h
        simp only [Prod.mk.injEq, DataW.agg.injEq] at hx
        obtain ⟨rfl, _⟩ := hx
        obtain ⟨outs, ho1, rfl⟩ := Option.map_eq_some_iff.1 ho
        have := flat_parts (fun t d c p out h1 h2 => flatOf_cells n t d c f' p out h1 h2) ((List.range m).map fun i => (e, i * P.cellsOf e)) xs 0 outs (by rw [hl]; exact hc.2) (by simp [hn]) (fun i x hx => by
          simp only [List.getElem?_map, Option.map_eq_some_iff] at hx
          obtain ⟨j, hj, rfl⟩ := hx
          obtain ⟨hi, hj⟩ := List.getElem?_eq_some_iff.1 hj
          rw [List.getElem_range] at hj
          subst hj
          exact hel i (by simpa using hi)) ho1
        simpa using this
      · cases ho
    · next fs ds hu =>
      split at ho
      · next hc =>
        obtain ⟨xs, f', rfl, hx, hl, hn, hel⟩ := DataW.trod_struct hu h
        simp only [Prod.mk.injEq, DataW.agg.injEq] at hx
        obtain ⟨rfl, _⟩ := hx
        obtain ⟨outs, ho1, rfl⟩ := Option.map_eq_some_iff.1 ho
        have := flat_parts (fun t d c p out h1 h2 => flatOf_cells n t d c f' p out h1 h2) (fs.toList.map fun f => (f.type, f.offset)) xs 0 outs (by rw [hl]; exact hc.2) (by simp [hn]) (fun i x hx => by
          simp only [List.getElem?_map, Option.map_eq_some_iff] at hx
          obtain ⟨f, hf, rfl⟩ := hx
          exact hel i f (by simpa using hf)) ho1
        simpa using this
      · cases ho
    · cases ho

theorem laidVars_mem {name : String} {d : DataW Unit} : ∀ {l : List (String × DataW Unit)} {ps : List MemPlace}, DataW.LaidVars P w l ps → (name, d) ∈ l →
    ∃ g t cs fuel p, P.globalNamed name = some g ∧ (P.globals[g]?).map (·.type) = some t ∧ w.var? P name = some cs ∧ DataW.trod (fun _ => ()) P w 0 (fun _ => true) false fuel t cs.toList = some (d, p)
  | [], _, _, h => by cases h
  | x :: l, ps, hl, h => by
    obtain ⟨g, t, cs, fuel, p, q, h1, h2, h3, h4, h5, _⟩ := hl
    rcases List.mem_cons.1 h with rfl | h
    · exact ⟨g, t, cs, fuel, p, h1, h2, h3, h4⟩
    · exact laidVars_mem h5 h
end

/-- What a listed variable gives. -/
theorem laid_get {P : Program} {W : World} {laid : List (String × DataW Unit)} (hp : (laid.all fun x => x.2.handleName?.isNone) = true) (h : laidMetH P laid W) (name : String) {g : Nat} {t : TypeId} {d : DataW Unit} {cells : List Value}
    (hm : (name, d) ∈ laid) (hg : P.globalNamed name = some g) (hty : (P.globals[g]?).map (·.type) = some t) (hf : flatOf P 8 t d = some cells) (j : Nat) (v : Value) (hv : cells[j]? = some v) : W.cell? ⟨g, j, none⟩ = some v := by
  rw [MakeChecks.laidMetH_plain _ _ _ hp] at h
  obtain ⟨ps, hl, _⟩ := h
  obtain ⟨g', t', cs, fuel, p, h1, h2, h3, h4⟩ := laidVars_mem hl hm
  obtain rfl := Option.some.inj (hg.symm.trans h1)
  obtain rfl := Option.some.inj (hty.symm.trans h2)
  have := flatOf_cells 8 t d cs.toList fuel p cells h4 hf
  rw [World.var?_cell hg h3 j]
  rw [← Array.getElem?_toList, this]
  exact hv

theorem laidMet_of_bits {P : Program} {w : World} {l : List (String × DataW Unit)} (M fuel : Nat)
    (h : (DataW.laidRun P w fuel (l.map (·.1))).map (·.1) = some l)
    (h2 : (DataW.laidRun P w fuel (l.map (·.1))).map (fun x => nodupBits M x.2 0 && laidRowsB P w x.2) = some true) (hp : (l.all fun x => x.2.handleName?.isNone) = true) : laidMetH P l w := by
  rw [MakeChecks.laidMetH_plain _ _ _ hp]
  cases hx : DataW.laidRun P w fuel (l.map (·.1)) with
  | none => simp [hx] at h
  | some x =>
    obtain ⟨l', ps⟩ := x
    simp only [hx, Option.map_some, Option.some.injEq] at h h2
    subst h
    simp only [Bool.and_eq_true] at h2
    exact laidMet_of_run fuel hx (decide_eq_true (nodupBits_sound h2.1).1) h2.2
end Go.Proofs.YtfnkpjkbgfgbkaaDoor.Pr
