/-
  Parts of a text, and what the tables tell: what the plain laws of itemise share.
-/
import Derived.Test.YtfnkpjkbgfgbkaaDoorPT
import Derived.Test.YtfnkpjkbgfgbkaaDoorHZ
import Derived.Test.YtfnkpjkbgfgbkaaDoorPr14
namespace Go.Proofs.YtfnkpjkbgfgbkaaDoor.Pr
open Go.RowKit HK Go.Proofs.YtfnkpjkbgfgbkaaDoorW.PrintWords Go.Proofs.YtfnkpjkbgfgbkaaDoorW.PrintLast Go.Proofs.YtfnkpjkbgfgbkaaDoorW.PrintMore
set_option linter.unusedVariables false
set_option linter.unusedSimpArgs false

set_option maxRecDepth 100000 in
theorem works14 : calamuslaw14_works.f = some true := by kernel_rfl
theorem wrap64_small {x : Int} (h : -9223372036854775808 ≤ x ∧ x ≤ 9223372036854775807) : wrap64 x = x := by
  unfold wrap64
  omega
theorem sepB_eq (a : Int) : (ucls a == 11) = sepB a := by
  unfold sepB ucls
  rw [ofT_eq (by kernel_rfl)]
theorem rscr_eq (a : Int) {k : Nat} (hk : 400 ≤ k) : calamusref02_Script.f k a = some (scr a) := by
  obtain ⟨v, h1, h2⟩ := script_same a hk
  rw [h2, ← h1, scr_eq]
/-- The part that stands ahead. -/
def tp : List Int → List Int
  | [] => []
  | r :: l => if sepB r = true then [r] else r :: tp l
theorem tp_prefix : ∀ L : List Int, tp L ++ L.drop (tp L).length = L
  | [] => rfl
  | r :: l => by
    unfold tp
    split
    · simp
    · simp [tp_prefix l]
theorem tp_take : ∀ L : List Int, L.take (tp L).length = tp L
  | [] => rfl
  | r :: l => by
    unfold tp
    split
    · simp
    · simp [tp_take l]
theorem tp_le (L : List Int) : (tp L).length ≤ L.length := by
  have h := congrArg List.length (tp_prefix L)
  rw [List.length_append] at h
  omega
theorem tp_pos : ∀ {L : List Int}, L ≠ [] → 0 < (tp L).length
  | [], h => absurd rfl h
  | r :: l, _ => by
    unfold tp
    split <;> simp
theorem tp_inner : ∀ (L : List Int) (j : Nat), j + 1 < (tp L).length → sepB (L.getD j 0) = false
  | [], j, h => by simp [tp] at h
  | r :: l, j, h => by
    unfold tp at h
    split at h
    · simp at h
    · next hs =>
      cases j with
      | zero => simpa using hs
      | succ j =>
        have := tp_inner l j (by simpa using h)
        simpa using this
theorem tp_last : ∀ (L : List Int), (tp L).length < L.length → sepB (L.getD ((tp L).length - 1) 0) = true
  | [], h => by simp [tp] at h
  | r :: l, h => by
    unfold tp at h ⊢
    split
    · next hs => simpa using hs
    · next hs =>
      rw [if_neg hs] at h
      have h2 : (tp l).length < l.length := by simpa using h
      have := tp_last l h2
      have h0 : 0 < (tp l).length := tp_pos (by intro e; rw [e] at h2; simp [tp] at h2)
      obtain ⟨m, hm⟩ : ∃ m, (tp l).length = m + 1 := ⟨(tp l).length - 1, by omega⟩
      rw [hm] at this
      simpa [hm] using this
theorem prts_tp : ∀ (L : List Int) (i f : Nat), f ≤ i → (f < i ∨ L ≠ []) → prts L i f = (f, i + (tp L).length) :: prts (L.drop (tp L).length) (i + (tp L).length) (i + (tp L).length)
  | [], i, f, _, h => by
    rcases h with h | h
    · simp [prts, tp, h]
    · exact absurd rfl h
  | r :: l, i, f, hf, _ => by
    rw [show prts (r :: l) i f = if sepB r = true then (f, i + 1) :: prts l (i + 1) (i + 1) else prts l (i + 1) f from rfl]
    by_cases hs : sepB r = true
    · rw [if_pos hs]
      simp [tp, hs]
    · rw [if_neg hs, prts_tp l (i + 1) f (by omega) (.inl (by omega))]
      have e : tp (r :: l) = r :: tp l := by simp [tp, hs]
      rw [e]
      simp [Nat.add_assoc, Nat.add_comm 1]

/-- From some fuel on. -/
def Ev {α : Type} (g : Nat → Option α) (r : α) : Prop := ∃ k0, ∀ k, k0 ≤ k → g k = some r

end Go.Proofs.YtfnkpjkbgfgbkaaDoor.Pr
