/-
  What ucd's table functions come to, as total functions.
-/
import Derived.Test.YtfnkpjkbgfgbkaaDoorH1
namespace Go.Proofs.YtfnkpjkbgfgbkaaDoor.Pr
open Go.RowKit HK Go.Proofs.YtfnkpjkbgfgbkaaDoorW.PrintWords Go.Proofs.YtfnkpjkbgfgbkaaDoorW.PrintLast Go.Proofs.YtfnkpjkbgfgbkaaDoorW.PrintMore
set_option linter.unusedVariables false

/-- The value of the first span that has a number; else another one. -/
def ofL : List SP → Int → Int → Int
  | [], _, o => o
  | x :: l, a, o => if x.f0 ≤ a ∧ a ≤ x.f1 then x.f2 else ofL l a o
def ofT (l : List SP) (a o : Int) : Int := if a < 0 ∨ 1114112 ≤ a then o else ofL l a o

theorem wrap64_nat (i : Nat) (h : i + 1 ≤ 9223372036854775807) : wrap64 ((i : Int) + 1) = ((i + 1 : Nat) : Int) := by
  unfold wrap64
  omega

theorem ucd_of_l0 (a o : Int) (l : List SP) (hl : l.length + 1 ≤ 9223372036854775807) : ∀ (d k i : Nat), i + d = l.length → d < k → ucd_of.l0 k a o l (l.length : Int) (i : Int) = some (ofL (l.drop i) a o) := by
  intro d
  induction d with
  | zero =>
    intro k i hi hk
    obtain ⟨k, rfl⟩ : ∃ m, k = m + 1 := ⟨k - 1, by omega⟩
    obtain rfl : i = l.length := by omega
    simp only [ucd_of.l0]
    rw [if_neg (by omega), List.drop_length]
    rfl
  | succ d ih =>
    intro k i hi hk
    obtain ⟨k, rfl⟩ : ∃ m, k = m + 1 := ⟨k - 1, by omega⟩
    have hlt : i < l.length := by omega
    have hrd : rd_T80 l (i : Int) = l[i] := by
      unfold rd_T80
      rw [Int.toNat_natCast, List.getD_eq_getElem?_getD, List.getElem?_eq_getElem hlt, Option.getD_some]
    have hn := ih k (i + 1) (by omega) (by omega)
    simp only [ucd_of.l0]
    rw [if_pos (by omega), if_pos (by omega), if_pos (by omega), hrd, wrap64_nat i (by omega), hn, List.drop_eq_getElem_cons hlt]
    simp only [ofL]
    by_cases h1 : l[i].f0 ≤ a
    · by_cases h2 : a ≤ l[i].f1
      · rw [if_pos h1, if_pos h2, if_pos ⟨h1, h2⟩]
      · rw [if_pos h1, if_neg h2, if_neg (fun h => h2 h.2)]
    · rw [if_neg h1, if_neg (fun h => h1 h.1)]

theorem ucd_of_total (a o : Int) (l : List SP) (k : Nat) (hl : l.length + 1 ≤ 9223372036854775807) (hk : l.length + 1 < k) : ucd_of.f k a l o = some (ofT l a o) := by
  obtain ⟨k, rfl⟩ : ∃ m, k = m + 1 := ⟨k - 1, by omega⟩
  unfold ucd_of.f ofT
  have h0 := ucd_of_l0 a o l hl l.length k 0 (by omega) (by omega)
  simp only [Int.natCast_zero, List.drop_zero] at h0
  by_cases h1 : a < 0
  · rw [if_pos h1, if_pos (.inl h1)]
    simp only [ucd_of.j0]
    rfl
  · rw [if_neg h1]
    simp only [ucd_of.j0]
    by_cases h2 : 1114112 ≤ a
    · rw [if_pos (by simpa using h2), if_pos (.inr h2)]
    · rw [if_neg (by simpa using h2), if_neg (by omega)]
      exact h0

def scr (a : Int) : Int := ofT scriptsT a 0
theorem scr_eq (a : Int) : ucd_Script.f a = some (scr a) := ucd_of_total a 0 scriptsT _ (by decide) (by decide)
end Go.Proofs.YtfnkpjkbgfgbkaaDoor.Pr
