/-
  The plain law of the tables of classes and scripts: the document's and the program's tell the same.
-/
import Derived.Test.YtfnkpjkbgfgbkaaDoorHP
import Derived.Test.YtfnkpjkbgfgbkaaDoorH2
import Derived.Test.YtfnkpjkbgfgbkaaDoorPr2
namespace Go.Proofs.YtfnkpjkbgfgbkaaDoor.Pr
open Go.RowKit HK Go.Proofs.YtfnkpjkbgfgbkaaDoorW.PrintWords Go.Proofs.YtfnkpjkbgfgbkaaDoorW.PrintLast Go.Proofs.YtfnkpjkbgfgbkaaDoorW.PrintMore
set_option linter.unusedVariables false

/-- A row of the document as one of the program. -/
def cvR (x : SR) : SP := ⟨x.f0, x.f1, x.f2⟩

theorem find_l0 (a o : Int) (l : List SR) (hl : l.length + 1 ≤ 9223372036854775807) : ∀ (d k i : Nat), i + d = l.length → d < k → calamusref02_find.l0 k l a o (i : Int) = some (ofL ((l.drop i).map cvR) a o) := by
  intro d
  induction d with
  | zero =>
    intro k i hi hk
    obtain ⟨k, rfl⟩ : ∃ m, k = m + 1 := ⟨k - 1, by omega⟩
    obtain rfl : i = l.length := by omega
    simp only [calamusref02_find.l0]
    rw [if_neg (by omega), List.drop_length]
    rfl
  | succ d ih =>
    intro k i hi hk
    obtain ⟨k, rfl⟩ : ∃ m, k = m + 1 := ⟨k - 1, by omega⟩
    have hlt : i < l.length := by omega
    have hrd : rd_T46 l (i : Int) = l[i] := by
      unfold rd_T46
      rw [Int.toNat_natCast, List.getD_eq_getElem?_getD, List.getElem?_eq_getElem hlt, Option.getD_some]
    have hn := ih k (i + 1) (by omega) (by omega)
    simp only [calamusref02_find.l0]
    rw [if_pos (by omega), if_pos (by omega), hrd, wrap64_nat i (by omega), hn, List.drop_eq_getElem_cons hlt]
    simp only [ofL, List.map_cons, cvR]
    by_cases h1 : l[i].f0 ≤ a
    · by_cases h2 : a ≤ l[i].f1
      · rw [if_pos h1, if_pos h2, if_pos ⟨h1, h2⟩]
      · rw [if_pos h1, if_neg h2, if_neg (fun h => h2 h.2)]
    · rw [if_neg h1, if_neg (fun h => h1 h.1)]

theorem find_total (a o : Int) (l : List SR) (k : Nat) (hl : l.length + 1 ≤ 9223372036854775807) (hk : l.length < k) : calamusref02_find.f k l a o = some (ofL (l.map cvR) a o) := by
  have h0 := find_l0 a o l hl l.length k 0 (by omega) (by omega)
  rw [List.drop_zero] at h0
  exact h0

/-- All rows lie within the characters. -/
def within (l : List SP) : Bool := l.all fun x => decide (0 ≤ x.f0) && decide (x.f1 < 1114112)
theorem ofL_out : ∀ {l : List SP} {a o : Int}, within l = true → (a < 0 ∨ 1114112 ≤ a) → ofL l a o = o
  | [], _, _, _, _ => rfl
  | x :: l, a, o, h, ha => by
    simp only [within, List.all_cons, Bool.and_eq_true, decide_eq_true_eq] at h
    simp only [ofL]
    rw [if_neg (by omega)]
    exact ofL_out h.2 ha
theorem ofT_eq {l : List SP} (h : within l = true) (a o : Int) : ofT l a o = ofL l a o := by
  unfold ofT
  split
  · next ha => exact (ofL_out h ha).symm
  · rfl

/-- No row has a number of those from u to v. -/
def apartFrom (l : List SP) (u v : Int) : Bool := l.all fun x => decide (x.f1 < u) || decide (v < x.f0)
theorem ofL_apart : ∀ {l : List SP} {a o u v : Int}, apartFrom l u v = true → u ≤ a → a ≤ v → ofL l a o = o
  | [], _, _, _, _, _, _, _ => rfl
  | x :: l, a, o, u, v, h, h1, h2 => by
    simp only [apartFrom, List.all_cons, Bool.and_eq_true, Bool.or_eq_true, decide_eq_true_eq] at h
    simp only [ofL]
    rw [if_neg (by omega)]
    exact ofL_apart h.2 h1 h2

def letterB (a : Int) : Bool := decide (65 ≤ a ∧ a ≤ 90 ∨ 97 ≤ a ∧ a ≤ 122)
theorem letter_eq (a : Int) : calamusref02_letter.f a = some (letterB a) := by
  unfold calamusref02_letter.f letterB
  by_cases h1 : a ≥ 65 <;> by_cases h2 : a ≤ 90 <;> by_cases h3 : a ≥ 97 <;> simp only [h1, h2, h3, if_true, if_false, Option.some.injEq] <;> (rw [Bool.eq_iff_iff]; simp <;> omega)
theorem ofL_letter {l : List SP} (h1 : apartFrom l 65 90 = true) (h2 : apartFrom l 97 122 = true) {a : Int} (o : Int) (h : letterB a = true) : ofL l a o = o := by
  simp only [letterB, decide_eq_true_eq] at h
  rcases h with h | h
  · exact ofL_apart h1 h.1 h.2
  · exact ofL_apart h2 h.1 h.2

theorem classes_cv : classesR.map cvR = classesT := by kernel_rfl
theorem scripts_cv : scriptsR.map cvR = scriptsT := by kernel_rfl

theorem classesT_len : classesT.length = 146 := by kernel_rfl
def ucls (a : Int) : Int := ofL classesT a 1
theorem ucd_Class_eq (a : Int) : ucd_Class.f a = some (ucls a) := by
  unfold ucd_Class.f ucls
  rw [ucd_of_total a 1 classesT _ (by rw [classesT_len]; decide) (by rw [classesT_len]; decide), ofT_eq (by kernel_rfl)]
theorem ref_Class_eq (a : Int) {k : Nat} (hk : 400 ≤ k) : calamusref02_Class.f k a = some (ucls a) := by
  unfold calamusref02_Class.f calamusref02_Classes.f
  rw [letter_eq, Option.bind_some]
  by_cases h : letterB a = true
  · rw [if_pos h]
    unfold ucls
    rw [ofL_letter (by kernel_rfl) (by kernel_rfl) _ h]
  · rw [if_neg h, Option.bind_some, find_total a 1 classesR k (by rw [calamusref02_Classes.len]; decide) (by rw [calamusref02_Classes.len]; omega), classes_cv]
    rfl

theorem script_same (a : Int) {k : Nat} (hk : 400 ≤ k) : ∃ v, ucd_Script.f a = some v ∧ calamusref02_Script.f k a = some v := by
  refine ⟨ofL scriptsT a 0, ?_, ?_⟩
  · rw [scr_eq]; unfold scr; rw [ofT_eq (by kernel_rfl)]
  · unfold calamusref02_Script.f calamusref02_Scripts.f
    rw [Option.bind_some, find_total a 0 scriptsR k (by rw [calamusref02_Scripts.len]; decide) (by rw [calamusref02_Scripts.len]; omega), scripts_cv]
    rfl
end Go.Proofs.YtfnkpjkbgfgbkaaDoor.Pr
