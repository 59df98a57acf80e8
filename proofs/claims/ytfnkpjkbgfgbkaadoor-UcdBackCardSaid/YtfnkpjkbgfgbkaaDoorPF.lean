/-
  The plain law of chapter 02's theorem: characters' bytes are decoded as the characters, and the other way.
-/
import Derived.Test.YtfnkpjkbgfgbkaaDoorPE
import Derived.Test.YtfnkpjkbgfgbkaaDoorPr12
namespace Go.Proofs.YtfnkpjkbgfgbkaaDoor.Pr
open Go.RowKit HK Go.Proofs.YtfnkpjkbgfgbkaaDoorW.PrintWords Go.Proofs.YtfnkpjkbgfgbkaaDoorW.PrintLast Go.Proofs.YtfnkpjkbgfgbkaaDoorW.PrintMore
set_option linter.unusedVariables false
set_option linter.unusedSimpArgs false

/-- What is none of a character is FFFD. -/
def fixZ (r : Int) : Int := if r < 0 then 65533 else if r > 1114111 then 65533 else if r ≥ 55296 then (if r ≤ 57343 then 65533 else r) else r
theorem fix_char (r : Int) : isChar (fixZ r) := by
  unfold fixZ isChar
  repeat' split
  all_goals omega
theorem fix_all (l : List Int) : ∀ x ∈ l.map fixZ, isChar x := by
  intro x hx
  obtain ⟨y, _, rfl⟩ := List.mem_map.1 hx
  exact fix_char y

/-- Behind the first loop. -/
def backE (k : Nat) (x0 x1 y : List Int) : Option Bool :=
  (ucd_Decode.f k y).bind fun bt => if bt.2.1 = 0 then calamuslaw02_UcdBack.j2 k x1 ((bt.1.length : Int) != (x0.length : Int)) else calamuslaw02_UcdBack.j2 k x1 true

theorem back_l0 (x0 x1 : List Int) (hx : x0.length ≤ 10000) : ∀ (d i : Nat) (out : List Int) (k : Nat), i + d = x0.length → out.length ≤ 4 * i →
    calamuslaw02_UcdBack.l0 (k + d + 1) x0 x1 out (i : Int) = backE k x0 x1 (out ++ allZ ((x0.drop i).map fixZ)) := by
  intro d
  induction d with
  | zero =>
    intro i out k hi ho
    simp only [calamuslaw02_UcdBack.l0, Nat.add_zero]
    rw [if_neg (by omega), List.drop_eq_nil_of_le (by omega)]
    simp only [List.map_nil, allZ, List.flatMap_nil, List.append_nil]
    rfl
  | succ d ih =>
    intro i out k hi ho
    have hlt : i < x0.length := by omega
    have hrd : rd x0 (i : Int) = x0[i] := by
      unfold rd
      rw [Int.toNat_natCast, List.getD_eq_getElem?_getD, List.getElem?_eq_getElem hlt, Option.getD_some]
    have hlen := one_length (fixZ x0[i])
    have hn := ih (i + 1) (out ++ oneZ (fixZ x0[i])) k (by omega) (by rw [List.length_append]; omega)
    have he : out ++ allZ ((x0.drop i).map fixZ) = out ++ oneZ (fixZ x0[i]) ++ allZ ((x0.drop (i + 1)).map fixZ) := by
      rw [List.drop_eq_getElem_cons hlt]
      simp only [allZ, List.map_cons, List.flatMap_cons, List.append_assoc]
    rw [he, ← hn]
    have h65 : isChar 65533 := ⟨by decide, by decide, by decide⟩
    rw [show k + (d + 1) + 1 = (k + d + 1) + 1 by omega]
    conv => lhs; unfold calamuslaw02_UcdBack.l0
    rw [if_pos (by omega), if_pos (by omega), hrd, wrap64_nat i (by omega)]
    unfold fixZ at *
    by_cases c1 : x0[i] < 0
    · simp only [if_pos c1] at hlen ⊢
      rw [one_eq h65, Option.bind_some, if_pos (by omega)]
    · by_cases c2 : x0[i] > 1114111
      · simp only [if_neg c1, if_pos c2] at hlen ⊢
        rw [one_eq h65, Option.bind_some, if_pos (by omega)]
      · by_cases c3 : x0[i] ≥ 55296
        · by_cases c4 : x0[i] ≤ 57343
          · simp only [if_neg c1, if_neg c2, if_pos c3, if_pos c4] at hlen ⊢
            rw [one_eq h65, Option.bind_some, if_pos (by omega)]
          · simp only [if_neg c1, if_neg c2, if_pos c3, if_neg c4] at hlen ⊢
            rw [one_eq ⟨by omega, by omega, by omega⟩, Option.bind_some, if_pos (by omega)]
        · simp only [if_neg c1, if_neg c2, if_neg c3] at hlen ⊢
          rw [one_eq ⟨by omega, by omega, by omega⟩, Option.bind_some, if_pos (by omega)]

theorem back_l1 (x1 xs : List Int) (hc : ∀ x ∈ xs, isChar x) (hx : xs.length ≤ 10000) : ∀ (d i : Nat) (out : List Int) (k : Nat), i + d = xs.length → out.length ≤ 4 * i → x1 = out ++ allZ (xs.drop i) →
    calamuslaw02_UcdBack.l1 (k + d + 1) x1 xs out (i : Int) = some true := by
  intro d
  induction d with
  | zero =>
    intro i out k hi ho he
    rw [List.drop_eq_nil_of_le (by omega)] at he
    simp only [allZ, List.flatMap_nil, List.append_nil] at he
    subst he
    simp only [calamuslaw02_UcdBack.l1, Nat.add_zero]
    rw [if_neg (by omega), if_pos trivial]
    rfl
  | succ d ih =>
    intro i out k hi ho he
    have hlt : i < xs.length := by omega
    have hrd : rd xs (i : Int) = xs[i] := by
      unfold rd
      rw [Int.toNat_natCast, List.getD_eq_getElem?_getD, List.getElem?_eq_getElem hlt, Option.getD_some]
    have hlen := one_length xs[i]
    have hn := ih (i + 1) (out ++ oneZ xs[i]) k (by omega) (by rw [List.length_append]; omega) (by
      rw [he, List.drop_eq_getElem_cons hlt]
      simp only [allZ, List.flatMap_cons, List.append_assoc])
    rw [show k + (d + 1) + 1 = (k + d + 1) + 1 by omega]
    conv => lhs; unfold calamuslaw02_UcdBack.l1
    rw [if_pos (by omega), if_pos (by omega), hrd, wrap64_nat i (by omega), one_eq (hc _ (List.getElem_mem hlt)), Option.bind_some, if_pos (by omega)]
    exact hn

theorem dec_good {xs : List Int} (hc : ∀ x ∈ xs, isChar x) (hx : (allZ xs).length ≤ 1000000) {k : Nat} (hk : 2 * xs.length + 20 ≤ k) : ucd_Decode.f k (allZ xs) = some (xs, 0, 0) := by
  have := (dec_run [] (.inl rfl) xs [] [] k hc (by simp only [List.nil_append, List.append_nil]; exact allZ_bytes hc) (by simp only [List.nil_append, List.append_nil]; exact hx) (Nat.le_refl _) hk).1
  simp only [List.nil_append, List.append_nil] at this
  exact this

theorem back_j2 (x1 : List Int) (hb : isBytes x1) (hl : x1.length ≤ 10000) {k : Nat} (hk : 30100 ≤ k) : calamuslaw02_UcdBack.j2 k x1 false = some true := by
  obtain ⟨k, rfl⟩ : ∃ m, k = m + 1 + 1 := ⟨k - 2, by omega⟩
  obtain ⟨xs, rest, h1, h2, h3, h4, _⟩ := dec_all hb (by omega) (k := k + 1) (by omega)
  have hxs := allZ_length xs
  have hlen : x1.length = (allZ xs).length + rest.length := by rw [h2, List.length_append]
  simp only [calamuslaw02_UcdBack.j2]
  rw [if_neg (by decide), h4, Option.bind_some]
  unfold decR
  by_cases hr : rest = []
  · subst hr
    rw [if_pos rfl, if_pos rfl]
    have := back_l1 x1 xs h1 (by omega) xs.length 0 [] (k - xs.length) (by omega) (by simp) (by simpa using h2)
    rw [show k - xs.length + xs.length + 1 = k + 1 by omega] at this
    exact this
  · have hpos : 0 < rest.length := List.length_pos_iff.2 hr
    have hcut : (cutZ rest).2 = 0 := by
      rcases h3 with h | h
      · exact absurd h hr
      · exact h
    have ht : x1.take ((allZ xs).length : Int).toNat = allZ xs := by rw [h2]; simp
    have hd : x1.drop ((allZ xs).length : Int).toNat = rest := by rw [h2]; simp
    have hbr : isBytes rest := fun x hx => hb x (by rw [h2]; simp [hx])
    rw [if_neg hr]
    simp only []
    rw [if_neg (by decide), if_pos trivial, if_neg (by omega), if_neg (by omega)]
    simp only [calamuslaw02_UcdBack.j4]
    rw [if_neg (by decide), if_pos (by omega), if_pos (by omega), ht, hd, dec_good h1 (by omega) (by omega), Option.bind_some, show k = (k - 9) + 9 by omega, cut_eq hbr hr, Option.bind_some, if_pos rfl, if_pos hcut]
    rfl

theorem calamuslaw02_UcdBack.pure : calamuslaw02_UcdBack.Pure := by
  intro l0 l1 _ _ _ _ _ w1
  by_cases h1 : l0.length ≤ 10000
  · by_cases h2 : l1.length ≤ 10000
    · refine ⟨(40000 + l0.length + 1) + 1, ?_⟩
      have hm : (l0.map fixZ).length = l0.length := List.length_map _
      have hz := allZ_length (l0.map fixZ)
      unfold calamuslaw02_UcdBack.f
      rw [if_neg (by omega), decide_eq_false (by omega)]
      simp only [calamuslaw02_UcdBack.j0]
      rw [if_neg (by decide)]
      have := back_l0 l0 l1 h1 l0.length 0 [] 40000 (by omega) (by simp)
      rw [List.nil_append, List.drop_zero] at this
      rw [show ((0 : Nat) : Int) = 0 from rfl] at this
      rw [this]
      unfold backE
      rw [dec_good (fix_all l0) (by omega) (by omega), Option.bind_some, if_pos rfl]
      simp only [hm, bne_self_eq_false]
      exact back_j2 l1 (bytes_of_wf w1) h2 (by decide)
    · refine ⟨2, ?_⟩
      unfold calamuslaw02_UcdBack.f
      rw [if_neg (by omega), decide_eq_true (by omega)]
      rfl
  · refine ⟨2, ?_⟩
    unfold calamuslaw02_UcdBack.f
    rw [if_pos (by omega)]
    rfl
end Go.Proofs.YtfnkpjkbgfgbkaaDoor.Pr
