/-
  The plain law of decoding: what a row of bytes begins with, as the document and as the library tell it; a row of characters' bytes is decoded as the characters.
-/
import Derived.Test.YtfnkpjkbgfgbkaaDoorH6
import Derived.Test.YtfnkpjkbgfgbkaaDoorHP
import Derived.Test.YtfnkpjkbgfgbkaaDoorPr11
import Derived.Test.YtfnkpjkbgfgbkaaDoorPr8
import Derived.Laws.BitsLemmas
import Derived.Lib.DecodeN
namespace Go.Proofs.YtfnkpjkbgfgbkaaDoor.Pr
open Go.RowKit HK Go.Proofs.YtfnkpjkbgfgbkaaDoorW.PrintWords Go.Proofs.YtfnkpjkbgfgbkaaDoorW.PrintLast Go.Proofs.YtfnkpjkbgfgbkaaDoorW.PrintMore
set_option linter.unusedVariables false

/-- The first character of bytes, and how many it has; 0: there is none. -/
def cutN (n : Nat) (b0 b1 b2 b3 : Int) : Int × Int :=
  if b0 < 128 then (b0, 1)
  else if 192 ≤ b0 ∧ b0 < 224 ∧ 1 < n ∧ 128 ≤ b1 ∧ b1 < 192 then (if 128 ≤ b0 % 32 * 64 + b1 % 64 then (b0 % 32 * 64 + b1 % 64, 2) else (0, 0))
  else if 224 ≤ b0 ∧ b0 < 240 ∧ 2 < n ∧ 128 ≤ b1 ∧ b1 < 192 ∧ 128 ≤ b2 ∧ b2 < 192 then
    (if 2048 ≤ b0 % 16 * 4096 + b1 % 64 * 64 + b2 % 64 ∧ (b0 % 16 * 4096 + b1 % 64 * 64 + b2 % 64 < 55296 ∨ 57344 ≤ b0 % 16 * 4096 + b1 % 64 * 64 + b2 % 64) then (b0 % 16 * 4096 + b1 % 64 * 64 + b2 % 64, 3) else (0, 0))
  else if 240 ≤ b0 ∧ b0 < 248 ∧ 3 < n ∧ 128 ≤ b1 ∧ b1 < 192 ∧ 128 ≤ b2 ∧ b2 < 192 ∧ 128 ≤ b3 ∧ b3 < 192 then
    (if 65536 ≤ b0 % 8 * 262144 + b1 % 64 * 4096 + b2 % 64 * 64 + b3 % 64 ∧ b0 % 8 * 262144 + b1 % 64 * 4096 + b2 % 64 * 64 + b3 % 64 ≤ 1114111 then (b0 % 8 * 262144 + b1 % 64 * 4096 + b2 % 64 * 64 + b3 % 64, 4) else (0, 0))
  else (0, 0)
def cutZ (l : List Int) : Int × Int := cutN l.length (rd l 0) (rd l 1) (rd l 2) (rd l 3)

def isBytes (l : List Int) : Prop := ∀ x ∈ l, 0 ≤ x ∧ x ≤ 255
theorem rd_byte {l : List Int} (h : isBytes l) (i : Int) : 0 ≤ rd l i ∧ rd l i ≤ 255 := by
  unfold rd
  rw [List.getD_eq_getElem?_getD]
  cases hx : l[i.toNat]? with
  | none => simp
  | some x => exact h x (List.mem_of_getElem? hx)

/-! ### what the library tells -/
theorem byte_all (l : List Int) (h : isBytes l) (j : Nat) : ((((byteArr l).get! j).toNat : Nat) : Int) = rd l (j : Int) := by
  by_cases hj : j < l.length
  · rw [byteArr_get l h j hj]
    rfl
  · have h1 : (byteArr l).get! j = default := by simp [byteArr, ByteArray.get!, hj]
    have h2 : rd l (j : Int) = 0 := by
      unfold rd
      rw [Int.toNat_natCast, List.getD_eq_getElem?_getD, List.getElem?_eq_none (by omega)]
      rfl
    rw [h1, h2]
    rfl

theorem decodeN_cut (n : Nat) (b0 b1 b2 b3 : Nat) (h0 : b0 < 256) (h1 : b1 < 256) (h2 : b2 < 256) (h3 : b3 < 256) :
    (((Go.Lib.decodeN n b0 b1 b2 b3).1 : Int), ((Go.Lib.decodeN n b0 b1 b2 b3).2 : Int)) = if (cutN n b0 b1 b2 b3).2 = 0 then (65533, 1) else cutN n b0 b1 b2 b3 := by
  unfold Go.Lib.decodeN cutN
  by_cases c0 : b0 < 128
  · rw [if_pos c0, if_pos (show (b0 : Int) < 128 by omega)]
    rw [if_neg (by simp)]
    rfl
  rw [if_neg c0, if_neg (show ¬ (b0 : Int) < 128 by omega)]
  by_cases c1 : b0 / 32 = 6 ∧ (1 < n ∧ b1 / 64 = 2)
  · rw [if_pos c1, if_pos (show 192 ≤ (b0 : Int) ∧ (b0 : Int) < 224 ∧ 1 < n ∧ 128 ≤ (b1 : Int) ∧ (b1 : Int) < 192 by omega)]
    by_cases q : b0 % 32 * 64 + b1 % 64 ≥ 128
    · rw [if_pos q, if_pos (show 128 ≤ (b0 : Int) % 32 * 64 + (b1 : Int) % 64 by omega), if_neg (by simp)]
      simp only [Prod.mk.injEq]
      omega
    · rw [if_neg q, if_neg (show ¬ 128 ≤ (b0 : Int) % 32 * 64 + (b1 : Int) % 64 by omega), if_pos rfl]
      rfl
  rw [if_neg c1, if_neg (show ¬ (192 ≤ (b0 : Int) ∧ (b0 : Int) < 224 ∧ 1 < n ∧ 128 ≤ (b1 : Int) ∧ (b1 : Int) < 192) by omega)]
  by_cases c2 : b0 / 16 = 14 ∧ (1 < n ∧ b1 / 64 = 2) ∧ (2 < n ∧ b2 / 64 = 2)
  · rw [if_pos c2, if_pos (show 224 ≤ (b0 : Int) ∧ (b0 : Int) < 240 ∧ 2 < n ∧ 128 ≤ (b1 : Int) ∧ (b1 : Int) < 192 ∧ 128 ≤ (b2 : Int) ∧ (b2 : Int) < 192 by omega)]
    obtain ⟨c, hc⟩ : ∃ c, c = b0 % 16 * 4096 + b1 % 64 * 64 + b2 % 64 := ⟨_, rfl⟩
    have hd : (b0 : Int) % 16 * 4096 + (b1 : Int) % 64 * 64 + (b2 : Int) % 64 = (c : Int) := by omega
    have hm : c < 65536 := by omega
    rw [← hc, hd]
    by_cases q : c ≥ 2048 ∧ (c < 55296 ∨ (57344 ≤ c ∧ c ≤ 1114111))
    · rw [if_pos q, if_pos (show 2048 ≤ (c : Int) ∧ ((c : Int) < 55296 ∨ 57344 ≤ (c : Int)) by omega), if_neg (by simp)]
      rfl
    · rw [if_neg q, if_neg (show ¬ (2048 ≤ (c : Int) ∧ ((c : Int) < 55296 ∨ 57344 ≤ (c : Int))) by omega), if_pos rfl]
      rfl
  rw [if_neg c2, if_neg (show ¬ (224 ≤ (b0 : Int) ∧ (b0 : Int) < 240 ∧ 2 < n ∧ 128 ≤ (b1 : Int) ∧ (b1 : Int) < 192 ∧ 128 ≤ (b2 : Int) ∧ (b2 : Int) < 192) by omega)]
  by_cases c3 : b0 / 8 = 30 ∧ (1 < n ∧ b1 / 64 = 2) ∧ (2 < n ∧ b2 / 64 = 2) ∧ (3 < n ∧ b3 / 64 = 2)
  · rw [if_pos c3, if_pos (show 240 ≤ (b0 : Int) ∧ (b0 : Int) < 248 ∧ 3 < n ∧ 128 ≤ (b1 : Int) ∧ (b1 : Int) < 192 ∧ 128 ≤ (b2 : Int) ∧ (b2 : Int) < 192 ∧ 128 ≤ (b3 : Int) ∧ (b3 : Int) < 192 by omega)]
    obtain ⟨c, hc⟩ : ∃ c, c = b0 % 8 * 262144 + b1 % 64 * 4096 + b2 % 64 * 64 + b3 % 64 := ⟨_, rfl⟩
    have hd : (b0 : Int) % 8 * 262144 + (b1 : Int) % 64 * 4096 + (b2 : Int) % 64 * 64 + (b3 : Int) % 64 = (c : Int) := by omega
    rw [← hc, hd]
    by_cases q : c ≥ 65536 ∧ (c < 55296 ∨ (57344 ≤ c ∧ c ≤ 1114111))
    · rw [if_pos q, if_pos (show 65536 ≤ (c : Int) ∧ (c : Int) ≤ 1114111 by omega), if_neg (by simp)]
      rfl
    · rw [if_neg q, if_neg (show ¬ (65536 ≤ (c : Int) ∧ (c : Int) ≤ 1114111) by omega), if_pos rfl]
      rfl
  rw [if_neg c3, if_neg (show ¬ (240 ≤ (b0 : Int) ∧ (b0 : Int) < 248 ∧ 3 < n ∧ 128 ≤ (b1 : Int) ∧ (b1 : Int) < 192 ∧ 128 ≤ (b2 : Int) ∧ (b2 : Int) < 192 ∧ 128 ≤ (b3 : Int) ∧ (b3 : Int) < 192) by omega), if_pos rfl]
  rfl

theorem decodeRune_eq {l : List Int} (h : isBytes l) (hl : l ≠ []) : utf8_DecodeRune.f l = some (if (cutZ l).2 = 0 then (65533, 1) else cutZ l) := by
  unfold utf8_DecodeRune.f
  rw [if_pos ⟨hl, h⟩]
  congr 1
  have hs : (byteArr l).size ≠ 0 := by
    rw [byteArr_size]
    exact fun e => hl (List.eq_nil_of_length_eq_zero e)
  unfold Go.Lib.decodeGo
  rw [if_neg hs, Go.Lib.decode_at, byteArr_size]
  have b0 := byte_all l h 0
  have b1 := byte_all l h 1
  have b2 := byte_all l h 2
  have b3 := byte_all l h 3
  have := decodeN_cut l.length _ _ _ _ ((byteArr l).get! 0).toNat_lt ((byteArr l).get! 1).toNat_lt ((byteArr l).get! 2).toNat_lt ((byteArr l).get! 3).toNat_lt
  rw [b0, b1, b2, b3] at this
  exact this

/-! ### what the document tells -/
theorem wrap32_id {x : Int} (h0 : 0 ≤ x) (h1 : x < 2147483648) : wrap32 x = x := by
  unfold wrap32
  omega
theorem cut_bits {x y : Int} (hx0 : 0 ≤ x) (hx1 : x < 33554432) (h0 : 0 ≤ y) (h1 : y ≤ 255) : Go.bits .or .i32 (wrap32 (x * 64)) (wrap32 (Go.bits .and .u8 y 63)) = x * 64 + y % 64 := by
  rw [Go.u8_and63 y h0 (by omega), wrap32_id (by omega) (by omega), wrap32_id (by omega) (by omega), Go.i32_or6 (x * 64) (y % 64) (by omega) (by omega) (by omega) (by omega) (by omega)]

/-- What the loop over the further bytes tells. -/
def cutF (n : Int) (least r : Int) : Int × Int := if r < least then (0, 0) else if r > 1114111 then (0, 0) else if r ≥ 55296 then (if r ≤ 57343 then (0, 0) else (r, n)) else (r, n)
theorem cut_end (k : Nat) (l : List Int) (n least r i : Int) (hi : ¬ i < n) : calamusref02_Cut.l0 (k + 1) l n least r i = some (cutF n least r) := by
  unfold calamusref02_Cut.l0 cutF
  rw [if_neg hi]
  repeat' split
  all_goals rfl
theorem cut_step (k : Nat) (l : List Int) (h : isBytes l) (n least r : Int) (i : Int) (hi0 : 0 ≤ i) (hi : i < n) (hn : n ≤ 4) (hr0 : 0 ≤ r) (hr1 : r < 33554432) :
    calamusref02_Cut.l0 (k + 1) l n least r i = if (l.length : Int) ≤ i ∨ rd l i < 128 ∨ 192 ≤ rd l i then some (0, 0) else calamusref02_Cut.l0 k l n least (r * 64 + rd l i % 64) (i + 1) := by
  obtain ⟨b0, b1⟩ := rd_byte h i
  have hw : wrap64 (i + 1) = i + 1 := by unfold wrap64; omega
  conv => lhs; unfold calamusref02_Cut.l0
  rw [if_pos hi, cut_bits hr0 hr1 b0 b1, hw]
  by_cases h1 : i ≥ (l.length : Int)
  · rw [if_pos h1, if_pos (.inl h1)]
  · rw [if_neg h1, if_pos (by omega), if_pos (by omega)]
    by_cases h2 : rd l i < 128
    · rw [if_pos h2, if_pos (.inr (.inl h2))]
    · rw [if_neg h2]
      by_cases h3 : rd l i > 191
      · rw [if_pos h3, if_pos (.inr (.inr (by omega)))]
      · rw [if_neg h3, if_neg (by omega)]

theorem cut_eq {l : List Int} (h : isBytes l) (hl : l ≠ []) (k : Nat) : calamusref02_Cut.f (k + 9) l = some (cutZ l) := by
  have hpos : 0 < l.length := List.length_pos_iff.2 hl
  obtain ⟨a0, a1⟩ := rd_byte h 0
  obtain ⟨c0, c1⟩ := rd_byte h 1
  obtain ⟨d0, d1⟩ := rd_byte h 2
  obtain ⟨e0, e1⟩ := rd_byte h 3
  unfold calamusref02_Cut.f cutZ
  rw [if_pos (by omega)]
  by_cases h1 : rd l 0 < 128
  · rw [if_pos h1, wrap32_id (by omega) (by omega)]
    unfold cutN
    rw [if_pos h1]
  · rw [if_neg h1]
    by_cases h2 : rd l 0 ≥ 192
    · rw [if_pos h2]
      simp only [calamusref02_Cut.j0]
      by_cases h3 : rd l 0 < 224
      · rw [if_pos (decide_eq_true h3), if_pos (by omega)]
        simp only [calamusref02_Cut.j2]
        unfold cutN
        rw [if_neg h1]
        rw [Go.u8_and31 _ a0 (by omega), wrap32_id (by omega) (by omega), cut_step _ l h 2 128 _ 1 (by decide) (by decide) (by decide) (by omega) (by omega), show (1 : Int) + 1 = 2 from rfl, cut_end _ _ _ _ _ _ (by decide)]
        unfold cutF
        repeat' split
        all_goals first | rfl | (exfalso; omega)
      · rw [if_neg (by simpa using h3), if_pos (by omega)]
        by_cases h4 : rd l 0 ≥ 224
        · rw [if_pos h4]
          simp only [calamusref02_Cut.j1]
          by_cases h5 : rd l 0 < 240
          · rw [if_pos (decide_eq_true h5), if_pos (by omega)]
            simp only [calamusref02_Cut.j2]
            unfold cutN
            rw [if_neg h1, if_neg (by omega)]
            rw [Go.u8_and15 _ a0 (by omega), wrap32_id (by omega) (by omega), cut_step _ l h 3 2048 _ 1 (by decide) (by decide) (by decide) (by omega) (by omega), show (1 : Int) + 1 = 2 from rfl,
              cut_step _ l h 3 2048 _ 2 (by decide) (by decide) (by decide) (by omega) (by omega), show (2 : Int) + 1 = 3 from rfl, cut_end _ _ _ _ _ _ (by decide)]
            unfold cutF
            repeat' split
            all_goals first | rfl | (exfalso; omega) | (simp only [Option.some.injEq, Prod.mk.injEq, and_true]; omega)
          · rw [if_neg (by simpa using h5), if_pos (by omega)]
            by_cases h6 : rd l 0 ≥ 240
            · rw [if_pos h6]
              by_cases h7 : rd l 0 < 248
              · rw [if_pos h7]
                simp only [calamusref02_Cut.j2]
                unfold cutN
                rw [if_neg h1, if_neg (by omega), if_neg (by omega)]
                rw [Go.u8_and7 _ a0 (by omega), wrap32_id (by omega) (by omega), cut_step _ l h 4 65536 _ 1 (by decide) (by decide) (by decide) (by omega) (by omega), show (1 : Int) + 1 = 2 from rfl,
                  cut_step _ l h 4 65536 _ 2 (by decide) (by decide) (by decide) (by omega) (by omega), show (2 : Int) + 1 = 3 from rfl, cut_step _ l h 4 65536 _ 3 (by decide) (by decide) (by decide) (by omega) (by omega), show (3 : Int) + 1 = 4 from rfl, cut_end _ _ _ _ _ _ (by decide)]
                unfold cutF
                repeat' split
                all_goals first | rfl | (exfalso; omega) | (simp only [Option.some.injEq, Prod.mk.injEq, and_true]; omega)
              · rw [if_neg h7]
                unfold cutN
                rw [if_neg h1, if_neg (by omega), if_neg (by omega), if_neg (by omega)]
            · exfalso; omega
        · exfalso; omega
    · rw [if_neg h2]
      simp only [calamusref02_Cut.j0]
      rw [if_neg (by decide), if_pos (by omega), if_neg (by omega)]
      simp only [calamusref02_Cut.j1]
      rw [if_neg (by decide), if_pos (by omega), if_neg (by omega)]
      unfold cutN
      rw [if_neg h1, if_neg (by omega), if_neg (by omega), if_neg (by omega)]
end Go.Proofs.YtfnkpjkbgfgbkaaDoor.Pr
