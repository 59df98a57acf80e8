/-
  The plain laws of chapter 02's statements on decoding.
-/
import Derived.Test.YtfnkpjkbgfgbkaaDoorPD
import Derived.Test.YtfnkpjkbgfgbkaaDoorHD
namespace Go.Proofs.YtfnkpjkbgfgbkaaDoor.Pr
open Go.RowKit HK Go.Proofs.YtfnkpjkbgfgbkaaDoorW.PrintWords Go.Proofs.YtfnkpjkbgfgbkaaDoorW.PrintLast Go.Proofs.YtfnkpjkbgfgbkaaDoorW.PrintMore
set_option linter.unusedVariables false

/-! ### a character's bytes -/
def oneZ (r : Int) : List Int :=
  if r < 128 then [r] else if r < 2048 then [192 + r / 64, 128 + r % 64] else if r < 65536 then [224 + r / 4096, 128 + r / 64 % 64, 128 + r % 64] else [240 + r / 262144, 128 + r / 4096 % 64, 128 + r / 64 % 64, 128 + r % 64]
def isChar (r : Int) : Prop := 0 ≤ r ∧ r ≤ 1114111 ∧ (r < 55296 ∨ 57344 ≤ r)

theorem i32_and63 (x : Int) (h0 : 0 ≤ x) (h1 : x < 2147483648) : Go.bits .and .i32 x 63 = x % 64 := Go.bits_mask .i32 31 (by decide) Go.wraps_i32 6 (by decide) x h0 h1

theorem one_eq {r : Int} (h : isChar r) : calamusref02_One.f r = some (oneZ r) := by
  obtain ⟨h0, h1, _⟩ := h
  unfold calamusref02_One.f oneZ
  by_cases c1 : r < 128
  · rw [if_pos c1, if_pos c1, show r % 256 = r by omega]
  · rw [if_neg c1, if_neg c1]
    by_cases c2 : r < 2048
    · rw [if_pos c2, if_pos c2, i32_and63 r h0 (by omega), show r / 64 % 256 = r / 64 by omega, show r % 64 % 256 = r % 64 by omega, Go.u8_or192 _ (by omega) (by omega), Go.u8_or128 _ (by omega) (by omega)]
    · rw [if_neg c2, if_neg c2]
      by_cases c3 : r < 65536
      · rw [if_pos c3, if_pos c3, i32_and63 r h0 (by omega), i32_and63 (r / 64) (by omega) (by omega), show r / 4096 % 256 = r / 4096 by omega, show r % 64 % 256 = r % 64 by omega, show r / 64 % 64 % 256 = r / 64 % 64 by omega,
          Go.u8_or224 _ (by omega) (by omega), Go.u8_or128 _ (by omega) (by omega), Go.u8_or128 _ (by omega) (by omega)]
      · rw [if_neg c3, if_neg c3, i32_and63 r h0 (by omega), i32_and63 (r / 64) (by omega) (by omega), i32_and63 (r / 4096) (by omega) (by omega), show r / 262144 % 256 = r / 262144 by omega, show r % 64 % 256 = r % 64 by omega,
          show r / 64 % 64 % 256 = r / 64 % 64 by omega, show r / 4096 % 64 % 256 = r / 4096 % 64 by omega, Go.u8_or240 _ (by omega) (by omega), Go.u8_or128 _ (by omega) (by omega), Go.u8_or128 _ (by omega) (by omega), Go.u8_or128 _ (by omega) (by omega)]

theorem one_bytes {r : Int} (h : isChar r) : isBytes (oneZ r) := by
  obtain ⟨h0, h1, _⟩ := h
  unfold oneZ
  intro x hx
  repeat' split at hx
  all_goals
    simp only [List.mem_cons, List.mem_nil_iff, or_false] at hx
    omega

theorem one_length (r : Int) : 1 ≤ (oneZ r).length ∧ (oneZ r).length ≤ 4 := by
  unfold oneZ
  repeat' split
  all_goals simp

theorem rd0 (x : Int) (l : List Int) : rd (x :: l) 0 = x := rfl
theorem rd1 (x y : Int) (l : List Int) : rd (x :: y :: l) 1 = y := rfl
theorem rd2 (x y z : Int) (l : List Int) : rd (x :: y :: z :: l) 2 = z := rfl
theorem rd3 (x y z u : Int) (l : List Int) : rd (x :: y :: z :: u :: l) 3 = u := rfl

theorem one_of1 {r : Int} (h : r < 128) : oneZ r = [r] := if_pos h
theorem one_of2 {r : Int} (h1 : 128 ≤ r) (h2 : r < 2048) : oneZ r = [192 + r / 64, 128 + r % 64] := by
  unfold oneZ
  rw [if_neg (by omega), if_pos (by omega)]
theorem one_of3 {r : Int} (h1 : 2048 ≤ r) (h2 : r < 65536) : oneZ r = [224 + r / 4096, 128 + r / 64 % 64, 128 + r % 64] := by
  unfold oneZ
  rw [if_neg (by omega), if_neg (by omega), if_pos (by omega)]
theorem one_of4 {r : Int} (h1 : 65536 ≤ r) : oneZ r = [240 + r / 262144, 128 + r / 4096 % 64, 128 + r / 64 % 64, 128 + r % 64] := by
  unfold oneZ
  rw [if_neg (by omega), if_neg (by omega), if_neg (by omega)]

theorem cutZ_cons (n : Nat) (l : List Int) (x y z u : Int) (hn : l.length = n) (h0 : rd l 0 = x) (h1 : rd l 1 = y) (h2 : rd l 2 = z) (h3 : rd l 3 = u) : cutZ l = cutN n x y z u := by
  unfold cutZ
  rw [hn, h0, h1, h2, h3]

theorem cut_one {r : Int} (h : isChar r) (rest : List Int) : cutZ (oneZ r ++ rest) = (r, ((oneZ r).length : Int)) := by
  obtain ⟨h0, h1, h2⟩ := h
  by_cases c1 : r < 128
  · rw [one_of1 c1, cutZ_cons _ _ r _ _ _ rfl rfl rfl rfl rfl]
    unfold cutN
    rw [if_pos c1]
    rfl
  by_cases c2 : r < 2048
  · rw [one_of2 (by omega) c2, cutZ_cons (rest.length + 1 + 1) _ (192 + r / 64) (128 + r % 64) _ _ rfl rfl rfl rfl rfl]
    unfold cutN
    rw [if_neg (by omega), if_pos (by omega), if_pos (by omega)]
    simp only [List.length_cons, List.length_nil, Prod.mk.injEq]
    omega
  by_cases c3 : r < 65536
  · rw [one_of3 (by omega) c3, cutZ_cons (rest.length + 1 + 1 + 1) _ (224 + r / 4096) (128 + r / 64 % 64) (128 + r % 64) _ rfl rfl rfl rfl rfl]
    unfold cutN
    rw [if_neg (by omega), if_neg (by omega), if_pos (by omega), if_pos (by omega)]
    simp only [List.length_cons, List.length_nil, Prod.mk.injEq]
    omega
  · rw [one_of4 (by omega), cutZ_cons (rest.length + 1 + 1 + 1 + 1) _ (240 + r / 262144) (128 + r / 4096 % 64) (128 + r / 64 % 64) (128 + r % 64) rfl rfl rfl rfl rfl]
    unfold cutN
    rw [if_neg (by omega), if_neg (by omega), if_neg (by omega), if_pos (by omega), if_pos (by omega)]
    simp only [List.length_cons, List.length_nil, Prod.mk.injEq]
    omega

theorem of_cut {l : List Int} (h : isBytes l) (hl : l ≠ []) (hc : (cutZ l).2 ≠ 0) : ∃ r rest, isChar r ∧ l = oneZ r ++ rest := by
  obtain ⟨x0, t0, rfl⟩ : ∃ x t, l = x :: t := by
    cases l with
    | nil => exact absurd rfl hl
    | cons x t => exact ⟨x, t, rfl⟩
  have b0 := h x0 (by simp)
  by_cases c1 : x0 < 128
  · refine ⟨x0, t0, ⟨by omega, by omega, by omega⟩, ?_⟩
    rw [one_of1 c1]
    rfl
  by_cases q1 : 192 ≤ x0 ∧ x0 < 224 ∧ 1 < (x0 :: t0).length ∧ 128 ≤ rd (x0 :: t0) 1 ∧ rd (x0 :: t0) 1 < 192
  · obtain ⟨x1, t1, rfl⟩ : ∃ x t, t0 = x :: t := by
      cases t0 with
      | nil => simp at q1
      | cons x t => exact ⟨x, t, rfl⟩
    rw [rd1] at q1
    by_cases q2 : 128 ≤ x0 % 32 * 64 + x1 % 64
    · refine ⟨x0 % 32 * 64 + x1 % 64, t1, ⟨by omega, by omega, by omega⟩, ?_⟩
      rw [one_of2 (by omega) (by omega), show 192 + (x0 % 32 * 64 + x1 % 64) / 64 = x0 by omega, show 128 + (x0 % 32 * 64 + x1 % 64) % 64 = x1 by omega]
      rfl
    · exfalso
      rw [cutZ_cons _ _ x0 x1 _ _ rfl rfl rfl rfl rfl] at hc
      unfold cutN at hc
      rw [if_neg c1, if_pos q1, if_neg q2] at hc
      exact hc rfl
  by_cases q2 : 224 ≤ x0 ∧ x0 < 240 ∧ 2 < (x0 :: t0).length ∧ 128 ≤ rd (x0 :: t0) 1 ∧ rd (x0 :: t0) 1 < 192 ∧ 128 ≤ rd (x0 :: t0) 2 ∧ rd (x0 :: t0) 2 < 192
  · obtain ⟨x1, x2, t1, rfl⟩ : ∃ x y t, t0 = x :: y :: t := by
      rcases t0 with _ | ⟨x, _ | ⟨y, t⟩⟩
      · simp at q2
      · simp at q2
      · exact ⟨x, y, t, rfl⟩
    rw [rd1, rd2] at q2
    rw [rd1] at q1
    by_cases q3 : 2048 ≤ x0 % 16 * 4096 + x1 % 64 * 64 + x2 % 64 ∧ (x0 % 16 * 4096 + x1 % 64 * 64 + x2 % 64 < 55296 ∨ 57344 ≤ x0 % 16 * 4096 + x1 % 64 * 64 + x2 % 64)
    · refine ⟨x0 % 16 * 4096 + x1 % 64 * 64 + x2 % 64, t1, ⟨by omega, by omega, by omega⟩, ?_⟩
      rw [one_of3 (by omega) (by omega), show 224 + (x0 % 16 * 4096 + x1 % 64 * 64 + x2 % 64) / 4096 = x0 by omega, show 128 + (x0 % 16 * 4096 + x1 % 64 * 64 + x2 % 64) / 64 % 64 = x1 by omega, show 128 + (x0 % 16 * 4096 + x1 % 64 * 64 + x2 % 64) % 64 = x2 by omega]
      rfl
    · exfalso
      rw [cutZ_cons _ _ x0 x1 x2 _ rfl rfl rfl rfl rfl] at hc
      unfold cutN at hc
      rw [if_neg c1, if_neg q1, if_pos q2, if_neg q3] at hc
      exact hc rfl
  by_cases q3 : 240 ≤ x0 ∧ x0 < 248 ∧ 3 < (x0 :: t0).length ∧ 128 ≤ rd (x0 :: t0) 1 ∧ rd (x0 :: t0) 1 < 192 ∧ 128 ≤ rd (x0 :: t0) 2 ∧ rd (x0 :: t0) 2 < 192 ∧ 128 ≤ rd (x0 :: t0) 3 ∧ rd (x0 :: t0) 3 < 192
  · obtain ⟨x1, x2, x3, t1, rfl⟩ : ∃ x y z t, t0 = x :: y :: z :: t := by
      rcases t0 with _ | ⟨x, _ | ⟨y, _ | ⟨z, t⟩⟩⟩
      · simp at q3
      · simp at q3
      · simp at q3
      · exact ⟨x, y, z, t, rfl⟩
    rw [rd1, rd2, rd3] at q3
    rw [rd1] at q1
    rw [rd1, rd2] at q2
    by_cases q4 : 65536 ≤ x0 % 8 * 262144 + x1 % 64 * 4096 + x2 % 64 * 64 + x3 % 64 ∧ x0 % 8 * 262144 + x1 % 64 * 4096 + x2 % 64 * 64 + x3 % 64 ≤ 1114111
    · refine ⟨x0 % 8 * 262144 + x1 % 64 * 4096 + x2 % 64 * 64 + x3 % 64, t1, ⟨by omega, by omega, by omega⟩, ?_⟩
      rw [one_of4 (by omega), show 240 + (x0 % 8 * 262144 + x1 % 64 * 4096 + x2 % 64 * 64 + x3 % 64) / 262144 = x0 by omega, show 128 + (x0 % 8 * 262144 + x1 % 64 * 4096 + x2 % 64 * 64 + x3 % 64) / 4096 % 64 = x1 by omega,
        show 128 + (x0 % 8 * 262144 + x1 % 64 * 4096 + x2 % 64 * 64 + x3 % 64) / 64 % 64 = x2 by omega, show 128 + (x0 % 8 * 262144 + x1 % 64 * 4096 + x2 % 64 * 64 + x3 % 64) % 64 = x3 by omega]
      rfl
    · exfalso
      rw [cutZ_cons _ _ x0 x1 x2 x3 rfl rfl rfl rfl rfl] at hc
      unfold cutN at hc
      rw [if_neg c1, if_neg q1, if_neg q2, if_pos q3, if_neg q4] at hc
      exact hc rfl
  exfalso
  rw [cutZ_cons _ _ x0 _ _ _ rfl rfl rfl rfl rfl] at hc
  unfold cutN at hc
  rw [if_neg c1, if_neg q1, if_neg q2, if_neg q3] at hc
  exact hc rfl

/-! ### rows of characters' bytes -/
def allZ (xs : List Int) : List Int := xs.flatMap oneZ
/-- No character begins here. -/
def stuck (rest : List Int) : Prop := rest = [] ∨ (cutZ rest).2 = 0

/-- Any bytes are characters' bytes, up to where none begins. -/
theorem parse : ∀ (n : Nat) (l : List Int), l.length ≤ n → isBytes l → ∃ xs rest, (∀ x ∈ xs, isChar x) ∧ l = allZ xs ++ rest ∧ stuck rest
  | n, [], _, _ => ⟨[], [], by simp, rfl, .inl rfl⟩
  | 0, x :: l, h, _ => by simp at h
  | n + 1, x :: l, h, hb => by
    by_cases hc : (cutZ (x :: l)).2 = 0
    · exact ⟨[], x :: l, by simp, rfl, .inr hc⟩
    · obtain ⟨r, rest, hr, he⟩ := of_cut hb (by simp) hc
      have hlen := one_length r
      have hl2 : (x :: l).length = (oneZ r).length + rest.length := by rw [he, List.length_append]
      obtain ⟨xs, rest2, h1, h2, h3⟩ := parse n rest (by omega) (fun y hy => hb y (by rw [he]; simp [hy]))
      refine ⟨r :: xs, rest2, ?_, ?_, h3⟩
      · intro y hy
        rcases List.mem_cons.1 hy with rfl | hy
        · exact hr
        · exact h1 y hy
      · rw [he, h2]
        simp [allZ]

theorem allZ_bytes {xs : List Int} (h : ∀ x ∈ xs, isChar x) : isBytes (allZ xs) := by
  intro y hy
  obtain ⟨x, hx, hxy⟩ := List.mem_flatMap.1 hy
  exact one_bytes (h x hx) y hxy
theorem allZ_length : ∀ (xs : List Int), xs.length ≤ (allZ xs).length ∧ (allZ xs).length ≤ 4 * xs.length
  | [] => by simp [allZ]
  | x :: xs => by
    have := allZ_length xs
    have := one_length x
    simp only [allZ, List.flatMap_cons, List.length_append, List.length_cons] at *
    omega

/-- What is decoded. -/
def decR (at_ : Nat) (out : List Int) (rest : List Int) : List Int × Int × Int := if rest = [] then (out, 0, 0) else ([], 20, (at_ : Int))

theorem rest_drop (pre rest : List Int) : (pre ++ rest).drop (pre.length : Int).toNat = rest := by simp

/-- Both decoders, from any place on. -/
theorem dec_run (rest : List Int) (hs : stuck rest) : ∀ (xs pre out : List Int) (k : Nat), (∀ x ∈ xs, isChar x) → isBytes (pre ++ (allZ xs ++ rest)) → (pre ++ (allZ xs ++ rest)).length ≤ 1000000 → out.length ≤ pre.length → 2 * xs.length + 20 ≤ k →
    ucd_Decode.l0 k (pre ++ (allZ xs ++ rest)) out (pre.length : Int) = some (decR (pre ++ allZ xs).length (out ++ xs) rest) ∧ calamusref02_Decode.l0 k (pre ++ (allZ xs ++ rest)) out (pre.length : Int) = some (decR (pre ++ allZ xs).length (out ++ xs) rest) := by
  intro xs
  induction xs with
  | nil =>
    intro pre out k _ hb hlen ho hk
    obtain ⟨k, rfl⟩ : ∃ m, k = m + 11 := ⟨k - 11, by omega⟩
    simp only [allZ, List.flatMap_nil, List.nil_append, List.append_nil] at *
    unfold decR
    by_cases hr : rest = []
    · subst hr
      rw [if_pos rfl]
      simp only [ucd_Decode.l0, calamusref02_Decode.l0, List.append_nil]
      rw [if_neg (by omega), if_neg (by omega)]
      exact ⟨rfl, rfl⟩
    · have hc : (cutZ rest).2 = 0 := by
        rcases hs with h | h
        · exact absurd h hr
        · exact h
      have hpos : 0 < rest.length := List.length_pos_iff.2 hr
      have hbr : isBytes rest := fun x hx => hb x (by simp [hx])
      have hl : (pre ++ rest).length = pre.length + rest.length := List.length_append
      rw [if_neg hr]
      simp only [ucd_Decode.l0, calamusref02_Decode.l0]
      rw [if_pos (by omega), if_pos (by omega), if_pos (by omega), if_pos (by omega), if_pos (by omega), if_pos (by omega), rest_drop, decodeRune_eq hbr hr, if_pos hc]
      rw [show k + 10 = (k + 1) + 9 from rfl, cut_eq hbr hr (k + 1)]
      simp only [Option.bind_some]
      rw [if_pos hc]
      simp [ucd_Decode.j1]
  | cons x xs ih =>
    intro pre out k hx hb hlen ho hk
    obtain ⟨k, rfl⟩ : ∃ m, k = m + 11 := ⟨k - 11, by simp only [List.length_cons] at hk; omega⟩
    have hc := hx x (by simp)
    have hx2 : ∀ y ∈ xs, isChar y := fun y hy => hx y (by simp [hy])
    have e1 : allZ (x :: xs) ++ rest = oneZ x ++ (allZ xs ++ rest) := by simp [allZ]
    have e2 : pre ++ (oneZ x ++ (allZ xs ++ rest)) = (pre ++ oneZ x) ++ (allZ xs ++ rest) := by simp
    have e3 : (pre ++ allZ (x :: xs)) = (pre ++ oneZ x) ++ allZ xs := by simp [allZ]
    have hone := one_length x
    rw [e1] at hb hlen ⊢
    have hbr : isBytes (oneZ x ++ (allZ xs ++ rest)) := fun y hy => hb y (List.mem_append_right _ hy)
    have hne : oneZ x ++ (allZ xs ++ rest) ≠ [] := by
      intro e
      have := congrArg List.length e
      rw [List.length_append, List.length_nil] at this
      omega
    have hl : (pre ++ (oneZ x ++ (allZ xs ++ rest))).length = pre.length + (oneZ x).length + (allZ xs ++ rest).length := by simp only [List.length_append]; omega
    have hcz := cut_one hc (allZ xs ++ rest)
    have hn0 : ((oneZ x).length : Int) ≠ 0 := by omega
    have hw : wrap64 ((pre.length : Int) + ((oneZ x).length : Int)) = (((pre ++ oneZ x).length : Nat) : Int) := by
      rw [List.length_append]
      unfold wrap64
      omega
    have hih := fun k' (hk' : 2 * xs.length + 20 ≤ k') => ih (pre ++ oneZ x) (out ++ [x]) k' hx2 (by rw [← e2]; exact hb) (by rw [← e2]; exact hlen) (by simp only [List.length_append, List.length_cons, List.length_nil]; omega) hk'
    simp only [List.length_cons] at hk
    have h9 := (hih (k + 9) (by omega)).1
    have h10 := (hih (k + 10) (by omega)).2
    rw [← e2, List.append_assoc out, List.singleton_append] at h9 h10
    have hol : out.length ≤ 1000000 := by omega
    have hou : ((out ++ [x]).length : Int) = out.length + 1 := by simp
    rw [e3]
    constructor
    · simp only [ucd_Decode.l0]
      rw [if_pos (by omega), if_pos (by omega), if_pos (by omega), rest_drop, decodeRune_eq hbr hne, hcz, if_neg hn0]
      simp only [Option.bind_some]
      have hj : ucd_Decode.j1 (k + 10) (pre ++ (oneZ x ++ (allZ xs ++ rest))) out (pre.length : Int) x ((oneZ x).length : Int) false = some (decR (pre ++ oneZ x ++ allZ xs).length (out ++ x :: xs) rest) := by
        simp only [ucd_Decode.j1]
        rw [if_neg (by decide), if_pos (by omega)]
        simp only [Option.bind_some]
        rw [if_neg (by omega), hw]
        exact h9
      by_cases h5 : x = 65533
      · rw [if_pos h5]
        have : (((oneZ x).length : Int) == 1) = false := by
          rw [h5]
          rfl
        rw [this]
        exact hj
      · rw [if_neg h5]
        exact hj
    · simp only [calamusref02_Decode.l0]
      rw [if_pos (by omega), if_pos (by omega), if_pos (by omega), rest_drop, show k + 10 = (k + 1) + 9 from rfl, cut_eq hbr hne (k + 1), hcz]
      simp only [Option.bind_some]
      rw [if_neg hn0, if_pos (by omega), if_neg (by omega), hw]
      exact h10

/-- Both decoders, of any bytes. -/
theorem dec_all {l : List Int} (hb : isBytes l) (hlen : l.length ≤ 1000000) {k : Nat} (hk : 2 * l.length + 20 ≤ k) : ∃ xs rest, (∀ x ∈ xs, isChar x) ∧ l = allZ xs ++ rest ∧ stuck rest ∧
    ucd_Decode.f k l = some (decR (allZ xs).length xs rest) ∧ calamusref02_Decode.f k l = some (decR (allZ xs).length xs rest) := by
  obtain ⟨xs, rest, h1, h2, h3⟩ := parse l.length l (Nat.le_refl _) hb
  have hx := allZ_length xs
  have hl : l.length = (allZ xs).length + rest.length := by rw [h2, List.length_append]
  have := dec_run rest h3 xs [] [] k h1 (by rw [List.nil_append, ← h2]; exact hb) (by rw [List.nil_append, ← h2]; exact hlen) (Nat.le_refl _) (by omega)
  simp only [List.nil_append, ← h2] at this
  exact ⟨xs, rest, h1, h2, h3, this.1, this.2⟩

theorem bytes_of_wf {l : List Int} (h : ∀ x ∈ l, (Lit.int .u8 x).wf = true) : isBytes l := fun x hx => by
  have := h x hx
  simp [Lit.wf] at this
  exact this

theorem calamuslaw02_UcdDecodes.pure : calamuslaw02_UcdDecodes.Pure := by
  intro l hl hw
  obtain ⟨xs, rest, _, _, _, h1, h2⟩ := dec_all (bytes_of_wf hw) (by omega) (Nat.le_refl _)
  exact ⟨_, _, _, _, h1, h2⟩
end Go.Proofs.YtfnkpjkbgfgbkaaDoor.Pr
