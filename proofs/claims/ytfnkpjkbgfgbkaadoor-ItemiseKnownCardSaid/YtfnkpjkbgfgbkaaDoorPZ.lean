/-
  The plain law of ItemiseKnown.
-/
import Derived.Test.YtfnkpjkbgfgbkaaDoorPY
import Derived.Test.YtfnkpjkbgfgbkaaDoorKA
namespace Go.Proofs.YtfnkpjkbgfgbkaaDoor.Pr
open Go.RowKit HK Go.Proofs.YtfnkpjkbgfgbkaaDoorW.PrintWords Go.Proofs.YtfnkpjkbgfgbkaaDoorW.PrintLast Go.Proofs.YtfnkpjkbgfgbkaaDoorW.PrintMore
set_option linter.unusedVariables false
set_option linter.unusedSimpArgs false

theorem kn_j4 : Ev (fun k => calamuslaw14_ItemiseKnown.j4 k true true) true := by
  refine ⟨1, fun k hk => ?_⟩
  obtain ⟨k, rfl⟩ : ∃ m, k = m + 1 := ⟨k - 1, by omega⟩
  have e1 : itemise_Runs.f (List.replicate 65537 0) (List.replicate 65537 0) = some ([], 3) := by
    unfold itemise_Runs.f
    rw [if_pos (by rw [List.length_replicate]; omega)]
  have e2 : itemise_Runs.f (List.replicate 2 0) ([] : List Int) = some ([], 2) := by
    unfold itemise_Runs.f
    rw [if_neg (by rw [List.length_replicate]; omega), if_neg (by rw [List.length_replicate]; simp)]
  have e3 : itemise_Runs.f (List.replicate 65536 0) (List.replicate 65536 0) = some (runsP (List.replicate 65536 0) (scriptsP (List.replicate 65536 0) (prts (List.replicate 65536 0) 0 0)) (prts (List.replicate 65536 0) 0 0), 0) := by
    unfold itemise_Runs.f
    rw [if_neg (by rw [List.length_replicate]; omega), if_pos (by rw [List.length_replicate])]
  simp only [calamuslaw14_ItemiseKnown.j4]
  rw [if_pos (by decide), if_pos (by decide), e1, Option.bind_some, if_pos (by decide), e2, Option.bind_some, if_pos (by decide), if_pos (by decide), e3, Option.bind_some]
  simp only
  rw [if_pos trivial, if_pos trivial, if_pos trivial, if_pos trivial, if_pos trivial, works14]
  rfl

theorem kn_l2 (l : List Int) (h0 : 0 < l.length) (hl : l.length ≤ 1000000) : ∀ d i (m : List Int), i + d = l.length → m.length = i → Ev (fun k => calamuslaw14_ItemiseKnown.l2 k true l m (i : Int)) true := by
  intro d
  induction d with
  | zero =>
    intro i m hi hm
    obtain ⟨k0, hk0⟩ := sc_ev l
    obtain ⟨k1, hk1⟩ := ru_ev l m
    obtain ⟨k2, hk2⟩ := ti_ev l m
    obtain ⟨k3, hk3⟩ := ru_ev l (m.drop 1)
    obtain ⟨k4, hk4⟩ := ru_ev [] []
    obtain ⟨k5, hk5⟩ := kn_j4
    refine ⟨k0 + k1 + k2 + k3 + k4 + k5 + 1, fun k hk => ?_⟩
    obtain ⟨k, rfl⟩ : ∃ m, k = m + 1 := ⟨k - 1, by omega⟩
    have g0 := hk0 k (by omega)
    have g1 := hk1 k (by omega)
    have g2 := hk2 k (by omega)
    have g3 := hk3 k (by omega)
    have g4 := hk4 k (by omega)
    have g5 := hk5 k (by omega)
    simp only at g0 g1 g2 g3 g4 g5
    simp only [calamuslaw14_ItemiseKnown.l2]
    rw [if_neg (by omega), g0, Option.bind_some, if_pos rfl, g1, Option.bind_some, if_pos rfl, g2, Option.bind_some, if_pos rfl, if_pos (by omega), g3, Option.bind_some, if_pos rfl, g4, Option.bind_some]
    exact g5
  | succ d ih =>
    intro i m hi hm
    obtain ⟨k0, hk0⟩ := ih (i + 1) (m ++ [(Int.tmod (wrap64 (Int.tdiv (i : Int) 3)) 2) % 256]) (by omega) (by rw [List.length_append, List.length_singleton]; omega)
    refine ⟨k0 + 1, fun k hk => ?_⟩
    obtain ⟨k, rfl⟩ : ∃ m, k = m + 1 := ⟨k - 1, by omega⟩
    have g0 := hk0 k (by omega)
    simp only [calamuslaw14_ItemiseKnown.l2]
    rw [if_pos (by omega), if_pos (by omega), wrap64_nat i (by omega)]
    exact g0
theorem kn_l1 : ∀ d i (l : List Int), i + d = 70 → 0 < l.length → l.length ≤ 1000 + 2 * i → Ev (fun k => calamuslaw14_ItemiseKnown.l1 k true l (i : Int)) true := by
  intro d
  induction d with
  | zero =>
    intro i l hi h0 hl
    obtain ⟨k0, hk0⟩ := kn_l2 l h0 (by omega) l.length 0 [] (by omega) rfl
    refine ⟨k0 + 1, fun k hk => ?_⟩
    obtain ⟨k, rfl⟩ : ∃ m, k = m + 1 := ⟨k - 1, by omega⟩
    have g0 := hk0 k (by omega)
    simp only [calamuslaw14_ItemiseKnown.l1]
    rw [if_neg (by omega)]
    exact g0
  | succ d ih =>
    intro i l hi h0 hl
    obtain ⟨k0, hk0⟩ := ih (i + 1) (l ++ [41, 49]) (by omega) (by simp) (by simp; omega)
    refine ⟨k0 + 1, fun k hk => ?_⟩
    obtain ⟨k, rfl⟩ : ∃ m, k = m + 1 := ⟨k - 1, by omega⟩
    have g0 := hk0 k (by omega)
    simp only [calamuslaw14_ItemiseKnown.l1]
    rw [if_pos (by omega), Option.bind_some, if_pos (by simp; omega), wrap64_nat i (by omega)]
    exact g0
theorem kn_l0 : ∀ d i (l : List Int), i + d = 70 → l.length ≤ 2 * i → Ev (fun k => calamuslaw14_ItemiseKnown.l0 k true l (i : Int)) true := by
  intro d
  induction d with
  | zero =>
    intro i l hi hl
    obtain ⟨k0, hk0⟩ := kn_l1 70 0 (l ++ [1488]) (by omega) (by simp) (by simp; omega)
    refine ⟨k0 + 1, fun k hk => ?_⟩
    obtain ⟨k, rfl⟩ : ∃ m, k = m + 1 := ⟨k - 1, by omega⟩
    have g0 := hk0 k (by omega)
    simp only [calamuslaw14_ItemiseKnown.l0]
    rw [if_neg (by omega), if_pos (by omega)]
    exact g0
  | succ d ih =>
    intro i l hi hl
    obtain ⟨k0, hk0⟩ := ih (i + 1) (l ++ [40, 97]) (by omega) (by simp; omega)
    refine ⟨k0 + 1, fun k hk => ?_⟩
    obtain ⟨k, rfl⟩ : ∃ m, k = m + 1 := ⟨k - 1, by omega⟩
    have g0 := hk0 k (by omega)
    simp only [calamuslaw14_ItemiseKnown.l0]
    rw [if_pos (by omega), Option.bind_some, if_pos (by simp; omega), wrap64_nat i (by omega)]
    exact g0
theorem kn_j0 : Ev (fun k => calamuslaw14_ItemiseKnown.j0 k true) true := by
  obtain ⟨k0, hk0⟩ := kn_l0 70 0 [] (by omega) (by simp)
  refine ⟨k0 + 1, fun k hk => ?_⟩
  obtain ⟨k, rfl⟩ : ∃ m, k = m + 1 := ⟨k - 1, by omega⟩
  exact hk0 k (by omega)
set_option maxRecDepth 100000 in
theorem calamuslaw14_ItemiseKnown.pure : calamuslaw14_ItemiseKnown.Pure := by
  obtain ⟨k0, h0⟩ := ss_ev (⟨#[97, 32, 215, 144, 33, 216, 168]⟩ : ByteArray) (⟨#[50, 50, 51, 51, 52]⟩ : ByteArray) (by kernel_rfl)
  obtain ⟨k1, h1⟩ := ss_ev (⟨#[49, 97, 40, 215, 144, 41, 204, 129]⟩ : ByteArray) (⟨#[50, 50, 50, 51, 50, 50]⟩ : ByteArray) (by kernel_rfl)
  obtain ⟨k2, h2⟩ := ss_ev (⟨#[33, 63]⟩ : ByteArray) (⟨#[48, 48]⟩ : ByteArray) (by kernel_rfl)
  obtain ⟨k3, h3⟩ := ss_ev (⟨#[97, 226, 128, 169, 33, 215, 144]⟩ : ByteArray) (⟨#[50, 50, 51, 51]⟩ : ByteArray) (by kernel_rfl)
  obtain ⟨k4, h4⟩ := ss_ev (⟨#[40, 215, 144, 41, 33, 97]⟩ : ByteArray) (⟨#[51, 51, 51, 51, 50]⟩ : ByteArray) (by kernel_rfl)
  obtain ⟨k5, h5⟩ := ss_ev (⟨#[97, 40, 215, 144, 91, 98, 41, 93, 33]⟩ : ByteArray) (⟨#[50, 50, 51, 51, 50, 50, 50, 50]⟩ : ByteArray) (by kernel_rfl)
  obtain ⟨k6, h6⟩ := ss_ev (⟨#[]⟩ : ByteArray) (⟨#[]⟩ : ByteArray) (by kernel_rfl)
  obtain ⟨k7, h7⟩ := ss_ev (⟨#[41, 97]⟩ : ByteArray) (⟨#[50, 50]⟩ : ByteArray) (by kernel_rfl)
  obtain ⟨k8, h8⟩ := ss_ev (⟨#[204, 129, 215, 144]⟩ : ByteArray) (⟨#[51, 51]⟩ : ByteArray) (by kernel_rfl)
  obtain ⟨kz, hz⟩ := kn_j0
  refine ⟨k0 + k1 + k2 + k3 + k4 + k5 + k6 + k7 + k8 + kz, ?_⟩
  have g0 := h0 (k0 + k1 + k2 + k3 + k4 + k5 + k6 + k7 + k8 + kz) (by omega)
  have g1 := h1 (k0 + k1 + k2 + k3 + k4 + k5 + k6 + k7 + k8 + kz) (by omega)
  have g2 := h2 (k0 + k1 + k2 + k3 + k4 + k5 + k6 + k7 + k8 + kz) (by omega)
  have g3 := h3 (k0 + k1 + k2 + k3 + k4 + k5 + k6 + k7 + k8 + kz) (by omega)
  have g4 := h4 (k0 + k1 + k2 + k3 + k4 + k5 + k6 + k7 + k8 + kz) (by omega)
  have g5 := h5 (k0 + k1 + k2 + k3 + k4 + k5 + k6 + k7 + k8 + kz) (by omega)
  have g6 := h6 (k0 + k1 + k2 + k3 + k4 + k5 + k6 + k7 + k8 + kz) (by omega)
  have g7 := h7 (k0 + k1 + k2 + k3 + k4 + k5 + k6 + k7 + k8 + kz) (by omega)
  have g8 := h8 (k0 + k1 + k2 + k3 + k4 + k5 + k6 + k7 + k8 + kz) (by omega)
  have gz := hz (k0 + k1 + k2 + k3 + k4 + k5 + k6 + k7 + k8 + kz) (by omega)
  generalize k0 + k1 + k2 + k3 + k4 + k5 + k6 + k7 + k8 + kz = k at *
  simp only at g0 g1 g2 g3 g4 g5 g6 g7 g8 gz
  unfold calamuslaw14_ItemiseKnown.f
  rw [g0, Option.bind_some, if_pos rfl, g1, Option.bind_some, if_pos rfl, g2, Option.bind_some, if_pos rfl, g3, Option.bind_some, if_pos rfl, g4, Option.bind_some, if_pos rfl, g5, Option.bind_some, if_pos rfl, g6, Option.bind_some, if_pos rfl, g7, Option.bind_some, if_pos rfl, g8, Option.bind_some]
  exact gz
end Go.Proofs.YtfnkpjkbgfgbkaaDoor.Pr
