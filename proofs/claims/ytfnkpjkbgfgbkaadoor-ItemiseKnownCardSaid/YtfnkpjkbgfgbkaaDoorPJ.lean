/-
  The plain law of ItemiseScripts.
-/
import Derived.Test.YtfnkpjkbgfgbkaaDoorPI
import Derived.Test.YtfnkpjkbgfgbkaaDoorPr17
namespace Go.Proofs.YtfnkpjkbgfgbkaaDoor.Pr
open Go.RowKit HK Go.Proofs.YtfnkpjkbgfgbkaaDoorW.PrintWords Go.Proofs.YtfnkpjkbgfgbkaaDoorW.PrintLast Go.Proofs.YtfnkpjkbgfgbkaaDoorW.PrintMore
set_option linter.unusedVariables false
set_option linter.unusedSimpArgs false

theorem sc_l1 (x0 x3 x4 : List Int) (x5 : Int) (r : Bool) (h : Ev (fun k => calamuslaw14_ItemiseScripts.l0 k x0 x3 x4 (wrap64 (x5 + 1))) r) : ∀ (d i : Nat) (x6 : List Int), i + d = x6.length → x6.length ≤ 65536 → Ev (fun k => calamuslaw14_ItemiseScripts.l1 k x0 x3 x4 x5 x6 (i : Int)) r := by
  intro d
  induction d with
  | zero =>
    intro i x6 hi hn
    obtain ⟨k0, hk0⟩ := h
    refine ⟨k0 + 1, fun k hk => ?_⟩
    obtain ⟨k, rfl⟩ : ∃ m, k = m + 1 := ⟨k - 1, by omega⟩
    simp only [calamuslaw14_ItemiseScripts.l1]
    rw [if_neg (by omega)]
    exact hk0 k (by omega)
  | succ d ih =>
    intro i x6 hi hn
    obtain ⟨k0, hk0⟩ := ih (i + 1) (x6.set i 9) (by rw [List.length_set]; omega) (by rw [List.length_set]; omega)
    refine ⟨k0 + 1, fun k hk => ?_⟩
    obtain ⟨k, rfl⟩ : ∃ m, k = m + 1 := ⟨k - 1, by omega⟩
    simp only [calamuslaw14_ItemiseScripts.l1]
    rw [if_pos (by omega), if_pos (by omega), Int.toNat_natCast, wrap64_nat i (by omega)]
    exact hk0 k (by omega)

theorem calamuslaw14_ItemiseScripts.pure' (l0 : List Int) : ∃ k, calamuslaw14_ItemiseScripts.f k l0 = some true := by
  by_cases hn : (l0.length : Int) > 300
  · refine ⟨0, ?_⟩
    unfold calamuslaw14_ItemiseScripts.f
    rw [if_pos hn, works14]
    rfl
  · have hsl := scripts_length l0
    have h2 : Ev (fun k => calamuslaw14_ItemiseScripts.l0 k l0 l0 (scriptsP l0 (prts l0 0 0)) 2) true := by
      refine ⟨1, fun k hk => ?_⟩
      obtain ⟨k, rfl⟩ : ∃ m, k = m + 1 := ⟨k - 1, by omega⟩
      simp only [calamuslaw14_ItemiseScripts.l0]
      rw [if_neg (by decide), if_pos trivial, works14]
      rfl
    have hstep : ∀ x5 y : Int, x5 < 2 → wrap64 (x5 + 1) = y → Ev (fun k => calamuslaw14_ItemiseScripts.l0 k l0 l0 (scriptsP l0 (prts l0 0 0)) y) true → Ev (fun k => calamuslaw14_ItemiseScripts.l0 k l0 l0 (scriptsP l0 (prts l0 0 0)) x5) true := by
      intro x5 y h5 hy h
      subst hy
      obtain ⟨k0, hk0⟩ := sc_l1 l0 l0 (scriptsP l0 (prts l0 0 0)) x5 true h (scriptsP l0 (prts l0 0 0)).length 0 (scriptsP l0 (prts l0 0 0)) (by omega) (by omega)
      refine ⟨k0 + 1, fun k hk => ?_⟩
      obtain ⟨k, rfl⟩ : ∃ m, k = m + 1 := ⟨k - 1, by omega⟩
      have e : itemise_Scripts.f l0 = some (scriptsP l0 (prts l0 0 0)) := by unfold itemise_Scripts.f; rw [if_pos (by omega)]
      simp only [calamuslaw14_ItemiseScripts.l0]
      rw [if_pos h5, e, Option.bind_some, if_pos rfl]
      exact hk0 k (by omega)
    have h0 := hstep 0 1 (by decide) (wrap64_nat 0 (by decide)) (hstep 1 2 (by decide) (wrap64_nat 1 (by decide)) h2)
    obtain ⟨k0, hk0⟩ := h0
    obtain ⟨k1, hk1⟩ := ref_Scripts_ev l0 (by omega)
    refine ⟨k0 + k1, ?_⟩
    have hk2 : calamusref14_Scripts.f (k0 + k1) l0 = some (scriptsP l0 (prts l0 0 0)) := hk1 _ (by omega)
    unfold calamuslaw14_ItemiseScripts.f
    rw [if_neg hn, if_pos (by simp only [List.length_nil]; omega), hk2, Option.bind_some, List.nil_append]
    exact hk0 _ (by omega)
theorem calamuslaw14_ItemiseScripts.pure : calamuslaw14_ItemiseScripts.Pure := fun l0 _ _ _ => calamuslaw14_ItemiseScripts.pure' l0
end Go.Proofs.YtfnkpjkbgfgbkaaDoor.Pr
