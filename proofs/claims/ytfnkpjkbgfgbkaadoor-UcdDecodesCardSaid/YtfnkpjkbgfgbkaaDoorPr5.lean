-- Written for this claim by a program of this session over the translation. Lean checks it.
import Derived.Test.YtfnkpjkbgfgbkaaDoorPr0
namespace Go.Proofs.YtfnkpjkbgfgbkaaDoor.Pr
open Go.RowKit Go.Proofs.YtfnkpjkbgfgbkaaDoorW.PrintWords Go.Proofs.YtfnkpjkbgfgbkaaDoorW.PrintLast Go.Proofs.YtfnkpjkbgfgbkaaDoorW.PrintMore
attribute [local go_sem] max2_int min2_int max_two min_two max_three min_three max_four min_four   -- for this text's walks alone
set_option linter.unusedVariables false
set_option linter.unusedSimpArgs false

/-! ### ucd_syllable: function 59 -/
def ucd_syllable.f (a0 : Int) : Option (Bool × Bool) := if a0 ≥ 44032 then (some (decide (a0 ≤ 55203), ((Int.tmod (wrap32 (a0 - 44032)) 28) == 0))) else (some (false, ((Int.tmod (wrap32 (a0 - 44032)) 28) == 0)))
set_option maxHeartbeats 8000000 in
set_option maxRecDepth 100000 in
theorem ucd_syllable.calls (a0 : Int) (r1 : Bool) (r2 : Bool) (w : World) (h : ucd_syllable.f a0 = some (r1, r2)) :
    Calls Tryd.prog 59 #[.int .i32 a0] w fun e w' => e = .returned (.tuple #[.bool r1, .bool r2]) ∧ Drawn0 w w' := by
  have H : (if a0 ≥ 44032 then (some (decide (a0 ≤ 55203), ((Int.tmod (wrap32 (a0 - 44032)) 28) == 0))) else (some (false, ((Int.tmod (wrap32 (a0 - 44032)) 28) == 0)))) = some (r1, r2) := h
  clear h
  by_cases c2 : a0 ≥ 44032
  · rw [if_pos c2] at H
    have c2b0 : decide (44032 ≤ a0) = true := decide_eq_true c2
    clear c2
    simp only [Option.some.injEq, Prod.mk.injEq] at H
    obtain ⟨rfl, rfl⟩ := H
    go_enter Tryd.func59, Tryd.ntmps59
    go_wp2
    go_ret2
    exact ⟨by first | rfl | (simp; done) | (simp [*]; done), by repeat (first | exact Drawn0.refl _ | apply Drawn0.step)⟩
  · rw [if_neg c2] at H
    have c2b0 : decide (44032 ≤ a0) = false := decide_eq_false c2
    clear c2
    simp only [Option.some.injEq, Prod.mk.injEq] at H
    obtain ⟨rfl, rfl⟩ := H
    go_enter Tryd.func59, Tryd.ntmps59
    go_wp2
    go_ret2
    exact ⟨by first | rfl | (simp; done) | (simp [*]; done), by repeat (first | exact Drawn0.refl _ | apply Drawn0.step)⟩

end Go.Proofs.YtfnkpjkbgfgbkaaDoor.Pr
