-- Written for this claim by a program of this session over the translation. Lean checks it.
import Derived.Test.YtfnkpjkbgfgbkaaDoorPV
import Derived.Test.YtfnkpjkbgfgbkaaDoorPr14
import Derived.Test.YtfnkpjkbgfgbkaaDoorPr2
import Derived.Test.YtfnkpjkbgfgbkaaDoorH7
import Derived.Test.YtfnkpjkbgfgbkaaDoorHZ
namespace Go.Proofs.YtfnkpjkbgfgbkaaDoor.Pr
open Go.RowKit Go.Proofs.YtfnkpjkbgfgbkaaDoorW.PrintWords Go.Proofs.YtfnkpjkbgfgbkaaDoorW.PrintLast Go.Proofs.YtfnkpjkbgfgbkaaDoorW.PrintMore
attribute [local go_sem] max2_int min2_int max_two min_two max_three min_three max_four min_four   -- for this text's walks alone
set_option linter.unusedVariables false
set_option linter.unusedSimpArgs false

/-! ### calamuslaw14_ItemiseTiles: function 5 -/
mutual
def calamuslaw14_ItemiseTiles.j1 : Nat → List Int → List Int → Option (Bool)
  | 0, _, _ => none
  | k + 1, x0, x5 => (itemise_Runs.f x0 x5).bind fun bt133 => ((itemise_Scripts.f x0).bind fun t137 => (if bt133.2 = 0 then (calamuslaw14_ItemiseTiles.j2 k x0 x5 bt133.1 t137 ((t137.length : Int) != (x0.length : Int))) else (calamuslaw14_ItemiseTiles.j2 k x0 x5 bt133.1 t137 true)))
def calamuslaw14_ItemiseTiles.j2 : Nat → List Int → List Int → List (S35) → List Int → Bool → Option (Bool)
  | 0, _, _, _, _, _ => none
  | k + 1, x0, x5, x7, x9, x56 => if x56 = true then (some false) else (calamuslaw14_ItemiseTiles.l1 k x0 x5 x7 x9 0 0)
def calamuslaw14_ItemiseTiles.l1 : Nat → List Int → List Int → List (S35) → List Int → Int → Int → Option (Bool)
  | 0, _, _, _, _, _, _ => none
  | k + 1, x0, x5, x7, x9, x10, x11 => if x11 < (x7.length : Int) then (if 0 ≤ x11 then (if ((rd_T35 x7 x11).f0) = x10 then (if ((rd_T35 x7 x11).f1) ≤ x10 then (calamuslaw14_ItemiseTiles.j4 k x0 x5 x7 x9 x10 x11 true) else (calamuslaw14_ItemiseTiles.j4 k x0 x5 x7 x9 x10 x11 (decide (((rd_T35 x7 x11).f1) > (x0.length : Int))))) else (calamuslaw14_ItemiseTiles.j4 k x0 x5 x7 x9 x10 x11 true)) else (none)) else (if x10 = (x0.length : Int) then ((calamuslaw14_works.f).bind fun t140 => (some t140)) else (some false))
def calamuslaw14_ItemiseTiles.j4 : Nat → List Int → List Int → List (S35) → List Int → Int → Int → Bool → Option (Bool)
  | 0, _, _, _, _, _, _, _ => none
  | k + 1, x0, x5, x7, x9, x10, x11, x88 => if x88 = true then (some false) else (calamuslaw14_ItemiseTiles.l2 k x0 x5 x7 x9 x11 x10)
def calamuslaw14_ItemiseTiles.l2 : Nat → List Int → List Int → List (S35) → List Int → Int → Int → Option (Bool)
  | 0, _, _, _, _, _, _ => none
  | k + 1, x0, x5, x7, x9, x11, x12 => if 0 ≤ x11 then (if x11 < (x7.length : Int) then (if x12 < ((rd_T35 x7 x11).f1) then (if 0 ≤ x12 then (if x12 < (x0.length : Int) then ((calamusref02_Script.f k (rd x0 x12)).bind fun t154 => (if x12 < (x5.length : Int) then (if (rd x5 x12) = ((rd_T35 x7 x11).f2) then (if x12 < (x9.length : Int) then (if (rd x9 x12) = ((rd_T35 x7 x11).f3) then (if t154 > 1 then (if t154 = (rd x9 x12) then ((calamusref02_Class.f k (rd x0 x12)).bind fun t161 => (if t161 = 11 then (calamuslaw14_ItemiseTiles.j6 k x0 x5 x7 x9 x11 x12 t154 (x12 != (wrap64 (((rd_T35 x7 x11).f1) - 1)))) else (calamuslaw14_ItemiseTiles.j6 k x0 x5 x7 x9 x11 x12 t154 false))) else (calamuslaw14_ItemiseTiles.j6 k x0 x5 x7 x9 x11 x12 t154 true)) else ((calamusref02_Class.f k (rd x0 x12)).bind fun t164 => (if t164 = 11 then (calamuslaw14_ItemiseTiles.j6 k x0 x5 x7 x9 x11 x12 t154 (x12 != (wrap64 (((rd_T35 x7 x11).f1) - 1)))) else (calamuslaw14_ItemiseTiles.j6 k x0 x5 x7 x9 x11 x12 t154 false)))) else (calamuslaw14_ItemiseTiles.j6 k x0 x5 x7 x9 x11 x12 t154 true)) else (none)) else (calamuslaw14_ItemiseTiles.j6 k x0 x5 x7 x9 x11 x12 t154 true)) else (none))) else (none)) else (none)) else (if x11 > 0 then (if 0 ≤ (wrap64 (x11 - 1)) then (if (wrap64 (x11 - 1)) < (x7.length : Int) then (if ((rd_T35 x7 (wrap64 (x11 - 1))).f2) = ((rd_T35 x7 x11).f2) then (if ((rd_T35 x7 (wrap64 (x11 - 1))).f3) = ((rd_T35 x7 x11).f3) then (if 0 ≤ (wrap64 (((rd_T35 x7 x11).f0) - 1)) then (if (wrap64 (((rd_T35 x7 x11).f0) - 1)) < (x0.length : Int) then ((calamusref02_Class.f k (rd x0 (wrap64 (((rd_T35 x7 x11).f0) - 1)))).bind fun t152 => (if t152 = 11 then (calamuslaw14_ItemiseTiles.l1 k x0 x5 x7 x9 ((rd_T35 x7 x11).f1) (wrap64 (x11 + 1))) else (some false))) else (none)) else (none)) else (calamuslaw14_ItemiseTiles.l1 k x0 x5 x7 x9 ((rd_T35 x7 x11).f1) (wrap64 (x11 + 1)))) else (calamuslaw14_ItemiseTiles.l1 k x0 x5 x7 x9 ((rd_T35 x7 x11).f1) (wrap64 (x11 + 1)))) else (none)) else (none)) else (calamuslaw14_ItemiseTiles.l1 k x0 x5 x7 x9 ((rd_T35 x7 x11).f1) (wrap64 (x11 + 1))))) else (none)) else (none)
def calamuslaw14_ItemiseTiles.j6 : Nat → List Int → List Int → List (S35) → List Int → Int → Int → Int → Bool → Option (Bool)
  | 0, _, _, _, _, _, _, _, _ => none
  | k + 1, x0, x5, x7, x9, x11, x12, x13, x155 => if x155 = true then (some false) else (if x13 = 1 then (if x12 > 0 then (if 0 ≤ (wrap64 (x12 - 1)) then (if (wrap64 (x12 - 1)) < (x0.length : Int) then ((calamusref02_Class.f k (rd x0 (wrap64 (x12 - 1)))).bind fun t167 => (if t167 = 11 then (calamuslaw14_ItemiseTiles.l2 k x0 x5 x7 x9 x11 (wrap64 (x12 + 1))) else (if 0 ≤ x12 then (if x12 < (x9.length : Int) then (if (wrap64 (x12 - 1)) < (x9.length : Int) then (if (rd x9 x12) = (rd x9 (wrap64 (x12 - 1))) then (calamuslaw14_ItemiseTiles.l2 k x0 x5 x7 x9 x11 (wrap64 (x12 + 1))) else (some false)) else (none)) else (none)) else (none)))) else (none)) else (none)) else (calamuslaw14_ItemiseTiles.l2 k x0 x5 x7 x9 x11 (wrap64 (x12 + 1)))) else (calamuslaw14_ItemiseTiles.l2 k x0 x5 x7 x9 x11 (wrap64 (x12 + 1))))
def calamuslaw14_ItemiseTiles.l0 : Nat → List Int → List Int → List Int → Int → Option (Bool)
  | 0, _, _, _, _ => none
  | k + 1, x0, x1, x5, x6 => if x6 < (x0.length : Int) then (if x6 < (x1.length : Int) then (if 0 ≤ x6 then (if x6 < (x5.length : Int) then (calamuslaw14_ItemiseTiles.l0 k x0 x1 (x5.set (x6 : Int).toNat (rd x1 x6)) (wrap64 (x6 + 1))) else (none)) else (none)) else (calamuslaw14_ItemiseTiles.j1 k x0 x5)) else (calamuslaw14_ItemiseTiles.j1 k x0 x5)
end
def calamuslaw14_ItemiseTiles.f (k : Nat) (l0 : List Int) (l1 : List Int) : Option (Bool) := if (l0.length : Int) > 300 then ((calamuslaw14_works.f).bind fun t127 => (some t127)) else (if 0 ≤ (l0.length : Int) then (if ((l0.length : Int) : Int).toNat ≤ 281474976710656 then (calamuslaw14_ItemiseTiles.l0 k l0 l1 (List.replicate ((l0.length : Int) : Int).toNat 0) 0) else (none)) else (none))
theorem calamuslaw14_ItemiseTiles.mono_l : ∀ k, (∀ y0 y1, LeO (calamuslaw14_ItemiseTiles.j1 k y0 y1) (calamuslaw14_ItemiseTiles.j1 (k + 1) y0 y1)) ∧ (∀ y0 y1 y2 y3 y4, LeO (calamuslaw14_ItemiseTiles.j2 k y0 y1 y2 y3 y4) (calamuslaw14_ItemiseTiles.j2 (k + 1) y0 y1 y2 y3 y4)) ∧ (∀ y0 y1 y2 y3 y4 y5, LeO (calamuslaw14_ItemiseTiles.l1 k y0 y1 y2 y3 y4 y5) (calamuslaw14_ItemiseTiles.l1 (k + 1) y0 y1 y2 y3 y4 y5)) ∧ (∀ y0 y1 y2 y3 y4 y5 y6, LeO (calamuslaw14_ItemiseTiles.j4 k y0 y1 y2 y3 y4 y5 y6) (calamuslaw14_ItemiseTiles.j4 (k + 1) y0 y1 y2 y3 y4 y5 y6)) ∧ (∀ y0 y1 y2 y3 y4 y5, LeO (calamuslaw14_ItemiseTiles.l2 k y0 y1 y2 y3 y4 y5) (calamuslaw14_ItemiseTiles.l2 (k + 1) y0 y1 y2 y3 y4 y5)) ∧ (∀ y0 y1 y2 y3 y4 y5 y6 y7, LeO (calamuslaw14_ItemiseTiles.j6 k y0 y1 y2 y3 y4 y5 y6 y7) (calamuslaw14_ItemiseTiles.j6 (k + 1) y0 y1 y2 y3 y4 y5 y6 y7)) ∧ (∀ y0 y1 y2 y3, LeO (calamuslaw14_ItemiseTiles.l0 k y0 y1 y2 y3) (calamuslaw14_ItemiseTiles.l0 (k + 1) y0 y1 y2 y3))
  | 0 => ⟨fun _ _ r h => by simp [calamuslaw14_ItemiseTiles.j1] at h, fun _ _ _ _ _ r h => by simp [calamuslaw14_ItemiseTiles.j2] at h, fun _ _ _ _ _ _ r h => by simp [calamuslaw14_ItemiseTiles.l1] at h, fun _ _ _ _ _ _ _ r h => by simp [calamuslaw14_ItemiseTiles.j4] at h, fun _ _ _ _ _ _ r h => by simp [calamuslaw14_ItemiseTiles.l2] at h, fun _ _ _ _ _ _ _ _ r h => by simp [calamuslaw14_ItemiseTiles.j6] at h, fun _ _ _ _ r h => by simp [calamuslaw14_ItemiseTiles.l0] at h⟩
  | k + 1 => by
    obtain ⟨ih0, ih1, ih2, ih3, ih4, ih5, ih6⟩ := calamuslaw14_ItemiseTiles.mono_l k
    refine ⟨?_, ?_, ?_, ?_, ?_, ?_, ?_⟩
    · intro y0 y1
      unfold calamuslaw14_ItemiseTiles.j1
      repeat' first
      | (with_reducible exact ih0 _ _)
      | (with_reducible exact ih1 _ _ _ _ _)
      | (with_reducible exact ih2 _ _ _ _ _ _)
      | (with_reducible exact ih3 _ _ _ _ _ _ _)
      | (with_reducible exact ih4 _ _ _ _ _ _)
      | (with_reducible exact ih5 _ _ _ _ _ _ _ _)
      | (with_reducible exact ih6 _ _ _ _)
      | (with_reducible exact calamusref02_Class.mono _ _)
      | (with_reducible exact calamusref02_Script.mono _ _)
      | (with_reducible exact LeO.refl _)
      | (with_reducible exact LeO.none _)
      | (with_reducible refine LeO.ite ?_ ?_)
      | (with_reducible refine LeO.bind ?_ (fun _ => ?_))
      | exact ih0 _ _
      | exact ih1 _ _ _ _ _
      | exact ih2 _ _ _ _ _ _
      | exact ih3 _ _ _ _ _ _ _
      | exact ih4 _ _ _ _ _ _
      | exact ih5 _ _ _ _ _ _ _ _
      | exact ih6 _ _ _ _
      | exact calamusref02_Class.mono _ _
      | exact calamusref02_Script.mono _ _
      | exact LeO.none _
      | refine LeO.ite ?_ ?_
      | refine LeO.bind ?_ (fun _ => ?_)
    · intro y0 y1 y2 y3 y4
      unfold calamuslaw14_ItemiseTiles.j2
      repeat' first
      | (with_reducible exact ih0 _ _)
      | (with_reducible exact ih1 _ _ _ _ _)
      | (with_reducible exact ih2 _ _ _ _ _ _)
      | (with_reducible exact ih3 _ _ _ _ _ _ _)
      | (with_reducible exact ih4 _ _ _ _ _ _)
      | (with_reducible exact ih5 _ _ _ _ _ _ _ _)
      | (with_reducible exact ih6 _ _ _ _)
      | (with_reducible exact calamusref02_Class.mono _ _)
      | (with_reducible exact calamusref02_Script.mono _ _)
      | (with_reducible exact LeO.refl _)
      | (with_reducible exact LeO.none _)
      | (with_reducible refine LeO.ite ?_ ?_)
      | (with_reducible refine LeO.bind ?_ (fun _ => ?_))
      | exact ih0 _ _
      | exact ih1 _ _ _ _ _
      | exact ih2 _ _ _ _ _ _
      | exact ih3 _ _ _ _ _ _ _
      | exact ih4 _ _ _ _ _ _
      | exact ih5 _ _ _ _ _ _ _ _
      | exact ih6 _ _ _ _
      | exact calamusref02_Class.mono _ _
      | exact calamusref02_Script.mono _ _
      | exact LeO.none _
      | refine LeO.ite ?_ ?_
      | refine LeO.bind ?_ (fun _ => ?_)
    · intro y0 y1 y2 y3 y4 y5
      unfold calamuslaw14_ItemiseTiles.l1
      repeat' first
      | (with_reducible exact ih0 _ _)
      | (with_reducible exact ih1 _ _ _ _ _)
      | (with_reducible exact ih2 _ _ _ _ _ _)
      | (with_reducible exact ih3 _ _ _ _ _ _ _)
      | (with_reducible exact ih4 _ _ _ _ _ _)
      | (with_reducible exact ih5 _ _ _ _ _ _ _ _)
      | (with_reducible exact ih6 _ _ _ _)
      | (with_reducible exact calamusref02_Class.mono _ _)
      | (with_reducible exact calamusref02_Script.mono _ _)
      | (with_reducible exact LeO.refl _)
      | (with_reducible exact LeO.none _)
      | (with_reducible refine LeO.ite ?_ ?_)
      | (with_reducible refine LeO.bind ?_ (fun _ => ?_))
      | exact ih0 _ _
      | exact ih1 _ _ _ _ _
      | exact ih2 _ _ _ _ _ _
      | exact ih3 _ _ _ _ _ _ _
      | exact ih4 _ _ _ _ _ _
      | exact ih5 _ _ _ _ _ _ _ _
      | exact ih6 _ _ _ _
      | exact calamusref02_Class.mono _ _
      | exact calamusref02_Script.mono _ _
      | exact LeO.none _
      | refine LeO.ite ?_ ?_
      | refine LeO.bind ?_ (fun _ => ?_)
    · intro y0 y1 y2 y3 y4 y5 y6
      unfold calamuslaw14_ItemiseTiles.j4
      repeat' first
      | (with_reducible exact ih0 _ _)
      | (with_reducible exact ih1 _ _ _ _ _)
      | (with_reducible exact ih2 _ _ _ _ _ _)
      | (with_reducible exact ih3 _ _ _ _ _ _ _)
      | (with_reducible exact ih4 _ _ _ _ _ _)
      | (with_reducible exact ih5 _ _ _ _ _ _ _ _)
      | (with_reducible exact ih6 _ _ _ _)
      | (with_reducible exact calamusref02_Class.mono _ _)
      | (with_reducible exact calamusref02_Script.mono _ _)
      | (with_reducible exact LeO.refl _)
      | (with_reducible exact LeO.none _)
      | (with_reducible refine LeO.ite ?_ ?_)
      | (with_reducible refine LeO.bind ?_ (fun _ => ?_))
      | exact ih0 _ _
      | exact ih1 _ _ _ _ _
      | exact ih2 _ _ _ _ _ _
      | exact ih3 _ _ _ _ _ _ _
      | exact ih4 _ _ _ _ _ _
      | exact ih5 _ _ _ _ _ _ _ _
      | exact ih6 _ _ _ _
      | exact calamusref02_Class.mono _ _
      | exact calamusref02_Script.mono _ _
      | exact LeO.none _
      | refine LeO.ite ?_ ?_
      | refine LeO.bind ?_ (fun _ => ?_)
    · intro y0 y1 y2 y3 y4 y5
      unfold calamuslaw14_ItemiseTiles.l2
      repeat' first
      | (with_reducible exact ih0 _ _)
      | (with_reducible exact ih1 _ _ _ _ _)
      | (with_reducible exact ih2 _ _ _ _ _ _)
      | (with_reducible exact ih3 _ _ _ _ _ _ _)
      | (with_reducible exact ih4 _ _ _ _ _ _)
      | (with_reducible exact ih5 _ _ _ _ _ _ _ _)
      | (with_reducible exact ih6 _ _ _ _)
      | (with_reducible exact calamusref02_Class.mono _ _)
      | (with_reducible exact calamusref02_Script.mono _ _)
      | (with_reducible exact LeO.refl _)
      | (with_reducible exact LeO.none _)
      | (with_reducible refine LeO.ite ?_ ?_)
      | (with_reducible refine LeO.bind ?_ (fun _ => ?_))
      | exact ih0 _ _
      | exact ih1 _ _ _ _ _
      | exact ih2 _ _ _ _ _ _
      | exact ih3 _ _ _ _ _ _ _
      | exact ih4 _ _ _ _ _ _
      | exact ih5 _ _ _ _ _ _ _ _
      | exact ih6 _ _ _ _
      | exact calamusref02_Class.mono _ _
      | exact calamusref02_Script.mono _ _
      | exact LeO.none _
      | refine LeO.ite ?_ ?_
      | refine LeO.bind ?_ (fun _ => ?_)
    · intro y0 y1 y2 y3 y4 y5 y6 y7
      unfold calamuslaw14_ItemiseTiles.j6
      repeat' first
      | (with_reducible exact ih0 _ _)
      | (with_reducible exact ih1 _ _ _ _ _)
      | (with_reducible exact ih2 _ _ _ _ _ _)
      | (with_reducible exact ih3 _ _ _ _ _ _ _)
      | (with_reducible exact ih4 _ _ _ _ _ _)
      | (with_reducible exact ih5 _ _ _ _ _ _ _ _)
      | (with_reducible exact ih6 _ _ _ _)
      | (with_reducible exact calamusref02_Class.mono _ _)
      | (with_reducible exact calamusref02_Script.mono _ _)
      | (with_reducible exact LeO.refl _)
      | (with_reducible exact LeO.none _)
      | (with_reducible refine LeO.ite ?_ ?_)
      | (with_reducible refine LeO.bind ?_ (fun _ => ?_))
      | exact ih0 _ _
      | exact ih1 _ _ _ _ _
      | exact ih2 _ _ _ _ _ _
      | exact ih3 _ _ _ _ _ _ _
      | exact ih4 _ _ _ _ _ _
      | exact ih5 _ _ _ _ _ _ _ _
      | exact ih6 _ _ _ _
      | exact calamusref02_Class.mono _ _
      | exact calamusref02_Script.mono _ _
      | exact LeO.none _
      | refine LeO.ite ?_ ?_
      | refine LeO.bind ?_ (fun _ => ?_)
    · intro y0 y1 y2 y3
      unfold calamuslaw14_ItemiseTiles.l0
      repeat' first
      | (with_reducible exact ih0 _ _)
      | (with_reducible exact ih1 _ _ _ _ _)
      | (with_reducible exact ih2 _ _ _ _ _ _)
      | (with_reducible exact ih3 _ _ _ _ _ _ _)
      | (with_reducible exact ih4 _ _ _ _ _ _)
      | (with_reducible exact ih5 _ _ _ _ _ _ _ _)
      | (with_reducible exact ih6 _ _ _ _)
      | (with_reducible exact calamusref02_Class.mono _ _)
      | (with_reducible exact calamusref02_Script.mono _ _)
      | (with_reducible exact LeO.refl _)
      | (with_reducible exact LeO.none _)
      | (with_reducible refine LeO.ite ?_ ?_)
      | (with_reducible refine LeO.bind ?_ (fun _ => ?_))
      | exact ih0 _ _
      | exact ih1 _ _ _ _ _
      | exact ih2 _ _ _ _ _ _
      | exact ih3 _ _ _ _ _ _ _
      | exact ih4 _ _ _ _ _ _
      | exact ih5 _ _ _ _ _ _ _ _
      | exact ih6 _ _ _ _
      | exact calamusref02_Class.mono _ _
      | exact calamusref02_Script.mono _ _
      | exact LeO.none _
      | refine LeO.ite ?_ ?_
      | refine LeO.bind ?_ (fun _ => ?_)
theorem calamuslaw14_ItemiseTiles.mono : ∀ a0 a1 k, LeO (calamuslaw14_ItemiseTiles.f k a0 a1) (calamuslaw14_ItemiseTiles.f (k + 1) a0 a1) := by
  intro a0 a1 k; (obtain ⟨ih0, ih1, ih2, ih3, ih4, ih5, ih6⟩ := calamuslaw14_ItemiseTiles.mono_l k); unfold calamuslaw14_ItemiseTiles.f
  repeat' first
      | (with_reducible exact ih0 _ _)
      | (with_reducible exact ih1 _ _ _ _ _)
      | (with_reducible exact ih2 _ _ _ _ _ _)
      | (with_reducible exact ih3 _ _ _ _ _ _ _)
      | (with_reducible exact ih4 _ _ _ _ _ _)
      | (with_reducible exact ih5 _ _ _ _ _ _ _ _)
      | (with_reducible exact ih6 _ _ _ _)
      | (with_reducible exact calamusref02_Class.mono _ _)
      | (with_reducible exact calamusref02_Script.mono _ _)
      | (with_reducible exact LeO.refl _)
      | (with_reducible exact LeO.none _)
      | (with_reducible refine LeO.ite ?_ ?_)
      | (with_reducible refine LeO.bind ?_ (fun _ => ?_))
      | exact ih0 _ _
      | exact ih1 _ _ _ _ _
      | exact ih2 _ _ _ _ _ _
      | exact ih3 _ _ _ _ _ _ _
      | exact ih4 _ _ _ _ _ _
      | exact ih5 _ _ _ _ _ _ _ _
      | exact ih6 _ _ _ _
      | exact calamusref02_Class.mono _ _
      | exact calamusref02_Script.mono _ _
      | exact LeO.none _
      | refine LeO.ite ?_ ?_
      | refine LeO.bind ?_ (fun _ => ?_)
def calamuslaw14_ItemiseTiles.T22 : Bool × List (List Nat × List Nat) := (true, [([], []), ([], []), ([0, 1], [0, 1]), ([2], [2]), ([], []), ([], []), ([4, 5], [4, 5]), ([6], [6]), ([7], [7]), ([3, 8], [3, 8]), ([9], [9]), ([10], [10]), ([10], [10]), ([11, 12, 10], [10, 11, 12]), ([13, 10], [10, 13]), ([10], [10]), ([10], [10]), ([15, 16, 10], [10, 15, 16]), ([17, 10], [10, 17]), ([18, 10], [10, 18]), ([14, 19, 10], [10, 14, 19]), ([10, 20], [10, 20]), ([21, 10], [21]), ([22], [22]), ([23, 22], [22, 23]), ([24, 22, 22], [22, 24]), ([25], [25]), ([25], [25]), ([25], [25]), ([27, 28, 25], [25, 27, 28]), ([29, 25], [25, 29]), ([26, 30, 25], [25, 26, 30]), ([25, 31, 22], [22, 25, 31]), ([22, 32], [22, 32]), ([33, 25], [33]), ([34], [34]), ([34], [34]), ([35, 36, 34], [34, 35, 36]), ([37, 34], [34, 37]), ([38, 34, 34], [34, 38]), ([39, 34], [34, 39]), ([40, 39, 34], [34, 40]), ([41], [41]), ([41], [41]), ([41], [41]), ([43, 44, 41], [41, 43, 44]), ([45, 41], [41, 45]), ([46, 41], [41, 46]), ([47, 41], [41, 47]), ([42, 48, 41], [41, 42, 48]), ([41, 49, 34], [34, 41, 49]), ([34, 50], [34, 50])])
def calamuslaw14_ItemiseTiles.B22 : List Nat := [0, 0, 3, 7, 0, 0, 48, 112, 240, 511, 1023, 2047, 2047, 8191, 16383, 2047, 2047, 100351, 231423, 493567, 1048575, 2097151, 4194303, 8388607, 16777215, 33554431, 67108863, 67108863, 67108863, 469762047, 1006632959, 2147483647, 4294967295, 8589934591, 17179869183, 34359738367, 34359738367, 137438953471, 274877906943, 549755813887, 1099511627775, 2199023255551, 4398046511103, 4398046511103, 4398046511103, 30786325577727, 65970697666559, 136339441844223, 277076930199551, 562949953421311, 1125899906842623, 2251799813685247]
theorem calamuslaw14_ItemiseTiles.tab22 : rtab .any (opsOf Tryd.f5 22) = calamuslaw14_ItemiseTiles.T22 := by kernel_rfl
theorem calamuslaw14_ItemiseTiles.bits22 : waitsOk calamuslaw14_ItemiseTiles.T22.2 calamuslaw14_ItemiseTiles.B22 = true := by kernel_rfl
def calamuslaw14_ItemiseTiles.T24 : Bool × List (List Nat × List Nat) := (true, [([], []), ([0], [0]), ([1], [1]), ([2], [2]), ([3, 2], [2, 3]), ([2, 4], [2, 4]), ([5, 2], [5]), ([6], [6]), ([6], [6]), ([8, 6], [6, 8]), ([7, 9, 6], [6, 7, 9]), ([10, 6], [6, 10]), ([11, 6, 6], [6, 11]), ([12, 6], [6, 12]), ([6, 13], [6, 13]), ([14, 12], [14]), ([15], [15]), ([15], [15]), ([16, 17, 15], [15, 16, 17]), ([18, 15], [15, 18]), ([15], [15]), ([15], [15]), ([21, 15], [15, 21]), ([20, 22, 15], [15, 20, 22]), ([23, 15], [15, 23]), ([19, 24, 15], [15, 19, 24]), ([15, 25], [15, 25])])
def calamuslaw14_ItemiseTiles.B24 : List Nat := [0, 1, 3, 7, 15, 31, 63, 127, 127, 383, 1023, 2047, 4095, 8191, 16383, 32767, 65535, 65535, 262143, 524287, 65535, 65535, 2162687, 7405567, 15794175, 33554431, 67108863]
theorem calamuslaw14_ItemiseTiles.tab24 : rtab .any (opsOf Tryd.f5 24) = calamuslaw14_ItemiseTiles.T24 := by kernel_rfl
theorem calamuslaw14_ItemiseTiles.bits24 : waitsOk calamuslaw14_ItemiseTiles.T24.2 calamuslaw14_ItemiseTiles.B24 = true := by kernel_rfl
def calamuslaw14_ItemiseTiles.T27 : Bool × List (List Nat × List Nat) := (true, [([], []), ([0], [0]), ([1], [1]), ([2], [2]), ([2], [2]), ([4, 2], [2, 4]), ([3, 5, 2], [2, 3, 5]), ([6, 2], [2, 6]), ([7, 2], [2, 7]), ([2], [2]), ([2], [2]), ([9, 10, 2], [2, 9, 10]), ([11, 2], [2, 11]), ([12, 2], [2, 12]), ([8, 13, 2], [2, 8, 13]), ([2, 14], [2, 14]), ([15, 2], [15]), ([16], [16]), ([16], [16]), ([18, 16], [16, 18]), ([17, 19, 16], [16, 17, 19]), ([20, 16], [16, 20]), ([21, 16], [16, 21]), ([16], [16]), ([16], [16]), ([23, 24, 16], [16, 23, 24]), ([25, 16], [16, 25]), ([26, 16], [16, 26]), ([22, 27, 16], [16, 22, 27]), ([16, 28], [16, 28]), ([29, 16], [29]), ([30], [30]), ([30], [30]), ([30], [30]), ([32, 33, 30], [30, 32, 33]), ([34, 30], [30, 34]), ([35, 30], [30, 35]), ([36, 30], [30, 36]), ([31, 37, 30], [30, 31, 37]), ([38, 30], [30, 38]), ([39, 30, 30], [30, 39]), ([40, 30], [30, 40]), ([30, 41], [30, 41])])
def calamuslaw14_ItemiseTiles.B27 : List Nat := [0, 1, 3, 7, 7, 23, 63, 127, 255, 7, 7, 1543, 3591, 7687, 16383, 32767, 65535, 131071, 131071, 393215, 1048575, 2097151, 4194303, 131071, 131071, 25296895, 58851327, 125960191, 268435455, 536870911, 1073741823, 2147483647, 2147483647, 2147483647, 15032385535, 32212254719, 66571993087, 135291469823, 274877906943, 549755813887, 1099511627775, 2199023255551, 4398046511103]
theorem calamuslaw14_ItemiseTiles.tab27 : rtab .any (opsOf Tryd.f5 27) = calamuslaw14_ItemiseTiles.T27 := by kernel_rfl
theorem calamuslaw14_ItemiseTiles.bits27 : waitsOk calamuslaw14_ItemiseTiles.T27.2 calamuslaw14_ItemiseTiles.B27 = true := by kernel_rfl

end Go.Proofs.YtfnkpjkbgfgbkaaDoor.Pr
