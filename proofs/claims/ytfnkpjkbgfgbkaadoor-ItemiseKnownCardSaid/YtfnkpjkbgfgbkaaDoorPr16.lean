-- Written for this claim by a program of this session over the translation. Lean checks it.
import Derived.Test.YtfnkpjkbgfgbkaaDoorPV
import Derived.Test.YtfnkpjkbgfgbkaaDoorPr0
import Derived.Test.YtfnkpjkbgfgbkaaDoorPr2
import Derived.Test.YtfnkpjkbgfgbkaaDoorPr15
namespace Go.Proofs.YtfnkpjkbgfgbkaaDoor.Pr
open Go.RowKit Go.Proofs.YtfnkpjkbgfgbkaaDoorW.PrintWords Go.Proofs.YtfnkpjkbgfgbkaaDoorW.PrintLast Go.Proofs.YtfnkpjkbgfgbkaaDoorW.PrintMore
attribute [local go_sem] max2_int min2_int max_two min_two max_three min_three max_four min_four   -- for this text's walks alone
set_option linter.unusedVariables false
set_option linter.unusedSimpArgs false

/-! ### calamusref14_Scripts: function 12 -/
mutual
def calamusref14_Scripts.l0 : Nat → List Int → List Int → List (S60) → Int → Int → Option (List Int)
  | 0, _, _, _, _, _ => none
  | k + 1, x0, x3, x4, x5, x6 => if x6 < (x0.length : Int) then (if x6 > 0 then (if 0 ≤ (wrap64 (x6 - 1)) then (if (wrap64 (x6 - 1)) < (x0.length : Int) then ((calamusref14_ends.f k (rd x0 (wrap64 (x6 - 1)))).bind fun t328 => (calamusref14_Scripts.j1 k x0 x3 x4 x5 x6 t328)) else (none)) else (none)) else (calamusref14_Scripts.j1 k x0 x3 x4 x5 x6 false)) else (some x3)
def calamusref14_Scripts.j1 : Nat → List Int → List Int → List (S60) → Int → Int → Bool → Option (List Int)
  | 0, _, _, _, _, _, _ => none
  | k + 1, x0, x3, x4, x5, x6, x29 => if x29 = true then (calamusref14_Scripts.j2 k x0 x3 ([] : List (S60)) 0 x6) else (calamusref14_Scripts.j2 k x0 x3 x4 x5 x6)
def calamusref14_Scripts.j2 : Nat → List Int → List Int → List (S60) → Int → Int → Option (List Int)
  | 0, _, _, _, _, _ => none
  | k + 1, x0, x3, x4, x5, x6 => if 0 ≤ x6 then (if x6 < (x0.length : Int) then ((calamusref14_own.f k (rd x0 x6)).bind fun t330 => (if t330 = true then ((calamusref02_Script.f k (rd x0 x6)).bind fun t332 => (calamusref14_Scripts.j3 k x0 x3 x4 t332 x6)) else (calamusref14_Scripts.j3 k x0 x3 x4 x5 x6))) else (none)) else (none)
def calamusref14_Scripts.j3 : Nat → List Int → List Int → List (S60) → Int → Int → Option (List Int)
  | 0, _, _, _, _, _ => none
  | k + 1, x0, x3, x4, x5, x6 => if 0 ≤ x6 then (if x6 < (x3.length : Int) then ((some (x3.set (x6 : Int).toNat x5 : List Int)).bind fun y333 => (if x5 = 0 then ((calamusref14_behind.f k x0 x6).bind fun t334 => (calamusref14_Scripts.j4 k x0 (y333.set (x6 : Int).toNat t334) x4 x5 x6)) else (calamusref14_Scripts.j4 k x0 y333 x4 x5 x6))) else (none)) else (none)
def calamusref14_Scripts.j4 : Nat → List Int → List Int → List (S60) → Int → Int → Option (List Int)
  | 0, _, _, _, _, _ => none
  | k + 1, x0, x3, x4, x5, x6 => if 0 ≤ x6 then (if x6 < (x0.length : Int) then ((calamusref02_Bracket.f k (rd x0 x6)).bind fun bt337 => (if bt337.2.2 = true then (if bt337.2.1 = true then (if (x4.length : Int) < 64 then (if x4.length < 8796093022208 then (calamusref14_Scripts.l0 k x0 x3 (x4 ++ [(⟨bt337.1, x6⟩ : S60)]) x5 (wrap64 (x6 + 1))) else (none)) else (calamusref14_Scripts.l0 k x0 x3 x4 x5 (wrap64 (x6 + 1)))) else (calamusref14_Scripts.l1 k x0 x3 x4 x5 x6 bt337.1 (wrap64 ((x4.length : Int) - 1)))) else (calamusref14_Scripts.l0 k x0 x3 x4 x5 (wrap64 (x6 + 1))))) else (none)) else (none)
def calamusref14_Scripts.l1 : Nat → List Int → List Int → List (S60) → Int → Int → Int → Int → Option (List Int)
  | 0, _, _, _, _, _, _, _ => none
  | k + 1, x0, x3, x4, x5, x6, x7, x10 => if x10 ≥ 0 then (if 0 ≤ x10 then (if x10 < (x4.length : Int) then (if ((rd_T60 x4 x10).f0) = x7 then (if 0 ≤ ((rd_T60 x4 x10).f1) then (if ((rd_T60 x4 x10).f1) < (x3.length : Int) then (if 0 ≤ x6 then (if x6 < (x3.length : Int) then ((some (x3.set (x6 : Int).toNat (rd x3 ((rd_T60 x4 x10).f1)) : List Int)).bind fun y346 => (if x10 ≤ (x4.length : Int) then (calamusref14_Scripts.l0 k x0 y346 (x4.take (x10 : Int).toNat) (rd y346 x6) (wrap64 (x6 + 1))) else (none))) else (none)) else (none)) else (none)) else (none)) else (calamusref14_Scripts.l1 k x0 x3 x4 x5 x6 x7 (wrap64 (x10 - 1)))) else (none)) else (none)) else (calamusref14_Scripts.l0 k x0 x3 x4 x5 (wrap64 (x6 + 1)))
end
def calamusref14_Scripts.f (k : Nat) (l0 : List Int) : Option (List Int) := if 0 ≤ (l0.length : Int) then (if ((l0.length : Int) : Int).toNat ≤ 281474976710656 then (calamusref14_Scripts.l0 k l0 (List.replicate ((l0.length : Int) : Int).toNat 0) ([] : List (S60)) 0 0) else (none)) else (none)
theorem calamusref14_Scripts.mono_l : ∀ k, (∀ y0 y1 y2 y3 y4, LeO (calamusref14_Scripts.l0 k y0 y1 y2 y3 y4) (calamusref14_Scripts.l0 (k + 1) y0 y1 y2 y3 y4)) ∧ (∀ y0 y1 y2 y3 y4 y5, LeO (calamusref14_Scripts.j1 k y0 y1 y2 y3 y4 y5) (calamusref14_Scripts.j1 (k + 1) y0 y1 y2 y3 y4 y5)) ∧ (∀ y0 y1 y2 y3 y4, LeO (calamusref14_Scripts.j2 k y0 y1 y2 y3 y4) (calamusref14_Scripts.j2 (k + 1) y0 y1 y2 y3 y4)) ∧ (∀ y0 y1 y2 y3 y4, LeO (calamusref14_Scripts.j3 k y0 y1 y2 y3 y4) (calamusref14_Scripts.j3 (k + 1) y0 y1 y2 y3 y4)) ∧ (∀ y0 y1 y2 y3 y4, LeO (calamusref14_Scripts.j4 k y0 y1 y2 y3 y4) (calamusref14_Scripts.j4 (k + 1) y0 y1 y2 y3 y4)) ∧ (∀ y0 y1 y2 y3 y4 y5 y6, LeO (calamusref14_Scripts.l1 k y0 y1 y2 y3 y4 y5 y6) (calamusref14_Scripts.l1 (k + 1) y0 y1 y2 y3 y4 y5 y6))
  | 0 => ⟨fun _ _ _ _ _ r h => by simp [calamusref14_Scripts.l0] at h, fun _ _ _ _ _ _ r h => by simp [calamusref14_Scripts.j1] at h, fun _ _ _ _ _ r h => by simp [calamusref14_Scripts.j2] at h, fun _ _ _ _ _ r h => by simp [calamusref14_Scripts.j3] at h, fun _ _ _ _ _ r h => by simp [calamusref14_Scripts.j4] at h, fun _ _ _ _ _ _ _ r h => by simp [calamusref14_Scripts.l1] at h⟩
  | k + 1 => by
    obtain ⟨ih0, ih1, ih2, ih3, ih4, ih5⟩ := calamusref14_Scripts.mono_l k
    refine ⟨?_, ?_, ?_, ?_, ?_, ?_⟩
    · intro y0 y1 y2 y3 y4
      unfold calamusref14_Scripts.l0
      repeat' first
      | (with_reducible exact ih0 _ _ _ _ _)
      | (with_reducible exact ih1 _ _ _ _ _ _)
      | (with_reducible exact ih2 _ _ _ _ _)
      | (with_reducible exact ih3 _ _ _ _ _)
      | (with_reducible exact ih4 _ _ _ _ _)
      | (with_reducible exact ih5 _ _ _ _ _ _ _)
      | (with_reducible exact calamusref02_Bracket.mono _ _)
      | (with_reducible exact calamusref02_Script.mono _ _)
      | (with_reducible exact calamusref14_behind.mono _ _ _)
      | (with_reducible exact calamusref14_ends.mono _ _)
      | (with_reducible exact calamusref14_own.mono _ _)
      | (with_reducible exact LeO.refl _)
      | (with_reducible exact LeO.none _)
      | (with_reducible refine LeO.ite ?_ ?_)
      | (with_reducible refine LeO.bind ?_ (fun _ => ?_))
      | exact ih0 _ _ _ _ _
      | exact ih1 _ _ _ _ _ _
      | exact ih2 _ _ _ _ _
      | exact ih3 _ _ _ _ _
      | exact ih4 _ _ _ _ _
      | exact ih5 _ _ _ _ _ _ _
      | exact calamusref02_Bracket.mono _ _
      | exact calamusref02_Script.mono _ _
      | exact calamusref14_behind.mono _ _ _
      | exact calamusref14_ends.mono _ _
      | exact calamusref14_own.mono _ _
      | exact LeO.none _
      | refine LeO.ite ?_ ?_
      | refine LeO.bind ?_ (fun _ => ?_)
    · intro y0 y1 y2 y3 y4 y5
      unfold calamusref14_Scripts.j1
      repeat' first
      | (with_reducible exact ih0 _ _ _ _ _)
      | (with_reducible exact ih1 _ _ _ _ _ _)
      | (with_reducible exact ih2 _ _ _ _ _)
      | (with_reducible exact ih3 _ _ _ _ _)
      | (with_reducible exact ih4 _ _ _ _ _)
      | (with_reducible exact ih5 _ _ _ _ _ _ _)
      | (with_reducible exact calamusref02_Bracket.mono _ _)
      | (with_reducible exact calamusref02_Script.mono _ _)
      | (with_reducible exact calamusref14_behind.mono _ _ _)
      | (with_reducible exact calamusref14_ends.mono _ _)
      | (with_reducible exact calamusref14_own.mono _ _)
      | (with_reducible exact LeO.refl _)
      | (with_reducible exact LeO.none _)
      | (with_reducible refine LeO.ite ?_ ?_)
      | (with_reducible refine LeO.bind ?_ (fun _ => ?_))
      | exact ih0 _ _ _ _ _
      | exact ih1 _ _ _ _ _ _
      | exact ih2 _ _ _ _ _
      | exact ih3 _ _ _ _ _
      | exact ih4 _ _ _ _ _
      | exact ih5 _ _ _ _ _ _ _
      | exact calamusref02_Bracket.mono _ _
      | exact calamusref02_Script.mono _ _
      | exact calamusref14_behind.mono _ _ _
      | exact calamusref14_ends.mono _ _
      | exact calamusref14_own.mono _ _
      | exact LeO.none _
      | refine LeO.ite ?_ ?_
      | refine LeO.bind ?_ (fun _ => ?_)
    · intro y0 y1 y2 y3 y4
      unfold calamusref14_Scripts.j2
      repeat' first
      | (with_reducible exact ih0 _ _ _ _ _)
      | (with_reducible exact ih1 _ _ _ _ _ _)
      | (with_reducible exact ih2 _ _ _ _ _)
      | (with_reducible exact ih3 _ _ _ _ _)
      | (with_reducible exact ih4 _ _ _ _ _)
      | (with_reducible exact ih5 _ _ _ _ _ _ _)
      | (with_reducible exact calamusref02_Bracket.mono _ _)
      | (with_reducible exact calamusref02_Script.mono _ _)
      | (with_reducible exact calamusref14_behind.mono _ _ _)
      | (with_reducible exact calamusref14_ends.mono _ _)
      | (with_reducible exact calamusref14_own.mono _ _)
      | (with_reducible exact LeO.refl _)
      | (with_reducible exact LeO.none _)
      | (with_reducible refine LeO.ite ?_ ?_)
      | (with_reducible refine LeO.bind ?_ (fun _ => ?_))
      | exact ih0 _ _ _ _ _
      | exact ih1 _ _ _ _ _ _
      | exact ih2 _ _ _ _ _
      | exact ih3 _ _ _ _ _
      | exact ih4 _ _ _ _ _
      | exact ih5 _ _ _ _ _ _ _
      | exact calamusref02_Bracket.mono _ _
      | exact calamusref02_Script.mono _ _
      | exact calamusref14_behind.mono _ _ _
      | exact calamusref14_ends.mono _ _
      | exact calamusref14_own.mono _ _
      | exact LeO.none _
      | refine LeO.ite ?_ ?_
      | refine LeO.bind ?_ (fun _ => ?_)
    · intro y0 y1 y2 y3 y4
      unfold calamusref14_Scripts.j3
      repeat' first
      | (with_reducible exact ih0 _ _ _ _ _)
      | (with_reducible exact ih1 _ _ _ _ _ _)
      | (with_reducible exact ih2 _ _ _ _ _)
      | (with_reducible exact ih3 _ _ _ _ _)
      | (with_reducible exact ih4 _ _ _ _ _)
      | (with_reducible exact ih5 _ _ _ _ _ _ _)
      | (with_reducible exact calamusref02_Bracket.mono _ _)
      | (with_reducible exact calamusref02_Script.mono _ _)
      | (with_reducible exact calamusref14_behind.mono _ _ _)
      | (with_reducible exact calamusref14_ends.mono _ _)
      | (with_reducible exact calamusref14_own.mono _ _)
      | (with_reducible exact LeO.refl _)
      | (with_reducible exact LeO.none _)
      | (with_reducible refine LeO.ite ?_ ?_)
      | (with_reducible refine LeO.bind ?_ (fun _ => ?_))
      | exact ih0 _ _ _ _ _
      | exact ih1 _ _ _ _ _ _
      | exact ih2 _ _ _ _ _
      | exact ih3 _ _ _ _ _
      | exact ih4 _ _ _ _ _
      | exact ih5 _ _ _ _ _ _ _
      | exact calamusref02_Bracket.mono _ _
      | exact calamusref02_Script.mono _ _
      | exact calamusref14_behind.mono _ _ _
      | exact calamusref14_ends.mono _ _
      | exact calamusref14_own.mono _ _
      | exact LeO.none _
      | refine LeO.ite ?_ ?_
      | refine LeO.bind ?_ (fun _ => ?_)
    · intro y0 y1 y2 y3 y4
      unfold calamusref14_Scripts.j4
      repeat' first
      | (with_reducible exact ih0 _ _ _ _ _)
      | (with_reducible exact ih1 _ _ _ _ _ _)
      | (with_reducible exact ih2 _ _ _ _ _)
      | (with_reducible exact ih3 _ _ _ _ _)
      | (with_reducible exact ih4 _ _ _ _ _)
      | (with_reducible exact ih5 _ _ _ _ _ _ _)
      | (with_reducible exact calamusref02_Bracket.mono _ _)
      | (with_reducible exact calamusref02_Script.mono _ _)
      | (with_reducible exact calamusref14_behind.mono _ _ _)
      | (with_reducible exact calamusref14_ends.mono _ _)
      | (with_reducible exact calamusref14_own.mono _ _)
      | (with_reducible exact LeO.refl _)
      | (with_reducible exact LeO.none _)
      | (with_reducible refine LeO.ite ?_ ?_)
      | (with_reducible refine LeO.bind ?_ (fun _ => ?_))
      | exact ih0 _ _ _ _ _
      | exact ih1 _ _ _ _ _ _
      | exact ih2 _ _ _ _ _
      | exact ih3 _ _ _ _ _
      | exact ih4 _ _ _ _ _
      | exact ih5 _ _ _ _ _ _ _
      | exact calamusref02_Bracket.mono _ _
      | exact calamusref02_Script.mono _ _
      | exact calamusref14_behind.mono _ _ _
      | exact calamusref14_ends.mono _ _
      | exact calamusref14_own.mono _ _
      | exact LeO.none _
      | refine LeO.ite ?_ ?_
      | refine LeO.bind ?_ (fun _ => ?_)
    · intro y0 y1 y2 y3 y4 y5 y6
      unfold calamusref14_Scripts.l1
      repeat' first
      | (with_reducible exact ih0 _ _ _ _ _)
      | (with_reducible exact ih1 _ _ _ _ _ _)
      | (with_reducible exact ih2 _ _ _ _ _)
      | (with_reducible exact ih3 _ _ _ _ _)
      | (with_reducible exact ih4 _ _ _ _ _)
      | (with_reducible exact ih5 _ _ _ _ _ _ _)
      | (with_reducible exact calamusref02_Bracket.mono _ _)
      | (with_reducible exact calamusref02_Script.mono _ _)
      | (with_reducible exact calamusref14_behind.mono _ _ _)
      | (with_reducible exact calamusref14_ends.mono _ _)
      | (with_reducible exact calamusref14_own.mono _ _)
      | (with_reducible exact LeO.refl _)
      | (with_reducible exact LeO.none _)
      | (with_reducible refine LeO.ite ?_ ?_)
      | (with_reducible refine LeO.bind ?_ (fun _ => ?_))
      | exact ih0 _ _ _ _ _
      | exact ih1 _ _ _ _ _ _
      | exact ih2 _ _ _ _ _
      | exact ih3 _ _ _ _ _
      | exact ih4 _ _ _ _ _
      | exact ih5 _ _ _ _ _ _ _
      | exact calamusref02_Bracket.mono _ _
      | exact calamusref02_Script.mono _ _
      | exact calamusref14_behind.mono _ _ _
      | exact calamusref14_ends.mono _ _
      | exact calamusref14_own.mono _ _
      | exact LeO.none _
      | refine LeO.ite ?_ ?_
      | refine LeO.bind ?_ (fun _ => ?_)
theorem calamusref14_Scripts.mono : ∀ a0 k, LeO (calamusref14_Scripts.f k a0) (calamusref14_Scripts.f (k + 1) a0) := by
  intro a0 k; (obtain ⟨ih0, ih1, ih2, ih3, ih4, ih5⟩ := calamusref14_Scripts.mono_l k); unfold calamusref14_Scripts.f
  repeat' first
      | (with_reducible exact ih0 _ _ _ _ _)
      | (with_reducible exact ih1 _ _ _ _ _ _)
      | (with_reducible exact ih2 _ _ _ _ _)
      | (with_reducible exact ih3 _ _ _ _ _)
      | (with_reducible exact ih4 _ _ _ _ _)
      | (with_reducible exact ih5 _ _ _ _ _ _ _)
      | (with_reducible exact calamusref02_Bracket.mono _ _)
      | (with_reducible exact calamusref02_Script.mono _ _)
      | (with_reducible exact calamusref14_behind.mono _ _ _)
      | (with_reducible exact calamusref14_ends.mono _ _)
      | (with_reducible exact calamusref14_own.mono _ _)
      | (with_reducible exact LeO.refl _)
      | (with_reducible exact LeO.none _)
      | (with_reducible refine LeO.ite ?_ ?_)
      | (with_reducible refine LeO.bind ?_ (fun _ => ?_))
      | exact ih0 _ _ _ _ _
      | exact ih1 _ _ _ _ _ _
      | exact ih2 _ _ _ _ _
      | exact ih3 _ _ _ _ _
      | exact ih4 _ _ _ _ _
      | exact ih5 _ _ _ _ _ _ _
      | exact calamusref02_Bracket.mono _ _
      | exact calamusref02_Script.mono _ _
      | exact calamusref14_behind.mono _ _ _
      | exact calamusref14_ends.mono _ _
      | exact calamusref14_own.mono _ _
      | exact LeO.none _
      | refine LeO.ite ?_ ?_
      | refine LeO.bind ?_ (fun _ => ?_)
set_option maxHeartbeats 8000000 in
set_option maxRecDepth 100000 in
theorem calamusref14_Scripts.calls (k : Nat) (A0 : Option Addr) (c0 : Nat) (l0 : List Int) (r : List Int) (w : World) (hr0 : Kd.C (Kd.int .i32) w A0 l0.length l0) (hc0 : l0.length ≤ c0) (h : calamusref14_Scripts.f k l0 = some r) :
    Calls Tryd.prog 12 #[.slice A0 l0.length c0] w fun e w' => ∃ v0_ : Value, e = .returned (v0_) ∧ Kd.R (Kd.int .u8) 5 w' w.heap.size (fun _ => True) v0_ r ∧ Below w.heap.size w w' := by
  (have hu60 := Tryd.underlying60); (have HR0 := Aside0.mk hr0); (have HC0 := Aside0.mk hc0); clear hr0 hc0; (have HB := Aside0.mk (Below.refl w.heap.size w)); (have H : (if 0 ≤ (l0.length : Int) then (if ((l0.length : Int) : Int).toNat ≤ 281474976710656 then (calamusref14_Scripts.l0 k l0 (List.replicate ((l0.length : Int) : Int).toNat 0) ([] : List (S60)) 0 0) else (none)) else (none)) = some r := h); clear h; (by_cases c2 : 0 ≤ (l0.length : Int))
  · (rw [if_pos c2] at H); (have c2b0 := eq_true c2); (have c2b1 : decide (0 ≤ (l0.length : Int)) = true := decide_eq_true c2); clear c2; (by_cases c3 : ((l0.length : Int) : Int).toNat ≤ 281474976710656)
    · (rw [if_pos c3] at H); (have c3b0 := eq_true c3); (have c3b1 : decide (((l0.length : Int) : Int).toNat ≤ 281474976710656) = true := decide_eq_true c3); clear c3; (obtain ⟨y324, hy324⟩ : ∃ y_ : List Int, y_ = (List.replicate ((l0.length : Int) : Int).toNat 0) := ⟨_, rfl⟩); (replace H : (calamusref14_Scripts.l0 k l0 y324 ([] : List (S60)) 0 0) = some r := by first | (rw [hy324]; with_reducible exact H) | (have H2_ := (Option.bind_some _ _).symm.trans H; rw [hy324]; with_reducible exact H2_) | (have H2_ := (Option.bind_some _ _).symm.trans H; with_reducible exact H2_) | with_reducible exact H | (rw [hy324]; exact H) | exact H); (have Ny324 := Aside0.mk hy324); clear hy324; (have H' := Aside0.mk H); clear H; (go_enter Tryd.func12, Tryd.ntmps12); (go_wp2_with (first | ((with_reducible refine gate_dst (N := 13) rfl ?_); refine Kd.R_make (Kd.int .u8) _ 5 rfl (N := 13) rfl 24 _ _ rfl (l0.length : Int) rfl rfl Tryd.underlying24 (.int .u8 0) 1 info5 rfl (by decide) (by omega) 0 (ok := fun _ => True) (okp := fun _ => True) rfl (fun _ hk => hk) trivial (of_decide_eq_true as_) (Nat.le_trans (Nat.mul_le_mul_right _ (of_decide_eq_true as_ : (l0.length : Int).toNat ≤ 281474976710656)) (by omega)) (Below.refl _ _) (Nat.le_refl _) ?_; intro v325 w4 ho5 hb hg_ hnew_; clear hg_ hnew_; (first | rw [← Ny324.out] at ho5 | (simp only [Int.reduceToNat] at ho5; rw [← Ny324.out] at ho5)); have n0_ := Aside0.mk (Kd.R_lower ho5 (below_size bq)); have n1_ := Aside0.mk (below_step bq hb); clear HB; have HO326 := n0_; have HB := n1_; clear n0_ n1_; clear hb ho5))); (go_loopg [4, 5, 6] k (fun kq v4 v5 v6 w' => ∃ (x3_1 : List Int) (x4_1 : List (S60)) (x5_1 : Int) (x6_1 : Int), v5 = .int .u8 x5_1 ∧ v6 = .int .i64 x6_1 ∧ Aside0 (calamusref14_Scripts.l0 kq l0 x3_1 x4_1 x5_1 x6_1 = some r) ∧ Aside0 (kq ≤ k) ∧ Aside0 (Kd.R (Kd.int .u8) 5 w' w.heap.size (fun _ => True) v325 x3_1) ∧ Aside0 (Kd.R k60 60 w' w.heap.size (fun _ => True) v4 x4_1) ∧ Aside0 (Below w.heap.size w w')))
      case atStart => exact ⟨(y324), (([] : List (S60))), (0), (0), rq, rq, H', ⟨Nat.le_refl _⟩, ⟨kr HO326⟩, ⟨by first | exact Kd.R_nil _ _ _ _ _ | exact Kd.N_nil _ _ _ _ _ | exact Kd.V_nil _ _ _ _ _ | exact Kd.Q_nil _ _ _ _ _ | exact Kd.S_nil _ _ _ _ _⟩, ⟨bq⟩⟩
      case round =>
        clear H'; (try clear c1); (try clear c2); (try clear c2b0); (try clear c2b1); (try clear p2); (try clear c3); (try clear c3b0); (try clear c3b1); (obtain ⟨x3_1, x4_1, x5_1, x6_1, rfl, rfl, HA, HK1, HO_3, HO_4, HB⟩ := hrel)
        cases gk with
        | zero => exact absurd HA.out (by simp [calamusref14_Scripts.l0])
        | succ k1 =>
          (have H := HA.out); clear HA; (simp only [calamusref14_Scripts.l0] at H); (by_cases c6 : x6_1 < (l0.length : Int))
          · (rw [if_pos c6] at H); (have c6b0 : decide (x6_1 < (l0.length : Int)) = true := decide_eq_true c6); clear c6; (have HC7 := Aside0.mk H); clear H; (go_upto_region 7 with (fail)); (go_cut [29] (fun v29 wc => ∃ (kq : Nat) (x29_6 : Bool), v29 = .bool x29_6 ∧ Aside0 (calamusref14_Scripts.j1 kq l0 x3_1 x4_1 x5_1 x6_1 x29_6 = some r) ∧ Aside0 (kq ≤ k1) ∧ Aside0 (Kd.R (Kd.int .u8) 5 wc w.heap.size (fun _ => True) v325 x3_1) ∧ Aside0 (Kd.R k60 60 wc w.heap.size (fun _ => True) u4 x4_1) ∧ Aside0 (Below w.heap.size w wc)))
            case first =>
              (have H := HC7.out); clear HC7; (by_cases c8 : x6_1 > 0)
              · (rw [if_pos c8] at H); (have c8b0 : decide (0 < x6_1) = true := decide_eq_true c8); clear c8; ((first | rw [c8b0] | (simp only [i64_w, i32_w]; rw [c8b0]) | skip)); (obtain ⟨ji9, hji9⟩ : ∃ j_ : Int, (wrap64 (x6_1 - 1)) = j_ := ⟨_, rfl⟩); (replace H : (if 0 ≤ (ji9) then (if (ji9) < (l0.length : Int) then ((calamusref14_ends.f k1 (rd l0 (ji9))).bind fun t328 => (calamusref14_Scripts.j1 k1 l0 x3_1 x4_1 x5_1 x6_1 t328)) else (none)) else (none)) = some r := by first | (rw [hji9] at H; exact H) | (simp only [hji9] at H ⊢; exact H)); (have hji9w : (IntKind.i64.wrap (x6_1 - 1)) = ji9 := (i64_w _).trans hji9); (by_cases c10 : 0 ≤ (ji9))
                · (rw [if_pos c10] at H); (have c10b0 : decide (0 ≤ (ji9)) = true := decide_eq_true c10); clear c10; (by_cases c11 : (ji9) < (l0.length : Int))
                  · (rw [if_pos c11] at H); (have c11b0 : decide ((ji9) < (l0.length : Int)) = true := decide_eq_true c11); clear c11; (replace H := Option.bind_eq_some_iff.mp H); (obtain ⟨t328, A120, H⟩ := H); (replace H : (calamusref14_Scripts.j1 k1 l0 x3_1 x4_1 x5_1 x6_1 t328) = some r := H); (have A12 := Aside0.mk A120); clear A120; (have H' := Aside0.mk H); clear H; (have p327 : 0 ≤ ((ji9) : Int) := of_decide_eq_true as_); (have q327 : (ji9) < (l0.length : Int) := of_decide_eq_true as_); (obtain ⟨ad327, e327, hx327_0⟩ := Kd.at_int HR0.out (ji9) p327 q327)
                    cases e327
                    (replace hx327_0 := (HB.out.cell (World.block_lt_of_cell? w _ hx327_0)).trans hx327_0); (replace p327 := eq_true p327); (replace q327 := eq_true q327); (go_wp2_with (first | (go_at_call 26; (with_reducible refine (calamusref14_ends.calls k1 (rd l0 (ji9)) t328 _ A12.out).mono ?_); rintro e w13 ⟨rfl, hb⟩; have n0_ := Aside0.mk (Kd.R_below (kr HO_3) hb); have n1_ := Aside0.mk (Kd.R_below (kr HO_4) hb); have n2_ := Aside0.mk (below_step bq hb); clear HO_3; clear HO_4; clear HB; have HO_3 := n0_; have HO_4 := n1_; have HB := n2_; clear n0_ n1_ n2_; (try clear hb); (try clear hb2); (try clear hk); (try clear hi)))); go_meet
                    case rel => exact ⟨_, (t328), rq, H', ⟨by have := HK1.out; first | omega | exact Nat.le_refl _⟩, ⟨kr HO_3⟩, ⟨kr HO_4⟩, ⟨bq⟩⟩
                  · (rw [if_neg c11] at H); (exact absurd H (by simp))
                · (rw [if_neg c10] at H); (exact absurd H (by simp))
              · (rw [if_neg c8] at H); (have c8b0 : decide (0 < x6_1) = false := decide_eq_false c8); clear c8; ((first | rw [c8b0] | (simp only [i64_w, i32_w]; rw [c8b0]) | skip)); (have H' := Aside0.mk H); clear H; (go_wp2); go_meet
                case rel => exact ⟨_, (false), rq, H', ⟨by have := HK1.out; first | omega | exact Nat.le_refl _⟩, ⟨kr HO_3⟩, ⟨kr HO_4⟩, ⟨bq⟩⟩
            case rest =>
              clear HC7; (try clear c1); (try clear c2); (try clear c2b0); (try clear c2b1); (try clear p2); (try clear c3); (try clear c3b0); (try clear c3b1); (try clear p3); (try clear q3); (try clear hx3); (try clear c6); (try clear c6b0); (try clear p6); (try clear c8); (try clear c8b0); (try clear c10); (try clear c10b0); (try clear c11); (try clear c11b0); (try clear c12); (try clear hx327_0); (try clear p2); (try clear p327); (try clear q327); (obtain ⟨kq, x29_6, rfl, HA, HJ6, HO_3, HO_4, HB⟩ := hcut)
              cases kq with
              | zero => exact absurd HA.out (by simp [calamusref14_Scripts.j1])
              | succ kj6 =>
                (have H := HA.out); clear HA; (simp only [calamusref14_Scripts.j1] at H); (have HC14 := Aside0.mk H); clear H; (go_upto_if 29 with (fail)); (go_cut [4, 5] (fun v4 v5 wc => ∃ (kq : Nat) (x4_13 : List (S60)) (x5_13 : Int), v5 = .int .u8 x5_13 ∧ Aside0 (calamusref14_Scripts.j2 kq l0 x3_1 x4_13 x5_13 x6_1 = some r) ∧ Aside0 (kq ≤ kj6) ∧ Aside0 (Kd.R (Kd.int .u8) 5 wc w.heap.size (fun _ => True) v325 x3_1) ∧ Aside0 (Kd.R k60 60 wc w.heap.size (fun _ => True) v4 x4_13) ∧ Aside0 (Below w.heap.size w wc)))
                case first =>
                  (have H := HC14.out); clear HC14; (by_cases c15 : x29_6 = true)
                  · subst c15; (have H1 : (calamusref14_Scripts.j2 kj6 l0 x3_1 ([] : List (S60)) 0 x6_1) = some r := by rw [if_pos rfl] at H; exact H); clear H; (have H := H1); clear H1; (have H' := Aside0.mk H); clear H; (go_wp2); go_meet
                    case rel => exact ⟨_, (([] : List (S60))), (0), rq, H', ⟨by have := HK1.out; have := HJ6.out; first | omega | exact Nat.le_refl _⟩, ⟨kr HO_3⟩, ⟨by first | exact Kd.R_nil _ _ _ _ _ | exact Kd.N_nil _ _ _ _ _ | exact Kd.V_nil _ _ _ _ _ | exact Kd.Q_nil _ _ _ _ _ | exact Kd.S_nil _ _ _ _ _⟩, ⟨bq⟩⟩
                  · (replace c15 := Bool.eq_false_iff.mpr c15); subst c15; (have H1 : (calamusref14_Scripts.j2 kj6 l0 x3_1 x4_1 x5_1 x6_1) = some r := by rw [if_neg (show ¬ (false = true) by decide)] at H; exact H); clear H; (have H := H1); clear H1; (have H' := Aside0.mk H); clear H; (go_wp2); go_meet
                    case rel => exact ⟨_, (x4_1), (x5_1), rq, H', ⟨by have := HK1.out; have := HJ6.out; first | omega | exact Nat.le_refl _⟩, ⟨kr HO_3⟩, ⟨kr HO_4⟩, ⟨bq⟩⟩
                case rest =>
                  clear HC14; (try clear c1); (try clear c2); (try clear c2b0); (try clear c2b1); (try clear p2); (try clear c3); (try clear c3b0); (try clear c3b1); (try clear p3); (try clear q3); (try clear hx3); (try clear c6); (try clear c6b0); (try clear p6); (try clear c8); (try clear c8b0); (try clear c10); (try clear c10b0); (try clear c11); (try clear c11b0); (try clear c12); (try clear c15); (try clear hx327_0); (try clear p2); (try clear p3); (try clear p327); (try clear p6); (try clear q3); (try clear q327); (obtain ⟨kq, x4_13, x5_13, rfl, HA, HJ13, HO_3, HO_4, HB⟩ := hcut)
                  cases kq with
                  | zero => exact absurd HA.out (by simp [calamusref14_Scripts.j2])
                  | succ kj13 =>
                    (have H := HA.out); clear HA; (simp only [calamusref14_Scripts.j2] at H); (by_cases c16 : 0 ≤ x6_1)
                    · (rw [if_pos c16] at H); (have c16b0 : decide (0 ≤ x6_1) = true := decide_eq_true c16); clear c16; (by_cases c17 : x6_1 < (l0.length : Int))
                      · (rw [if_pos c17] at H); (have c17b0 : decide (x6_1 < (l0.length : Int)) = true := decide_eq_true c17); clear c17; (replace H := Option.bind_eq_some_iff.mp H); (obtain ⟨t330, A180, H⟩ := H); (replace H : (if t330 = true then ((calamusref02_Script.f kj13 (rd l0 x6_1)).bind fun t332 => (calamusref14_Scripts.j3 kj13 l0 x3_1 x4_13 t332 x6_1)) else (calamusref14_Scripts.j3 kj13 l0 x3_1 x4_13 x5_13 x6_1)) = some r := H); (have A18 := Aside0.mk A180); clear A180; (have HC19 := Aside0.mk H); clear H; (have p329 : 0 ≤ (x6_1 : Int) := of_decide_eq_true as_); (have q329 : x6_1 < (l0.length : Int) := of_decide_eq_true as_); (obtain ⟨ad329, e329, hx329_0⟩ := Kd.at_int HR0.out x6_1 p329 q329)
                        cases e329
                        (replace hx329_0 := (HB.out.cell (World.block_lt_of_cell? w _ hx329_0)).trans hx329_0); (replace p329 := eq_true p329); (replace q329 := eq_true q329); (go_upto_if 34 with (first | ((with_reducible refine gate_callee (f := 27) rfl ?_); refine goesL_ (some 34) rfl rfl Tryd.func27 (by kernel_rfl) rfl #[.int .i32 (rd l0 x6_1)] rfl mq ?_; (with_reducible refine (calamusref14_own.calls kj13 (rd l0 x6_1) t330 _ A18.out).mono ?_); rintro e w20 ⟨rfl, hb⟩; refine ⟨_, rfl, ?_⟩; have n0_ := Aside0.mk (Kd.R_below (kr HO_3) hb); have n1_ := Aside0.mk (Kd.R_below (kr HO_4) hb); have n2_ := Aside0.mk (below_step bq hb); clear HO_3; clear HO_4; clear HB; have HO_3 := n0_; have HO_4 := n1_; have HB := n2_; clear n0_ n1_ n2_; (try clear hb); (try clear hb2); (try clear hk); (try clear hi)))); ((try simp only [Act.put, List.setIfInBounds_toArray, List.set_cons_zero, List.set_cons_succ])); (go_cut [5] (fun v5 wc => ∃ (kq : Nat) (x5_18 : Int), v5 = .int .u8 x5_18 ∧ Aside0 (calamusref14_Scripts.j3 kq l0 x3_1 x4_13 x5_18 x6_1 = some r) ∧ Aside0 (kq ≤ kj13) ∧ Aside0 (Kd.R (Kd.int .u8) 5 wc w.heap.size (fun _ => True) v325 x3_1) ∧ Aside0 (Kd.R k60 60 wc w.heap.size (fun _ => True) u4 x4_13) ∧ Aside0 (Below w.heap.size w wc)))
                        case first =>
                          (have H := HC19.out); clear HC19; (by_cases c21 : t330 = true)
                          · subst c21; (have H1 : ((calamusref02_Script.f kj13 (rd l0 x6_1)).bind fun t332 => (calamusref14_Scripts.j3 kj13 l0 x3_1 x4_13 t332 x6_1)) = some r := by rw [if_pos rfl] at H; exact H); clear H; (have H := H1); clear H1; (replace H := Option.bind_eq_some_iff.mp H); (obtain ⟨t332, A220, H⟩ := H); (replace H : (calamusref14_Scripts.j3 kj13 l0 x3_1 x4_13 t332 x6_1) = some r := H); (have A22 := Aside0.mk A220); clear A220; (have H' := Aside0.mk H); clear H; (have p331 : 0 ≤ (x6_1 : Int) := of_decide_eq_true as_); (have q331 : x6_1 < (l0.length : Int) := of_decide_eq_true as_); (obtain ⟨ad331, e331, hx331_0⟩ := Kd.at_int HR0.out x6_1 p331 q331); (obtain rfl : ad329 = ad331 := (by injection e331)); (replace hx331_0 := (HB.out.cell (World.block_lt_of_cell? w _ hx331_0)).trans hx331_0); (replace p331 := eq_true p331); (replace q331 := eq_true q331); (go_wp2_with (first | ((with_reducible refine gate_callee (f := 16) rfl ?_); refine goesL_ (some 39) rfl rfl Tryd.func16 (by kernel_rfl) rfl #[.int .i32 (rd l0 x6_1)] rfl mq ?_; (with_reducible refine (calamusref02_Script.calls kj13 (rd l0 x6_1) t332 _ A22.out).mono ?_); rintro e w23 ⟨rfl, hb⟩; refine ⟨_, rfl, ?_⟩; have n0_ := Aside0.mk (Kd.R_below (kr HO_3) hb); have n1_ := Aside0.mk (Kd.R_below (kr HO_4) hb); have n2_ := Aside0.mk (below_step bq hb); clear HO_3; clear HO_4; clear HB; have HO_3 := n0_; have HO_4 := n1_; have HB := n2_; clear n0_ n1_ n2_; (try clear hb); (try clear hb2); (try clear hk); (try clear hi)))); go_meet
                            case rel => exact ⟨_, (t332), rq, H', ⟨by have := HK1.out; have := HJ6.out; have := HJ13.out; first | omega | exact Nat.le_refl _⟩, ⟨kr HO_3⟩, ⟨kr HO_4⟩, ⟨bq⟩⟩
                          · (replace c21 := Bool.eq_false_iff.mpr c21); subst c21; (have H1 : (calamusref14_Scripts.j3 kj13 l0 x3_1 x4_13 x5_13 x6_1) = some r := by rw [if_neg (show ¬ (false = true) by decide)] at H; exact H); clear H; (have H := H1); clear H1; (have H' := Aside0.mk H); clear H; (go_wp2); go_meet
                            case rel => exact ⟨_, (x5_13), rq, H', ⟨by have := HK1.out; have := HJ6.out; have := HJ13.out; first | omega | exact Nat.le_refl _⟩, ⟨kr HO_3⟩, ⟨kr HO_4⟩, ⟨bq⟩⟩
                        case rest =>
                          clear HC19; (try clear c1); (try clear c2); (try clear c2b0); (try clear c2b1); (try clear p2); (try clear c3); (try clear c3b0); (try clear c3b1); (try clear p3); (try clear q3); (try clear hx3); (try clear c6); (try clear c6b0); (try clear p6); (try clear c8); (try clear c8b0); (try clear c10); (try clear c10b0); (try clear c11); (try clear c11b0); (try clear c12); (try clear c15); (try clear c16); (try clear c16b0); (try clear c17); (try clear c17b0); (try clear c21); (try clear hx327_0); (try clear hx329_0); (try clear hx331_0); (try clear p2); (try clear p3); (try clear p327); (try clear p329); (try clear p331); (try clear p6); (try clear q3); (try clear q327); (try clear q329); (try clear q331); (obtain ⟨kq, x5_18, rfl, HA, HJ18, HO_3, HO_4, HB⟩ := hcut)
                          cases kq with
                          | zero => exact absurd HA.out (by simp [calamusref14_Scripts.j3])
                          | succ kj18 =>
                            (have H := HA.out); clear HA; (simp only [calamusref14_Scripts.j3] at H); (by_cases c24 : 0 ≤ x6_1)
                            · (rw [if_pos c24] at H); (have c24b0 : decide (0 ≤ x6_1) = true := decide_eq_true c24); clear c24; (by_cases c25 : x6_1 < (x3_1.length : Int))
                              · (rw [if_pos c25] at H); (have c25b0 : decide (x6_1 < (x3_1.length : Int)) = true := decide_eq_true c25); clear c25; (obtain ⟨y333, hy333⟩ : ∃ y_ : List Int, y_ = (x3_1.set (x6_1 : Int).toNat x5_18) := ⟨_, rfl⟩); (replace H : (if x5_18 = 0 then ((calamusref14_behind.f kj18 l0 x6_1).bind fun t334 => (calamusref14_Scripts.j4 kj18 l0 (y333.set (x6_1 : Int).toNat t334) x4_13 x5_18 x6_1)) else (calamusref14_Scripts.j4 kj18 l0 y333 x4_13 x5_18 x6_1)) = some r := by first | (rw [hy333]; with_reducible exact H) | (have H2_ := (Option.bind_some _ _).symm.trans H; rw [hy333]; with_reducible exact H2_) | (have H2_ := (Option.bind_some _ _).symm.trans H; with_reducible exact H2_) | with_reducible exact H | (rw [hy333]; exact H) | exact H); (have Ny333 := Aside0.mk hy333); clear hy333; (have HC27 := Aside0.mk H); clear H; (have p26 : 0 ≤ (x6_1 : Int) := of_decide_eq_true as_); (have q26 : (x6_1 : Int) < ((x3_1.length : Int) : Int) := of_decide_eq_true as_); (obtain ⟨go26, co26, eo26, gb26, gl26, cl26, HG26⟩ := Kd.R_form HO_3.out (by omega)); ((first | cases eo26 | (injection eo26 with ea_ en_ ec_; (first | subst ea_ | (injection ea_ with ea_; subst ea_)); subst ec_; clear en_))); (have GB26 := Aside0.mk gb26); (have GG26 := Aside0.mk HG26); clear gb26 gl26 HG26; (obtain ⟨hx26_0, hf26_0⟩ := Kd.R_celln 0 HO_3.out (x6_1 : Int) p26 q26); (replace p26 := eq_true p26); (replace q26 := eq_true q26); (have HP28 := Kd.R_putg HO_3.out (x6_1 : Int) x5_18); (go_upto_if 45 with (first | ((with_reducible refine gate_store (t := 5) (p := 43) rfl ?_); refine store_event (t := 5) (p := 43) (v := ?vo_w29) (w1 := (wc.setCell ⟨go26, (x6_1 : Int).toNat, none⟩ (.int .u8 x5_18))) ?hg ?ho ?hn ?hr ?_; (case ho => rfl); (case hg => rfl); (case hn => rfl); (case hr => first | (go_simp; done) | (go_simp; rfl)); intro w29 hw; have hg : wc.grownBy w29 (some go26) := (by rw [hw]; exact HP28.2); have hp_ : Kd.R (Kd.int .u8) 5 w29 w.heap.size (fun _ => True) (.slice (some ⟨go26, 0, none⟩) x3_1.length co26) y333 := (by rw [hw, Ny333.out]; exact HP28.1); clear HP28; have n0_ := Aside0.mk (hp_); have n1_ := Aside0.mk (Kd.R_over' (v := (.slice (some ⟨go26, 0, none⟩) x3_1.length co26)) (kr HO_4) (Kd.R_typed HO_3.out) (by decide) hg); have n2_ := Aside0.mk ((by rw [hw]; exact below_set (HB.out) GB26.out : Below w.heap.size w w29)); clear HO_3; clear HO_4; clear HB; have HO_3 := n0_; have HO_4 := n1_; have HB := n2_; clear n0_ n1_ n2_; clear hg hw hp_))); ((try simp only [Act.put, List.setIfInBounds_toArray, List.set_cons_zero, List.set_cons_succ])); (go_cut [] (fun wc => ∃ (kq : Nat) (x3_26 : List Int), Aside0 (calamusref14_Scripts.j4 kq l0 x3_26 x4_13 x5_18 x6_1 = some r) ∧ Aside0 (kq ≤ kj18) ∧ Aside0 (Kd.R (Kd.int .u8) 5 wc w.heap.size (fun _ => True) (.slice (some ⟨go26, 0, none⟩) x3_1.length co26) x3_26) ∧ Aside0 (Kd.R k60 60 wc w.heap.size (fun _ => True) u4 x4_13) ∧ Aside0 (Below w.heap.size w wc)))
                                case first =>
                                  (have H := HC27.out); clear HC27; (by_cases c30 : x5_18 = 0)
                                  · (rw [if_pos c30] at H); (have c30b0 : (x5_18 == 0) = true := beq_iff_eq.mpr c30); (have c30b1 : (x5_18 != 0) = false := bne_eq_false_iff_eq.mpr c30); clear c30; ((first | rw [c30b0] | (simp only [i64_w, i32_w]; rw [c30b0]) | skip)); (replace H := Option.bind_eq_some_iff.mp H); (obtain ⟨t334, A310, H⟩ := H); (replace H : (calamusref14_Scripts.j4 kj18 l0 (y333.set (x6_1 : Int).toNat t334) x4_13 x5_18 x6_1) = some r := H); (have A31 := Aside0.mk A310); clear A310; (obtain ⟨y335, hy335⟩ : ∃ y_ : List Int, y_ = (y333.set (x6_1 : Int).toNat t334) := ⟨_, rfl⟩); (replace H : (calamusref14_Scripts.j4 kj18 l0 y335 x4_13 x5_18 x6_1) = some r := by first | (rw [hy335]; with_reducible exact H) | (have H2_ := (Option.bind_some _ _).symm.trans H; rw [hy335]; with_reducible exact H2_) | (have H2_ := (Option.bind_some _ _).symm.trans H; with_reducible exact H2_) | with_reducible exact H | (rw [hy335]; exact H) | exact H); (have Ny335 := Aside0.mk hy335); clear hy335; (have H' := Aside0.mk H); clear H; (go_wp2_with (first | ((with_reducible refine gate_callee (f := 28) rfl ?_); refine goesL_ (some 50) rfl rfl Tryd.func28 (by kernel_rfl) rfl #[.slice (some ad329) l0.length c0, .int .i64 x6_1] rfl mq ?_; (with_reducible refine (calamusref14_behind.calls kj18 _ _ l0 x6_1 t334 _ ?side1 ?side2 A31.out).mono ?_); (case side1 => repeat (first | exact (Kd.C_below HR0.out HB.out) | (with_reducible refine Kd.C_alloc ?_ _) | (with_reducible refine Kd.C_drewN ?_ _) | (with_reducible refine Kd.C_drew ?_))); (case side2 => exact HC0.out); rintro e w33 ⟨rfl, hb⟩; refine ⟨_, rfl, ?_⟩; have n0_ := Aside0.mk (Kd.R_below (kr HO_3) hb); have n1_ := Aside0.mk (Kd.R_below (kr HO_4) hb); have n2_ := Aside0.mk (below_step bq hb); clear HO_3; clear HO_4; clear HB; have HO_3 := n0_; have HO_4 := n1_; have HB := n2_; clear n0_ n1_ n2_; (try clear hb); (try clear hb2); (try clear hk); (try clear hi); have p32 : 0 ≤ (x6_1 : Int) := of_decide_eq_true as_; have q32 : (x6_1 : Int) < ((x3_1.length : Int) : Int) := of_decide_eq_true as_; obtain ⟨hx32_0, hf32_0⟩ := Kd.R_celln 0 HO_3.out (x6_1 : Int) p32 q32; replace p32 := eq_true p32; replace q32 := eq_true q32; obtain ⟨hy34_, hz34_⟩ := Kd.R_celln 0 HO_3.out (x6_1 : Int) (of_decide_eq_true as_) (of_decide_eq_true as_); have HP34 := Kd.R_putg HO_3.out (x6_1 : Int) t334) | ((with_reducible refine gate_store (t := 5) (p := 51) rfl ?_); refine store_event (t := 5) (p := 51) (v := ?vo_w35) (w1 := (w33.setCell ⟨go26, (x6_1 : Int).toNat, none⟩ (.int .u8 t334))) ?hg ?ho ?hn ?hr ?_; (case ho => rfl); (case hg => rfl); (case hn => rfl); (case hr => first | (go_simp; done) | (go_simp; rfl)); intro w35 hw; have hg : w33.grownBy w35 (some go26) := (by rw [hw]; exact HP34.2); have hp_ : Kd.R (Kd.int .u8) 5 w35 w.heap.size (fun _ => True) (.slice (some ⟨go26, 0, none⟩) x3_1.length co26) y335 := (by rw [hw, Ny335.out]; exact HP34.1); clear HP34; have n0_ := Aside0.mk (hp_); have n1_ := Aside0.mk (Kd.R_over' (v := (.slice (some ⟨go26, 0, none⟩) x3_1.length co26)) (kr HO_4) (Kd.R_typed HO_3.out) (by decide) hg); have n2_ := Aside0.mk ((by rw [hw]; exact below_set (HB.out) GB26.out : Below w.heap.size w w35)); clear HO_3; clear HO_4; clear HB; have HO_3 := n0_; have HO_4 := n1_; have HB := n2_; clear n0_ n1_ n2_; clear hg hw hp_))); go_meet
                                    case rel => exact ⟨_, (y335), H', ⟨by have := HK1.out; have := HJ6.out; have := HJ13.out; have := HJ18.out; first | omega | exact Nat.le_refl _⟩, ⟨kr HO_3⟩, ⟨kr HO_4⟩, ⟨bq⟩⟩
                                  · (rw [if_neg c30] at H); (have c30b0 : (x5_18 == 0) = false := beq_eq_false_iff_ne.mpr c30); (have c30b1 : (x5_18 != 0) = true := bne_iff_ne.mpr c30); ((first | rw [c30b0] | (simp only [i64_w, i32_w]; rw [c30b0]) | skip)); (have H' := Aside0.mk H); clear H; (go_wp2); go_meet
                                    case rel => exact ⟨_, (y333), H', ⟨by have := HK1.out; have := HJ6.out; have := HJ13.out; have := HJ18.out; first | omega | exact Nat.le_refl _⟩, ⟨kr HO_3⟩, ⟨kr HO_4⟩, ⟨bq⟩⟩
                                case rest =>
                                  clear HC27; (try clear c1); (try clear c2); (try clear c2b0); (try clear c2b1); (try clear p2); (try clear q2); (try clear hx2); (try clear hf2); (try clear c3); (try clear c3b0); (try clear c3b1); (try clear p3); (try clear q3); (try clear hx3); (try clear hf3); (try clear c6); (try clear c6b0); (try clear p6); (try clear c8); (try clear c8b0); (try clear c10); (try clear c10b0); (try clear c11); (try clear c11b0); (try clear c12); (try clear c15); (try clear c16); (try clear c16b0); (try clear c17); (try clear c17b0); (try clear c21); (try clear c24); (try clear c24b0); (try clear c25); (try clear c25b0); (try clear p26); (try clear q26); (try clear hx26); (try clear hf26); (try clear c27); (try clear c28); (try clear c30); (try clear c30b0); (try clear c30b1); (try clear p32); (try clear q32); (try clear hx32); (try clear hf32); (try clear p33); (try clear q33); (try clear hx33); (try clear hx26_0); (try clear hx327_0); (try clear hx329_0); (try clear hx32_0); (try clear hx331_0); (try clear p2); (try clear p26); (try clear p3); (try clear p32); (try clear p327); (try clear p329); (try clear p331); (try clear p6); (try clear q26); (try clear q3); (try clear q32); (try clear q327); (try clear q329); (try clear q331); (obtain ⟨kq, x3_26, HA, HJ26, HO_3, HO_4, HB⟩ := hcut); (have hl3_26 := (Kd.R_reads' HO_3.out).1); (rw [hl3_26] at HO_3); ((try simp only [hl3_26])); ((try simp only [hl3_26] at HO_4))
                                  cases kq with
                                  | zero => exact absurd HA.out (by simp [calamusref14_Scripts.j4])
                                  | succ kj26 =>
                                    (have H := HA.out); clear HA; (simp only [calamusref14_Scripts.j4] at H); (by_cases c36 : 0 ≤ x6_1)
                                    · (rw [if_pos c36] at H); (have c36b0 : decide (0 ≤ x6_1) = true := decide_eq_true c36); clear c36; (by_cases c37 : x6_1 < (l0.length : Int))
                                      · (rw [if_pos c37] at H); (have c37b0 : decide (x6_1 < (l0.length : Int)) = true := decide_eq_true c37); clear c37; (replace H := Option.bind_eq_some_iff.mp H); (obtain ⟨⟨t337, t338, t339⟩, A380, H⟩ := H); (replace H : (if t339 = true then (if t338 = true then (if (x4_13.length : Int) < 64 then (if x4_13.length < 8796093022208 then (calamusref14_Scripts.l0 kj26 l0 x3_26 (x4_13 ++ [(⟨t337, x6_1⟩ : S60)]) x5_18 (wrap64 (x6_1 + 1))) else (none)) else (calamusref14_Scripts.l0 kj26 l0 x3_26 x4_13 x5_18 (wrap64 (x6_1 + 1)))) else (calamusref14_Scripts.l1 kj26 l0 x3_26 x4_13 x5_18 x6_1 t337 (wrap64 ((x4_13.length : Int) - 1)))) else (calamusref14_Scripts.l0 kj26 l0 x3_26 x4_13 x5_18 (wrap64 (x6_1 + 1)))) = some r := H); (have A38 := Aside0.mk A380); clear A380; (by_cases c39 : t339 = true)
                                        · subst c39; (have H1 : (if t338 = true then (if (x4_13.length : Int) < 64 then (if x4_13.length < 8796093022208 then (calamusref14_Scripts.l0 kj26 l0 x3_26 (x4_13 ++ [(⟨t337, x6_1⟩ : S60)]) x5_18 (wrap64 (x6_1 + 1))) else (none)) else (calamusref14_Scripts.l0 kj26 l0 x3_26 x4_13 x5_18 (wrap64 (x6_1 + 1)))) else (calamusref14_Scripts.l1 kj26 l0 x3_26 x4_13 x5_18 x6_1 t337 (wrap64 ((x4_13.length : Int) - 1)))) = some r := by rw [if_pos rfl] at H; exact H); clear H; (have H := H1); clear H1; (by_cases c40 : t338 = true)
                                          · subst c40; (have H1 : (if (x4_13.length : Int) < 64 then (if x4_13.length < 8796093022208 then (calamusref14_Scripts.l0 kj26 l0 x3_26 (x4_13 ++ [(⟨t337, x6_1⟩ : S60)]) x5_18 (wrap64 (x6_1 + 1))) else (none)) else (calamusref14_Scripts.l0 kj26 l0 x3_26 x4_13 x5_18 (wrap64 (x6_1 + 1)))) = some r := by rw [if_pos rfl] at H; exact H); clear H; (have H := H1); clear H1; (by_cases c41 : (x4_13.length : Int) < 64)
                                            · (rw [if_pos c41] at H); (have c41b0 : decide ((x4_13.length : Int) < 64) = true := decide_eq_true c41); (have c41b1 : decide (x4_13.length < 64) = true := decide_eq_true (by omega)); clear c41; (by_cases c42 : x4_13.length < 8796093022208)
                                              · (rw [if_pos c42] at H); (have LMc42 := Aside0.mk c42); clear c42; (obtain ⟨y340, hy340⟩ : ∃ y_ : List (S60), y_ = (x4_13 ++ [(⟨t337, x6_1⟩ : S60)]) := ⟨_, rfl⟩); (replace H : (calamusref14_Scripts.l0 kj26 l0 x3_26 y340 x5_18 (wrap64 (x6_1 + 1))) = some r := by first | (rw [hy340]; with_reducible exact H) | (have H2_ := (Option.bind_some _ _).symm.trans H; rw [hy340]; with_reducible exact H2_) | (have H2_ := (Option.bind_some _ _).symm.trans H; with_reducible exact H2_) | with_reducible exact H | (rw [hy340]; exact H) | exact H); (have Ny340 := Aside0.mk hy340); clear hy340; (have H' := Aside0.mk H); clear H; (have p336 : 0 ≤ (x6_1 : Int) := of_decide_eq_true as_); (have q336 : x6_1 < (l0.length : Int) := of_decide_eq_true as_); (obtain ⟨ad336, e336, hx336_0⟩ := Kd.at_int HR0.out x6_1 p336 q336); (obtain rfl : ad329 = ad336 := (by injection e336)); (replace hx336_0 := (HB.out.cell (World.block_lt_of_cell? w _ hx336_0)).trans hx336_0); (replace p336 := eq_true p336); (replace q336 := eq_true q336); (go_wp2_with (first | ((with_reducible refine gate_callee (f := 29) rfl ?_); refine goesL_ (some 57) rfl rfl Tryd.func29 (by kernel_rfl) rfl #[.int .i32 (rd l0 x6_1)] rfl mq ?_; (with_reducible refine (calamusref02_Bracket.calls kj26 (rd l0 x6_1) t337 true true _ A38.out).mono ?_); rintro e w43 ⟨rfl, hb⟩; refine ⟨_, rfl, ?_⟩; have n0_ := Aside0.mk (Kd.R_below (kr HO_3) hb); have n1_ := Aside0.mk (Kd.R_below (kr HO_4) hb); have n2_ := Aside0.mk (below_step bq hb); clear HO_3; clear HO_4; clear HB; have HO_3 := n0_; have HO_4 := n1_; have HB := n2_; clear n0_ n1_ n2_; (try clear hb); (try clear hb2); (try clear hk); (try clear hi); obtain ⟨Ao44, co44, eo44⟩ := Kd.R_slice HO_4.out; subst eo44) | ((with_reducible refine gate_builtin (b := .append) (xs := #[.tmp 67, .tmp 71]) rfl ?_); at_builtin; refine Kd.R_append k60 (w0 := w) w.heap.size rfl (.tmp 67) (.tmp 71) 55 60 (.agg #[(.int .i32 0), (.int .i64 0)]) 16 rfl Tryd.underlying55 info60 rfl (by decide) (by omega) (.slice Ao44 x4_13.length co44) x4_13 (⟨t337, x6_1⟩ : S60) [.int .i32 t337, .int .i64 x6_1] (fun _ => True) (fun _ => False) rfl rfl ?aP (fun _ hk => hk.elim) ?aF ?aO ?aB ?aS ?aL ?_; (case aP => exact k60_mkM _ _ _ (⟨t337, x6_1⟩ : S60)); (case aB => exact bq); (case aF => exact (fun _ _ => trivial)); (case aO => exact (kr HO_4)); (case aS => exact (below_size bq)); (case aL => have := LMc42.out; omega); intro v341 w45 ho hb hg hat; rw [← Ny340.out] at ho; have n0_ := Aside0.mk (Kd.R_over' (kr HO_3) (Kd.R_typed (kr HO_4)) (by decide) hg); have n1_ := Aside0.mk (hb); have n2_ := Aside0.mk (ho); clear HO_3; clear HB; clear HO_4; have HO_3 := n0_; have HB := n1_; have HO342 := n2_; clear n0_ n1_ n2_; clear ho hb hg hat))); ((try simp only [← hl3_26])); go_roundg kj26
                                                case measure => have := HK1.out; have := HJ6.out; have := HJ13.out; have := HJ18.out; have := HJ26.out; omega
                                                case rel => exact ⟨(x3_26), (y340), (x5_18), (wrap64 (x6_1 + 1)), rq, rq, H', ⟨by have := HK1.out; have := HJ6.out; have := HJ13.out; have := HJ18.out; have := HJ26.out; omega⟩, ⟨by (try simp only [hl3_26]); (with_reducible repeat (first | apply Kd.R_alloc | apply Kd.R_drewN | apply Kd.R_drew)); exact HO_3.out⟩, ⟨by (try simp only [hl3_26]); (with_reducible repeat (first | apply Kd.R_alloc | apply Kd.R_drewN | apply Kd.R_drew)); exact HO342.out⟩, ⟨bq⟩⟩
                                              · (rw [if_neg c42] at H); (exact absurd H (by simp))
                                            · (rw [if_neg c41] at H); (have c41b0 : decide ((x4_13.length : Int) < 64) = false := decide_eq_false c41); (have c41b1 : decide (x4_13.length < 64) = false := decide_eq_false (by omega)); clear c41; (have H' := Aside0.mk H); clear H; (have p336 : 0 ≤ (x6_1 : Int) := of_decide_eq_true as_); (have q336 : x6_1 < (l0.length : Int) := of_decide_eq_true as_); (obtain ⟨ad336, e336, hx336_0⟩ := Kd.at_int HR0.out x6_1 p336 q336); (obtain rfl : ad329 = ad336 := (by injection e336)); (replace hx336_0 := (HB.out.cell (World.block_lt_of_cell? w _ hx336_0)).trans hx336_0); (replace p336 := eq_true p336); (replace q336 := eq_true q336); (go_wp2_with (first | ((with_reducible refine gate_callee (f := 29) rfl ?_); refine goesL_ (some 57) rfl rfl Tryd.func29 (by kernel_rfl) rfl #[.int .i32 (rd l0 x6_1)] rfl mq ?_; (with_reducible refine (calamusref02_Bracket.calls kj26 (rd l0 x6_1) t337 true true _ A38.out).mono ?_); rintro e w46 ⟨rfl, hb⟩; refine ⟨_, rfl, ?_⟩; have n0_ := Aside0.mk (Kd.R_below (kr HO_3) hb); have n1_ := Aside0.mk (Kd.R_below (kr HO_4) hb); have n2_ := Aside0.mk (below_step bq hb); clear HO_3; clear HO_4; clear HB; have HO_3 := n0_; have HO_4 := n1_; have HB := n2_; clear n0_ n1_ n2_; (try clear hb); (try clear hb2); (try clear hk); (try clear hi); obtain ⟨Ao47, co47, eo47⟩ := Kd.R_slice HO_4.out; subst eo47))); ((try simp only [← hl3_26])); go_roundg kj26
                                              case measure => have := HK1.out; have := HJ6.out; have := HJ13.out; have := HJ18.out; have := HJ26.out; omega
                                              case rel => exact ⟨(x3_26), (x4_13), (x5_18), (wrap64 (x6_1 + 1)), rq, rq, H', ⟨by have := HK1.out; have := HJ6.out; have := HJ13.out; have := HJ18.out; have := HJ26.out; omega⟩, ⟨by (try simp only [hl3_26]); (with_reducible repeat (first | apply Kd.R_alloc | apply Kd.R_drewN | apply Kd.R_drew)); exact HO_3.out⟩, ⟨by (try simp only [hl3_26]); (with_reducible repeat (first | apply Kd.R_alloc | apply Kd.R_drewN | apply Kd.R_drew)); exact HO_4.out⟩, ⟨bq⟩⟩
                                          · (replace c40 := Bool.eq_false_iff.mpr c40); subst c40; (have H1 : (calamusref14_Scripts.l1 kj26 l0 x3_26 x4_13 x5_18 x6_1 t337 (wrap64 ((x4_13.length : Int) - 1))) = some r := by rw [if_neg (show ¬ (false = true) by decide)] at H; exact H); clear H; (have H := H1); clear H1; (have H' := Aside0.mk H); clear H; (have p336 : 0 ≤ (x6_1 : Int) := of_decide_eq_true as_); (have q336 : x6_1 < (l0.length : Int) := of_decide_eq_true as_); (obtain ⟨ad336, e336, hx336_0⟩ := Kd.at_int HR0.out x6_1 p336 q336); (obtain rfl : ad329 = ad336 := (by injection e336)); (replace hx336_0 := (HB.out.cell (World.block_lt_of_cell? w _ hx336_0)).trans hx336_0); (replace p336 := eq_true p336); (replace q336 := eq_true q336); (go_wp2_with (first | ((with_reducible refine gate_callee (f := 29) rfl ?_); refine goesL_ (some 57) rfl rfl Tryd.func29 (by kernel_rfl) rfl #[.int .i32 (rd l0 x6_1)] rfl mq ?_; (with_reducible refine (calamusref02_Bracket.calls kj26 (rd l0 x6_1) t337 false true _ A38.out).mono ?_); rintro e w48 ⟨rfl, hb⟩; refine ⟨_, rfl, ?_⟩; have n0_ := Aside0.mk (Kd.R_below (kr HO_3) hb); have n1_ := Aside0.mk (Kd.R_below (kr HO_4) hb); have n2_ := Aside0.mk (below_step bq hb); clear HO_3; clear HO_4; clear HB; have HO_3 := n0_; have HO_4 := n1_; have HB := n2_; clear n0_ n1_ n2_; (try clear hb); (try clear hb2); (try clear hk); (try clear hi); obtain ⟨Ao49, co49, eo49⟩ := Kd.R_slice HO_4.out; subst eo49))); (go_loopg [4, 5, 10] kj26 (fun kq v4 v5 v10 w' => ∃ (x3_6 : List Int) (x4_6 : List (S60)) (x5_6 : Int) (x10_6 : Int), v5 = .int .u8 x5_6 ∧ v10 = .int .i64 x10_6 ∧ Aside0 (calamusref14_Scripts.l1 kq l0 x3_6 x4_6 x5_6 x6_1 t337 x10_6 = some r) ∧ Aside0 (kq ≤ kj26) ∧ Aside0 (Kd.R (Kd.int .u8) 5 w' w.heap.size (fun _ => True) (.slice (some ⟨go26, 0, none⟩) x3_26.length co26) x3_6) ∧ Aside0 (Kd.R k60 60 w' w.heap.size (fun _ => True) v4 x4_6) ∧ Aside0 (Below w.heap.size w w')))
                                            case atStart => exact ⟨(x3_26), (x4_13), (x5_18), (wrap64 ((x4_13.length : Int) - 1)), rq, rq, H', ⟨Nat.le_refl _⟩, ⟨by (try simp only [hl3_26]); (with_reducible repeat (first | apply Kd.R_alloc | apply Kd.R_drewN | apply Kd.R_drew)); exact HO_3.out⟩, ⟨by (try simp only [hl3_26]); (with_reducible repeat (first | apply Kd.R_alloc | apply Kd.R_drewN | apply Kd.R_drew)); exact HO_4.out⟩, ⟨bq⟩⟩
                                            case round =>
                                              clear H'; (try clear c1); (try clear c2); (try clear c2b0); (try clear c2b1); (try clear p2); (try clear q2); (try clear hx2); (try clear hf2); (try clear c3); (try clear c3b0); (try clear c3b1); (try clear p3); (try clear q3); (try clear hx3); (try clear hf3); (try clear c4); (try clear c6); (try clear c6b0); (try clear p6); (try clear c8); (try clear c8b0); (try clear c10); (try clear c10b0); (try clear c11); (try clear c11b0); (try clear c12); (try clear c15); (try clear c16); (try clear c16b0); (try clear c17); (try clear c17b0); (try clear c21); (try clear c24); (try clear c24b0); (try clear c25); (try clear c25b0); (try clear p26); (try clear q26); (try clear hx26); (try clear hf26); (try clear c27); (try clear c28); (try clear c29); (try clear c30); (try clear c30b0); (try clear c30b1); (try clear p32); (try clear q32); (try clear hx32); (try clear hf32); (try clear p33); (try clear q33); (try clear hx33); (try clear c36); (try clear c36b0); (try clear c37); (try clear c37b0); (try clear c39); (try clear c40); (try clear c41); (try clear c41b0); (try clear c41b1); (try clear c42); (try clear hx26_0); (try clear hx327_0); (try clear hx329_0); (try clear hx32_0); (try clear hx331_0); (try clear hx336_0); (try clear p2); (try clear p26); (try clear p3); (try clear p32); (try clear p327); (try clear p329); (try clear p33); (try clear p331); (try clear p336); (try clear p6); (try clear q2); (try clear q26); (try clear q3); (try clear q32); (try clear q327); (try clear q329); (try clear q33); (try clear q331); (try clear q336); (obtain ⟨x3_6, x4_6, x5_6, x10_6, rfl, rfl, HA, HK6, HO_3, HO_4, HB⟩ := hrel); (have hl3_6 := (Kd.R_reads' HO_3.out).1); (rw [hl3_6] at HO_3); ((try simp only [hl3_6])); ((try simp only [hl3_6] at HO_4))
                                              cases gk with
                                              | zero => exact absurd HA.out (by simp [calamusref14_Scripts.l1])
                                              | succ k6 =>
                                                (have H := HA.out); clear HA; (simp only [calamusref14_Scripts.l1] at H); (by_cases c50 : x10_6 ≥ 0)
                                                · (rw [if_pos c50] at H); (have c50b0 : decide (0 ≤ x10_6) = true := decide_eq_true c50); clear c50; (by_cases c51 : 0 ≤ x10_6)
                                                  · (rw [if_pos c51] at H); (have c51b0 : decide (0 ≤ x10_6) = true := decide_eq_true c51); clear c51; (by_cases c52 : x10_6 < (x4_6.length : Int))
                                                    · (rw [if_pos c52] at H); (have c52b0 : decide (x10_6 < (x4_6.length : Int)) = true := decide_eq_true c52); clear c52; (by_cases c53 : ((rd_T60 x4_6 x10_6).f0) = t337)
                                                      · (rw [if_pos c53] at H); (have c53b0 : (((rd_T60 x4_6 x10_6).f0) == t337) = true := beq_iff_eq.mpr c53); (have c53b1 : (((rd_T60 x4_6 x10_6).f0) != t337) = false := bne_eq_false_iff_eq.mpr c53); clear c53; (by_cases c54 : 0 ≤ ((rd_T60 x4_6 x10_6).f1))
                                                        · (rw [if_pos c54] at H); (have c54b0 : decide (0 ≤ ((rd_T60 x4_6 x10_6).f1)) = true := decide_eq_true c54); clear c54; (by_cases c55 : ((rd_T60 x4_6 x10_6).f1) < (x3_6.length : Int))
                                                          · (rw [if_pos c55] at H); (have c55b0 : decide (((rd_T60 x4_6 x10_6).f1) < (x3_6.length : Int)) = true := decide_eq_true c55); clear c55; (by_cases c56 : 0 ≤ x6_1)
                                                            · (rw [if_pos c56] at H); (have c56b0 : decide (0 ≤ x6_1) = true := decide_eq_true c56); clear c56; (by_cases c57 : x6_1 < (x3_6.length : Int))
                                                              · (rw [if_pos c57] at H); (have c57b0 : decide (x6_1 < (x3_6.length : Int)) = true := decide_eq_true c57); clear c57; (obtain ⟨y346, hy346⟩ : ∃ y_ : List Int, y_ = (x3_6.set (x6_1 : Int).toNat (rd x3_6 ((rd_T60 x4_6 x10_6).f1))) := ⟨_, rfl⟩); (replace H : (if x10_6 ≤ (x4_6.length : Int) then (calamusref14_Scripts.l0 k6 l0 y346 (x4_6.take (x10_6 : Int).toNat) (rd y346 x6_1) (wrap64 (x6_1 + 1))) else (none)) = some r := by first | (rw [hy346]; with_reducible exact H) | (have H2_ := (Option.bind_some _ _).symm.trans H; rw [hy346]; with_reducible exact H2_) | (have H2_ := (Option.bind_some _ _).symm.trans H; with_reducible exact H2_) | with_reducible exact H | (rw [hy346]; exact H) | exact H); (have Ny346 := Aside0.mk hy346); clear hy346; (by_cases c59 : x10_6 ≤ (x4_6.length : Int))
                                                                · (rw [if_pos c59] at H); (have c59b0 := eq_true c59); (have c59b1 : decide (x10_6 ≤ (x4_6.length : Int)) = true := decide_eq_true c59); clear c59; (obtain ⟨y348, hy348⟩ : ∃ y_ : List (S60), y_ = (x4_6.take (x10_6 : Int).toNat) := ⟨_, rfl⟩); (replace H : (calamusref14_Scripts.l0 k6 l0 y346 y348 (rd y346 x6_1) (wrap64 (x6_1 + 1))) = some r := by first | (rw [hy348]; with_reducible exact H) | (have H2_ := (Option.bind_some _ _).symm.trans H; rw [hy348]; with_reducible exact H2_) | (have H2_ := (Option.bind_some _ _).symm.trans H; with_reducible exact H2_) | with_reducible exact H | (rw [hy348]; exact H) | exact H); (have Ny348 := Aside0.mk hy348); clear hy348; (have H' := Aside0.mk H); clear H; (obtain ⟨Ao60, co60, eo60⟩ := Kd.R_slice HO_4.out); subst eo60; (have p343 : 0 ≤ (x10_6 : Int) := of_decide_eq_true as_); (have q343 : x10_6 < (x4_6.length : Int) := of_decide_eq_true as_); (obtain ⟨ad343, e343, hx343_0, hx343_1⟩ := at_T60 (Kd.R_reads' HO_4.out).2.2 x10_6 p343 q343)
                                                                  cases e343
                                                                  (replace p343 := eq_true p343); (replace q343 := eq_true q343); (have p344 : 0 ≤ (x10_6 : Int) := of_decide_eq_true as_); (have q344 : x10_6 < (x4_6.length : Int) := of_decide_eq_true as_); (obtain ⟨ad344, e344, hx344_0, hx344_1⟩ := at_T60 (Kd.R_reads' HO_4.out).2.2 x10_6 p344 q344); (obtain rfl : ad343 = ad344 := (by injection e344)); (replace p344 := eq_true p344); (replace q344 := eq_true q344); (have p345 : 0 ≤ (((rd_T60 x4_6 x10_6).f1) : Int) := of_decide_eq_true as_); (have q345 : ((rd_T60 x4_6 x10_6).f1) < (x3_6.length : Int) := of_decide_eq_true as_); (obtain ⟨ad345, e345, hx345_0⟩ := Kd.at_int (Kd.R_reads' HO_3.out).2.2 ((rd_T60 x4_6 x10_6).f1) p345 q345); (obtain rfl : (⟨go26, 0, none⟩ : Addr) = ad345 := (by injection e345)); ((first | simp only [add_plain] at hx345_0 | simp only [add_at] at hx345_0 | simp only [Addr.add, Nat.zero_add] at hx345_0 | skip)); (replace p345 := eq_true p345); (replace q345 := eq_true q345); (have p58 : 0 ≤ (x6_1 : Int) := of_decide_eq_true as_); (have q58 : (x6_1 : Int) < ((x3_6.length : Int) : Int) := of_decide_eq_true as_); (obtain ⟨hx58_0, hf58_0⟩ := Kd.R_celln 0 HO_3.out (x6_1 : Int) p58 q58); (replace p58 := eq_true p58); (replace q58 := eq_true q58); (have HP61 := Kd.R_putg HO_3.out (x6_1 : Int) (rd x3_6 ((rd_T60 x4_6 x10_6).f1))); (go_wp2_with (first | ((with_reducible refine gate_store (t := 5) (p := 97) rfl ?_); refine store_event (t := 5) (p := 97) (v := ?vo_w62) (w1 := (wr.setCell ⟨go26, (x6_1 : Int).toNat, none⟩ (.int .u8 (rd x3_6 ((rd_T60 x4_6 x10_6).f1))))) ?hg ?ho ?hn ?hr ?_; (case ho => rfl); (case hg => rfl); (case hn => rfl); (case hr => first | (go_simp; done) | (go_simp; rfl)); intro w62 hw; have hg : wr.grownBy w62 (some go26) := (by rw [hw]; exact HP61.2); have hp_ : Kd.R (Kd.int .u8) 5 w62 w.heap.size (fun _ => True) (.slice (some ⟨go26, 0, none⟩) x3_6.length co26) y346 := (by rw [hw, Ny346.out]; exact HP61.1); clear HP61; have n0_ := Aside0.mk (hp_); have n1_ := Aside0.mk (Kd.R_over' (v := (.slice (some ⟨go26, 0, none⟩) x3_6.length co26)) (kr HO_4) (Kd.R_typed HO_3.out) (by decide) hg); have n2_ := Aside0.mk ((by rw [hw]; exact below_set (HB.out) GB26.out : Below w.heap.size w w62)); clear HO_3; clear HO_4; clear HB; have HO_3 := n0_; have HO_4 := n1_; have HB := n2_; clear n0_ n1_ n2_; clear hg hw hp_; have p347 : 0 ≤ (x6_1 : Int) := of_decide_eq_true as_; have q347 : x6_1 < (y346.length : Int) := (by have h_ : (x6_1 : Int) < ((x3_6.length : Int) : Int) := of_decide_eq_true as_; first | (have e_ := (Kd.R_reads' HO_3.out).1; omega) | simpa only [Ny346.out, List.length_set] using h_); have ql347 : ((x6_1 : Int) < ((x3_6.length : Int) : Int)) = True := eq_true (of_decide_eq_true as_); obtain ⟨ad347, e347, hx347_0⟩ := Kd.at_int (Kd.R_reads' HO_3.out).2.2 x6_1 p347 q347; obtain rfl : (⟨go26, 0, none⟩ : Addr) = ad347 := (by injection e347); (first | simp only [add_plain] at hx347_0 | simp only [add_at] at hx347_0 | simp only [Addr.add, Nat.zero_add] at hx347_0 | skip); replace p347 := eq_true p347; replace q347 := eq_true q347; have q63 : (x10_6 : Int) ≤ ((x4_6.length : Int) : Int) := of_decide_eq_true as_; obtain ⟨i063, hi063, _, hsz63, _⟩ := info_parts info60; have hcut63 := cut_to (P := Tryd.prog) 55 60 .i64 Tryd.underlying55 hi063 (some ad343) x4_6.length co60 x10_6 (of_decide_eq_true as_) q63 (Kd.R_reads' HO_4.out).2.1; have hr63 := Kd.R_take (m := (x10_6 : Int).toNat) HO_4.out (by omega); have hy63 : y348.length = (x10_6 : Int).toNat := (by rw [Ny348.out, List.length_take]; omega); rw [← Ny348.out] at hr63; rw [← hy63] at hr63 hcut63; clear hy63 hi063 hsz63 HO_4; have HO350 := Aside0.mk hr63; clear hr63; replace q63 := eq_true q63))); ((try simp only [← hl3_26, ← hl3_6])); go_roundg k6
                                                                  case measure => have := HK1.out; have := HJ6.out; have := HJ13.out; have := HJ18.out; have := HJ26.out; have := HK6.out; omega
                                                                  case rel => exact ⟨(y346), (y348), (rd y346 x6_1), (wrap64 (x6_1 + 1)), rq, rq, H', ⟨by have := HK1.out; have := HJ6.out; have := HJ13.out; have := HJ18.out; have := HJ26.out; have := HK6.out; omega⟩, ⟨by (try simp only [hl3_26]); (try simp only [hl3_6]); (with_reducible repeat (first | apply Kd.R_alloc | apply Kd.R_drewN | apply Kd.R_drew)); exact HO_3.out⟩, ⟨by (try simp only [hl3_26]); (try simp only [hl3_6]); (with_reducible repeat (first | apply Kd.R_alloc | apply Kd.R_drewN | apply Kd.R_drew)); exact HO350.out⟩, ⟨bq⟩⟩
                                                                · (rw [if_neg c59] at H); (exact absurd H (by simp))
                                                              · (rw [if_neg c57] at H); (exact absurd H (by simp))
                                                            · (rw [if_neg c56] at H); (exact absurd H (by simp))
                                                          · (rw [if_neg c55] at H); (exact absurd H (by simp))
                                                        · (rw [if_neg c54] at H); (exact absurd H (by simp))
                                                      · (rw [if_neg c53] at H); (have c53b0 : (((rd_T60 x4_6 x10_6).f0) == t337) = false := beq_eq_false_iff_ne.mpr c53); (have c53b1 : (((rd_T60 x4_6 x10_6).f0) != t337) = true := bne_iff_ne.mpr c53); (have H' := Aside0.mk H); clear H; (obtain ⟨Ao64, co64, eo64⟩ := Kd.R_slice HO_4.out); subst eo64; (have p343 : 0 ≤ (x10_6 : Int) := of_decide_eq_true as_); (have q343 : x10_6 < (x4_6.length : Int) := of_decide_eq_true as_); (obtain ⟨ad343, e343, hx343_0, hx343_1⟩ := at_T60 (Kd.R_reads' HO_4.out).2.2 x10_6 p343 q343)
                                                        cases e343
                                                        (replace p343 := eq_true p343); (replace q343 := eq_true q343); (go_wp2); ((try simp only [← hl3_6])); go_roundg k6
                                                        case measure => have := HK1.out; have := HJ6.out; have := HJ13.out; have := HJ18.out; have := HJ26.out; have := HK6.out; omega
                                                        case rel => exact ⟨(x3_6), (x4_6), (x5_6), (wrap64 (x10_6 - 1)), rq, rq, H', ⟨by have := HK1.out; have := HJ6.out; have := HJ13.out; have := HJ18.out; have := HJ26.out; have := HK6.out; omega⟩, ⟨by (try simp only [hl3_26]); (try simp only [hl3_6]); (with_reducible repeat (first | apply Kd.R_alloc | apply Kd.R_drewN | apply Kd.R_drew)); exact HO_3.out⟩, ⟨by (try simp only [hl3_26]); (try simp only [hl3_6]); (with_reducible repeat (first | apply Kd.R_alloc | apply Kd.R_drewN | apply Kd.R_drew)); exact HO_4.out⟩, ⟨bq⟩⟩
                                                    · (rw [if_neg c52] at H); (exact absurd H (by simp))
                                                  · (rw [if_neg c51] at H); (exact absurd H (by simp))
                                                · (rw [if_neg c50] at H); (have c50b0 : decide (0 ≤ x10_6) = false := decide_eq_false c50); clear c50; (have H' := Aside0.mk H); clear H; (go_wp2); ((try simp only [← hl3_26, ← hl3_6])); go_roundg k6
                                                  case measure => have := HK1.out; have := HJ6.out; have := HJ13.out; have := HJ18.out; have := HJ26.out; have := HK6.out; omega
                                                  case rel => exact ⟨(x3_6), (x4_6), (x5_6), (wrap64 (x6_1 + 1)), rq, rq, H', ⟨by have := HK1.out; have := HJ6.out; have := HJ13.out; have := HJ18.out; have := HJ26.out; have := HK6.out; omega⟩, ⟨by (try simp only [hl3_26]); (try simp only [hl3_6]); (with_reducible repeat (first | apply Kd.R_alloc | apply Kd.R_drewN | apply Kd.R_drew)); exact HO_3.out⟩, ⟨by (try simp only [hl3_26]); (try simp only [hl3_6]); (with_reducible repeat (first | apply Kd.R_alloc | apply Kd.R_drewN | apply Kd.R_drew)); exact HO_4.out⟩, ⟨bq⟩⟩
                                        · (replace c39 := Bool.eq_false_iff.mpr c39); subst c39; (have H1 : (calamusref14_Scripts.l0 kj26 l0 x3_26 x4_13 x5_18 (wrap64 (x6_1 + 1))) = some r := by rw [if_neg (show ¬ (false = true) by decide)] at H; exact H); clear H; (have H := H1); clear H1; (have H' := Aside0.mk H); clear H; (have p336 : 0 ≤ (x6_1 : Int) := of_decide_eq_true as_); (have q336 : x6_1 < (l0.length : Int) := of_decide_eq_true as_); (obtain ⟨ad336, e336, hx336_0⟩ := Kd.at_int HR0.out x6_1 p336 q336); (obtain rfl : ad329 = ad336 := (by injection e336)); (replace hx336_0 := (HB.out.cell (World.block_lt_of_cell? w _ hx336_0)).trans hx336_0); (replace p336 := eq_true p336); (replace q336 := eq_true q336); (go_wp2_with (first | ((with_reducible refine gate_callee (f := 29) rfl ?_); refine goesL_ (some 57) rfl rfl Tryd.func29 (by kernel_rfl) rfl #[.int .i32 (rd l0 x6_1)] rfl mq ?_; (with_reducible refine (calamusref02_Bracket.calls kj26 (rd l0 x6_1) t337 t338 false _ A38.out).mono ?_); rintro e w65 ⟨rfl, hb⟩; refine ⟨_, rfl, ?_⟩; have n0_ := Aside0.mk (Kd.R_below (kr HO_3) hb); have n1_ := Aside0.mk (Kd.R_below (kr HO_4) hb); have n2_ := Aside0.mk (below_step bq hb); clear HO_3; clear HO_4; clear HB; have HO_3 := n0_; have HO_4 := n1_; have HB := n2_; clear n0_ n1_ n2_; (try clear hb); (try clear hb2); (try clear hk); (try clear hi)))); ((try simp only [← hl3_26])); go_roundg kj26
                                          case measure => have := HK1.out; have := HJ6.out; have := HJ13.out; have := HJ18.out; have := HJ26.out; omega
                                          case rel => exact ⟨(x3_26), (x4_13), (x5_18), (wrap64 (x6_1 + 1)), rq, rq, H', ⟨by have := HK1.out; have := HJ6.out; have := HJ13.out; have := HJ18.out; have := HJ26.out; omega⟩, ⟨by (try simp only [hl3_26]); (with_reducible repeat (first | apply Kd.R_alloc | apply Kd.R_drewN | apply Kd.R_drew)); exact HO_3.out⟩, ⟨by (try simp only [hl3_26]); (with_reducible repeat (first | apply Kd.R_alloc | apply Kd.R_drewN | apply Kd.R_drew)); exact HO_4.out⟩, ⟨bq⟩⟩
                                      · (rw [if_neg c37] at H); (exact absurd H (by simp))
                                    · (rw [if_neg c36] at H); (exact absurd H (by simp))
                              · (rw [if_neg c25] at H); (exact absurd H (by simp))
                            · (rw [if_neg c24] at H); (exact absurd H (by simp))
                      · (rw [if_neg c17] at H); (exact absurd H (by simp))
                    · (rw [if_neg c16] at H); (exact absurd H (by simp))
          · (rw [if_neg c6] at H); (have c6b0 : decide (x6_1 < (l0.length : Int)) = false := decide_eq_false c6); clear c6; (obtain rfl := Option.some.inj H); (go_wp2); go_ret; (exact ⟨_, by first | rfl | (simp [errW_none, errW_some] <;> rfl) | (simp [*, errW_none, errW_some] <;> rfl), kr HO_3, bq⟩)
    · (rw [if_neg c3] at H); (exact absurd H (by simp))
  · (rw [if_neg c2] at H); (exact absurd H (by simp))

end Go.Proofs.YtfnkpjkbgfgbkaaDoor.Pr
