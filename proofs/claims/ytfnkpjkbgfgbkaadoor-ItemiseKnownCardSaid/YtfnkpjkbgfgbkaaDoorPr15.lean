-- Written for this claim by a program of this session over the translation. Lean checks it.
import Derived.Test.YtfnkpjkbgfgbkaaDoorPV
import Derived.Test.YtfnkpjkbgfgbkaaDoorPr0
import Derived.Test.YtfnkpjkbgfgbkaaDoorPr2
namespace Go.Proofs.YtfnkpjkbgfgbkaaDoor.Pr
open Go.RowKit Go.Proofs.YtfnkpjkbgfgbkaaDoorW.PrintWords Go.Proofs.YtfnkpjkbgfgbkaaDoorW.PrintLast Go.Proofs.YtfnkpjkbgfgbkaaDoorW.PrintMore
attribute [local go_sem] max2_int min2_int max_two min_two max_three min_three max_four min_four   -- for this text's walks alone
set_option linter.unusedVariables false
set_option linter.unusedSimpArgs false

/-! ### calamusref14_ends: function 26 -/
def calamusref14_ends.f (k : Nat) (a0 : Int) : Option (Bool) := (calamusref02_Class.f k a0).bind fun t304 => (some (t304 == 11))
theorem calamusref14_ends.mono : ∀ a0 k, LeO (calamusref14_ends.f k a0) (calamusref14_ends.f (k + 1) a0) := by
  intro a0 k; unfold calamusref14_ends.f
  repeat' first
      | (with_reducible exact calamusref02_Class.mono _ _)
      | (with_reducible exact LeO.refl _)
      | (with_reducible exact LeO.none _)
      | (with_reducible refine LeO.ite ?_ ?_)
      | (with_reducible refine LeO.bind ?_ (fun _ => ?_))
      | exact calamusref02_Class.mono _ _
      | exact LeO.none _
      | refine LeO.ite ?_ ?_
      | refine LeO.bind ?_ (fun _ => ?_)
set_option maxHeartbeats 8000000 in
set_option maxRecDepth 100000 in
theorem calamusref14_ends.calls (k : Nat) (a0 : Int) (r : Bool) (w : World) (h : calamusref14_ends.f k a0 = some r) :
    Calls Tryd.prog 26 #[.int .i32 a0] w fun e w' => e = .returned (.bool r) ∧ Below w.heap.size w w' := by
  (have HB := Aside0.mk (Below.refl w.heap.size w)); (have H : ((calamusref02_Class.f k a0).bind fun t304 => (some (t304 == 11))) = some r := h); clear h; (replace H := Option.bind_eq_some_iff.mp H); (obtain ⟨t304, A20, H⟩ := H); (replace H : (some (t304 == 11)) = some r := H); (have A2 := Aside0.mk A20); clear A20; (obtain rfl := Option.some.inj H); (go_enter Tryd.func26, Tryd.ntmps26); (go_wp2_with (first | ((with_reducible refine gate_callee (f := 17) rfl ?_); refine goesL_ (some 4) rfl rfl Tryd.func17 (by kernel_rfl) rfl #[.int .i32 a0] rfl mq ?_; (with_reducible refine (calamusref02_Class.calls k a0 t304 _ A2.out).mono ?_); rintro e w3 ⟨rfl, hb⟩; refine ⟨_, rfl, ?_⟩; have n0_ := Aside0.mk (below_step bq hb); clear HB; have HB := n0_; clear n0_; (try clear hb); (try clear hb2); (try clear hk); (try clear hi)))); go_ret; (exact ⟨by first | rfl | (simp [errW_none, errW_some] <;> rfl) | (simp [*, errW_none, errW_some] <;> rfl), bq⟩)

/-! ### calamusref14_own: function 27 -/
def calamusref14_own.f (k : Nat) (a0 : Int) : Option (Bool) := (calamusref02_Script.f k a0).bind fun t305 => (some (decide (t305 > 1)))
theorem calamusref14_own.mono : ∀ a0 k, LeO (calamusref14_own.f k a0) (calamusref14_own.f (k + 1) a0) := by
  intro a0 k; unfold calamusref14_own.f
  repeat' first
      | (with_reducible exact calamusref02_Script.mono _ _)
      | (with_reducible exact LeO.refl _)
      | (with_reducible exact LeO.none _)
      | (with_reducible refine LeO.ite ?_ ?_)
      | (with_reducible refine LeO.bind ?_ (fun _ => ?_))
      | exact calamusref02_Script.mono _ _
      | exact LeO.none _
      | refine LeO.ite ?_ ?_
      | refine LeO.bind ?_ (fun _ => ?_)
set_option maxHeartbeats 8000000 in
set_option maxRecDepth 100000 in
theorem calamusref14_own.calls (k : Nat) (a0 : Int) (r : Bool) (w : World) (h : calamusref14_own.f k a0 = some r) :
    Calls Tryd.prog 27 #[.int .i32 a0] w fun e w' => e = .returned (.bool r) ∧ Below w.heap.size w w' := by
  (have HB := Aside0.mk (Below.refl w.heap.size w)); (have H : ((calamusref02_Script.f k a0).bind fun t305 => (some (decide (t305 > 1)))) = some r := h); clear h; (replace H := Option.bind_eq_some_iff.mp H); (obtain ⟨t305, A20, H⟩ := H); (replace H : (some (decide (t305 > 1))) = some r := H); (have A2 := Aside0.mk A20); clear A20; (obtain rfl := Option.some.inj H); (go_enter Tryd.func27, Tryd.ntmps27); (go_wp2_with (first | ((with_reducible refine gate_callee (f := 16) rfl ?_); refine goesL_ (some 4) rfl rfl Tryd.func16 (by kernel_rfl) rfl #[.int .i32 a0] rfl mq ?_; (with_reducible refine (calamusref02_Script.calls k a0 t305 _ A2.out).mono ?_); rintro e w3 ⟨rfl, hb⟩; refine ⟨_, rfl, ?_⟩; have n0_ := Aside0.mk (below_step bq hb); clear HB; have HB := n0_; clear n0_; (try clear hb); (try clear hb2); (try clear hk); (try clear hi)))); go_ret; (exact ⟨by first | rfl | (simp [errW_none, errW_some] <;> rfl) | (simp [*, errW_none, errW_some] <;> rfl), bq⟩)

/-! ### calamusref14_behind: function 28 -/
def calamusref14_behind.l0 : Nat → List Int → Int → Option (Int)
  | 0, _, _ => none
  | k + 1, x0, x1 => if x1 < (x0.length : Int) then (if 0 ≤ x1 then ((calamusref14_own.f k (rd x0 x1)).bind fun t307 => (if t307 = true then ((calamusref02_Script.f k (rd x0 x1)).bind fun t309 => (some t309)) else ((calamusref14_ends.f k (rd x0 x1)).bind fun t311 => (if t311 = true then (some 0) else (calamusref14_behind.l0 k x0 (wrap64 (x1 + 1))))))) else (none)) else (some 0)
def calamusref14_behind.f (k : Nat) (l0 : List Int) (a1 : Int) : Option (Int) := calamusref14_behind.l0 k l0 a1
theorem calamusref14_behind.mono_l : ∀ k, (∀ y0 y1, LeO (calamusref14_behind.l0 k y0 y1) (calamusref14_behind.l0 (k + 1) y0 y1))
  | 0 => fun _ _ r h => by simp [calamusref14_behind.l0] at h
  | k + 1 => by
    have ih0 := calamusref14_behind.mono_l k
    · intro y0 y1
      unfold calamusref14_behind.l0
      repeat' first
      | (with_reducible exact ih0 _ _)
      | (with_reducible exact calamusref02_Script.mono _ _)
      | (with_reducible exact calamusref14_ends.mono _ _)
      | (with_reducible exact calamusref14_own.mono _ _)
      | (with_reducible exact LeO.refl _)
      | (with_reducible exact LeO.none _)
      | (with_reducible refine LeO.ite ?_ ?_)
      | (with_reducible refine LeO.bind ?_ (fun _ => ?_))
      | exact ih0 _ _
      | exact calamusref02_Script.mono _ _
      | exact calamusref14_ends.mono _ _
      | exact calamusref14_own.mono _ _
      | exact LeO.none _
      | refine LeO.ite ?_ ?_
      | refine LeO.bind ?_ (fun _ => ?_)
theorem calamusref14_behind.mono : ∀ a0 a1 k, LeO (calamusref14_behind.f k a0 a1) (calamusref14_behind.f (k + 1) a0 a1) := by
  intro a0 a1 k; (have ih0 := calamusref14_behind.mono_l k); unfold calamusref14_behind.f
  repeat' first
      | (with_reducible exact ih0 _ _)
      | (with_reducible exact calamusref02_Script.mono _ _)
      | (with_reducible exact calamusref14_ends.mono _ _)
      | (with_reducible exact calamusref14_own.mono _ _)
      | (with_reducible exact LeO.refl _)
      | (with_reducible exact LeO.none _)
      | (with_reducible refine LeO.ite ?_ ?_)
      | (with_reducible refine LeO.bind ?_ (fun _ => ?_))
      | exact ih0 _ _
      | exact calamusref02_Script.mono _ _
      | exact calamusref14_ends.mono _ _
      | exact calamusref14_own.mono _ _
      | exact LeO.none _
      | refine LeO.ite ?_ ?_
      | refine LeO.bind ?_ (fun _ => ?_)
set_option maxHeartbeats 8000000 in
set_option maxRecDepth 100000 in
theorem calamusref14_behind.calls (k : Nat) (A0 : Option Addr) (c0 : Nat) (l0 : List Int) (a1 : Int) (r : Int) (w : World) (hr0 : Kd.C (Kd.int .i32) w A0 l0.length l0) (hc0 : l0.length ≤ c0) (h : calamusref14_behind.f k l0 a1 = some r) :
    Calls Tryd.prog 28 #[.slice A0 l0.length c0, .int .i64 a1] w fun e w' => e = .returned (.int .u8 r) ∧ Below w.heap.size w w' := by
  (have HR0 := Aside0.mk hr0); (have HC0 := Aside0.mk hc0); clear hr0 hc0; (have HB := Aside0.mk (Below.refl w.heap.size w)); (have H : (calamusref14_behind.l0 k l0 a1) = some r := h); clear h; (have H' := Aside0.mk H); clear H; (go_enter Tryd.func28, Tryd.ntmps28); (go_wp2); (go_loopg [1] k (fun kq v1 w' => ∃ (x1_1 : Int), v1 = .int .i64 x1_1 ∧ Aside0 (calamusref14_behind.l0 kq l0 x1_1 = some r) ∧ Aside0 (kq ≤ k) ∧ Aside0 (Below w.heap.size w w')))
  case atStart => exact ⟨(a1), rq, H', ⟨Nat.le_refl _⟩, ⟨bq⟩⟩
  case round =>
    clear H'; (try clear c2); (try clear p2); (obtain ⟨x1_1, rfl, HA, HK1, HB⟩ := hrel)
    cases gk with
    | zero => exact absurd HA.out (by simp [calamusref14_behind.l0])
    | succ k1 =>
      (have H := HA.out); clear HA; (simp only [calamusref14_behind.l0] at H); (by_cases c3 : x1_1 < (l0.length : Int))
      · (rw [if_pos c3] at H); (have c3b0 : decide (x1_1 < (l0.length : Int)) = true := decide_eq_true c3); clear c3; (by_cases c4 : 0 ≤ x1_1)
        · (rw [if_pos c4] at H); (have c4b0 : decide (0 ≤ x1_1) = true := decide_eq_true c4); clear c4; (replace H := Option.bind_eq_some_iff.mp H); (obtain ⟨t307, A50, H⟩ := H); (replace H : (if t307 = true then ((calamusref02_Script.f k1 (rd l0 x1_1)).bind fun t309 => (some t309)) else ((calamusref14_ends.f k1 (rd l0 x1_1)).bind fun t311 => (if t311 = true then (some 0) else (calamusref14_behind.l0 k1 l0 (wrap64 (x1_1 + 1)))))) = some r := H); (have A5 := Aside0.mk A50); clear A50; (by_cases c6 : t307 = true)
          · subst c6; (have H1 : ((calamusref02_Script.f k1 (rd l0 x1_1)).bind fun t309 => (some t309)) = some r := by rw [if_pos rfl] at H; exact H); clear H; (have H := H1); clear H1; (replace H := Option.bind_eq_some_iff.mp H); (obtain ⟨t309, A70, H⟩ := H); (replace H : (some t309) = some r := H); (have A7 := Aside0.mk A70); clear A70; (obtain rfl := Option.some.inj H); (have p306 : 0 ≤ (x1_1 : Int) := of_decide_eq_true as_); (have q306 : x1_1 < (l0.length : Int) := of_decide_eq_true as_); (obtain ⟨ad306, e306, hx306_0⟩ := Kd.at_int HR0.out x1_1 p306 q306)
            cases e306
            (replace hx306_0 := (HB.out.cell (World.block_lt_of_cell? w _ hx306_0)).trans hx306_0); (replace p306 := eq_true p306); (replace q306 := eq_true q306); (go_wp2_with (first | ((with_reducible refine gate_callee (f := 27) rfl ?_); refine goesL_ (some 15) rfl rfl Tryd.func27 (by kernel_rfl) rfl #[.int .i32 (rd l0 x1_1)] rfl mq ?_; (with_reducible refine (calamusref14_own.calls k1 (rd l0 x1_1) true _ A5.out).mono ?_); rintro e w8 ⟨rfl, hb⟩; refine ⟨_, rfl, ?_⟩; have n0_ := Aside0.mk (below_step bq hb); clear HB; have HB := n0_; clear n0_; (try clear hb); (try clear hb2); (try clear hk); (try clear hi); have p308 : 0 ≤ (x1_1 : Int) := of_decide_eq_true as_; have q308 : x1_1 < (l0.length : Int) := of_decide_eq_true as_; obtain ⟨ad308, e308, hx308_0⟩ := Kd.at_int HR0.out x1_1 p308 q308; obtain rfl : ad306 = ad308 := (by injection e308); replace hx308_0 := (HB.out.cell (World.block_lt_of_cell? w _ hx308_0)).trans hx308_0; replace p308 := eq_true p308; replace q308 := eq_true q308) | ((with_reducible refine gate_callee (f := 16) rfl ?_); refine goesL_ (some 20) rfl rfl Tryd.func16 (by kernel_rfl) rfl #[.int .i32 (rd l0 x1_1)] rfl mq ?_; (with_reducible refine (calamusref02_Script.calls k1 (rd l0 x1_1) t309 _ A7.out).mono ?_); rintro e w9 ⟨rfl, hb⟩; refine ⟨_, rfl, ?_⟩; have n0_ := Aside0.mk (below_step bq hb); clear HB; have HB := n0_; clear n0_; (try clear hb); (try clear hb2); (try clear hk); (try clear hi)))); go_ret; (exact ⟨by first | rfl | (simp [errW_none, errW_some] <;> rfl) | (simp [*, errW_none, errW_some] <;> rfl), bq⟩)
          · (replace c6 := Bool.eq_false_iff.mpr c6); subst c6; (have H1 : ((calamusref14_ends.f k1 (rd l0 x1_1)).bind fun t311 => (if t311 = true then (some 0) else (calamusref14_behind.l0 k1 l0 (wrap64 (x1_1 + 1))))) = some r := by rw [if_neg (show ¬ (false = true) by decide)] at H; exact H); clear H; (have H := H1); clear H1; (replace H := Option.bind_eq_some_iff.mp H); (obtain ⟨t311, A100, H⟩ := H); (replace H : (if t311 = true then (some 0) else (calamusref14_behind.l0 k1 l0 (wrap64 (x1_1 + 1)))) = some r := H); (have A10 := Aside0.mk A100); clear A100; (by_cases c11 : t311 = true)
            · subst c11; (have H1 : (some 0) = some r := by rw [if_pos rfl] at H; exact H); clear H; (have H := H1); clear H1; (obtain rfl := Option.some.inj H); (have p306 : 0 ≤ (x1_1 : Int) := of_decide_eq_true as_); (have q306 : x1_1 < (l0.length : Int) := of_decide_eq_true as_); (obtain ⟨ad306, e306, hx306_0⟩ := Kd.at_int HR0.out x1_1 p306 q306)
              cases e306
              (replace hx306_0 := (HB.out.cell (World.block_lt_of_cell? w _ hx306_0)).trans hx306_0); (replace p306 := eq_true p306); (replace q306 := eq_true q306); (go_wp2_with (first | ((with_reducible refine gate_callee (f := 27) rfl ?_); refine goesL_ (some 15) rfl rfl Tryd.func27 (by kernel_rfl) rfl #[.int .i32 (rd l0 x1_1)] rfl mq ?_; (with_reducible refine (calamusref14_own.calls k1 (rd l0 x1_1) false _ A5.out).mono ?_); rintro e w12 ⟨rfl, hb⟩; refine ⟨_, rfl, ?_⟩; have n0_ := Aside0.mk (below_step bq hb); clear HB; have HB := n0_; clear n0_; (try clear hb); (try clear hb2); (try clear hk); (try clear hi); have p310 : 0 ≤ (x1_1 : Int) := of_decide_eq_true as_; have q310 : x1_1 < (l0.length : Int) := of_decide_eq_true as_; obtain ⟨ad310, e310, hx310_0⟩ := Kd.at_int HR0.out x1_1 p310 q310; obtain rfl : ad306 = ad310 := (by injection e310); replace hx310_0 := (HB.out.cell (World.block_lt_of_cell? w _ hx310_0)).trans hx310_0; replace p310 := eq_true p310; replace q310 := eq_true q310) | ((with_reducible refine gate_callee (f := 26) rfl ?_); refine goesL_ (some 25) rfl rfl Tryd.func26 (by kernel_rfl) rfl #[.int .i32 (rd l0 x1_1)] rfl mq ?_; (with_reducible refine (calamusref14_ends.calls k1 (rd l0 x1_1) true _ A10.out).mono ?_); rintro e w13 ⟨rfl, hb⟩; refine ⟨_, rfl, ?_⟩; have n0_ := Aside0.mk (below_step bq hb); clear HB; have HB := n0_; clear n0_; (try clear hb); (try clear hb2); (try clear hk); (try clear hi)))); go_ret; (exact ⟨by first | rfl | (simp [errW_none, errW_some] <;> rfl) | (simp [*, errW_none, errW_some] <;> rfl), bq⟩)
            · (replace c11 := Bool.eq_false_iff.mpr c11); subst c11; (have H1 : (calamusref14_behind.l0 k1 l0 (wrap64 (x1_1 + 1))) = some r := by rw [if_neg (show ¬ (false = true) by decide)] at H; exact H); clear H; (have H := H1); clear H1; (have H' := Aside0.mk H); clear H; (have p306 : 0 ≤ (x1_1 : Int) := of_decide_eq_true as_); (have q306 : x1_1 < (l0.length : Int) := of_decide_eq_true as_); (obtain ⟨ad306, e306, hx306_0⟩ := Kd.at_int HR0.out x1_1 p306 q306)
              cases e306
              (replace hx306_0 := (HB.out.cell (World.block_lt_of_cell? w _ hx306_0)).trans hx306_0); (replace p306 := eq_true p306); (replace q306 := eq_true q306); (go_wp2_with (first | ((with_reducible refine gate_callee (f := 27) rfl ?_); refine goesL_ (some 15) rfl rfl Tryd.func27 (by kernel_rfl) rfl #[.int .i32 (rd l0 x1_1)] rfl mq ?_; (with_reducible refine (calamusref14_own.calls k1 (rd l0 x1_1) false _ A5.out).mono ?_); rintro e w14 ⟨rfl, hb⟩; refine ⟨_, rfl, ?_⟩; have n0_ := Aside0.mk (below_step bq hb); clear HB; have HB := n0_; clear n0_; (try clear hb); (try clear hb2); (try clear hk); (try clear hi); have p310 : 0 ≤ (x1_1 : Int) := of_decide_eq_true as_; have q310 : x1_1 < (l0.length : Int) := of_decide_eq_true as_; obtain ⟨ad310, e310, hx310_0⟩ := Kd.at_int HR0.out x1_1 p310 q310; obtain rfl : ad306 = ad310 := (by injection e310); replace hx310_0 := (HB.out.cell (World.block_lt_of_cell? w _ hx310_0)).trans hx310_0; replace p310 := eq_true p310; replace q310 := eq_true q310) | ((with_reducible refine gate_callee (f := 26) rfl ?_); refine goesL_ (some 25) rfl rfl Tryd.func26 (by kernel_rfl) rfl #[.int .i32 (rd l0 x1_1)] rfl mq ?_; (with_reducible refine (calamusref14_ends.calls k1 (rd l0 x1_1) false _ A10.out).mono ?_); rintro e w15 ⟨rfl, hb⟩; refine ⟨_, rfl, ?_⟩; have n0_ := Aside0.mk (below_step bq hb); clear HB; have HB := n0_; clear n0_; (try clear hb); (try clear hb2); (try clear hk); (try clear hi)))); go_roundg k1
              case measure => have := HK1.out; omega
              case rel => exact ⟨(wrap64 (x1_1 + 1)), rq, H', ⟨by have := HK1.out; omega⟩, ⟨bq⟩⟩
        · (rw [if_neg c4] at H); (exact absurd H (by simp))
      · (rw [if_neg c3] at H); (have c3b0 : decide (x1_1 < (l0.length : Int)) = false := decide_eq_false c3); clear c3; (obtain rfl := Option.some.inj H); (go_wp2); go_ret; (exact ⟨by first | rfl | (simp [errW_none, errW_some] <;> rfl) | (simp [*, errW_none, errW_some] <;> rfl), bq⟩)

/-! ### calamusref02_Brackets: function 54 -/
def calamusref02_Brackets.f  : Option ((List (S71))) := some (([(⟨40, 41⟩ : S71), (⟨91, 93⟩ : S71), (⟨123, 125⟩ : S71), (⟨8261, 8262⟩ : S71), (⟨8317, 8318⟩ : S71), (⟨8333, 8334⟩ : S71), (⟨8968, 8969⟩ : S71), (⟨8970, 8971⟩ : S71), (⟨9001, 9002⟩ : S71), (⟨10214, 10215⟩ : S71), (⟨10216, 10217⟩ : S71), (⟨10218, 10219⟩ : S71), (⟨10220, 10221⟩ : S71), (⟨10222, 10223⟩ : S71), (⟨12296, 12297⟩ : S71), (⟨12298, 12299⟩ : S71), (⟨12300, 12301⟩ : S71), (⟨12302, 12303⟩ : S71), (⟨12304, 12305⟩ : S71), (⟨12308, 12309⟩ : S71), (⟨12310, 12311⟩ : S71), (⟨12312, 12313⟩ : S71), (⟨12314, 12315⟩ : S71)] : List (S71)))
set_option maxHeartbeats 8000000 in
set_option maxRecDepth 100000 in
theorem calamusref02_Brackets.calls  (r : List (S71)) (w : World) (h : calamusref02_Brackets.f  = some r) :
    Calls Tryd.prog 54 #[] w fun e w' => ∃ v0_ : Value, e = .returned (v0_) ∧ Kd.R k71 71 w' w.heap.size (fun _ => True) v0_ r ∧ Below w.heap.size w w' := by
  (have hu71 := Tryd.underlying71); (have HB := Aside0.mk (Below.refl w.heap.size w)); (have H : (some (([(⟨40, 41⟩ : S71), (⟨91, 93⟩ : S71), (⟨123, 125⟩ : S71), (⟨8261, 8262⟩ : S71), (⟨8317, 8318⟩ : S71), (⟨8333, 8334⟩ : S71), (⟨8968, 8969⟩ : S71), (⟨8970, 8971⟩ : S71), (⟨9001, 9002⟩ : S71), (⟨10214, 10215⟩ : S71), (⟨10216, 10217⟩ : S71), (⟨10218, 10219⟩ : S71), (⟨10220, 10221⟩ : S71), (⟨10222, 10223⟩ : S71), (⟨12296, 12297⟩ : S71), (⟨12298, 12299⟩ : S71), (⟨12300, 12301⟩ : S71), (⟨12302, 12303⟩ : S71), (⟨12304, 12305⟩ : S71), (⟨12308, 12309⟩ : S71), (⟨12310, 12311⟩ : S71), (⟨12312, 12313⟩ : S71), (⟨12314, 12315⟩ : S71)] : List (S71)))) = some r := h); clear h; (obtain ⟨y312, hy312⟩ : ∃ y_ : List (S71), y_ = (([(⟨40, 41⟩ : S71), (⟨91, 93⟩ : S71), (⟨123, 125⟩ : S71), (⟨8261, 8262⟩ : S71), (⟨8317, 8318⟩ : S71), (⟨8333, 8334⟩ : S71), (⟨8968, 8969⟩ : S71), (⟨8970, 8971⟩ : S71), (⟨9001, 9002⟩ : S71), (⟨10214, 10215⟩ : S71), (⟨10216, 10217⟩ : S71), (⟨10218, 10219⟩ : S71), (⟨10220, 10221⟩ : S71), (⟨10222, 10223⟩ : S71), (⟨12296, 12297⟩ : S71), (⟨12298, 12299⟩ : S71), (⟨12300, 12301⟩ : S71), (⟨12302, 12303⟩ : S71), (⟨12304, 12305⟩ : S71), (⟨12308, 12309⟩ : S71), (⟨12310, 12311⟩ : S71), (⟨12312, 12313⟩ : S71), (⟨12314, 12315⟩ : S71)] : List (S71))) := ⟨_, rfl⟩); (replace H : (some y312) = some r := by first | (rw [hy312]; with_reducible exact H) | (have H2_ := (Option.bind_some _ _).symm.trans H; rw [hy312]; with_reducible exact H2_) | (have H2_ := (Option.bind_some _ _).symm.trans H; with_reducible exact H2_) | with_reducible exact H | (rw [hy312]; exact H) | exact H); (have Ny312 := Aside0.mk hy312); clear hy312; (obtain rfl := Option.some.inj H); (go_enter Tryd.func54, Tryd.ntmps54); (go_wp2_with (first | ((with_reducible refine gate_dst (N := 24) rfl ?_); refine Kd.R_lit k71 _ 71 ?hg (N := 24) ?hd (xs := ([(⟨40, 41⟩ : S71), (⟨91, 93⟩ : S71), (⟨123, 125⟩ : S71), (⟨8261, 8262⟩ : S71), (⟨8317, 8318⟩ : S71), (⟨8333, 8334⟩ : S71), (⟨8968, 8969⟩ : S71), (⟨8970, 8971⟩ : S71), (⟨9001, 9002⟩ : S71), (⟨10214, 10215⟩ : S71), (⟨10216, 10217⟩ : S71), (⟨10218, 10219⟩ : S71), (⟨10220, 10221⟩ : S71), (⟨10222, 10223⟩ : S71), (⟨12296, 12297⟩ : S71), (⟨12298, 12299⟩ : S71), (⟨12300, 12301⟩ : S71), (⟨12302, 12303⟩ : S71), (⟨12304, 12305⟩ : S71), (⟨12308, 12309⟩ : S71), (⟨12310, 12311⟩ : S71), (⟨12312, 12313⟩ : S71), (⟨12314, 12315⟩ : S71)] : List (S71))) (inner := [.int .i32 40, .int .i32 41, .int .i32 91, .int .i32 93, .int .i32 123, .int .i32 125, .int .i32 8261, .int .i32 8262, .int .i32 8317, .int .i32 8318, .int .i32 8333, .int .i32 8334, .int .i32 8968, .int .i32 8969, .int .i32 8970, .int .i32 8971, .int .i32 9001, .int .i32 9002, .int .i32 10214, .int .i32 10215, .int .i32 10216, .int .i32 10217, .int .i32 10218, .int .i32 10219, .int .i32 10220, .int .i32 10221, .int .i32 10222, .int .i32 10223, .int .i32 12296, .int .i32 12297, .int .i32 12298, .int .i32 12299, .int .i32 12300, .int .i32 12301, .int .i32 12302, .int .i32 12303, .int .i32 12304, .int .i32 12305, .int .i32 12308, .int .i32 12309, .int .i32 12310, .int .i32 12311, .int .i32 12312, .int .i32 12313, .int .i32 12314, .int .i32 12315]) (ok := fun _ => True) (okp := fun _ => True) ?hr ?hp (fun _ hk => hk) trivial (Below.refl _ _) (Nat.le_refl _) (by simp) ?_; (case hd => rfl); (case hg => rfl); (case hr => first | (go_simp; done) | (go_simp; rfl)); (case hp => exact (Reps.c2 (show Kd.M k71 _ _ _ (⟨40, 41⟩ : S71) [.int .i32 40, .int .i32 41] from (k71_mkM _ _ _ (⟨40, 41⟩ : S71) )) (Reps.c2 (show Kd.M k71 _ _ _ (⟨91, 93⟩ : S71) [.int .i32 91, .int .i32 93] from (k71_mkM _ _ _ (⟨91, 93⟩ : S71) )) (Reps.c2 (show Kd.M k71 _ _ _ (⟨123, 125⟩ : S71) [.int .i32 123, .int .i32 125] from (k71_mkM _ _ _ (⟨123, 125⟩ : S71) )) (Reps.c2 (show Kd.M k71 _ _ _ (⟨8261, 8262⟩ : S71) [.int .i32 8261, .int .i32 8262] from (k71_mkM _ _ _ (⟨8261, 8262⟩ : S71) )) (Reps.c2 (show Kd.M k71 _ _ _ (⟨8317, 8318⟩ : S71) [.int .i32 8317, .int .i32 8318] from (k71_mkM _ _ _ (⟨8317, 8318⟩ : S71) )) (Reps.c2 (show Kd.M k71 _ _ _ (⟨8333, 8334⟩ : S71) [.int .i32 8333, .int .i32 8334] from (k71_mkM _ _ _ (⟨8333, 8334⟩ : S71) )) (Reps.c2 (show Kd.M k71 _ _ _ (⟨8968, 8969⟩ : S71) [.int .i32 8968, .int .i32 8969] from (k71_mkM _ _ _ (⟨8968, 8969⟩ : S71) )) (Reps.c2 (show Kd.M k71 _ _ _ (⟨8970, 8971⟩ : S71) [.int .i32 8970, .int .i32 8971] from (k71_mkM _ _ _ (⟨8970, 8971⟩ : S71) )) (Reps.c2 (show Kd.M k71 _ _ _ (⟨9001, 9002⟩ : S71) [.int .i32 9001, .int .i32 9002] from (k71_mkM _ _ _ (⟨9001, 9002⟩ : S71) )) (Reps.c2 (show Kd.M k71 _ _ _ (⟨10214, 10215⟩ : S71) [.int .i32 10214, .int .i32 10215] from (k71_mkM _ _ _ (⟨10214, 10215⟩ : S71) )) (Reps.c2 (show Kd.M k71 _ _ _ (⟨10216, 10217⟩ : S71) [.int .i32 10216, .int .i32 10217] from (k71_mkM _ _ _ (⟨10216, 10217⟩ : S71) )) (Reps.c2 (show Kd.M k71 _ _ _ (⟨10218, 10219⟩ : S71) [.int .i32 10218, .int .i32 10219] from (k71_mkM _ _ _ (⟨10218, 10219⟩ : S71) )) (Reps.c2 (show Kd.M k71 _ _ _ (⟨10220, 10221⟩ : S71) [.int .i32 10220, .int .i32 10221] from (k71_mkM _ _ _ (⟨10220, 10221⟩ : S71) )) (Reps.c2 (show Kd.M k71 _ _ _ (⟨10222, 10223⟩ : S71) [.int .i32 10222, .int .i32 10223] from (k71_mkM _ _ _ (⟨10222, 10223⟩ : S71) )) (Reps.c2 (show Kd.M k71 _ _ _ (⟨12296, 12297⟩ : S71) [.int .i32 12296, .int .i32 12297] from (k71_mkM _ _ _ (⟨12296, 12297⟩ : S71) )) (Reps.c2 (show Kd.M k71 _ _ _ (⟨12298, 12299⟩ : S71) [.int .i32 12298, .int .i32 12299] from (k71_mkM _ _ _ (⟨12298, 12299⟩ : S71) )) (Reps.c2 (show Kd.M k71 _ _ _ (⟨12300, 12301⟩ : S71) [.int .i32 12300, .int .i32 12301] from (k71_mkM _ _ _ (⟨12300, 12301⟩ : S71) )) (Reps.c2 (show Kd.M k71 _ _ _ (⟨12302, 12303⟩ : S71) [.int .i32 12302, .int .i32 12303] from (k71_mkM _ _ _ (⟨12302, 12303⟩ : S71) )) (Reps.c2 (show Kd.M k71 _ _ _ (⟨12304, 12305⟩ : S71) [.int .i32 12304, .int .i32 12305] from (k71_mkM _ _ _ (⟨12304, 12305⟩ : S71) )) (Reps.c2 (show Kd.M k71 _ _ _ (⟨12308, 12309⟩ : S71) [.int .i32 12308, .int .i32 12309] from (k71_mkM _ _ _ (⟨12308, 12309⟩ : S71) )) (Reps.c2 (show Kd.M k71 _ _ _ (⟨12310, 12311⟩ : S71) [.int .i32 12310, .int .i32 12311] from (k71_mkM _ _ _ (⟨12310, 12311⟩ : S71) )) (Reps.c2 (show Kd.M k71 _ _ _ (⟨12312, 12313⟩ : S71) [.int .i32 12312, .int .i32 12313] from (k71_mkM _ _ _ (⟨12312, 12313⟩ : S71) )) (Reps.c2 (show Kd.M k71 _ _ _ (⟨12314, 12315⟩ : S71) [.int .i32 12314, .int .i32 12315] from (k71_mkM _ _ _ (⟨12314, 12315⟩ : S71) )) (Reps.none _ _))))))))))))))))))))))))); intro v313 w1 ho2 hb hg_ hnew_; clear hg_ hnew_; (first | rw [← Ny312.out] at ho2 | (simp only [Int.reduceToNat] at ho2; rw [← Ny312.out] at ho2)); have n0_ := Aside0.mk (Kd.R_lower ho2 (below_size bq)); have n1_ := Aside0.mk (below_step bq hb); clear HB; have HO314 := n0_; have HB := n1_; clear n0_ n1_; clear hb ho2))); go_ret; (exact ⟨_, by first | rfl | (simp [errW_none, errW_some] <;> rfl) | (simp [*, errW_none, errW_some] <;> rfl), kr HO314, bq⟩)

/-! ### calamusref02_Bracket: function 29 -/
mutual
def calamusref02_Bracket.l0 : Nat → Int → List (S71) → Int → Option (Int × Bool × Bool)
  | 0, _, _, _ => none
  | k + 1, x0, x5, x6 => if x6 < (x5.length : Int) then (if 0 ≤ x6 then (if x0 = ((rd_T71 x5 x6).f0) then (calamusref02_Bracket.j1 k x0 x5 x6 false) else (calamusref02_Bracket.j1 k x0 x5 x6 (x0 != ((rd_T71 x5 x6).f1)))) else (none)) else (some (0, false, false))
def calamusref02_Bracket.j1 : Nat → Int → List (S71) → Int → Bool → Option (Int × Bool × Bool)
  | 0, _, _, _, _ => none
  | k + 1, x0, x5, x6, x29 => if x29 = true then (calamusref02_Bracket.l0 k x0 x5 (wrap64 (x6 + 1))) else (if 0 ≤ x6 then (if x6 < (x5.length : Int) then (if ((rd_T71 x5 x6).f1) = 9002 then (some (12297, (x0 == ((rd_T71 x5 x6).f0)), true)) else (some ((rd_T71 x5 x6).f1, (x0 == ((rd_T71 x5 x6).f0)), true))) else (none)) else (none))
end
def calamusref02_Bracket.f (k : Nat) (a0 : Int) : Option (Int × Bool × Bool) := (calamusref02_Brackets.f).bind fun t315 => (calamusref02_Bracket.l0 k a0 t315 0)
theorem calamusref02_Bracket.mono_l : ∀ k, (∀ y0 y1 y2, LeO (calamusref02_Bracket.l0 k y0 y1 y2) (calamusref02_Bracket.l0 (k + 1) y0 y1 y2)) ∧ (∀ y0 y1 y2 y3, LeO (calamusref02_Bracket.j1 k y0 y1 y2 y3) (calamusref02_Bracket.j1 (k + 1) y0 y1 y2 y3))
  | 0 => ⟨fun _ _ _ r h => by simp [calamusref02_Bracket.l0] at h, fun _ _ _ _ r h => by simp [calamusref02_Bracket.j1] at h⟩
  | k + 1 => by
    obtain ⟨ih0, ih1⟩ := calamusref02_Bracket.mono_l k
    refine ⟨?_, ?_⟩
    · intro y0 y1 y2
      unfold calamusref02_Bracket.l0
      repeat' first
      | (with_reducible exact ih0 _ _ _)
      | (with_reducible exact ih1 _ _ _ _)
      | (with_reducible exact LeO.refl _)
      | (with_reducible exact LeO.none _)
      | (with_reducible refine LeO.ite ?_ ?_)
      | (with_reducible refine LeO.bind ?_ (fun _ => ?_))
      | exact ih0 _ _ _
      | exact ih1 _ _ _ _
      | exact LeO.none _
      | refine LeO.ite ?_ ?_
      | refine LeO.bind ?_ (fun _ => ?_)
    · intro y0 y1 y2 y3
      unfold calamusref02_Bracket.j1
      repeat' first
      | (with_reducible exact ih0 _ _ _)
      | (with_reducible exact ih1 _ _ _ _)
      | (with_reducible exact LeO.refl _)
      | (with_reducible exact LeO.none _)
      | (with_reducible refine LeO.ite ?_ ?_)
      | (with_reducible refine LeO.bind ?_ (fun _ => ?_))
      | exact ih0 _ _ _
      | exact ih1 _ _ _ _
      | exact LeO.none _
      | refine LeO.ite ?_ ?_
      | refine LeO.bind ?_ (fun _ => ?_)
theorem calamusref02_Bracket.mono : ∀ a0 k, LeO (calamusref02_Bracket.f k a0) (calamusref02_Bracket.f (k + 1) a0) := by
  intro a0 k; (obtain ⟨ih0, ih1⟩ := calamusref02_Bracket.mono_l k); unfold calamusref02_Bracket.f
  repeat' first
      | (with_reducible exact ih0 _ _ _)
      | (with_reducible exact ih1 _ _ _ _)
      | (with_reducible exact LeO.refl _)
      | (with_reducible exact LeO.none _)
      | (with_reducible refine LeO.ite ?_ ?_)
      | (with_reducible refine LeO.bind ?_ (fun _ => ?_))
      | exact ih0 _ _ _
      | exact ih1 _ _ _ _
      | exact LeO.none _
      | refine LeO.ite ?_ ?_
      | refine LeO.bind ?_ (fun _ => ?_)
set_option maxHeartbeats 8000000 in
set_option maxRecDepth 100000 in
theorem calamusref02_Bracket.calls (k : Nat) (a0 : Int) (r1 : Int) (r2 : Bool) (r3 : Bool) (w : World) (h : calamusref02_Bracket.f k a0 = some (r1, r2, r3)) :
    Calls Tryd.prog 29 #[.int .i32 a0] w fun e w' => e = .returned (.tuple #[.int .i32 r1, .bool r2, .bool r3]) ∧ Below w.heap.size w w' := by
  (have HB := Aside0.mk (Below.refl w.heap.size w)); (have H : ((calamusref02_Brackets.f).bind fun t315 => (calamusref02_Bracket.l0 k a0 t315 0)) = some (r1, r2, r3) := h); clear h; (replace H := Option.bind_eq_some_iff.mp H); (obtain ⟨t315, A20, H⟩ := H); (replace H : (calamusref02_Bracket.l0 k a0 t315 0) = some (r1, r2, r3) := H); (have A2 := Aside0.mk A20); clear A20; (have H' := Aside0.mk H); clear H; (go_enter Tryd.func29, Tryd.ntmps29); (go_wp2_with (first | (go_at_call 54; (with_reducible refine (calamusref02_Brackets.calls  t315 _ A2.out).mono ?_); rintro e w3 ⟨v316, rfl, ho0, hb⟩; have n0_ := Aside0.mk (Kd.R_lower ho0 (below_size bq)); have n1_ := Aside0.mk (below_step bq hb); clear HB; have HO317 := n0_; have HB := n1_; clear n0_ n1_; (try clear hb); (try clear hb2); (try clear hk); (try clear hi); (try clear ho0)))); (repeat (go_quiet (first | (go_at_call 54; (with_reducible refine (calamusref02_Brackets.calls  t315 _ A2.out).mono ?_); rintro e w3 ⟨v316, rfl, ho0, hb⟩; have n0_ := Aside0.mk (Kd.R_lower ho0 (below_size bq)); have n1_ := Aside0.mk (below_step bq hb); clear HB; have HO317 := n0_; have HB := n1_; clear n0_ n1_; (try clear hb); (try clear hb2); (try clear hk); (try clear hi); (try clear ho0))); try go_wp2_with (first | (go_at_call 54; (with_reducible refine (calamusref02_Brackets.calls  t315 _ A2.out).mono ?_); rintro e w3 ⟨v316, rfl, ho0, hb⟩; have n0_ := Aside0.mk (Kd.R_lower ho0 (below_size bq)); have n1_ := Aside0.mk (below_step bq hb); clear HB; have HO317 := n0_; have HB := n1_; clear n0_ n1_; (try clear hb); (try clear hb2); (try clear hk); (try clear hi); (try clear ho0))))); (go_loopg [6] k (fun kq v6 w' => ∃ (x6_1 : Int), v6 = .int .i64 x6_1 ∧ Aside0 (calamusref02_Bracket.l0 kq a0 t315 x6_1 = some (r1, r2, r3)) ∧ Aside0 (kq ≤ k) ∧ Aside0 (Kd.R k71 71 w' w.heap.size (fun _ => True) v316 t315) ∧ Aside0 (Below w.heap.size w w')))
  case atStart => exact ⟨(0), rq, H', ⟨Nat.le_refl _⟩, ⟨kr HO317⟩, ⟨bq⟩⟩
  case round =>
    clear H'; (try clear c2); (try clear p2); (obtain ⟨x6_1, rfl, HA, HK1, HO_5, HB⟩ := hrel)
    cases gk with
    | zero => exact absurd HA.out (by simp [calamusref02_Bracket.l0])
    | succ k1 =>
      (have H := HA.out); clear HA; (simp only [calamusref02_Bracket.l0] at H); (by_cases c4 : x6_1 < (t315.length : Int))
      · (rw [if_pos c4] at H); (have c4b0 : decide (x6_1 < (t315.length : Int)) = true := decide_eq_true c4); clear c4; (have HC5 := Aside0.mk H); clear H; (obtain ⟨Ao6, co6, eo6⟩ := Kd.R_slice HO_5.out); subst eo6; (go_upto_region 5 with (fail)); (repeat (go_quiet (fail); go_upto_region 5 with (fail))); (go_cut [29] (fun v29 wc => ∃ (kq : Nat) (x29_4 : Bool), v29 = .bool x29_4 ∧ Aside0 (calamusref02_Bracket.j1 kq a0 t315 x6_1 x29_4 = some (r1, r2, r3)) ∧ Aside0 (kq ≤ k1) ∧ Aside0 (Kd.R k71 71 wc w.heap.size (fun _ => True) (.slice Ao6 t315.length co6) t315) ∧ Aside0 (Below w.heap.size w wc)))
        case first =>
          (have H := HC5.out); clear HC5; (by_cases c7 : 0 ≤ x6_1)
          · (rw [if_pos c7] at H); (have c7b0 : decide (0 ≤ x6_1) = true := decide_eq_true c7); clear c7; ((first | rw [c7b0] | (simp only [i64_w, i32_w]; rw [c7b0]) | skip)); (by_cases c8 : a0 = ((rd_T71 t315 x6_1).f0))
            · (rw [if_pos c8] at H); (have c8b0 : (a0 == ((rd_T71 t315 x6_1).f0)) = true := beq_iff_eq.mpr c8); (have c8b1 : (a0 != ((rd_T71 t315 x6_1).f0)) = false := bne_eq_false_iff_eq.mpr c8); clear c8; (have H' := Aside0.mk H); clear H; (have p318 : 0 ≤ (x6_1 : Int) := of_decide_eq_true as_); (have q318 : x6_1 < (t315.length : Int) := of_decide_eq_true as_); (obtain ⟨ad318, e318, hx318_0, hx318_1⟩ := at_T71 (Kd.R_reads' HO_5.out).2.2 x6_1 p318 q318)
              cases e318
              (replace p318 := eq_true p318); (replace q318 := eq_true q318); (go_wp2); (repeat (go_quiet (fail); try go_wp2)); go_meet
              case rel => exact ⟨_, (false), rq, H', ⟨by have := HK1.out; first | omega | exact Nat.le_refl _⟩, ⟨kr HO_5⟩, ⟨bq⟩⟩
            · (rw [if_neg c8] at H); (have c8b0 : (a0 == ((rd_T71 t315 x6_1).f0)) = false := beq_eq_false_iff_ne.mpr c8); (have c8b1 : (a0 != ((rd_T71 t315 x6_1).f0)) = true := bne_iff_ne.mpr c8); (have H' := Aside0.mk H); clear H; (have p318 : 0 ≤ (x6_1 : Int) := of_decide_eq_true as_); (have q318 : x6_1 < (t315.length : Int) := of_decide_eq_true as_); (obtain ⟨ad318, e318, hx318_0, hx318_1⟩ := at_T71 (Kd.R_reads' HO_5.out).2.2 x6_1 p318 q318)
              cases e318
              (replace p318 := eq_true p318); (replace q318 := eq_true q318); (have p319 : 0 ≤ (x6_1 : Int) := of_decide_eq_true as_); (have q319 : x6_1 < (t315.length : Int) := of_decide_eq_true as_); (obtain ⟨ad319, e319, hx319_0, hx319_1⟩ := at_T71 (Kd.R_reads' HO_5.out).2.2 x6_1 p319 q319); (obtain rfl : ad318 = ad319 := (by injection e319)); (replace p319 := eq_true p319); (replace q319 := eq_true q319); (go_wp2); (repeat (go_quiet (fail); try go_wp2)); go_meet
              case rel => exact ⟨_, ((a0 != ((rd_T71 t315 x6_1).f1))), rq, H', ⟨by have := HK1.out; first | omega | exact Nat.le_refl _⟩, ⟨kr HO_5⟩, ⟨bq⟩⟩
          · (rw [if_neg c7] at H); (exact absurd H (by simp))
        case rest =>
          clear HC5; (try clear c2); (try clear p2); (try clear p3); (try clear q3); (try clear hx3); (try clear c4); (try clear c4b0); (try clear c7); (try clear c7b0); (try clear c8); (try clear c8b0); (try clear c8b1); (try clear hx318_0); (try clear hx318_1); (try clear hx319_0); (try clear hx319_1); (try clear p2); (try clear p318); (try clear p319); (try clear q318); (try clear q319); (obtain ⟨kq, x29_4, rfl, HA, HJ4, HO_5, HB⟩ := hcut)
          cases kq with
          | zero => exact absurd HA.out (by simp [calamusref02_Bracket.j1])
          | succ kj4 =>
            (have H := HA.out); clear HA; (simp only [calamusref02_Bracket.j1] at H); (by_cases c9 : x29_4 = true)
            · subst c9; (have H1 : (calamusref02_Bracket.l0 kj4 a0 t315 (wrap64 (x6_1 + 1))) = some (r1, r2, r3) := by rw [if_pos rfl] at H; exact H); clear H; (have H := H1); clear H1; (have H' := Aside0.mk H); clear H; (go_wp2); (repeat (go_quiet (fail); try go_wp2)); go_roundg kj4
              case measure => have := HK1.out; have := HJ4.out; omega
              case rel => exact ⟨(wrap64 (x6_1 + 1)), rq, H', ⟨by have := HK1.out; have := HJ4.out; omega⟩, ⟨kr HO_5⟩, ⟨bq⟩⟩
            · (replace c9 := Bool.eq_false_iff.mpr c9); subst c9; (have H1 : (if 0 ≤ x6_1 then (if x6_1 < (t315.length : Int) then (if ((rd_T71 t315 x6_1).f1) = 9002 then (some (12297, (a0 == ((rd_T71 t315 x6_1).f0)), true)) else (some ((rd_T71 t315 x6_1).f1, (a0 == ((rd_T71 t315 x6_1).f0)), true))) else (none)) else (none)) = some (r1, r2, r3) := by rw [if_neg (show ¬ (false = true) by decide)] at H; exact H); clear H; (have H := H1); clear H1; (by_cases c10 : 0 ≤ x6_1)
              · (rw [if_pos c10] at H); (have c10b0 : decide (0 ≤ x6_1) = true := decide_eq_true c10); clear c10; (by_cases c11 : x6_1 < (t315.length : Int))
                · (rw [if_pos c11] at H); (have c11b0 : decide (x6_1 < (t315.length : Int)) = true := decide_eq_true c11); clear c11; (by_cases c12 : ((rd_T71 t315 x6_1).f1) = 9002)
                  · (rw [if_pos c12] at H); (have c12b0 : (((rd_T71 t315 x6_1).f1) == 9002) = true := beq_iff_eq.mpr c12); (have c12b1 : (((rd_T71 t315 x6_1).f1) != 9002) = false := bne_eq_false_iff_eq.mpr c12); clear c12; (simp only [Option.some.injEq, Prod.mk.injEq] at H); (obtain ⟨rfl, rfl, rfl⟩ := H); (have p320 : 0 ≤ (x6_1 : Int) := of_decide_eq_true as_); (have q320 : x6_1 < (t315.length : Int) := of_decide_eq_true as_); (obtain ⟨ad320, e320, hx320_0, hx320_1⟩ := at_T71 (Kd.R_reads' HO_5.out).2.2 x6_1 p320 q320)
                    cases e320
                    (replace p320 := eq_true p320); (replace q320 := eq_true q320); (have p321 : 0 ≤ (x6_1 : Int) := of_decide_eq_true as_); (have q321 : x6_1 < (t315.length : Int) := of_decide_eq_true as_); (obtain ⟨ad321, e321, hx321_0, hx321_1⟩ := at_T71 (Kd.R_reads' HO_5.out).2.2 x6_1 p321 q321); (obtain rfl : ad320 = ad321 := (by injection e321)); (replace p321 := eq_true p321); (replace q321 := eq_true q321); (go_wp2); (repeat (go_quiet (fail); try go_wp2)); (go_ret3); (exact ⟨by first | rfl | (simp [errW_none, errW_some] <;> rfl) | (simp [*, errW_none, errW_some] <;> rfl), bq⟩)
                  · (rw [if_neg c12] at H); (have c12b0 : (((rd_T71 t315 x6_1).f1) == 9002) = false := beq_eq_false_iff_ne.mpr c12); (have c12b1 : (((rd_T71 t315 x6_1).f1) != 9002) = true := bne_iff_ne.mpr c12); (simp only [Option.some.injEq, Prod.mk.injEq] at H); (obtain ⟨rfl, rfl, rfl⟩ := H); (have p320 : 0 ≤ (x6_1 : Int) := of_decide_eq_true as_); (have q320 : x6_1 < (t315.length : Int) := of_decide_eq_true as_); (obtain ⟨ad320, e320, hx320_0, hx320_1⟩ := at_T71 (Kd.R_reads' HO_5.out).2.2 x6_1 p320 q320)
                    cases e320
                    (replace p320 := eq_true p320); (replace q320 := eq_true q320); (have p322 : 0 ≤ (x6_1 : Int) := of_decide_eq_true as_); (have q322 : x6_1 < (t315.length : Int) := of_decide_eq_true as_); (obtain ⟨ad322, e322, hx322_0, hx322_1⟩ := at_T71 (Kd.R_reads' HO_5.out).2.2 x6_1 p322 q322); (obtain rfl : ad320 = ad322 := (by injection e322)); (replace p322 := eq_true p322); (replace q322 := eq_true q322); (have p323 : 0 ≤ (x6_1 : Int) := of_decide_eq_true as_); (have q323 : x6_1 < (t315.length : Int) := of_decide_eq_true as_); (obtain ⟨ad323, e323, hx323_0, hx323_1⟩ := at_T71 (Kd.R_reads' HO_5.out).2.2 x6_1 p323 q323); (obtain rfl : ad320 = ad323 := (by injection e323)); (replace p323 := eq_true p323); (replace q323 := eq_true q323); (go_wp2); (repeat (go_quiet (fail); try go_wp2)); (go_ret3); (exact ⟨by first | rfl | (simp [errW_none, errW_some] <;> rfl) | (simp [*, errW_none, errW_some] <;> rfl), bq⟩)
                · (rw [if_neg c11] at H); (exact absurd H (by simp))
              · (rw [if_neg c10] at H); (exact absurd H (by simp))
      · (rw [if_neg c4] at H); (have c4b0 : decide (x6_1 < (t315.length : Int)) = false := decide_eq_false c4); clear c4; (simp only [Option.some.injEq, Prod.mk.injEq] at H); (obtain ⟨rfl, rfl, rfl⟩ := H); (obtain ⟨Ao13, co13, eo13⟩ := Kd.R_slice HO_5.out); subst eo13; (go_wp2); (repeat (go_quiet (fail); try go_wp2)); (go_ret3); (exact ⟨by first | rfl | (simp [errW_none, errW_some] <;> rfl) | (simp [*, errW_none, errW_some] <;> rfl), bq⟩)

end Go.Proofs.YtfnkpjkbgfgbkaaDoor.Pr
