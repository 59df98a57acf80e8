-- Written for this claim by a program of this session over the translation. Lean checks it.
import Derived.Test.YtfnkpjkbgfgbkaaDoorPV
import Derived.Test.YtfnkpjkbgfgbkaaDoorPr0
namespace Go.Proofs.YtfnkpjkbgfgbkaaDoor.Pr
open Go.RowKit Go.Proofs.YtfnkpjkbgfgbkaaDoorW.PrintWords Go.Proofs.YtfnkpjkbgfgbkaaDoorW.PrintLast Go.Proofs.YtfnkpjkbgfgbkaaDoorW.PrintMore
attribute [local go_sem] max2_int min2_int max_two min_two max_three min_three max_four min_four   -- for this text's walks alone
set_option linter.unusedVariables false
set_option linter.unusedSimpArgs false

/-! ### ucd_of: function 57 -/
mutual
def ucd_of.j0 : Nat → Int → List (S80) → Int → Bool → Option (Int)
  | 0, _, _, _, _ => none
  | k + 1, x0, x1, x2, x14 => if x14 = true then (some x2) else (ucd_of.l0 k x0 x2 x1 (x1.length : Int) 0)
def ucd_of.l0 : Nat → Int → Int → List (S80) → Int → Int → Option (Int)
  | 0, _, _, _, _, _ => none
  | k + 1, x0, x2, x16, x17, x18 => if x18 < x17 then (if 0 ≤ x18 then (if x18 < (x16.length : Int) then (if x0 ≥ ((rd_T80 x16 x18).f0) then (if x0 ≤ ((rd_T80 x16 x18).f1) then (some ((rd_T80 x16 x18).f2)) else (ucd_of.l0 k x0 x2 x16 x17 (wrap64 (x18 + 1)))) else (ucd_of.l0 k x0 x2 x16 x17 (wrap64 (x18 + 1)))) else (none)) else (none)) else (some x2)
end
def ucd_of.f (k : Nat) (a0 : Int) (l1 : List (S80)) (a2 : Int) : Option (Int) := if a0 < 0 then (ucd_of.j0 k a0 l1 a2 true) else (ucd_of.j0 k a0 l1 a2 (decide (a0 ≥ 1114112)))
theorem ucd_of.mono_l : ∀ k, (∀ y0 y1 y2 y3, LeO (ucd_of.j0 k y0 y1 y2 y3) (ucd_of.j0 (k + 1) y0 y1 y2 y3)) ∧ (∀ y0 y1 y2 y3 y4, LeO (ucd_of.l0 k y0 y1 y2 y3 y4) (ucd_of.l0 (k + 1) y0 y1 y2 y3 y4))
  | 0 => ⟨fun _ _ _ _ r h => by simp [ucd_of.j0] at h, fun _ _ _ _ _ r h => by simp [ucd_of.l0] at h⟩
  | k + 1 => by
    obtain ⟨ih0, ih1⟩ := ucd_of.mono_l k
    refine ⟨?_, ?_⟩
    · intro y0 y1 y2 y3
      unfold ucd_of.j0
      repeat' first
      | (with_reducible exact ih0 _ _ _ _)
      | (with_reducible exact ih1 _ _ _ _ _)
      | (with_reducible exact LeO.refl _)
      | (with_reducible exact LeO.none _)
      | (with_reducible refine LeO.ite ?_ ?_)
      | (with_reducible refine LeO.bind ?_ (fun _ => ?_))
      | exact ih0 _ _ _ _
      | exact ih1 _ _ _ _ _
      | exact LeO.none _
      | refine LeO.ite ?_ ?_
      | refine LeO.bind ?_ (fun _ => ?_)
    · intro y0 y1 y2 y3 y4
      unfold ucd_of.l0
      repeat' first
      | (with_reducible exact ih0 _ _ _ _)
      | (with_reducible exact ih1 _ _ _ _ _)
      | (with_reducible exact LeO.refl _)
      | (with_reducible exact LeO.none _)
      | (with_reducible refine LeO.ite ?_ ?_)
      | (with_reducible refine LeO.bind ?_ (fun _ => ?_))
      | exact ih0 _ _ _ _
      | exact ih1 _ _ _ _ _
      | exact LeO.none _
      | refine LeO.ite ?_ ?_
      | refine LeO.bind ?_ (fun _ => ?_)
theorem ucd_of.mono : ∀ a0 a1 a2 k, LeO (ucd_of.f k a0 a1 a2) (ucd_of.f (k + 1) a0 a1 a2) := by
  intro a0 a1 a2 k; (obtain ⟨ih0, ih1⟩ := ucd_of.mono_l k); unfold ucd_of.f
  repeat' first
      | (with_reducible exact ih0 _ _ _ _)
      | (with_reducible exact ih1 _ _ _ _ _)
      | (with_reducible exact LeO.refl _)
      | (with_reducible exact LeO.none _)
      | (with_reducible refine LeO.ite ?_ ?_)
      | (with_reducible refine LeO.bind ?_ (fun _ => ?_))
      | exact ih0 _ _ _ _
      | exact ih1 _ _ _ _ _
      | exact LeO.none _
      | refine LeO.ite ?_ ?_
      | refine LeO.bind ?_ (fun _ => ?_)
set_option maxHeartbeats 8000000 in
set_option maxRecDepth 100000 in
theorem ucd_of.calls (k : Nat) (a0 : Int) (A1 : Option Addr) (c1 : Nat) (l1 : List (S80)) (a2 : Int) (r : Int) (w : World) (hr1 : Kd.C k80 w A1 l1.length l1) (hc1 : l1.length ≤ c1) (h : ucd_of.f k a0 l1 a2 = some r) :
    Calls Tryd.prog 57 #[.int .i32 a0, .slice A1 l1.length c1, .int .u8 a2] w fun e w' => e = .returned (.int .u8 r) ∧ Below w.heap.size w w' := by
  (have hu80 := Tryd.underlying80); (have HR1 := Aside0.mk hr1); (have HC1 := Aside0.mk hc1); clear hr1 hc1; (have HB := Aside0.mk (Below.refl w.heap.size w)); (have H : (if a0 < 0 then (ucd_of.j0 k a0 l1 a2 true) else (ucd_of.j0 k a0 l1 a2 (decide (a0 ≥ 1114112)))) = some r := h); clear h; (have HC4 := Aside0.mk H); clear H; (go_enter Tryd.func57, Tryd.ntmps57); (go_upto_region 1 with (fail)); (go_cut [14] (fun v14 wc => ∃ (kq : Nat) (x14_3 : Bool), v14 = .bool x14_3 ∧ Aside0 (ucd_of.j0 kq a0 l1 a2 x14_3 = some r) ∧ Aside0 (kq ≤ k) ∧ Aside0 (Below w.heap.size w wc)))
  case first =>
    (have H := HC4.out); clear HC4; (by_cases c5 : a0 < 0)
    · (rw [if_pos c5] at H); (have c5b0 : decide (a0 < 0) = true := decide_eq_true c5); clear c5; ((first | rw [c5b0] | (simp only [i64_w, i32_w]; rw [c5b0]) | skip)); (have H' := Aside0.mk H); clear H; (go_wp2); go_meet
      case rel => exact ⟨_, (true), rq, H', ⟨by first | omega | exact Nat.le_refl _⟩, ⟨bq⟩⟩
    · (rw [if_neg c5] at H); (have c5b0 : decide (a0 < 0) = false := decide_eq_false c5); clear c5; ((first | rw [c5b0] | (simp only [i64_w, i32_w]; rw [c5b0]) | skip)); (have H' := Aside0.mk H); clear H; (go_wp2); go_meet
      case rel => exact ⟨_, (decide (a0 ≥ 1114112)), rq, H', ⟨by first | omega | exact Nat.le_refl _⟩, ⟨bq⟩⟩
  case rest =>
    clear HC4; (try clear c1); (try clear p2); (try clear c5); (try clear c5b0); (obtain ⟨kq, x14_3, rfl, HA, HJ3, HB⟩ := hcut)
    cases kq with
    | zero => exact absurd HA.out (by simp [ucd_of.j0])
    | succ kj3 =>
      (have H := HA.out); clear HA; (simp only [ucd_of.j0] at H); (by_cases c6 : x14_3 = true); (· subst c6; (have H1 : (some a2) = some r := by rw [if_pos rfl] at H; exact H); clear H; (have H := H1); clear H1; (obtain rfl := Option.some.inj H); (go_wp2); go_ret; (exact ⟨by first | rfl | (simp [errW_none, errW_some] <;> rfl) | (simp [*, errW_none, errW_some] <;> rfl), bq⟩))
      · (replace c6 := Bool.eq_false_iff.mpr c6); subst c6; (have H1 : (ucd_of.l0 kj3 a0 a2 l1 (l1.length : Int) 0) = some r := by rw [if_neg (show ¬ (false = true) by decide)] at H; exact H); clear H; (have H := H1); clear H1; (have H' := Aside0.mk H); clear H; (go_wp2); (go_loopg [18] kj3 (fun kq v18 w' => ∃ (x18_2 : Int), v18 = .int .i64 x18_2 ∧ Aside0 (ucd_of.l0 kq a0 a2 l1 (l1.length : Int) x18_2 = some r) ∧ Aside0 (kq ≤ kj3) ∧ Aside0 (Below w.heap.size w w')))
        case atStart => exact ⟨(0), rq, H', ⟨Nat.le_refl _⟩, ⟨bq⟩⟩
        case round =>
          clear H'; (try clear c1); (try clear p2); (try clear c5); (try clear c5b0); (try clear c6); (try clear p2); (obtain ⟨x18_2, rfl, HA, HK2, HB⟩ := hrel)
          cases gk with
          | zero => exact absurd HA.out (by simp [ucd_of.l0])
          | succ k2 =>
            (have H := HA.out); clear HA; (simp only [ucd_of.l0] at H); (by_cases c7 : x18_2 < (l1.length : Int))
            · (rw [if_pos c7] at H); (have c7b0 : decide (x18_2 < (l1.length : Int)) = true := decide_eq_true c7); clear c7; (by_cases c8 : 0 ≤ x18_2)
              · (rw [if_pos c8] at H); (have c8b0 : decide (0 ≤ x18_2) = true := decide_eq_true c8); clear c8; (by_cases c9 : x18_2 < (l1.length : Int))
                · (rw [if_pos c9] at H); (have c9b0 : decide (x18_2 < (l1.length : Int)) = true := decide_eq_true c9); clear c9; (by_cases c10 : a0 ≥ ((rd_T80 l1 x18_2).f0))
                  · (rw [if_pos c10] at H); (have c10b0 : decide (((rd_T80 l1 x18_2).f0) ≤ a0) = true := decide_eq_true c10); clear c10; (by_cases c11 : a0 ≤ ((rd_T80 l1 x18_2).f1))
                    · (rw [if_pos c11] at H); (have c11b0 : decide (a0 ≤ ((rd_T80 l1 x18_2).f1)) = true := decide_eq_true c11); clear c11; (obtain rfl := Option.some.inj H); (have p140 : 0 ≤ (x18_2 : Int) := of_decide_eq_true as_); (have q140 : x18_2 < (l1.length : Int) := of_decide_eq_true as_); (obtain ⟨ad140, e140, hx140_0, hx140_1, hx140_2⟩ := at_T80 HR1.out x18_2 p140 q140)
                      cases e140
                      (replace hx140_0 := (HB.out.cell (World.block_lt_of_cell? w _ hx140_0)).trans hx140_0); (replace hx140_1 := (HB.out.cell (World.block_lt_of_cell? w _ hx140_1)).trans hx140_1); (replace hx140_2 := (HB.out.cell (World.block_lt_of_cell? w _ hx140_2)).trans hx140_2); (replace p140 := eq_true p140); (replace q140 := eq_true q140); (go_wp2_with (first | ((with_reducible refine gate_dst (N := 8) rfl ?_); refine box_event ?hg (N := 8) ?hd (cs := #[.int .i32 0, .int .i32 0, .int .u8 0]) (t := 80) ?hr ?_; (case hd => rfl); (case hg => rfl); (case hr => first | (go_simp; done) | (go_simp; rfl)); intro gb141 hg w12 hbox hb; have n0_ := Aside0.mk (below_step bq hb); have n1_ := Aside0.mk (hbox); have n2_ := Aside0.mk ((by rw [hg]; exact (below_size bq) : w.heap.size ≤ gb141)); have n3_ := Aside0.mk ((by rw [hg]; exact (below_size bq) : w.heap.size ≤ gb141)); clear HB; have HB := n0_; have BK141 := n1_; have GW141 := n2_; have GE141 := n3_; clear n0_ n1_ n2_ n3_; clear hb hbox hg; have hcz13_0 : w12.cell? ⟨gb141, 0, none⟩ = some (.int .i32 0) := (blk_cell BK141.out 0).trans rfl; have hcz13_1 : w12.cell? ⟨gb141, 1, none⟩ = some (.int .i32 0) := (blk_cell BK141.out 1).trans rfl; have hcz13_2 : w12.cell? ⟨gb141, 2, none⟩ = some (.int .u8 0) := (blk_cell BK141.out 2).trans rfl; have hfz13_0 := blk_frozen BK141.out 0; have hfz13_1 := blk_frozen BK141.out 1; have hfz13_2 := blk_frozen BK141.out 2))); go_ret; (exact ⟨by first | rfl | (simp [errW_none, errW_some] <;> rfl) | (simp [*, errW_none, errW_some] <;> rfl), by repeat (first | (with_reducible first | exact HB.out | apply below_alloc | apply pw_below_drewN | apply below_drew1 | refine below_set ?_ GE141.out) | exact HB.out)⟩)
                    · (rw [if_neg c11] at H); (have c11b0 : decide (a0 ≤ ((rd_T80 l1 x18_2).f1)) = false := decide_eq_false c11); clear c11; (have H' := Aside0.mk H); clear H; (have p140 : 0 ≤ (x18_2 : Int) := of_decide_eq_true as_); (have q140 : x18_2 < (l1.length : Int) := of_decide_eq_true as_); (obtain ⟨ad140, e140, hx140_0, hx140_1, hx140_2⟩ := at_T80 HR1.out x18_2 p140 q140)
                      cases e140
                      (replace hx140_0 := (HB.out.cell (World.block_lt_of_cell? w _ hx140_0)).trans hx140_0); (replace hx140_1 := (HB.out.cell (World.block_lt_of_cell? w _ hx140_1)).trans hx140_1); (replace hx140_2 := (HB.out.cell (World.block_lt_of_cell? w _ hx140_2)).trans hx140_2); (replace p140 := eq_true p140); (replace q140 := eq_true q140); (go_wp2_with (first | ((with_reducible refine gate_dst (N := 8) rfl ?_); refine box_event ?hg (N := 8) ?hd (cs := #[.int .i32 0, .int .i32 0, .int .u8 0]) (t := 80) ?hr ?_; (case hd => rfl); (case hg => rfl); (case hr => first | (go_simp; done) | (go_simp; rfl)); intro gb141 hg w14 hbox hb; have n0_ := Aside0.mk (below_step bq hb); have n1_ := Aside0.mk (hbox); have n2_ := Aside0.mk ((by rw [hg]; exact (below_size bq) : w.heap.size ≤ gb141)); have n3_ := Aside0.mk ((by rw [hg]; exact (below_size bq) : w.heap.size ≤ gb141)); clear HB; have HB := n0_; have BK141 := n1_; have GW141 := n2_; have GE141 := n3_; clear n0_ n1_ n2_ n3_; clear hb hbox hg; have hcz15_0 : w14.cell? ⟨gb141, 0, none⟩ = some (.int .i32 0) := (blk_cell BK141.out 0).trans rfl; have hcz15_1 : w14.cell? ⟨gb141, 1, none⟩ = some (.int .i32 0) := (blk_cell BK141.out 1).trans rfl; have hcz15_2 : w14.cell? ⟨gb141, 2, none⟩ = some (.int .u8 0) := (blk_cell BK141.out 2).trans rfl; have hfz15_0 := blk_frozen BK141.out 0; have hfz15_1 := blk_frozen BK141.out 1; have hfz15_2 := blk_frozen BK141.out 2))); go_roundg k2
                      case measure => have := HJ3.out; have := HK2.out; omega
                      case rel => exact ⟨(wrap64 (x18_2 + 1)), rq, H', ⟨by have := HJ3.out; have := HK2.out; omega⟩, ⟨by repeat (first | (with_reducible first | exact HB.out | apply below_alloc | apply pw_below_drewN | apply below_drew1 | refine below_set ?_ GE141.out) | exact HB.out)⟩⟩
                  · (rw [if_neg c10] at H); (have c10b0 : decide (((rd_T80 l1 x18_2).f0) ≤ a0) = false := decide_eq_false c10); clear c10; (have H' := Aside0.mk H); clear H; (have p140 : 0 ≤ (x18_2 : Int) := of_decide_eq_true as_); (have q140 : x18_2 < (l1.length : Int) := of_decide_eq_true as_); (obtain ⟨ad140, e140, hx140_0, hx140_1, hx140_2⟩ := at_T80 HR1.out x18_2 p140 q140)
                    cases e140
                    (replace hx140_0 := (HB.out.cell (World.block_lt_of_cell? w _ hx140_0)).trans hx140_0); (replace hx140_1 := (HB.out.cell (World.block_lt_of_cell? w _ hx140_1)).trans hx140_1); (replace hx140_2 := (HB.out.cell (World.block_lt_of_cell? w _ hx140_2)).trans hx140_2); (replace p140 := eq_true p140); (replace q140 := eq_true q140); (go_wp2_with (first | ((with_reducible refine gate_dst (N := 8) rfl ?_); refine box_event ?hg (N := 8) ?hd (cs := #[.int .i32 0, .int .i32 0, .int .u8 0]) (t := 80) ?hr ?_; (case hd => rfl); (case hg => rfl); (case hr => first | (go_simp; done) | (go_simp; rfl)); intro gb141 hg w16 hbox hb; have n0_ := Aside0.mk (below_step bq hb); have n1_ := Aside0.mk (hbox); have n2_ := Aside0.mk ((by rw [hg]; exact (below_size bq) : w.heap.size ≤ gb141)); have n3_ := Aside0.mk ((by rw [hg]; exact (below_size bq) : w.heap.size ≤ gb141)); clear HB; have HB := n0_; have BK141 := n1_; have GW141 := n2_; have GE141 := n3_; clear n0_ n1_ n2_ n3_; clear hb hbox hg; have hcz17_0 : w16.cell? ⟨gb141, 0, none⟩ = some (.int .i32 0) := (blk_cell BK141.out 0).trans rfl; have hcz17_1 : w16.cell? ⟨gb141, 1, none⟩ = some (.int .i32 0) := (blk_cell BK141.out 1).trans rfl; have hcz17_2 : w16.cell? ⟨gb141, 2, none⟩ = some (.int .u8 0) := (blk_cell BK141.out 2).trans rfl; have hfz17_0 := blk_frozen BK141.out 0; have hfz17_1 := blk_frozen BK141.out 1; have hfz17_2 := blk_frozen BK141.out 2))); go_roundg k2
                    case measure => have := HJ3.out; have := HK2.out; omega
                    case rel => exact ⟨(wrap64 (x18_2 + 1)), rq, H', ⟨by have := HJ3.out; have := HK2.out; omega⟩, ⟨by repeat (first | (with_reducible first | exact HB.out | apply below_alloc | apply pw_below_drewN | apply below_drew1 | refine below_set ?_ GE141.out) | exact HB.out)⟩⟩
                · (rw [if_neg c9] at H); (exact absurd H (by simp))
              · (rw [if_neg c8] at H); (exact absurd H (by simp))
            · (rw [if_neg c7] at H); (have c7b0 : decide (x18_2 < (l1.length : Int)) = false := decide_eq_false c7); clear c7; (obtain rfl := Option.some.inj H); (go_wp2); go_ret; (exact ⟨by first | rfl | (simp [errW_none, errW_some] <;> rfl) | (simp [*, errW_none, errW_some] <;> rfl), bq⟩)

end Go.Proofs.YtfnkpjkbgfgbkaaDoor.Pr
