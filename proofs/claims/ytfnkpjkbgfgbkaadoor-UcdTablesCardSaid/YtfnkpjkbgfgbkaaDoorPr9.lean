-- Written for this claim by a program of this session over the translation. Lean checks it.
import Derived.Test.YtfnkpjkbgfgbkaaDoorPr0
import Derived.Test.YtfnkpjkbgfgbkaaDoorPr2
import Derived.Test.YtfnkpjkbgfgbkaaDoorPr7
import Derived.Test.YtfnkpjkbgfgbkaaDoorHX
namespace Go.Proofs.YtfnkpjkbgfgbkaaDoor.Pr
open Go.RowKit Go.Proofs.YtfnkpjkbgfgbkaaDoorW.PrintWords Go.Proofs.YtfnkpjkbgfgbkaaDoorW.PrintLast Go.Proofs.YtfnkpjkbgfgbkaaDoorW.PrintMore
attribute [local go_sem] max2_int min2_int max_two min_two max_three min_three max_four min_four   -- for this text's walks alone
set_option linter.unusedVariables false
set_option linter.unusedSimpArgs false

/-! ### calamuslaw02_UcdTables: function 8 -/
def calamuslaw02_UcdTables.l0 : Nat → Int → Int → Int → Int → Int → Option (Bool)
  | 0, _, _, _, _, _ => none
  | k + 1, x0, x9, x195000, x195001, x195002 => if x9 ≤ 1 then ((calamuslaw02_same.f k (wrap32 (x195000 + x9))).bind fun t197 => (if t197 = true then ((calamuslaw02_same.f k (wrap32 (x195001 + x9))).bind fun t198 => (if t198 = true then (calamuslaw02_UcdTables.l0 k x0 (wrap32 (x9 + 1)) x195000 x195001 x195002) else (some false))) else (some false))) else ((calamuslaw02_same.f k x0).bind fun t195 => (if t195 = true then ((calamuslaw02_works.f).bind fun t196 => (some t196)) else (some false)))
def calamuslaw02_UcdTables.f (k : Nat) (a0 : Int) (a1 : Int) (a2 : Int) : Option (Bool) := (calamuslaw02_table.f a1).bind fun t190 => (if (t190.length : Int) = 0 then (none) else (if 0 ≤ (Int.tmod (wrap64 (a2)) (t190.length : Int)) then (if (Int.tmod (wrap64 (a2)) (t190.length : Int)) < (t190.length : Int) then (calamuslaw02_UcdTables.l0 k a0 (-1) ((rd_T46 t190 (Int.tmod (wrap64 (a2)) (t190.length : Int))).f0) ((rd_T46 t190 (Int.tmod (wrap64 (a2)) (t190.length : Int))).f1) ((rd_T46 t190 (Int.tmod (wrap64 (a2)) (t190.length : Int))).f2)) else (none)) else (none)))
theorem calamuslaw02_UcdTables.mono_l : ∀ k, (∀ y0 y1 y2 y3 y4, LeO (calamuslaw02_UcdTables.l0 k y0 y1 y2 y3 y4) (calamuslaw02_UcdTables.l0 (k + 1) y0 y1 y2 y3 y4))
  | 0 => fun _ _ _ _ _ r h => by simp [calamuslaw02_UcdTables.l0] at h
  | k + 1 => by
    have ih0 := calamuslaw02_UcdTables.mono_l k
    · intro y0 y1 y2 y3 y4
      unfold calamuslaw02_UcdTables.l0
      repeat' first
      | (with_reducible exact ih0 _ _ _ _ _)
      | (with_reducible exact calamuslaw02_same.mono _ _)
      | (with_reducible exact LeO.refl _)
      | (with_reducible exact LeO.none _)
      | (with_reducible refine LeO.ite ?_ ?_)
      | (with_reducible refine LeO.bind ?_ (fun _ => ?_))
      | exact ih0 _ _ _ _ _
      | exact calamuslaw02_same.mono _ _
      | exact LeO.none _
      | refine LeO.ite ?_ ?_
      | refine LeO.bind ?_ (fun _ => ?_)
theorem calamuslaw02_UcdTables.mono : ∀ a0 a1 a2 k, LeO (calamuslaw02_UcdTables.f k a0 a1 a2) (calamuslaw02_UcdTables.f (k + 1) a0 a1 a2) := by
  intro a0 a1 a2 k
  have ih0 := calamuslaw02_UcdTables.mono_l k
  unfold calamuslaw02_UcdTables.f
  repeat' first
      | (with_reducible exact ih0 _ _ _ _ _)
      | (with_reducible exact calamuslaw02_same.mono _ _)
      | (with_reducible exact LeO.refl _)
      | (with_reducible exact LeO.none _)
      | (with_reducible refine LeO.ite ?_ ?_)
      | (with_reducible refine LeO.bind ?_ (fun _ => ?_))
      | exact ih0 _ _ _ _ _
      | exact calamuslaw02_same.mono _ _
      | exact LeO.none _
      | refine LeO.ite ?_ ?_
      | refine LeO.bind ?_ (fun _ => ?_)
set_option maxHeartbeats 8000000 in
set_option maxRecDepth 100000 in
theorem calamuslaw02_UcdTables.calls (k : Nat) (a0 : Int) (a1 : Int) (a2 : Int) (r : Bool) (w : World) (hLD : Laid [0, 1, 2, 3, 4, 6, 7] w) (h : calamuslaw02_UcdTables.f k a0 a1 a2 = some r) :
    Calls Tryd.prog 8 #[.int .i32 a0, .int .u8 a1, .int .u8 a2] w fun e w' => e = .returned (.bool r) ∧ Below w.heap.size w w' := by
  have hu46 := Tryd.underlying46
  have HB := Aside0.mk (Below.refl w.heap.size w)
  have HLD := Aside0.mk hLD
  clear hLD
  have H : ((calamuslaw02_table.f a1).bind fun t190 => (if (t190.length : Int) = 0 then (none) else (if 0 ≤ (Int.tmod (wrap64 (a2)) (t190.length : Int)) then (if (Int.tmod (wrap64 (a2)) (t190.length : Int)) < (t190.length : Int) then (calamuslaw02_UcdTables.l0 k a0 (-1) ((rd_T46 t190 (Int.tmod (wrap64 (a2)) (t190.length : Int))).f0) ((rd_T46 t190 (Int.tmod (wrap64 (a2)) (t190.length : Int))).f1) ((rd_T46 t190 (Int.tmod (wrap64 (a2)) (t190.length : Int))).f2)) else (none)) else (none)))) = some r := h
  clear h
  replace H := Option.bind_eq_some_iff.mp H
  obtain ⟨t190, A40, H⟩ := H
  replace H : (if (t190.length : Int) = 0 then (none) else (if 0 ≤ (Int.tmod (wrap64 (a2)) (t190.length : Int)) then (if (Int.tmod (wrap64 (a2)) (t190.length : Int)) < (t190.length : Int) then (calamuslaw02_UcdTables.l0 k a0 (-1) ((rd_T46 t190 (Int.tmod (wrap64 (a2)) (t190.length : Int))).f0) ((rd_T46 t190 (Int.tmod (wrap64 (a2)) (t190.length : Int))).f1) ((rd_T46 t190 (Int.tmod (wrap64 (a2)) (t190.length : Int))).f2)) else (none)) else (none))) = some r := H
  have A4 := Aside0.mk A40
  clear A40
  by_cases c5 : (t190.length : Int) = 0
  · rw [if_pos c5] at H
    exact absurd H (by simp)
  · rw [if_neg c5] at H
    have c5b0 : ((t190.length : Int) == 0) = false := beq_eq_false_iff_ne.mpr c5
    have c5b1 : ((t190.length : Int) != 0) = true := bne_iff_ne.mpr c5
    have c5b2 : ¬ (t190 = []) := fun h_ => c5 (by rw [h_]; rfl)
    obtain ⟨ji6, hji6⟩ : ∃ j_ : Int, (Int.tmod (wrap64 (a2)) (t190.length : Int)) = j_ := ⟨_, rfl⟩
    replace H : (if 0 ≤ (ji6) then (if (ji6) < (t190.length : Int) then (calamuslaw02_UcdTables.l0 k a0 (-1) ((rd_T46 t190 (ji6)).f0) ((rd_T46 t190 (ji6)).f1) ((rd_T46 t190 (ji6)).f2)) else (none)) else (none)) = some r := by first | (rw [hji6] at H; exact H) | (simp only [hji6] at H ⊢; exact H)
    (try rw [hji6] at A4)
    by_cases c7 : 0 ≤ (ji6)
    · rw [if_pos c7] at H
      have c7b0 : decide (0 ≤ (ji6)) = true := decide_eq_true c7
      clear c7
      by_cases c8 : (ji6) < (t190.length : Int)
      · rw [if_pos c8] at H
        have c8b0 : decide ((ji6) < (t190.length : Int)) = true := decide_eq_true c8
        clear c8
        have H' := Aside0.mk H
        clear H
        go_enter Tryd.func8, Tryd.ntmps8
        go_wp2_with (first | ((with_reducible refine gate_callee (f := 19) rfl ?_); refine goesL_ (some 11) rfl rfl Tryd.func19 (by kernel_rfl) rfl #[.int .u8 a1] rfl (by (try simp only [List.map_toArray, List.map_cons, List.map_nil]); first | done | rfl | (simp only [List.length_drop, List.length_take]; rfl)) ?_; (with_reducible refine (calamuslaw02_table.calls a1 t190 _ A4.out).mono ?_); rintro e w9 ⟨v191, rfl, ho0, hb⟩; refine ⟨_, rfl, ?_⟩; have n0_ := Aside0.mk (Kd.R_lower ho0 (below_size (by repeat (first | (with_reducible first | exact HB.out | apply below_alloc | apply pw_below_drewN | apply below_drew1) | exact HB.out)))); have n1_ := Aside0.mk (below_step (by repeat (first | (with_reducible first | exact HB.out | apply below_alloc | apply pw_below_drewN | apply below_drew1) | exact HB.out)) hb); clear HB; have HO192 := n0_; have HB := n1_; clear n0_ n1_; (try clear hb); (try clear hb2); (try clear hk); (try clear hi); (try clear ho0); obtain ⟨Ao10, co10, eo10⟩ := Kd.R_slice HO192.out; subst eo10; have p193 : 0 ≤ ((ji6) : Int) := of_decide_eq_true (by first | (with_reducible assumption) | assumption); have q193 : (ji6) < (t190.length : Int) := of_decide_eq_true (by first | (with_reducible assumption) | assumption); obtain ⟨ad193, e193, hx193_0, hx193_1, hx193_2⟩ := at_T46 (Kd.R_reads' HO192.out).2.2 (ji6) p193 q193; cases e193; replace p193 := eq_true p193; replace q193 := eq_true q193) | ((with_reducible refine gate_dst (N := 8) rfl ?_); refine box_event ?hg (N := 8) ?hd (cs := #[.int .i32 0, .int .i32 0, .int .u8 0]) (t := 46) ?hr ?_; (case hd => rfl); (case hg => rfl); (case hr => first | (go_simp; done) | (go_simp; rfl)); intro gb194 hg w11 hbox hb; have n0_ := Aside0.mk (Kd.R_below (Kd.R_elderB (by (with_reducible repeat (first | apply Kd.R_alloc | apply Kd.R_drewN | apply Kd.R_drew)); exact HO192.out) gb194 (Nat.le_of_eq hg.symm)) hb); have n1_ := Aside0.mk (below_step (by repeat (first | (with_reducible first | exact HB.out | apply below_alloc | apply pw_below_drewN | apply below_drew1) | exact HB.out)) hb); have n2_ := Aside0.mk (hbox); have n3_ := Aside0.mk ((by rw [hg]; exact (below_size (by repeat (first | (with_reducible first | exact HB.out | apply below_alloc | apply pw_below_drewN | apply below_drew1) | exact HB.out))) : w.heap.size ≤ gb194)); have n4_ := Aside0.mk ((by rw [hg]; exact (below_size (by repeat (first | (with_reducible first | exact HB.out | apply below_alloc | apply pw_below_drewN | apply below_drew1) | exact HB.out))) : w.heap.size ≤ gb194)); clear HO192; clear HB; have HO192 := n0_; have HB := n1_; have BK194 := n2_; have GW194 := n3_; have GE194 := n4_; clear n0_ n1_ n2_ n3_ n4_; clear hb hbox hg; have hcz12_0 : w11.cell? ⟨gb194, 0, none⟩ = some (.int .i32 0) := (blk_cell BK194.out 0).trans rfl; have hcz12_1 : w11.cell? ⟨gb194, 1, none⟩ = some (.int .i32 0) := (blk_cell BK194.out 1).trans rfl; have hcz12_2 : w11.cell? ⟨gb194, 2, none⟩ = some (.int .u8 0) := (blk_cell BK194.out 2).trans rfl; have hfz12_0 := blk_frozen BK194.out 0; have hfz12_1 := blk_frozen BK194.out 1; have hfz12_2 := blk_frozen BK194.out 2))
        go_loopg [9] k (fun kq v9 w' => ∃ (x9_1 : Int), v9 = .int .i32 x9_1 ∧ Aside0 (calamuslaw02_UcdTables.l0 kq a0 x9_1 ((rd_T46 t190 (ji6)).f0) ((rd_T46 t190 (ji6)).f1) ((rd_T46 t190 (ji6)).f2) = some r) ∧ Aside0 (kq ≤ k) ∧ Aside0 (w'.heap[gb194]? = some (.cells #[.int .i32 ((rd_T46 t190 (ji6)).f0), .int .i32 ((rd_T46 t190 (ji6)).f1), .int .u8 ((rd_T46 t190 (ji6)).f2)] 46 (0, 0))) ∧ Aside0 (Below w.heap.size w w'))
        case atStart => exact ⟨((-1)), (by first | rfl | (simp; done) | (simp [*]; done)), H', ⟨Nat.le_refl _⟩, ⟨by (with_reducible repeat (first | refine blk_drewN ?_ _ | refine blk_drew ?_ | refine blk_alloc ?_ _)); refine blk_put (cs := #[.int .i32 ((rd_T46 t190 (ji6)).f0), .int .i32 ((rd_T46 t190 (ji6)).f1), .int .u8 0]) ?_ 2 _ rfl; (with_reducible repeat (first | refine blk_drewN ?_ _ | refine blk_drew ?_ | refine blk_alloc ?_ _)); refine blk_put (cs := #[.int .i32 ((rd_T46 t190 (ji6)).f0), .int .i32 0, .int .u8 0]) ?_ 1 _ rfl; (with_reducible repeat (first | refine blk_drewN ?_ _ | refine blk_drew ?_ | refine blk_alloc ?_ _)); refine blk_put (cs := #[.int .i32 0, .int .i32 0, .int .u8 0]) ?_ 0 _ rfl; (with_reducible repeat (first | refine blk_drewN ?_ _ | refine blk_drew ?_ | refine blk_alloc ?_ _)); exact BK194.out⟩, ⟨by repeat (first | (with_reducible first | exact HB.out | apply below_alloc | apply pw_below_drewN | apply below_drew1 | refine below_set ?_ GE194.out) | exact HB.out)⟩⟩
        case round =>
          clear H'
          try clear c1
          try clear p1
          try clear q1
          try clear hx1
          try clear p2
          try clear c5
          try clear c5b0
          try clear c5b1
          try clear c5b2
          try clear p6
          try clear c7
          try clear c7b0
          try clear c8
          try clear c8b0
          try clear hcz12_0
          try clear hcz12_1
          try clear hcz12_2
          try clear hfz12_0
          try clear hfz12_1
          try clear hfz12_2
          try clear hx193_0
          try clear hx193_1
          try clear hx193_2
          try clear p193
          try clear q193
          obtain ⟨x9_1, rfl, HA, HK1, BK194, HB⟩ := hrel
          cases gk with
          | zero => exact absurd HA.out (by simp [calamuslaw02_UcdTables.l0])
          | succ k1 =>
            have H := HA.out
            clear HA
            simp only [calamuslaw02_UcdTables.l0] at H
            by_cases c13 : x9_1 ≤ 1
            · rw [if_pos c13] at H
              have c13b0 : decide (x9_1 ≤ 1) = true := decide_eq_true c13
              clear c13
              replace H := Option.bind_eq_some_iff.mp H
              obtain ⟨t197, A140, H⟩ := H
              replace H : (if t197 = true then ((calamuslaw02_same.f k1 (wrap32 (((rd_T46 t190 (ji6)).f1) + x9_1))).bind fun t198 => (if t198 = true then (calamuslaw02_UcdTables.l0 k1 a0 (wrap32 (x9_1 + 1)) ((rd_T46 t190 (ji6)).f0) ((rd_T46 t190 (ji6)).f1) ((rd_T46 t190 (ji6)).f2)) else (some false))) else (some false)) = some r := H
              have A14 := Aside0.mk A140
              clear A140
              by_cases c15 : t197 = true
              · subst c15
                have H1 : ((calamuslaw02_same.f k1 (wrap32 (((rd_T46 t190 (ji6)).f1) + x9_1))).bind fun t198 => (if t198 = true then (calamuslaw02_UcdTables.l0 k1 a0 (wrap32 (x9_1 + 1)) ((rd_T46 t190 (ji6)).f0) ((rd_T46 t190 (ji6)).f1) ((rd_T46 t190 (ji6)).f2)) else (some false))) = some r := by rw [if_pos rfl] at H; exact H
                clear H
                have H := H1
                clear H1
                replace H := Option.bind_eq_some_iff.mp H
                obtain ⟨t198, A160, H⟩ := H
                replace H : (if t198 = true then (calamuslaw02_UcdTables.l0 k1 a0 (wrap32 (x9_1 + 1)) ((rd_T46 t190 (ji6)).f0) ((rd_T46 t190 (ji6)).f1) ((rd_T46 t190 (ji6)).f2)) else (some false)) = some r := H
                have A16 := Aside0.mk A160
                clear A160
                by_cases c17 : t198 = true
                · subst c17
                  have H1 : (calamuslaw02_UcdTables.l0 k1 a0 (wrap32 (x9_1 + 1)) ((rd_T46 t190 (ji6)).f0) ((rd_T46 t190 (ji6)).f1) ((rd_T46 t190 (ji6)).f2)) = some r := by rw [if_pos rfl] at H; exact H
                  clear H
                  have H := H1
                  clear H1
                  have H' := Aside0.mk H
                  clear H
                  have hcz18_0 : wr.cell? ⟨gb194, 0, none⟩ = some (.int .i32 ((rd_T46 t190 (ji6)).f0)) := (blk_cell BK194.out 0).trans rfl
                  have hcz18_1 : wr.cell? ⟨gb194, 1, none⟩ = some (.int .i32 ((rd_T46 t190 (ji6)).f1)) := (blk_cell BK194.out 1).trans rfl
                  have hcz18_2 : wr.cell? ⟨gb194, 2, none⟩ = some (.int .u8 ((rd_T46 t190 (ji6)).f2)) := (blk_cell BK194.out 2).trans rfl
                  have hfz18_0 := blk_frozen BK194.out 0
                  have hfz18_1 := blk_frozen BK194.out 1
                  have hfz18_2 := blk_frozen BK194.out 2
                  go_wp2_with (first | ((with_reducible refine gate_callee (f := 20) rfl ?_); refine goesL_ (some 28) rfl rfl Tryd.func20 (by kernel_rfl) rfl #[.int .i32 (wrap32 (((rd_T46 t190 (ji6)).f0) + x9_1))] rfl (by (try simp only [List.map_toArray, List.map_cons, List.map_nil]); first | done | (simp only [hji6]; rfl) | rfl | (simp only [List.length_drop, List.length_take]; rfl)) ?_; (with_reducible refine (calamuslaw02_same.calls k1 (wrap32 (((rd_T46 t190 (ji6)).f0) + x9_1)) true _ ?side1 A14.out).mono ?_); (case side1 => exact Laid.sub (by decide) (Laid.below HLD.out (by repeat (first | (with_reducible first | exact HB.out | apply below_alloc | apply pw_below_drewN | apply below_drew1 | refine below_set ?_ GE194.out) | exact HB.out)))); rintro e w19 ⟨rfl, hb⟩; refine ⟨_, rfl, ?_⟩; have n0_ := Aside0.mk (blk_below (g := gb194) (o := .cells #[.int .i32 ((rd_T46 t190 (ji6)).f0), .int .i32 ((rd_T46 t190 (ji6)).f1), .int .u8 ((rd_T46 t190 (ji6)).f2)] 46 (0, 0)) (by (with_reducible repeat (first | refine blk_drewN ?_ _ | refine blk_drew ?_ | refine blk_alloc ?_ _)); exact BK194.out) hb); have n1_ := Aside0.mk (below_step (by repeat (first | (with_reducible first | exact HB.out | apply below_alloc | apply pw_below_drewN | apply below_drew1 | refine below_set ?_ GE194.out) | exact HB.out)) hb); clear BK194; clear HB; have BK194 := n0_; have HB := n1_; clear n0_ n1_; (try clear hb); (try clear hb2); (try clear hk); (try clear hi); have hcz20_0 : w19.cell? ⟨gb194, 0, none⟩ = some (.int .i32 ((rd_T46 t190 (ji6)).f0)) := (blk_cell BK194.out 0).trans rfl; have hcz20_1 : w19.cell? ⟨gb194, 1, none⟩ = some (.int .i32 ((rd_T46 t190 (ji6)).f1)) := (blk_cell BK194.out 1).trans rfl; have hcz20_2 : w19.cell? ⟨gb194, 2, none⟩ = some (.int .u8 ((rd_T46 t190 (ji6)).f2)) := (blk_cell BK194.out 2).trans rfl; have hfz20_0 := blk_frozen BK194.out 0; have hfz20_1 := blk_frozen BK194.out 1; have hfz20_2 := blk_frozen BK194.out 2) | (go_at_call 20; (with_reducible refine (calamuslaw02_same.calls k1 (wrap32 (((rd_T46 t190 (ji6)).f1) + x9_1)) true _ ?side1 A16.out).mono ?_); (case side1 => exact Laid.sub (by decide) (Laid.below HLD.out (by repeat (first | (with_reducible first | exact HB.out | apply below_alloc | apply pw_below_drewN | apply below_drew1 | refine below_set ?_ GE194.out) | exact HB.out)))); rintro e w21 ⟨rfl, hb⟩; have n0_ := Aside0.mk (blk_below (g := gb194) (o := .cells #[.int .i32 ((rd_T46 t190 (ji6)).f0), .int .i32 ((rd_T46 t190 (ji6)).f1), .int .u8 ((rd_T46 t190 (ji6)).f2)] 46 (0, 0)) (by (with_reducible repeat (first | refine blk_drewN ?_ _ | refine blk_drew ?_ | refine blk_alloc ?_ _)); exact BK194.out) hb); have n1_ := Aside0.mk (below_step (by repeat (first | (with_reducible first | exact HB.out | apply below_alloc | apply pw_below_drewN | apply below_drew1 | refine below_set ?_ GE194.out) | exact HB.out)) hb); clear BK194; clear HB; have BK194 := n0_; have HB := n1_; clear n0_ n1_; (try clear hb); (try clear hb2); (try clear hk); (try clear hi)))
                  go_roundg k1
                  case measure => have := HK1.out; omega
                  case rel => exact ⟨(wrap32 (x9_1 + 1)), (by first | rfl | (simp; done) | (simp [*]; done)), H', ⟨by have := HK1.out; omega⟩, ⟨by (with_reducible repeat (first | refine blk_drewN ?_ _ | refine blk_drew ?_ | refine blk_alloc ?_ _)); exact BK194.out⟩, ⟨by repeat (first | (with_reducible first | exact HB.out | apply below_alloc | apply pw_below_drewN | apply below_drew1 | refine below_set ?_ GE194.out) | exact HB.out)⟩⟩
                · replace c17 := Bool.eq_false_iff.mpr c17
                  subst c17
                  have H1 : (some false) = some r := by rw [if_neg (show ¬ (false = true) by decide)] at H; exact H
                  clear H
                  have H := H1
                  clear H1
                  obtain rfl := Option.some.inj H
                  have hcz22_0 : wr.cell? ⟨gb194, 0, none⟩ = some (.int .i32 ((rd_T46 t190 (ji6)).f0)) := (blk_cell BK194.out 0).trans rfl
                  have hcz22_1 : wr.cell? ⟨gb194, 1, none⟩ = some (.int .i32 ((rd_T46 t190 (ji6)).f1)) := (blk_cell BK194.out 1).trans rfl
                  have hcz22_2 : wr.cell? ⟨gb194, 2, none⟩ = some (.int .u8 ((rd_T46 t190 (ji6)).f2)) := (blk_cell BK194.out 2).trans rfl
                  have hfz22_0 := blk_frozen BK194.out 0
                  have hfz22_1 := blk_frozen BK194.out 1
                  have hfz22_2 := blk_frozen BK194.out 2
                  go_wp2_with (first | ((with_reducible refine gate_callee (f := 20) rfl ?_); refine goesL_ (some 28) rfl rfl Tryd.func20 (by kernel_rfl) rfl #[.int .i32 (wrap32 (((rd_T46 t190 (ji6)).f0) + x9_1))] rfl (by (try simp only [List.map_toArray, List.map_cons, List.map_nil]); first | done | (simp only [hji6]; rfl) | rfl | (simp only [List.length_drop, List.length_take]; rfl)) ?_; (with_reducible refine (calamuslaw02_same.calls k1 (wrap32 (((rd_T46 t190 (ji6)).f0) + x9_1)) true _ ?side1 A14.out).mono ?_); (case side1 => exact Laid.sub (by decide) (Laid.below HLD.out (by repeat (first | (with_reducible first | exact HB.out | apply below_alloc | apply pw_below_drewN | apply below_drew1 | refine below_set ?_ GE194.out) | exact HB.out)))); rintro e w23 ⟨rfl, hb⟩; refine ⟨_, rfl, ?_⟩; have n0_ := Aside0.mk (blk_below (g := gb194) (o := .cells #[.int .i32 ((rd_T46 t190 (ji6)).f0), .int .i32 ((rd_T46 t190 (ji6)).f1), .int .u8 ((rd_T46 t190 (ji6)).f2)] 46 (0, 0)) (by (with_reducible repeat (first | refine blk_drewN ?_ _ | refine blk_drew ?_ | refine blk_alloc ?_ _)); exact BK194.out) hb); have n1_ := Aside0.mk (below_step (by repeat (first | (with_reducible first | exact HB.out | apply below_alloc | apply pw_below_drewN | apply below_drew1 | refine below_set ?_ GE194.out) | exact HB.out)) hb); clear BK194; clear HB; have BK194 := n0_; have HB := n1_; clear n0_ n1_; (try clear hb); (try clear hb2); (try clear hk); (try clear hi); have hcz24_0 : w23.cell? ⟨gb194, 0, none⟩ = some (.int .i32 ((rd_T46 t190 (ji6)).f0)) := (blk_cell BK194.out 0).trans rfl; have hcz24_1 : w23.cell? ⟨gb194, 1, none⟩ = some (.int .i32 ((rd_T46 t190 (ji6)).f1)) := (blk_cell BK194.out 1).trans rfl; have hcz24_2 : w23.cell? ⟨gb194, 2, none⟩ = some (.int .u8 ((rd_T46 t190 (ji6)).f2)) := (blk_cell BK194.out 2).trans rfl; have hfz24_0 := blk_frozen BK194.out 0; have hfz24_1 := blk_frozen BK194.out 1; have hfz24_2 := blk_frozen BK194.out 2) | (go_at_call 20; (with_reducible refine (calamuslaw02_same.calls k1 (wrap32 (((rd_T46 t190 (ji6)).f1) + x9_1)) false _ ?side1 A16.out).mono ?_); (case side1 => exact Laid.sub (by decide) (Laid.below HLD.out (by repeat (first | (with_reducible first | exact HB.out | apply below_alloc | apply pw_below_drewN | apply below_drew1 | refine below_set ?_ GE194.out) | exact HB.out)))); rintro e w25 ⟨rfl, hb⟩; have n0_ := Aside0.mk (blk_below (g := gb194) (o := .cells #[.int .i32 ((rd_T46 t190 (ji6)).f0), .int .i32 ((rd_T46 t190 (ji6)).f1), .int .u8 ((rd_T46 t190 (ji6)).f2)] 46 (0, 0)) (by (with_reducible repeat (first | refine blk_drewN ?_ _ | refine blk_drew ?_ | refine blk_alloc ?_ _)); exact BK194.out) hb); have n1_ := Aside0.mk (below_step (by repeat (first | (with_reducible first | exact HB.out | apply below_alloc | apply pw_below_drewN | apply below_drew1 | refine below_set ?_ GE194.out) | exact HB.out)) hb); clear BK194; clear HB; have BK194 := n0_; have HB := n1_; clear n0_ n1_; (try clear hb); (try clear hb2); (try clear hk); (try clear hi)))
                  go_ret
                  exact ⟨by first | rfl | (simp [errW_none, errW_some] <;> rfl) | (simp only [← hji6]; first | rfl | (simp [errW_none, errW_some] <;> rfl)) | (simp [*, errW_none, errW_some] <;> rfl), by repeat (first | (with_reducible first | exact HB.out | apply below_alloc | apply pw_below_drewN | apply below_drew1 | refine below_set ?_ GE194.out) | exact HB.out)⟩
              · replace c15 := Bool.eq_false_iff.mpr c15
                subst c15
                have H1 : (some false) = some r := by rw [if_neg (show ¬ (false = true) by decide)] at H; exact H
                clear H
                have H := H1
                clear H1
                obtain rfl := Option.some.inj H
                have hcz26_0 : wr.cell? ⟨gb194, 0, none⟩ = some (.int .i32 ((rd_T46 t190 (ji6)).f0)) := (blk_cell BK194.out 0).trans rfl
                have hcz26_1 : wr.cell? ⟨gb194, 1, none⟩ = some (.int .i32 ((rd_T46 t190 (ji6)).f1)) := (blk_cell BK194.out 1).trans rfl
                have hcz26_2 : wr.cell? ⟨gb194, 2, none⟩ = some (.int .u8 ((rd_T46 t190 (ji6)).f2)) := (blk_cell BK194.out 2).trans rfl
                have hfz26_0 := blk_frozen BK194.out 0
                have hfz26_1 := blk_frozen BK194.out 1
                have hfz26_2 := blk_frozen BK194.out 2
                go_wp2_with (first | ((with_reducible refine gate_callee (f := 20) rfl ?_); refine goesL_ (some 28) rfl rfl Tryd.func20 (by kernel_rfl) rfl #[.int .i32 (wrap32 (((rd_T46 t190 (ji6)).f0) + x9_1))] rfl (by (try simp only [List.map_toArray, List.map_cons, List.map_nil]); first | done | (simp only [hji6]; rfl) | rfl | (simp only [List.length_drop, List.length_take]; rfl)) ?_; (with_reducible refine (calamuslaw02_same.calls k1 (wrap32 (((rd_T46 t190 (ji6)).f0) + x9_1)) false _ ?side1 A14.out).mono ?_); (case side1 => exact Laid.sub (by decide) (Laid.below HLD.out (by repeat (first | (with_reducible first | exact HB.out | apply below_alloc | apply pw_below_drewN | apply below_drew1 | refine below_set ?_ GE194.out) | exact HB.out)))); rintro e w27 ⟨rfl, hb⟩; refine ⟨_, rfl, ?_⟩; have n0_ := Aside0.mk (blk_below (g := gb194) (o := .cells #[.int .i32 ((rd_T46 t190 (ji6)).f0), .int .i32 ((rd_T46 t190 (ji6)).f1), .int .u8 ((rd_T46 t190 (ji6)).f2)] 46 (0, 0)) (by (with_reducible repeat (first | refine blk_drewN ?_ _ | refine blk_drew ?_ | refine blk_alloc ?_ _)); exact BK194.out) hb); have n1_ := Aside0.mk (below_step (by repeat (first | (with_reducible first | exact HB.out | apply below_alloc | apply pw_below_drewN | apply below_drew1 | refine below_set ?_ GE194.out) | exact HB.out)) hb); clear BK194; clear HB; have BK194 := n0_; have HB := n1_; clear n0_ n1_; (try clear hb); (try clear hb2); (try clear hk); (try clear hi)))
                go_ret
                exact ⟨by first | rfl | (simp [errW_none, errW_some] <;> rfl) | (simp only [← hji6]; first | rfl | (simp [errW_none, errW_some] <;> rfl)) | (simp [*, errW_none, errW_some] <;> rfl), by repeat (first | (with_reducible first | exact HB.out | apply below_alloc | apply pw_below_drewN | apply below_drew1 | refine below_set ?_ GE194.out) | exact HB.out)⟩
            · rw [if_neg c13] at H
              have c13b0 : decide (x9_1 ≤ 1) = false := decide_eq_false c13
              clear c13
              replace H := Option.bind_eq_some_iff.mp H
              obtain ⟨t195, A280, H⟩ := H
              replace H : (if t195 = true then ((calamuslaw02_works.f).bind fun t196 => (some t196)) else (some false)) = some r := H
              have A28 := Aside0.mk A280
              clear A280
              by_cases c29 : t195 = true
              · subst c29
                have H1 : ((calamuslaw02_works.f).bind fun t196 => (some t196)) = some r := by rw [if_pos rfl] at H; exact H
                clear H
                have H := H1
                clear H1
                replace H := Option.bind_eq_some_iff.mp H
                obtain ⟨t196, A300, H⟩ := H
                replace H : (some t196) = some r := H
                have A30 := Aside0.mk A300
                clear A300
                obtain rfl := Option.some.inj H
                go_wp2_with (first | ((with_reducible refine gate_callee (f := 20) rfl ?_); refine goesL_ (some 39) rfl rfl Tryd.func20 (by kernel_rfl) rfl #[.int .i32 a0] rfl (by (try simp only [List.map_toArray, List.map_cons, List.map_nil]); first | done | rfl | (simp only [List.length_drop, List.length_take]; rfl)) ?_; (with_reducible refine (calamuslaw02_same.calls k1 a0 true _ ?side1 A28.out).mono ?_); (case side1 => exact Laid.sub (by decide) (Laid.below HLD.out (by repeat (first | (with_reducible first | exact HB.out | apply below_alloc | apply pw_below_drewN | apply below_drew1 | refine below_set ?_ GE194.out) | exact HB.out)))); rintro e w31 ⟨rfl, hb⟩; refine ⟨_, rfl, ?_⟩; have n0_ := Aside0.mk (blk_below (g := gb194) (o := .cells #[.int .i32 ((rd_T46 t190 (ji6)).f0), .int .i32 ((rd_T46 t190 (ji6)).f1), .int .u8 ((rd_T46 t190 (ji6)).f2)] 46 (0, 0)) (by (with_reducible repeat (first | refine blk_drewN ?_ _ | refine blk_drew ?_ | refine blk_alloc ?_ _)); exact BK194.out) hb); have n1_ := Aside0.mk (below_step (by repeat (first | (with_reducible first | exact HB.out | apply below_alloc | apply pw_below_drewN | apply below_drew1 | refine below_set ?_ GE194.out) | exact HB.out)) hb); clear BK194; clear HB; have BK194 := n0_; have HB := n1_; clear n0_ n1_; (try clear hb); (try clear hb2); (try clear hk); (try clear hi)) | (go_at_call 21; (with_reducible refine (calamuslaw02_works.calls  t196 _ ?side1 A30.out).mono ?_); (case side1 => exact Laid.sub (by decide) (Laid.below HLD.out (by repeat (first | (with_reducible first | exact HB.out | apply below_alloc | apply pw_below_drewN | apply below_drew1 | refine below_set ?_ GE194.out) | exact HB.out)))); rintro e w32 ⟨rfl, hb⟩; have n0_ := Aside0.mk (blk_below (g := gb194) (o := .cells #[.int .i32 ((rd_T46 t190 (ji6)).f0), .int .i32 ((rd_T46 t190 (ji6)).f1), .int .u8 ((rd_T46 t190 (ji6)).f2)] 46 (0, 0)) (by (with_reducible repeat (first | refine blk_drewN ?_ _ | refine blk_drew ?_ | refine blk_alloc ?_ _)); exact BK194.out) hb); have n1_ := Aside0.mk (below_step (by repeat (first | (with_reducible first | exact HB.out | apply below_alloc | apply pw_below_drewN | apply below_drew1 | refine below_set ?_ GE194.out) | exact HB.out)) hb); clear BK194; clear HB; have BK194 := n0_; have HB := n1_; clear n0_ n1_; (try clear hb); (try clear hb2); (try clear hk); (try clear hi)))
                go_ret
                exact ⟨by first | rfl | (simp [errW_none, errW_some] <;> rfl) | (simp only [← hji6]; first | rfl | (simp [errW_none, errW_some] <;> rfl)) | (simp [*, errW_none, errW_some] <;> rfl), by repeat (first | (with_reducible first | exact HB.out | apply below_alloc | apply pw_below_drewN | apply below_drew1 | refine below_set ?_ GE194.out) | exact HB.out)⟩
              · replace c29 := Bool.eq_false_iff.mpr c29
                subst c29
                have H1 : (some false) = some r := by rw [if_neg (show ¬ (false = true) by decide)] at H; exact H
                clear H
                have H := H1
                clear H1
                obtain rfl := Option.some.inj H
                go_wp2_with (first | ((with_reducible refine gate_callee (f := 20) rfl ?_); refine goesL_ (some 39) rfl rfl Tryd.func20 (by kernel_rfl) rfl #[.int .i32 a0] rfl (by (try simp only [List.map_toArray, List.map_cons, List.map_nil]); first | done | rfl | (simp only [List.length_drop, List.length_take]; rfl)) ?_; (with_reducible refine (calamuslaw02_same.calls k1 a0 false _ ?side1 A28.out).mono ?_); (case side1 => exact Laid.sub (by decide) (Laid.below HLD.out (by repeat (first | (with_reducible first | exact HB.out | apply below_alloc | apply pw_below_drewN | apply below_drew1 | refine below_set ?_ GE194.out) | exact HB.out)))); rintro e w33 ⟨rfl, hb⟩; refine ⟨_, rfl, ?_⟩; have n0_ := Aside0.mk (blk_below (g := gb194) (o := .cells #[.int .i32 ((rd_T46 t190 (ji6)).f0), .int .i32 ((rd_T46 t190 (ji6)).f1), .int .u8 ((rd_T46 t190 (ji6)).f2)] 46 (0, 0)) (by (with_reducible repeat (first | refine blk_drewN ?_ _ | refine blk_drew ?_ | refine blk_alloc ?_ _)); exact BK194.out) hb); have n1_ := Aside0.mk (below_step (by repeat (first | (with_reducible first | exact HB.out | apply below_alloc | apply pw_below_drewN | apply below_drew1 | refine below_set ?_ GE194.out) | exact HB.out)) hb); clear BK194; clear HB; have BK194 := n0_; have HB := n1_; clear n0_ n1_; (try clear hb); (try clear hb2); (try clear hk); (try clear hi)))
                go_ret
                exact ⟨by first | rfl | (simp [errW_none, errW_some] <;> rfl) | (simp only [← hji6]; first | rfl | (simp [errW_none, errW_some] <;> rfl)) | (simp [*, errW_none, errW_some] <;> rfl), by repeat (first | (with_reducible first | exact HB.out | apply below_alloc | apply pw_below_drewN | apply below_drew1 | refine below_set ?_ GE194.out) | exact HB.out)⟩
      · rw [if_neg c8] at H
        exact absurd H (by simp)
    · rw [if_neg c7] at H
      exact absurd H (by simp)

/-- THE ONE PURE STATEMENT of calamuslaw02_UcdTables: yours. -/
def calamuslaw02_UcdTables.Pure : Prop := ∀ (a0 : Int) (a1 : Int) (a2 : Int), (Lit.int .i32 a0).wf = true → (Lit.int .u8 a1).wf = true → (Lit.int .u8 a2).wf = true → ∃ k, calamuslaw02_UcdTables.f k a0 a1 a2 = some true
theorem calamuslaw02_UcdTables.walk (P : calamuslaw02_UcdTables.Pure) (a0 : Int) (a1 : Int) (a2 : Int) (w : World) (hLD : Laid [0, 1, 2, 3, 4, 6, 7] w) (w0 : (Lit.int .i32 a0).wf = true) (w1 : (Lit.int .u8 a1).wf = true) (w2 : (Lit.int .u8 a2).wf = true) :
    Calls Tryd.prog 8 #[.int .i32 a0, .int .u8 a1, .int .u8 a2] w fun e w' => e = .returned (.bool true) ∧ Below w.heap.size w w' := by
  obtain ⟨k, h⟩ := P a0 a1 a2 w0 w1 w2
  refine (calamuslaw02_UcdTables.calls k a0 a1 a2 true w hLD h).mono ?_
  rintro e w' ⟨rfl, hd⟩
  exact ⟨rfl, hd⟩

end Go.Proofs.YtfnkpjkbgfgbkaaDoor.Pr
