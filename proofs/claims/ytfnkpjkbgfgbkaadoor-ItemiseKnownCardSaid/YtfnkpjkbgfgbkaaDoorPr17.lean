-- Written for this claim by a program of this session over the translation. Lean checks it.
import Derived.Test.YtfnkpjkbgfgbkaaDoorPV
import Derived.Test.YtfnkpjkbgfgbkaaDoorPr0
import Derived.Test.YtfnkpjkbgfgbkaaDoorPr14
import Derived.Test.YtfnkpjkbgfgbkaaDoorPr16
import Derived.Test.YtfnkpjkbgfgbkaaDoorH7
import Derived.Test.YtfnkpjkbgfgbkaaDoorHS
namespace Go.Proofs.YtfnkpjkbgfgbkaaDoor.Pr
open Go.RowKit Go.Proofs.YtfnkpjkbgfgbkaaDoorW.PrintWords Go.Proofs.YtfnkpjkbgfgbkaaDoorW.PrintLast Go.Proofs.YtfnkpjkbgfgbkaaDoorW.PrintMore
attribute [local go_sem] max2_int min2_int max_two min_two max_three min_three max_four min_four   -- for this text's walks alone
set_option linter.unusedVariables false
set_option linter.unusedSimpArgs false

/-! ### calamuslaw14_ItemiseScripts: function 3 -/
mutual
def calamuslaw14_ItemiseScripts.l0 : Nat → List Int → List Int → List Int → Int → Option (Bool)
  | 0, _, _, _, _ => none
  | k + 1, x0, x3, x4, x5 => if x5 < 2 then ((itemise_Scripts.f x3).bind fun t359 => (if (strOfNums t359).toList = (strOfNums x4).toList then (calamuslaw14_ItemiseScripts.l1 k x0 x3 x4 x5 t359 0) else (some false))) else (if (strOfRunes x3).toList = (strOfRunes x0).toList then ((calamuslaw14_works.f).bind fun t358 => (some t358)) else (some false))
def calamuslaw14_ItemiseScripts.l1 : Nat → List Int → List Int → List Int → Int → List Int → Int → Option (Bool)
  | 0, _, _, _, _, _, _ => none
  | k + 1, x0, x3, x4, x5, x6, x7 => if x7 < (x6.length : Int) then (if 0 ≤ x7 then (calamuslaw14_ItemiseScripts.l1 k x0 x3 x4 x5 (x6.set (x7 : Int).toNat 9) (wrap64 (x7 + 1))) else (none)) else (calamuslaw14_ItemiseScripts.l0 k x0 x3 x4 (wrap64 (x5 + 1)))
end
def calamuslaw14_ItemiseScripts.f (k : Nat) (l0 : List Int) : Option (Bool) := if (l0.length : Int) > 300 then ((calamuslaw14_works.f).bind fun t351 => (some t351)) else (if ([] : List Int).length + l0.length < 35184372088832 then ((calamusref14_Scripts.f k l0).bind fun t355 => (calamuslaw14_ItemiseScripts.l0 k l0 (([] : List Int) ++ l0) t355 0)) else (none))
theorem calamuslaw14_ItemiseScripts.mono_l : ∀ k, (∀ y0 y1 y2 y3, LeO (calamuslaw14_ItemiseScripts.l0 k y0 y1 y2 y3) (calamuslaw14_ItemiseScripts.l0 (k + 1) y0 y1 y2 y3)) ∧ (∀ y0 y1 y2 y3 y4 y5, LeO (calamuslaw14_ItemiseScripts.l1 k y0 y1 y2 y3 y4 y5) (calamuslaw14_ItemiseScripts.l1 (k + 1) y0 y1 y2 y3 y4 y5))
  | 0 => ⟨fun _ _ _ _ r h => by simp [calamuslaw14_ItemiseScripts.l0] at h, fun _ _ _ _ _ _ r h => by simp [calamuslaw14_ItemiseScripts.l1] at h⟩
  | k + 1 => by
    obtain ⟨ih0, ih1⟩ := calamuslaw14_ItemiseScripts.mono_l k
    refine ⟨?_, ?_⟩
    · intro y0 y1 y2 y3
      unfold calamuslaw14_ItemiseScripts.l0
      repeat' first
      | (with_reducible exact ih0 _ _ _ _)
      | (with_reducible exact ih1 _ _ _ _ _ _)
      | (with_reducible exact calamusref14_Scripts.mono _ _)
      | (with_reducible exact LeO.refl _)
      | (with_reducible exact LeO.none _)
      | (with_reducible refine LeO.ite ?_ ?_)
      | (with_reducible refine LeO.bind ?_ (fun _ => ?_))
      | exact ih0 _ _ _ _
      | exact ih1 _ _ _ _ _ _
      | exact calamusref14_Scripts.mono _ _
      | exact LeO.none _
      | refine LeO.ite ?_ ?_
      | refine LeO.bind ?_ (fun _ => ?_)
    · intro y0 y1 y2 y3 y4 y5
      unfold calamuslaw14_ItemiseScripts.l1
      repeat' first
      | (with_reducible exact ih0 _ _ _ _)
      | (with_reducible exact ih1 _ _ _ _ _ _)
      | (with_reducible exact calamusref14_Scripts.mono _ _)
      | (with_reducible exact LeO.refl _)
      | (with_reducible exact LeO.none _)
      | (with_reducible refine LeO.ite ?_ ?_)
      | (with_reducible refine LeO.bind ?_ (fun _ => ?_))
      | exact ih0 _ _ _ _
      | exact ih1 _ _ _ _ _ _
      | exact calamusref14_Scripts.mono _ _
      | exact LeO.none _
      | refine LeO.ite ?_ ?_
      | refine LeO.bind ?_ (fun _ => ?_)
theorem calamuslaw14_ItemiseScripts.mono : ∀ a0 k, LeO (calamuslaw14_ItemiseScripts.f k a0) (calamuslaw14_ItemiseScripts.f (k + 1) a0) := by
  intro a0 k; (obtain ⟨ih0, ih1⟩ := calamuslaw14_ItemiseScripts.mono_l k); unfold calamuslaw14_ItemiseScripts.f
  repeat' first
      | (with_reducible exact ih0 _ _ _ _)
      | (with_reducible exact ih1 _ _ _ _ _ _)
      | (with_reducible exact calamusref14_Scripts.mono _ _)
      | (with_reducible exact LeO.refl _)
      | (with_reducible exact LeO.none _)
      | (with_reducible refine LeO.ite ?_ ?_)
      | (with_reducible refine LeO.bind ?_ (fun _ => ?_))
      | exact ih0 _ _ _ _
      | exact ih1 _ _ _ _ _ _
      | exact calamusref14_Scripts.mono _ _
      | exact LeO.none _
      | refine LeO.ite ?_ ?_
      | refine LeO.bind ?_ (fun _ => ?_)
set_option maxHeartbeats 8000000 in
set_option maxRecDepth 100000 in
theorem calamuslaw14_ItemiseScripts.calls (k : Nat) (A0 : Option Addr) (c0 : Nat) (l0 : List Int) (r : Bool) (w : World) (hr0 : Kd.C (Kd.int .i32) w A0 l0.length l0) (hc0 : l0.length ≤ c0) (hLD : Laid [2, 5] w) (h : calamuslaw14_ItemiseScripts.f k l0 = some r) :
    Calls Tryd.prog 3 #[.slice A0 l0.length c0] w fun e w' => e = .returned (.bool r) ∧ Below w.heap.size w w' := by
  (have HR0 := Aside0.mk hr0); (have HC0 := Aside0.mk hc0); clear hr0 hc0; (have HB := Aside0.mk (Below.refl w.heap.size w)); (have HLD := Aside0.mk hLD); clear hLD; (have H : (if (l0.length : Int) > 300 then ((calamuslaw14_works.f).bind fun t351 => (some t351)) else (if ([] : List Int).length + l0.length < 35184372088832 then ((calamusref14_Scripts.f k l0).bind fun t355 => (calamuslaw14_ItemiseScripts.l0 k l0 (([] : List Int) ++ l0) t355 0)) else (none))) = some r := h); clear h; (by_cases c2 : (l0.length : Int) > 300); (· (rw [if_pos c2] at H); (have c2b0 : decide (300 < (l0.length : Int)) = true := decide_eq_true c2); (have c2b1 : decide (300 < l0.length) = true := decide_eq_true (by omega)); clear c2; (replace H := Option.bind_eq_some_iff.mp H); (obtain ⟨t351, A30, H⟩ := H); (replace H : (some t351) = some r := H); (have A3 := Aside0.mk A30); clear A30; (obtain rfl := Option.some.inj H); (go_enter Tryd.func3, Tryd.ntmps3); (go_wp2_with (first | ((with_reducible refine gate_callee (f := 11) rfl ?_); refine goesL_ (some 11) rfl rfl Tryd.func11 (by kernel_rfl) rfl #[] rfl mq ?_; (with_reducible refine (calamuslaw14_works.calls  t351 _ ?side1 A3.out).mono ?_); (case side1 => exact Laid.sub (by decide) (Laid.below HLD.out bq)); rintro e w4 ⟨rfl, hb⟩; refine ⟨_, rfl, ?_⟩; have n0_ := Aside0.mk (below_step bq hb); clear HB; have HB := n0_; clear n0_; (try clear hb); (try clear hb2); (try clear hk); (try clear hi)))); go_ret; (exact ⟨by first | rfl | (simp [errW_none, errW_some] <;> rfl) | (simp [*, errW_none, errW_some] <;> rfl), bq⟩))
  · (rw [if_neg c2] at H); (have c2b0 : decide (300 < (l0.length : Int)) = false := decide_eq_false c2); (have c2b1 : decide (300 < l0.length) = false := decide_eq_false (by omega)); clear c2; (by_cases c5 : ([] : List Int).length + l0.length < 35184372088832)
    · (rw [if_pos c5] at H); (have LMc5 := Aside0.mk c5); clear c5; (obtain ⟨y352, hy352⟩ : ∃ y_ : List Int, y_ = (([] : List Int) ++ l0) := ⟨_, rfl⟩); (replace H : ((calamusref14_Scripts.f k l0).bind fun t355 => (calamuslaw14_ItemiseScripts.l0 k l0 y352 t355 0)) = some r := by first | (rw [hy352]; with_reducible exact H) | (have H2_ := (Option.bind_some _ _).symm.trans H; rw [hy352]; with_reducible exact H2_) | (have H2_ := (Option.bind_some _ _).symm.trans H; with_reducible exact H2_) | with_reducible exact H | (rw [hy352]; exact H) | exact H); (have Ny352 := Aside0.mk hy352); clear hy352; (replace H := Option.bind_eq_some_iff.mp H); (obtain ⟨t355, A60, H⟩ := H); (replace H : (calamuslaw14_ItemiseScripts.l0 k l0 y352 t355 0) = some r := H); (have A6 := Aside0.mk A60); clear A60; (have H' := Aside0.mk H); clear H; (go_enter Tryd.func3, Tryd.ntmps3); (go_wp2_with (first | ((with_reducible refine gate_builtin (b := .append) (xs := #[.tmp 12, .tmp 13]) rfl ?_); at_builtin; refine Kd.R_append_rows (Kd.int .i32) (w0 := w) w.heap.size rfl (.tmp 12) (.tmp 13) 22 21 (.int .i32 0) 4 rfl Tryd.underlying22 info21 rfl (by decide) (by omega) (.slice none 0 0) ([] : List Int) l0 _ _ _ (fun _ => True) (fun _ => False) rfl rfl ?aO ?aR (fun _ _ h => h) (fun _ h => h.elim) ?aF ?aB ?aS ?aL ?_; (case aR => repeat (first | exact HR0.out | (with_reducible refine Kd.C_alloc ?_ _) | (with_reducible refine Kd.C_drewN ?_ _) | (with_reducible refine Kd.C_drew ?_))); (case aB => exact bq); (case aF => exact (fun _ _ => trivial)); (case aO => exact ((Kd.R_nil _ _ _ _ (fun _ => True)))); (case aS => exact (below_size bq)); (case aL => have := LMc5.out; omega); intro v353 w7 ho hb hg hat; rw [← Ny352.out] at ho; have n0_ := Aside0.mk (hb); have n1_ := Aside0.mk (ho); clear HB; have HB := n0_; have HO354 := n1_; clear n0_ n1_; clear ho hb hg hat) | ((with_reducible refine gate_callee (f := 12) rfl ?_); refine goesL_ (some 16) rfl rfl Tryd.func12 (by kernel_rfl) rfl #[.slice A0 l0.length c0] rfl mq ?_; (with_reducible refine (calamusref14_Scripts.calls k _ _ l0 t355 _ ?side1 ?side2 A6.out).mono ?_); (case side1 => repeat (first | exact (Kd.C_below HR0.out HB.out) | (with_reducible refine Kd.C_alloc ?_ _) | (with_reducible refine Kd.C_drewN ?_ _) | (with_reducible refine Kd.C_drew ?_))); (case side2 => exact HC0.out); rintro e w8 ⟨v356, rfl, ho0, hb⟩; refine ⟨_, rfl, ?_⟩; have n0_ := Aside0.mk (Kd.R_below (kr HO354) hb); have n1_ := Aside0.mk (Kd.R_lower ho0 (below_size bq)); have n2_ := Aside0.mk (below_step bq hb); clear HO354; clear HB; have HO354 := n0_; have HO357 := n1_; have HB := n2_; clear n0_ n1_ n2_; (try clear hb); (try clear hb2); (try clear hk); (try clear hi); (try clear ho0)))); (go_loopg [5] k (fun kq v5 w' => ∃ (x4_1 : List Int) (x5_1 : Int), v5 = .int .i64 x5_1 ∧ Aside0 (calamuslaw14_ItemiseScripts.l0 kq l0 y352 x4_1 x5_1 = some r) ∧ Aside0 (kq ≤ k) ∧ Aside0 (Kd.R (Kd.int .i32) 21 w' w.heap.size (fun _ => True) v353 y352) ∧ Aside0 (Kd.R (Kd.int .u8) 5 w' w.heap.size (fun _ => True) v356 x4_1) ∧ Aside0 (Below w.heap.size w w')))
      case atStart => exact ⟨(t355), (0), rq, H', ⟨Nat.le_refl _⟩, ⟨kr HO354⟩, ⟨kr HO357⟩, ⟨bq⟩⟩
      case round =>
        clear H'; (try clear c1); (try clear c2); (try clear c2b0); (try clear c2b1); (try clear p2); (try clear c3); (try clear c5); (obtain ⟨x4_1, x5_1, rfl, HA, HK1, HO_3, HO_4, HB⟩ := hrel)
        cases gk with
        | zero => exact absurd HA.out (by simp [calamuslaw14_ItemiseScripts.l0])
        | succ k1 =>
          (have H := HA.out); clear HA; (simp only [calamuslaw14_ItemiseScripts.l0] at H); (by_cases c9 : x5_1 < 2)
          · (rw [if_pos c9] at H); (have c9b0 : decide (x5_1 < 2) = true := decide_eq_true c9); clear c9; (replace H := Option.bind_eq_some_iff.mp H); (obtain ⟨t359, A100, H⟩ := H); (replace H : (if (strOfNums t359).toList = (strOfNums x4_1).toList then (calamuslaw14_ItemiseScripts.l1 k1 l0 y352 x4_1 x5_1 t359 0) else (some false)) = some r := H); (have A10 := Aside0.mk A100); clear A100; (by_cases c11 : (strOfNums t359).toList = (strOfNums x4_1).toList)
            · (rw [if_pos c11] at H); (have c11b0 : ((strOfNums t359).toList == (strOfNums x4_1).toList) = true := beq_iff_eq.mpr c11); (have c11b1 : ((strOfNums t359).toList != (strOfNums x4_1).toList) = false := bne_eq_false_iff_eq.mpr c11); clear c11; (have H' := Aside0.mk H); clear H; (obtain ⟨Ao12, co12, eo12⟩ := Kd.R_slice HO_3.out); subst eo12; (go_wp2_with (first | ((with_reducible refine gate_callee (f := 13) rfl ?_); refine goesL_ (some 22) rfl rfl Tryd.func13 (by kernel_rfl) rfl #[.slice Ao12 y352.length co12] rfl mq ?_; (with_reducible refine (itemise_Scripts.calls _ _ y352 t359 _ ?side1 ?side2 ?side3 A10.out).mono ?_); (case side1 => repeat (first | exact (Kd.R_reads' HO_3.out).2.2 | (with_reducible refine Kd.C_alloc ?_ _) | (with_reducible refine Kd.C_drewN ?_ _) | (with_reducible refine Kd.C_drew ?_))); (case side2 => exact (Kd.R_reads' HO_3.out).2.1); (case side3 => exact Laid.sub (by decide) (Laid.below HLD.out bq)); rintro e w13 ⟨v360, rfl, ho0, hb⟩; refine ⟨_, rfl, ?_⟩; have n0_ := Aside0.mk (Kd.R_below (kr HO_3) hb); have n1_ := Aside0.mk (Kd.R_elder' (kr HO_4) (Kd.R_base ho0) hb); have n2_ := Aside0.mk (Kd.R_lower (Kd.R_new' ho0 (Kd.R_lt (kr HO_4))) (below_size bq)); have n3_ := Aside0.mk (below_step bq hb); clear HO_3; clear HO_4; clear HB; have HO_3 := n0_; have HO_4 := n1_; have HO361 := n2_; have HB := n3_; clear n0_ n1_ n2_ n3_; (try clear hb); (try clear hb2); (try clear hk); (try clear hi); (try clear ho0); have hcv14 := own_string (P := Tryd.prog) Tryd.underlying24 Tryd.underlying5 Tryd.underlying9 (Kd.own_of_R HO361.out); have hcv15 := own_string (P := Tryd.prog) Tryd.underlying24 Tryd.underlying5 Tryd.underlying9 (Kd.own_of_R HO_4.out)))); (go_loopg [7] k1 (fun kq v7 w' => ∃ (x6_2 : List Int) (x7_2 : Int), v7 = .int .i64 x7_2 ∧ Aside0 (calamuslaw14_ItemiseScripts.l1 kq l0 y352 x4_1 x5_1 x6_2 x7_2 = some r) ∧ Aside0 (kq ≤ k1) ∧ Aside0 (Kd.R (Kd.int .i32) 21 w' w.heap.size (fun _ => True) (.slice Ao12 y352.length co12) y352) ∧ Aside0 (Kd.R (Kd.int .u8) 5 w' w.heap.size (fun k_ => some k_ ≠ (v360 : Value).ownBlock) v356 x4_1) ∧ Aside0 (Kd.R (Kd.int .u8) 5 w' w.heap.size (fun k_ => some k_ ≠ (v356 : Value).ownBlock) v360 x6_2) ∧ Aside0 (Below w.heap.size w w')))
              case atStart => exact ⟨(t359), (0), rq, H', ⟨Nat.le_refl _⟩, ⟨kr HO_3⟩, ⟨by (with_reducible repeat (first | apply Kd.R_alloc | apply Kd.R_drewN | apply Kd.R_drew)); exact Kd.R_mono HO_4.out (fun _ hk => hk.2)⟩, ⟨by (with_reducible repeat (first | apply Kd.R_alloc | apply Kd.R_drewN | apply Kd.R_drew)); exact Kd.R_mono HO361.out (fun _ hk => hk.2)⟩, ⟨bq⟩⟩
              case round =>
                clear H'; (try clear c1); (try clear hcv1); (try clear c2); (try clear c2b0); (try clear c2b1); (try clear p2); (try clear c3); (try clear c5); (try clear c9); (try clear c9b0); (try clear c11); (try clear c11b0); (try clear c11b1); (try clear c12); (try clear c13); (try clear hcv14); (try clear hcv15); (try clear p2); (obtain ⟨x6_2, x7_2, rfl, HA, HK2, HO_3, HO_4, HO_6, HB⟩ := hrel)
                cases gk with
                | zero => exact absurd HA.out (by simp [calamuslaw14_ItemiseScripts.l1])
                | succ k2 =>
                  (have H := HA.out); clear HA; (simp only [calamuslaw14_ItemiseScripts.l1] at H); (by_cases c16 : x7_2 < (x6_2.length : Int))
                  · (rw [if_pos c16] at H); (have c16b0 : decide (x7_2 < (x6_2.length : Int)) = true := decide_eq_true c16); clear c16; (by_cases c17 : 0 ≤ x7_2)
                    · (rw [if_pos c17] at H); (have c17b0 : decide (0 ≤ x7_2) = true := decide_eq_true c17); clear c17; (obtain ⟨y362, hy362⟩ : ∃ y_ : List Int, y_ = (x6_2.set (x7_2 : Int).toNat 9) := ⟨_, rfl⟩); (replace H : (calamuslaw14_ItemiseScripts.l1 k2 l0 y352 x4_1 x5_1 y362 (wrap64 (x7_2 + 1))) = some r := by first | (rw [hy362]; with_reducible exact H) | (have H2_ := (Option.bind_some _ _).symm.trans H; rw [hy362]; with_reducible exact H2_) | (have H2_ := (Option.bind_some _ _).symm.trans H; with_reducible exact H2_) | with_reducible exact H | (rw [hy362]; exact H) | exact H); (have Ny362 := Aside0.mk hy362); clear hy362; (have H' := Aside0.mk H); clear H; (obtain ⟨Ao19, co19, eo19⟩ := Kd.R_slice HO_6.out); subst eo19; (have p18 : 0 ≤ (x7_2 : Int) := of_decide_eq_true as_); (have q18 : (x7_2 : Int) < ((x6_2.length : Int) : Int) := of_decide_eq_true as_); (obtain ⟨go18, co18, eo18, gb18, gl18, cl18, HG18⟩ := Kd.R_form HO_6.out (by omega)); ((first | cases eo18 | (injection eo18 with ea_ en_ ec_; (first | subst ea_ | (injection ea_ with ea_; subst ea_)); subst ec_; clear en_))); (have GB18 := Aside0.mk gb18); (have GG18 := Aside0.mk HG18); clear gb18 gl18 HG18; (obtain ⟨hx18_0, hf18_0⟩ := Kd.R_celln 0 HO_6.out (x7_2 : Int) p18 q18); (replace p18 := eq_true p18); (replace q18 := eq_true q18); (have HP20 := Kd.R_putg HO_6.out (x7_2 : Int) 9); (go_wp2_with (first | ((with_reducible refine gate_store (t := 5) (p := 36) rfl ?_); refine store_event (t := 5) (p := 36) (v := ?vo_w21) (w1 := (wr.setCell ⟨go18, (x7_2 : Int).toNat, none⟩ (.int .u8 9))) ?hg ?ho ?hn ?hr ?_; (case ho => rfl); (case hg => rfl); (case hn => rfl); (case hr => first | (go_simp; done) | (go_simp; rfl)); intro w21 hw; have hg : wr.grownBy w21 (some go18) := (by rw [hw]; exact HP20.2); have hp_ : Kd.R (Kd.int .u8) 5 w21 w.heap.size (fun k_ => some k_ ≠ (v356 : Value).ownBlock) (.slice (some ⟨go18, 0, none⟩) x6_2.length co19) y362 := (by rw [hw, Ny362.out]; exact HP20.1); clear HP20; have n0_ := Aside0.mk (Kd.R_over' (v := (.slice (some ⟨go18, 0, none⟩) x6_2.length co19)) (kr HO_3) (Kd.R_typed HO_6.out) (by decide) hg); have n1_ := Aside0.mk (Kd.R_after (v := (.slice (some ⟨go18, 0, none⟩) x6_2.length co19)) (v1 := (.slice (some ⟨go18, 0, none⟩) x6_2.length co19)) (ok := (fun _ => True)) (by (with_reducible repeat (first | apply Kd.R_alloc | apply Kd.R_drewN | apply Kd.R_drew)); exact Kd.R_mono HO_4.out (fun _ hk => ⟨trivial, hk⟩)) hg (.inl rfl)); have n2_ := Aside0.mk (hp_); have n3_ := Aside0.mk ((by rw [hw]; exact below_set (HB.out) GB18.out : Below w.heap.size w w21)); clear HO_3; clear HO_4; clear HO_6; clear HB; have HO_3 := n0_; have HO_4 := n1_; have HO_6 := n2_; have HB := n3_; clear n0_ n1_ n2_ n3_; clear hg hw hp_))); go_roundg k2
                      case measure => have := HK1.out; have := HK2.out; omega
                      case rel => exact ⟨(y362), (wrap64 (x7_2 + 1)), rq, H', ⟨by have := HK1.out; have := HK2.out; omega⟩, ⟨kr HO_3⟩, ⟨by (with_reducible repeat (first | apply Kd.R_alloc | apply Kd.R_drewN | apply Kd.R_drew)); exact Kd.R_mono HO_4.out (fun _ hk => hk.2)⟩, ⟨kr HO_6⟩, ⟨bq⟩⟩
                    · (rw [if_neg c17] at H); (exact absurd H (by simp))
                  · (rw [if_neg c16] at H); (have c16b0 : decide (x7_2 < (x6_2.length : Int)) = false := decide_eq_false c16); clear c16; (have H' := Aside0.mk H); clear H; (obtain ⟨Ao22, co22, eo22⟩ := Kd.R_slice HO_6.out); subst eo22; (go_wp2); go_roundg k2
                    case measure => have := HK1.out; have := HK2.out; omega
                    case rel => exact ⟨(x4_1), (wrap64 (x5_1 + 1)), rq, H', ⟨by have := HK1.out; have := HK2.out; omega⟩, ⟨kr HO_3⟩, ⟨by (with_reducible repeat (first | apply Kd.R_alloc | apply Kd.R_drewN | apply Kd.R_drew)); exact Kd.R_mono HO_4.out (fun _ hk => trivial)⟩, ⟨bq⟩⟩
            · (rw [if_neg c11] at H); (have c11b0 : ((strOfNums t359).toList == (strOfNums x4_1).toList) = false := beq_eq_false_iff_ne.mpr c11); (have c11b1 : ((strOfNums t359).toList != (strOfNums x4_1).toList) = true := bne_iff_ne.mpr c11); (obtain rfl := Option.some.inj H); (obtain ⟨Ao23, co23, eo23⟩ := Kd.R_slice HO_3.out); subst eo23; (go_wp2_with (first | ((with_reducible refine gate_callee (f := 13) rfl ?_); refine goesL_ (some 22) rfl rfl Tryd.func13 (by kernel_rfl) rfl #[.slice Ao23 y352.length co23] rfl mq ?_; (with_reducible refine (itemise_Scripts.calls _ _ y352 t359 _ ?side1 ?side2 ?side3 A10.out).mono ?_); (case side1 => repeat (first | exact (Kd.R_reads' HO_3.out).2.2 | (with_reducible refine Kd.C_alloc ?_ _) | (with_reducible refine Kd.C_drewN ?_ _) | (with_reducible refine Kd.C_drew ?_))); (case side2 => exact (Kd.R_reads' HO_3.out).2.1); (case side3 => exact Laid.sub (by decide) (Laid.below HLD.out bq)); rintro e w24 ⟨v360, rfl, ho0, hb⟩; refine ⟨_, rfl, ?_⟩; have n0_ := Aside0.mk (Kd.R_below (kr HO_3) hb); have n1_ := Aside0.mk (Kd.R_elder' (kr HO_4) (Kd.R_base ho0) hb); have n2_ := Aside0.mk (Kd.R_lower (Kd.R_new' ho0 (Kd.R_lt (kr HO_4))) (below_size bq)); have n3_ := Aside0.mk (below_step bq hb); clear HO_3; clear HO_4; clear HB; have HO_3 := n0_; have HO_4 := n1_; have HO361 := n2_; have HB := n3_; clear n0_ n1_ n2_ n3_; (try clear hb); (try clear hb2); (try clear hk); (try clear hi); (try clear ho0); have hcv25 := own_string (P := Tryd.prog) Tryd.underlying24 Tryd.underlying5 Tryd.underlying9 (Kd.own_of_R HO361.out); have hcv26 := own_string (P := Tryd.prog) Tryd.underlying24 Tryd.underlying5 Tryd.underlying9 (Kd.own_of_R HO_4.out)))); go_ret; (exact ⟨by first | rfl | (simp [errW_none, errW_some] <;> rfl) | (simp [*, errW_none, errW_some] <;> rfl), bq⟩)
          · (rw [if_neg c9] at H); (have c9b0 : decide (x5_1 < 2) = false := decide_eq_false c9); clear c9; (by_cases c27 : (strOfRunes y352).toList = (strOfRunes l0).toList); (· (rw [if_pos c27] at H); (have c27b0 : ((strOfRunes y352).toList == (strOfRunes l0).toList) = true := beq_iff_eq.mpr c27); (have c27b1 : ((strOfRunes y352).toList != (strOfRunes l0).toList) = false := bne_eq_false_iff_eq.mpr c27); clear c27; (replace H := Option.bind_eq_some_iff.mp H); (obtain ⟨t358, A280, H⟩ := H); (replace H : (some t358) = some r := H); (have A28 := Aside0.mk A280); clear A280; (obtain rfl := Option.some.inj H); (have hcv29 := own_runes (P := Tryd.prog) Tryd.underlying22 Tryd.underlying21 Tryd.underlying9 (Kd.own_of_R HO_3.out)); (have hcv30 := C_runes (P := Tryd.prog) (A := A0) (c := c0) Tryd.underlying22 Tryd.underlying21 Tryd.underlying9 (Kd.C_below HR0.out HB.out)); (go_wp2_with (first | (go_at_call 11; (with_reducible refine (calamuslaw14_works.calls  t358 _ ?side1 A28.out).mono ?_); (case side1 => exact Laid.sub (by decide) (Laid.below HLD.out bq)); rintro e w31 ⟨rfl, hb⟩; have n0_ := Aside0.mk (Kd.R_below (kr HO_3) hb); have n1_ := Aside0.mk (Kd.R_below (kr HO_4) hb); have n2_ := Aside0.mk (below_step bq hb); clear HO_3; clear HO_4; clear HB; have HO_3 := n0_; have HO_4 := n1_; have HB := n2_; clear n0_ n1_ n2_; (try clear hb); (try clear hb2); (try clear hk); (try clear hi)))); go_ret; (exact ⟨by first | rfl | (simp [errW_none, errW_some] <;> rfl) | (simp [*, errW_none, errW_some] <;> rfl), bq⟩)); (· (rw [if_neg c27] at H); (have c27b0 : ((strOfRunes y352).toList == (strOfRunes l0).toList) = false := beq_eq_false_iff_ne.mpr c27); (have c27b1 : ((strOfRunes y352).toList != (strOfRunes l0).toList) = true := bne_iff_ne.mpr c27); (obtain rfl := Option.some.inj H); (have hcv32 := own_runes (P := Tryd.prog) Tryd.underlying22 Tryd.underlying21 Tryd.underlying9 (Kd.own_of_R HO_3.out)); (have hcv33 := C_runes (P := Tryd.prog) (A := A0) (c := c0) Tryd.underlying22 Tryd.underlying21 Tryd.underlying9 (Kd.C_below HR0.out HB.out)); (go_wp2); go_ret; (exact ⟨by first | rfl | (simp [errW_none, errW_some] <;> rfl) | (simp [*, errW_none, errW_some] <;> rfl), bq⟩))
    · (rw [if_neg c5] at H); (exact absurd H (by simp))

/-- THE ONE PURE STATEMENT of calamuslaw14_ItemiseScripts: yours. -/
def calamuslaw14_ItemiseScripts.Pure : Prop := ∀ (l0 : List Int), l0.length ≤ maxLen → l0.length * 4 ≤ 140737488351232 → (∀ x ∈ l0, (Lit.int .i32 x).wf = true) → ∃ k, calamuslaw14_ItemiseScripts.f k l0 = some true
theorem calamuslaw14_ItemiseScripts.walk (P : calamuslaw14_ItemiseScripts.Pure) (a0 : Option Addr) (len0 cap0 : Nat) (z0 : List Int) (w : World) (hLD : Laid [2, 5] w) (w0 : (a0 = none ∧ len0 = 0 ∧ cap0 = 0 ∧ z0 = []) ∨ ∃ x, a0 = some x ∧ len0 ≤ cap0 ∧ cap0 ≤ maxLen ∧ z0.length = cap0 ∧ (∀ i, i < z0.length → w.cell? (x.add i) = some (.int .i32 (z0.getD i 0))) ∧ ∀ n ∈ z0, (Lit.int .i32 n).wf = true) (y0 : len0 * 4 ≤ 140737488351232) :
    Calls Tryd.prog 3 #[.slice a0 len0 cap0] w fun e w' => e = .returned (.bool true) ∧ Below w.heap.size w w' := by
  (obtain ⟨l0, rfl, hr0, hm0, hw0, hc0⟩ := ReadsInt.ofRowC w0); (obtain ⟨k, h⟩ := P l0 hm0 y0 hw0); (refine (calamuslaw14_ItemiseScripts.calls k _ _ l0 true w (Kd.C_of_reads (d := (0 : Int)) (h1 := fun _ => rfl) hr0) hc0 hLD h).mono ?_); (rintro e w' ⟨rfl, hd⟩); (exact ⟨rfl, hd⟩)

end Go.Proofs.YtfnkpjkbgfgbkaaDoor.Pr
