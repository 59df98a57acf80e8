/-
  The contract of itemise's part: it tells the scripts of one part into a row of bytes.
-/
import Derived.Test.YtfnkpjkbgfgbkaaDoorHI
namespace Go.Proofs.YtfnkpjkbgfgbkaaDoor.Pr
open Go.RowKit HK Go.Proofs.YtfnkpjkbgfgbkaaDoorW.PrintWords Go.Proofs.YtfnkpjkbgfgbkaaDoorW.PrintLast Go.Proofs.YtfnkpjkbgfgbkaaDoorW.PrintMore
set_option linter.unusedVariables false

/-- The first loop: the first own script. -/
theorem firstScr_step (l : List Int) (i : Nat) (hi : i < l.length) : firstScr (l.drop i) = if 1 < scr (rd l i) then scr (rd l i) else firstScr (l.drop (i + 1)) := by
  (rw [List.drop_eq_getElem_cons hi]); (have : rd l (i : Int) = l[i] := by unfold rd; rw [Int.toNat_natCast, List.getD_eq_getElem?_getD, List.getElem?_eq_getElem hi, Option.getD_some]); (rw [this]); rfl

theorem Laid.rest {vs : List Nat} {B : Nat} {w w' : World} (h : Laid vs w) (hr : Rest B w w') (hB : ∀ g ∈ vs, g ≠ B) : Laid vs w' := fun g hg j v hv => by
  have hc := h g hg j v hv
  exact (World.cell?_of_block (hr.block g (block_lt_of_cell hc) (hB g hg))).trans hc

theorem row_frozen {w : World} {B t : Nat} {cs : Array Value} (h : w.heap[B]? = some (.cells cs t (0, 0))) (j : Nat) : w.frozen? ⟨B, j, none⟩ = false := by
  simp [World.frozen?, h]

/-- A character's script is told. -/
theorem PInv.put {w wr : World} {B S off : Nat} {xs : List Int} {s : PS} (h : PInv w B S off xs s wr) (hB : B < w.heap.size) (hlt : off + s.outs.length < xs.length) (now v : Int) :
    PInv w B S off xs ⟨now, s.st, s.outs ++ [v]⟩ (wr.setCell ⟨B, off + s.outs.length, none⟩ (.int .u8 v)) := by
  (obtain ⟨cs, h1, h2, h3⟩ := h.stack); (have hS := h.hS); (refine ⟨h.rest.set (.inl rfl) _, h.hS, ?_, cs, (Below.heap_setCell _ _ _ _ (by show S ≠ B; omega)).trans h1, h2, h3⟩); (rw [← splice_set hlt v]); exact row_set h.row v
theorem PInv.put2 {w wr : World} {B S off : Nat} {xs : List Int} {now u : Int} {st : List (Int × Nat)} {outs : List Int} (h : PInv w B S off xs ⟨now, st, outs ++ [u]⟩ wr) (hB : B < w.heap.size) (hlt : off ≤ xs.length) (now2 v : Int) (st2 : List (Int × Nat)) (hst : ∃ k, st2 = st.take k) :
    PInv w B S off xs ⟨now2, st2, outs ++ [v]⟩ (wr.setCell ⟨B, off + outs.length, none⟩ (.int .u8 v)) := by
  (obtain ⟨cs, h1, h2, h3⟩ := h.stack); (obtain ⟨k, rfl⟩ := hst); (have hS := h.hS); (refine ⟨h.rest.set (.inl rfl) _, h.hS, ?_, cs, (Below.heap_setCell _ _ _ _ (by show S ≠ B; omega)).trans h1, h2, fun j c a hj => h3 j c a ?_⟩); (· (rw [← splice_set2 u v hlt]); exact row_set h.row v)
  · (simp only [List.getElem?_take] at hj); split at hj; (· exact hj)
    · cases hj

/-- Room on the stack. -/
theorem PInv.room {w wr : World} {B S off : Nat} {xs : List Int} {s : PS} (h : PInv w B S off xs s wr) {n : Nat} (hn : n < 64) (v : Value) :
    ∃ u1 u2, wr.cell? ⟨S, n * 2, none⟩ = some u1 ∧ wr.frozen? ⟨S, n * 2, none⟩ = false ∧ (wr.setCell ⟨S, n * 2, none⟩ v).cell? ⟨S, n * 2 + 1, none⟩ = some u2 ∧ (wr.setCell ⟨S, n * 2, none⟩ v).frozen? ⟨S, n * 2 + 1, none⟩ = false := by
  (obtain ⟨cs, h1, h2, h3⟩ := h.stack); (have h4 := heap_setCell_same wr S (n * 2) cs _ v h1); (have l1 : n * 2 < cs.size := by omega); (have l2 : n * 2 + 1 < (cs.setIfInBounds (n * 2) v).size := by simp; omega); (refine ⟨cs[n * 2], (cs.setIfInBounds (n * 2) v)[n * 2 + 1], ?_, row_frozen h1 _, ?_, row_frozen h4 _⟩); (· rw [cell_of_row wr S _ _ _ _ h1, Array.getElem?_eq_getElem l1]); (· rw [cell_of_row _ S _ _ _ _ h4, Array.getElem?_eq_getElem l2])

/-- An opening bracket is put. -/
theorem PInv.push {w wr : World} {B S off : Nat} {xs : List Int} {now : Int} {st : List (Int × Nat)} {outs : List Int} (h : PInv w B S off xs ⟨now, st, outs⟩ wr) (hB : B < w.heap.size) (hn : st.length < 64) (c : Int) (a : Nat) (now2 : Int) :
    PInv w B S off xs ⟨now2, st ++ [(c, a)], outs⟩ ((wr.setCell ⟨S, st.length * 2, none⟩ (.int .i32 c)).setCell ⟨S, st.length * 2 + 1, none⟩ (.int .i64 (a : Int))) := by
  (obtain ⟨cs, h1, h2, h3⟩ := h.stack); (have hS := h.hS); (have h4 := heap_setCell_same wr S (st.length * 2) cs _ (.int .i32 c) h1); (have h5 := heap_setCell_same _ S (st.length * 2 + 1) _ _ (.int .i64 (a : Int)) h4); (refine ⟨(h.rest.set (.inr hS) _).set (.inr hS) _, h.hS, ?_, _, h5, by simp [h2], fun k c' a' hk => ?_⟩); (· exact (Below.heap_setCell _ _ _ _ (by show B ≠ S; omega)).trans ((Below.heap_setCell _ _ _ _ (by show B ≠ S; omega)).trans h.row)); (· (by_cases hlt : k < st.length); (· (rw [List.getElem?_append_left hlt] at hk); (obtain ⟨e1, e2⟩ := h3 k c' a' hk); (rw [Array.getElem?_setIfInBounds, Array.getElem?_setIfInBounds, Array.getElem?_setIfInBounds, Array.getElem?_setIfInBounds, if_neg (by omega), if_neg (by omega), if_neg (by omega), if_neg (by omega)]); (exact ⟨e1, e2⟩)); (· (have hk2 := (List.getElem?_eq_some_iff.1 hk).1); simp at hk2; (obtain rfl : k = st.length := by omega); simp at hk; (obtain ⟨rfl, rfl⟩ := hk); (have l1 : st.length * 2 < cs.size := by omega); (have l2 : st.length * 2 + 1 < cs.size := by omega); (simp [l1, l2])))

set_option maxHeartbeats 8000000 in
set_option maxRecDepth 100000 in
theorem itemise_part.calls (A0 : Option Addr) (c0 : Nat) (l0 : List Int) (B off cap : Nat) (xs : List Int) (w : World) (hr0 : Kd.C (Kd.int .i32) w A0 l0.length l0) (hA : ∀ ad, A0 = some ad → ad.block ≠ B)
    (hB : w.heap[B]? = some (.cells (nums .u8 xs).toArray 5 (0, 0))) (hoff : off + l0.length ≤ xs.length) (hcap : l0.length ≤ cap) (hlen : l0.length ≤ 4611686018427387904) (hne : B ≠ 2 ∧ B ≠ 5)
    (hLD : Laid [2, 5] w) :
    Calls Tryd.prog 31 #[.slice A0 l0.length c0, .slice (some ⟨B, off, none⟩) l0.length cap] w fun e w' => e = .returned (.tuple #[]) ∧
      w'.heap[B]? = some (.cells (nums .u8 (xs.take off ++ partF l0 ++ xs.drop (off + l0.length))).toArray 5 (0, 0)) ∧ Rest B w w' := by
  have HR0 := Aside0.mk hr0
  have HA := Aside0.mk hA
  have HB0 := Aside0.mk hB
  have HOFF := Aside0.mk hoff
  have HLD := Aside0.mk hLD
  have hz0 := Tryd.zeroCells75_size
  have HZ := Aside0.mk hz0
  have HNE := Aside0.mk hne
  clear hne hr0 hA hB hoff hLD hz0
  go_enter Tryd.func31, Tryd.ntmps31
  go_upto_block 0 with (fail)
  obtain ⟨W0, hW0⟩ : ∃ W0, w.alloc (.cells Tryd.zeroCells75 75) = W0 := ⟨_, rfl⟩
  have hb0 : Below w.heap.size w W0 := by rw [← hW0]; exact (Below.refl _ _).alloc (Nat.le_refl _) _
  have hs0 : W0.heap[w.heap.size]? = some (.cells Tryd.zeroCells75 75 (0, 0)) := by rw [← hW0]; exact heap_alloc_last w _
  have hz0 : w.heap.size < W0.heap.size := heap_lt hs0
  rw [hW0]
  have HB0w := Aside0.mk hb0
  have HS0 := Aside0.mk hs0
  have HZ0 := Aside0.mk hz0
  clear hW0 hb0 hs0 hz0
  go_cut [6] (fun v6 wc => v6 = .int .u8 (firstScr l0) ∧ Aside0 (Below W0.heap.size W0 wc))
  case first =>
    go_wp2
    go_loopw [6, 20] (fun v6 v20 wr => ∃ i : Nat, v20 = .int .i64 i ∧ v6 = .int .u8 0 ∧ i ≤ l0.length ∧ Aside0 (firstScr (l0.drop i) = firstScr l0) ∧ Aside0 (Below W0.heap.size W0 wr)) (fun _ v20 _ => l0.length - (intOf v20).toNat)
    case atStart => exact ⟨0, rfl, rfl, Nat.zero_le _, ⟨by simp⟩, ⟨Below.refl _ _⟩⟩
    case round =>
      obtain ⟨i, rfl, rfl, hi, HF, HB⟩ := hrel
      by_cases hlt : i < l0.length
      · have p1 : 0 ≤ (i : Int) := by omega
        have q1 : (i : Int) < (l0.length : Int) := by omega
        obtain ⟨ad, rfl, hx⟩ := Kd.at_int HR0.out (i : Int) p1 q1
        rw [Int.toNat_natCast] at hx
        have hx2 := (HB.out.cell (Nat.lt_of_lt_of_le (World.block_lt_of_cell? w _ hx) HB0w.out.size)).trans ((HB0w.out.cell (World.block_lt_of_cell? w _ hx)).trans hx)
        have hst := firstScr_step l0 i hlt
        rw [HF.out] at hst
        have HST := Aside0.mk hst
        clear hx hst HF
        replace p1 := eq_true p1
        replace q1 := eq_true q1
        go_wp2_with (fail)
        refine (ucd_Script.calls (rd l0 i) (scr (rd l0 i)) _ (Laid.sub (by decide) (Laid.below HLD.out (HB0w.out.trans (HB.out.mono HB0w.out.size)))) (scr_eq _)).mono ?_
        rintro e w2 ⟨rfl, hb2⟩
        clear p1 q1 hx2
        by_cases h1 : 1 < scr (rd l0 i)
        · have HE := HST.out
          rw [if_pos h1] at HE
          have h1b : decide (1 < scr (rd l0 i)) = true := decide_eq_true h1
          have HE2 := Aside0.mk HE
          clear HE HST h1
          go_wp2
          go_meet
          case rel => exact ⟨by rw [HE2.out], ⟨HB.out.trans (hb2.mono HB.out.size)⟩⟩
        · have HE := HST.out
          rw [if_neg h1] at HE
          have h1b : decide (1 < scr (rd l0 i)) = false := decide_eq_false h1
          have HE2 := Aside0.mk HE
          clear HE HST h1
          go_wp2
          go_roundw
          case rel => exact ⟨i + 1, by go_num, rfl, by omega, ⟨HE2.out.symm⟩, ⟨HB.out.trans (hb2.mono HB.out.size)⟩⟩
          case measure => simp [intOf]; omega
      · obtain rfl : i = l0.length := by omega
        have HE := HF.out
        rw [List.drop_length] at HE
        have HE2 := Aside0.mk HE
        clear HE HF
        go_wp2
        go_meet
        case rel => exact ⟨by rw [← HE2.out]; rfl, HB⟩
  case rest =>
    obtain ⟨rfl, HB⟩ := hcut
    go_wp2
    have hinv : PInv w B w.heap.size off xs (partS l0 (l0.take 0)) wc := by
      have h1 : (partS l0 (l0.take 0)).outs = [] := by simp [partS]
      have h2 : (partS l0 (l0.take 0)).st = [] := by simp [partS]
      refine ⟨(Rest.refl B w).below (HB0w.out.trans (HB.out.mono HB0w.out.size)), Nat.le_refl _, ?_, _, (HB.out.block _ HZ0.out).trans HS0.out, HZ.out, fun k c a hk => ?_⟩
      · rw [h1, List.append_nil, List.length_nil, Nat.add_zero, List.take_append_drop]
        have hBl := heap_lt HB0.out
        exact (HB.out.block _ (Nat.lt_of_lt_of_le hBl HB0w.out.size)).trans ((HB0w.out.block _ hBl).trans HB0.out)
      · rw [h2] at hk
        simp at hk
    have HI0 := Aside0.mk hinv
    clear hinv
    go_loopw [5, 10, 33] (fun v5 v10 v33 wr => ∃ i : Nat, v33 = .int .i64 i ∧ i ≤ l0.length ∧ v5 = .int .i64 (((partS l0 (l0.take i)).st.length : Nat) : Int) ∧ v10 = .int .u8 (partS l0 (l0.take i)).now ∧ Aside0 (PInv w B w.heap.size off xs (partS l0 (l0.take i)) wr)) (fun _ _ v33 _ => l0.length - (intOf v33).toNat)
    case atStart => exact ⟨0, rfl, Nat.zero_le _, by simp [partS], by simp [partS], HI0⟩
    case round =>
      clear HI0
      obtain ⟨i, rfl, hi, rfl, rfl, HI⟩ := hrel
      by_cases hlt : i < l0.length
      · have hsn : partS l0 (l0.take (i + 1)) = pstep (partS l0 (l0.take i)) (rd l0 i) := by
          rw [List.take_succ_eq_append_getElem hlt, partS_snoc]
          unfold rd
          rw [Int.toNat_natCast, List.getD_eq_getElem?_getD, List.getElem?_eq_getElem hlt, Option.getD_some]
        have HSN := Aside0.mk hsn
        have hok := partS_ok l0 (l0.take i)
        have hlen2 : (partS l0 (l0.take i)).outs.length = i := by rw [partS_length, List.length_take]; omega
        obtain ⟨s, hs⟩ : ∃ s, s = partS l0 (l0.take i) := ⟨_, rfl⟩
        rw [← hs] at hlen2 hok HI HSN
        simp only [← hs]
        have HL := Aside0.mk hlen2
        have HOK := Aside0.mk hok
        clear hs hsn hlen2 hok
        have p1 : 0 ≤ (i : Int) := by omega
        have q1 : (i : Int) < (l0.length : Int) := by omega
        obtain ⟨ad, rfl, hx⟩ := Kd.at_int HR0.out (i : Int) p1 q1
        rw [Int.toNat_natCast] at hx
        have hadB : (ad.add i).block ≠ B := by
          have := HA.out ad rfl
          unfold Addr.add
          split <;> exact this
        have hx2 := (World.cell?_of_block (HI.out.rest.block _ (World.block_lt_of_cell? w _ hx) hadB)).trans hx
        clear hx hadB
        replace p1 := eq_true p1
        replace q1 := eq_true q1
        go_wp2_with (fail)
        have hld := Laid.rest HLD.out HI.out.rest (by simpa [eq_comm] using HNE.out)
        refine (ucd_Script.calls (rd l0 i) (scr (rd l0 i)) _ (Laid.sub (by decide) hld) (scr_eq _)).mono ?_
        rintro e w2 ⟨rfl, hb2⟩
        have hinv2 := HI.out.below hb2
        have HI2 := Aside0.mk hinv2
        have hld2 := Laid.below hld hb2
        have HLD2 := Aside0.mk hld2
        clear p1 q1 hx2 hld hb2 HI hinv2 hld2
        obtain ⟨b1, hb1⟩ : ∃ b, decide (1 < scr (rd l0 i)) = b := ⟨_, rfl⟩
        go_upto_if 41 with (fail)
        go_cut [10] (fun v10 wc => v10 = .int .u8 (pnow s (rd l0 i)) ∧ wc = w2)
        case first =>
          cases b1
          · have h1c : pnow s (rd l0 i) = s.now := if_neg (of_decide_eq_false hb1)
            clear hb1
            go_wp2
            go_meet
            case rel => exact ⟨by rw [h1c], rfl⟩
          · have h1c : pnow s (rd l0 i) = scr (rd l0 i) := if_pos (of_decide_eq_true hb1)
            clear hb1
            go_wp2
            go_meet
            case rel => exact ⟨by rw [h1c], rfl⟩
        case rest =>
          obtain ⟨rfl, hwc⟩ := hcut
          subst hwc
          clear hb1
          have hBl := heap_lt HB0.out
          have hoffi : off + i < xs.length := by have := HOFF.out; omega
          have hrl : (xs.take off ++ s.outs ++ xs.drop (off + s.outs.length)).length = xs.length := splice_length (by have := HL.out; omega)
          have hcell := row_cell HI2.out.row (j := off + i) (by omega)
          have hfz := row_frozen HI2.out.row (off + i)
          have hput := HI2.out.put hBl (by have := HL.out; omega) (pnow s (rd l0 i)) (pnow s (rd l0 i))
          rw [HL.out] at hput
          have HP := Aside0.mk hput
          have HBL := Aside0.mk hBl
          have q1 : (i : Int) < (l0.length : Int) := by omega
          replace q1 := eq_true q1
          clear hBl hrl hput
          go_upto_region 18 with (fail)
          obtain ⟨w3, hw3⟩ : ∃ w3, wc.setCell ⟨B, off + i, none⟩ (.int .u8 (pnow s (rd l0 i))) = w3 := ⟨_, rfl⟩
          rw [hw3]
          rw [hw3] at HP
          have hld3 : Laid [2, 5] w3 := Laid.rest HLD.out HP.out.rest (by simpa [eq_comm] using HNE.out)
          clear hcell hfz hw3 HI2 HLD2 q1
          obtain ⟨bc, bo, bk, hbk⟩ : ∃ c o k, brk bracketsT (rd l0 i) = (c, o, k) := ⟨_, _, _, rfl⟩
          go_wp2_with (fail)
          refine (ucd_Bracket.calls (rd l0 i) bc bo bk _ (Laid.sub (by decide) hld3) (congrArg some hbk)).mono ?_
          rintro e w4 ⟨rfl, hb4⟩
          have hp4 := HP.out.below hb4
          have HP4 := Aside0.mk hp4
          have HBK := Aside0.mk hbk
          clear HP hld3 hb4 hp4 hbk
          cases bk
          · have hps : pstep s (rd l0 i) = ⟨pnow s (rd l0 i), s.st, s.outs ++ [pnow s (rd l0 i)]⟩ := by
              unfold pstep
              rw [HBK.out]
              rfl
            have HPS := Aside0.mk (HSN.out.trans hps)
            clear hps
            go_wp2_with (fail)
            go_roundw
            case rel => exact ⟨i + 1, by go_num, by omega, by rw [HPS.out], by rw [HPS.out], ⟨by rw [HPS.out]; exact HP4.out⟩⟩
            case measure => simp [intOf]; omega
          · cases bo
            · have hst := HP4.out.stack
              obtain ⟨cs, hs1, hs2, hs3⟩ := hst
              have HS1 := Aside0.mk hs1
              have HS2 := Aside0.mk hs2
              have HS3 := Aside0.mk hs3
              clear hs1 hs2 hs3
              go_wp2_with (fail)
              go_loopw [5, 10, 17] (fun v5 v10 v17 wx => ∃ (k : Nat) (z : Int), v17 = .int .i64 z ∧ z = (k : Int) - 1 ∧ k ≤ s.st.length ∧ v5 = .int .i64 (s.st.length : Int) ∧ v10 = .int .u8 (pnow s (rd l0 i)) ∧ wx = w4 ∧ Aside0 (lastAt s.st bc s.st.length = lastAt s.st bc k)) (fun _ _ v17 _ => (intOf v17 + 1).toNat)
              case atStart => exact ⟨s.st.length, (s.st.length : Int) - 1, congrArg (Value.int .i64) (by have := HOK.out.1; unfold wrap64; omega), rfl, Nat.le_refl _, rfl, rfl, rfl, ⟨rfl⟩⟩
              case round =>
                obtain ⟨k, z, rfl, hz, hk, rfl, rfl, rfl, HK⟩ := hrel
                rcases k with _ | m
                · obtain rfl : z = -1 := by omega
                  have hps : pstep s (rd l0 i) = ⟨pnow s (rd l0 i), s.st, s.outs ++ [pnow s (rd l0 i)]⟩ := by
                    have hnone : lastAt s.st bc s.st.length = none := HK.out
                    unfold pstep
                    rw [HBK.out]
                    simp only [if_true]
                    rw [if_neg (by decide), hnone]
                  have HPS := Aside0.mk (HSN.out.trans hps)
                  clear hps hz
                  go_wp2_with (fail)
                  go_roundw
                  case rel => exact ⟨i + 1, by go_num, by omega, by rw [HPS.out], by rw [HPS.out], ⟨by rw [HPS.out]; exact HP4.out⟩⟩
                  case measure => simp [intOf]; omega
                · obtain rfl : z = (m : Int) := by omega
                  have hm : m < s.st.length := by omega
                  obtain ⟨c1, a1, hca⟩ : ∃ c a, s.st[m]? = some (c, a) := ⟨(s.st[m]).1, (s.st[m]).2, by rw [List.getElem?_eq_getElem hm]⟩
                  have hgd : s.st.getD m (0, 0) = (c1, a1) := by rw [List.getD_eq_getElem?_getD, hca]; rfl
                  obtain ⟨e1, e2⟩ := HS3.out m c1 a1 hca
                  have l1 := (cell_of_row _ w.heap.size (m * 2) _ _ _ HS1.out).trans e1
                  have l2 := (cell_of_row _ w.heap.size (m * 2 + 1) _ _ _ HS1.out).trans e2
                  have hok1 := HOK.out.1
                  have ha1 : a1 < s.outs.length := HOK.out.2 m c1 a1 hca
                  have b1 : 0 ≤ (m : Int) := by omega
                  have b2 : (m : Int) < 64 := by omega
                  have hlast : lastAt s.st bc s.st.length = if c1 = bc then some m else lastAt s.st bc m := by
                    rw [HK.out]
                    show (if (s.st.getD m (0, 0)).1 = bc then some m else lastAt s.st bc m) = _
                    rw [hgd]
                  have HLAST := Aside0.mk hlast
                  clear hz HK e1 e2 hlast
                  replace b1 := eq_true b1
                  replace b2 := eq_true b2
                  by_cases hcc : c1 = bc
                  · have hccb : (c1 == bc) = true := beq_iff_eq.2 hcc
                    have hv := row_cell HP4.out.row (j := off + a1) (by
                      have := HOFF.out
                      have := HL.out
                      rw [splice_length (by simp; omega)]
                      omega)
                    rw [splice_get (by have := HOFF.out; omega) (by simp; omega)] at hv
                    obtain ⟨v, hvv⟩ : ∃ v, v = (s.outs ++ [pnow s (rd l0 i)]).getD a1 0 := ⟨_, rfl⟩
                    rw [← hvv] at hv
                    have hps : pstep s (rd l0 i) = ⟨v, s.st.take m, s.outs ++ [v]⟩ := by
                      have hsome : lastAt s.st bc s.st.length = some m := by rw [HLAST.out, if_pos hcc]
                      unfold pstep
                      rw [HBK.out]
                      simp only [if_true]
                      rw [if_neg (by decide), hsome]
                      simp only [hgd, ← hvv]
                    have HPS := Aside0.mk (HSN.out.trans hps)
                    have hrl : (xs.take off ++ (s.outs ++ [pnow s (rd l0 i)]) ++ xs.drop (off + (s.outs ++ [pnow s (rd l0 i)]).length)).length = xs.length := splice_length (by have := HL.out; simp; omega)
                    have hcell := row_cell HP4.out.row (j := off + i) (by rw [hrl]; exact hoffi)
                    have hfz := row_frozen HP4.out.row (off + i)
                    have hpu := HP4.out.put2 HBL.out (by have := HOFF.out; omega) v v (s.st.take m) ⟨m, rfl⟩
                    rw [HL.out] at hpu
                    have HPU := Aside0.mk hpu
                    have d1 : (a1 : Int) < (l0.length : Int) := by have := HL.out; omega
                    have d2 : (i : Int) < (l0.length : Int) := by omega
                    have hlenm : (s.st.take m).length = m := by rw [List.length_take]; omega
                    clear hps hrl hpu hvv hcc hoffi
                    replace d1 := eq_true d1
                    replace d2 := eq_true d2
                    go_wp2_with (fail)
                    go_roundw
                    case rel => exact ⟨i + 1, by go_num, by omega, by rw [HPS.out, hlenm], by rw [HPS.out], ⟨by rw [HPS.out]; exact HPU.out⟩⟩
                    case measure => simp [intOf]; omega
                  · have hccb : (c1 == bc) = false := beq_eq_false_iff_ne.2 hcc
                    have hl2 : lastAt s.st bc s.st.length = lastAt s.st bc m := by rw [HLAST.out, if_neg hcc]
                    have HL2 := Aside0.mk hl2
                    clear hl2
                    go_wp2_with (fail)
                    go_roundw
                    case rel => exact ⟨m, (m : Int) - 1, congrArg (Value.int .i64) (by first | rfl | (unfold wrap64; omega)), rfl, by omega, rfl, rfl, trivial, HL2⟩
                    case measure => first | (simp [intOf]; done) | (simp [intOf]; omega)
            · by_cases h64 : s.st.length < 64
              · have hps : pstep s (rd l0 i) = ⟨pnow s (rd l0 i), s.st ++ [(bc, s.outs.length)], s.outs ++ [pnow s (rd l0 i)]⟩ := by
                  unfold pstep
                  rw [HBK.out]
                  simp only [if_true]
                  rw [if_pos h64]
                have h64b : decide ((s.st.length : Int) < 64) = true := decide_eq_true (by omega)
                have HPS := Aside0.mk (HSN.out.trans hps)
                clear hps
                obtain ⟨u1, u2, hc1, hf1, hc2, hf2⟩ := HP4.out.room h64 (.int .i32 bc)
                have hpu := HP4.out.push HBL.out h64 bc i (pnow s (rd l0 i))
                rw [← HL.out] at hpu
                have HPU := Aside0.mk hpu
                clear hpu
                go_wp2_with (fail)
                go_roundw
                case rel => exact ⟨i + 1, by go_num, by omega, by rw [HPS.out, List.length_append]; go_num, by rw [HPS.out], ⟨by rw [HPS.out]; rw [HL.out] at HPU ⊢; exact HPU.out⟩⟩
                case measure => simp [intOf]; omega
              · have hps : pstep s (rd l0 i) = ⟨pnow s (rd l0 i), s.st, s.outs ++ [pnow s (rd l0 i)]⟩ := by
                  unfold pstep
                  rw [HBK.out]
                  simp only [if_true]
                  rw [if_neg h64]
                have h64b : decide ((s.st.length : Int) < 64) = false := decide_eq_false (by omega)
                have HPS := Aside0.mk (HSN.out.trans hps)
                clear hps
                go_wp2_with (fail)
                go_roundw
                case rel => exact ⟨i + 1, by go_num, by omega, by rw [HPS.out], by rw [HPS.out], ⟨by rw [HPS.out]; exact HP4.out⟩⟩
                case measure => simp [intOf]; omega
      · obtain rfl : i = l0.length := by omega
        have hx := HI.out.row
        have ho : (partS l0 (l0.take l0.length)).outs = partF l0 := by rw [List.take_length]; rfl
        rw [ho] at hx
        have hfin : (xs.take off ++ partF l0 ++ xs.drop (off + (partF l0).length)) = xs.take off ++ partF l0 ++ xs.drop (off + l0.length) := by rw [partF_length]
        rw [hfin] at hx
        have HX := Aside0.mk hx
        clear hx
        go_wp2
        go_end0
        exact ⟨rfl, HX.out, HI.out.rest⟩
end Go.Proofs.YtfnkpjkbgfgbkaaDoor.Pr
