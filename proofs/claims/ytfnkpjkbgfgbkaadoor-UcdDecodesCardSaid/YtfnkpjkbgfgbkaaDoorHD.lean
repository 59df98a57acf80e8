/-
  The walk of chapter 02's statement on decoding: bytes that are decoded alike by the program and by the document.
-/
import Derived.Test.YtfnkpjkbgfgbkaaDoorHX
import Derived.Test.YtfnkpjkbgfgbkaaDoorHS
import Derived.Test.YtfnkpjkbgfgbkaaDoorPr11
namespace Go.Proofs.YtfnkpjkbgfgbkaaDoor.Pr
open Go.RowKit HK Go.Proofs.YtfnkpjkbgfgbkaaDoorW.PrintWords Go.Proofs.YtfnkpjkbgfgbkaaDoorW.PrintLast Go.Proofs.YtfnkpjkbgfgbkaaDoorW.PrintMore
set_option linter.unusedVariables false

/-- Both decode alike. -/
def calamuslaw02_UcdDecodes.Pure : Prop := ∀ l : List Int, l.length ≤ 30000 → (∀ x ∈ l, (Lit.int .u8 x).wf = true) →
  ∃ k r e at_, ucd_Decode.f k l = some (r, e, at_) ∧ calamusref02_Decode.f k l = some (r, e, at_)

theorem bytesOf_strOfNums (l : List Int) (h : ∀ x ∈ l, (Lit.int .u8 x).wf = true) : bytesOf (strOfNums l) = l := by
  unfold bytesOf
  have h2 : (strOfNums l).data.toList = l.map fun x => UInt8.ofNat x.toNat := by simp [strOfNums]
  rw [h2, List.map_map]
  conv => rhs; rw [← List.map_id l]
  refine List.map_congr_left fun x hx => ?_
  have h3 : 0 ≤ x ∧ x ≤ 255 := by have := h x hx; simp [Lit.wf] at this; exact this
  simp only [Function.comp_apply, id_eq, UInt8.toNat_ofNat']
  omega
theorem strOfNums_size (l : List Int) : (strOfNums l).size = l.length := by simp [strOfNums, ByteArray.size]

set_option maxHeartbeats 8000000 in
set_option maxRecDepth 100000 in
theorem calamuslaw02_UcdDecodes.walk (P : calamuslaw02_UcdDecodes.Pure) (a0 : Option Addr) (len0 cap0 : Nat) (z0 : List Int) (w : World)
    (hLD : Laid [0, 1, 2, 3, 4, 6, 7] w)
    (w0 : (a0 = none ∧ len0 = 0 ∧ cap0 = 0 ∧ z0 = []) ∨ ∃ x, a0 = some x ∧ len0 ≤ cap0 ∧ cap0 ≤ maxLen ∧ z0.length = cap0 ∧ (∀ i, i < z0.length → w.cell? (x.add i) = some (.int .u8 (z0.getD i 0))) ∧ ∀ n ∈ z0, (Lit.int .u8 n).wf = true) (y0 : len0 * 1 ≤ 140737488351232) :
    Calls Tryd.prog 9 #[.slice a0 len0 cap0] w fun e w' => e = .returned (.bool true) ∧ Below w.heap.size w w' := by
  obtain ⟨l0, rfl, hr0, hm0, hw0, hc0⟩ := ReadsInt.ofRowC w0
  have hr1 : Kd.C (Kd.int .u8) w a0 l0.length l0 := Kd.C_of_reads (d := (0 : Int)) (h1 := fun _ => rfl) hr0
  have HLD := Aside0.mk hLD
  have HR := Aside0.mk hr1
  have HW := Aside0.mk hw0
  have HC := Aside0.mk hc0
  clear w0 y0 hr0 hm0 hLD hr1 hw0 hc0
  by_cases hlen : 30000 < (l0.length : Int)
  · have hb := decide_eq_true hlen
    clear hlen
    go_enter Tryd.func9, Tryd.ntmps9
    go_wp2_with (fail)
    refine (calamuslaw02_works.calls true _ HLD.out rfl).mono ?_
    rintro e w1 ⟨rfl, hb1⟩
    go_wp2
    go_ret
    exact ⟨rfl, hb1⟩
  · have hb := decide_eq_false hlen
    obtain ⟨k, r, e, at_, hd1, hd2⟩ := P l0 (by omega) HW.out
    have hlen2 : l0.length ≤ 30000 := by omega
    have HLEN := Aside0.mk hlen2
    have D1 := Aside0.mk hd1
    have D2 := Aside0.mk hd2
    clear hlen hd1 hd2 hlen2
    have hs0 := Kd.C_string (P := Tryd.prog) (A := a0) (c := cap0) Tryd.underlying24 Tryd.underlying5 Tryd.underlying9 HR.out
    have kb := fun W => print_bytes (P := Tryd.prog) 9 24 5 Tryd.underlying9 Tryd.underlying24 Tryd.underlying5 (strOfNums l0) W
    simp only [strOfNums_size] at kb
    go_enter Tryd.func9, Tryd.ntmps9
    go_wp2_with (fail)
    have hrd : Kd.C (Kd.int .u8) (Lib.bytesWorld w 5 (strOfNums l0)) (some ⟨w.heap.size, 0, none⟩) l0.length l0 := by
      have := bytes_reads w 5 (strOfNums l0) (by rw [strOfNums_size]; have := HLEN.out; omega)
      rw [strOfNums_size, bytesOf_strOfNums l0 HW.out] at this
      exact Kd.C_of_reads (d := (0 : Int)) (h1 := fun _ => rfl) this
    have hbb : Below w.heap.size w (Lib.bytesWorld w 5 (strOfNums l0)) := bytes_below (Below.refl _ _) (Nat.le_refl _) _ _
    have HB0 := Aside0.mk hbb
    have HRD := Aside0.mk hrd
    clear hrd hbb kb hs0
    refine (ucd_Decode.calls k _ _ l0 _ _ _ _ HRD.out (grownCap_ge w l0.length 0 5) (Laid.sub (by decide) (Laid.below HLD.out HB0.out)) D1.out).mono ?_
    rintro ex w1 ⟨v1, rfl, hv1, hb1⟩
    obtain ⟨A1, c1, rfl, hc1, hR1⟩ := hv1.2.reads
    have HR1 := Aside0.mk hR1
    have HB1 := Aside0.mk hb1
    have HB2 := Aside0.mk (HB0.out.trans (hb1.mono HB0.out.size))
    clear hv1 hb1 hR1 hc1
    go_wp2_with (fail)
    refine (calamusref02_Decode.calls k _ _ l0 _ _ _ _ (Kd.C_below HR.out HB2.out) HC.out D2.out).mono ?_
    rintro ex w2 ⟨v2, rfl, hv2, hb2⟩
    obtain ⟨A2, c2, rfl, hc2, hR2⟩ := hv2.2.reads
    have hC1 : Kd.C (Kd.int .i32) w1 A1 r.length r := HR1.out
    have hC2 : Kd.C (Kd.int .i32) w2 A2 r.length r := hR2
    have hC1b := Kd.C_below hC1 hb2
    have HB3 := Aside0.mk (HB2.out.trans (hb2.mono HB2.out.size))
    have hs1 := C_runes (P := Tryd.prog) (A := A1) (c := c1) Tryd.underlying22 Tryd.underlying21 Tryd.underlying9 hC1b
    have hs2 := C_runes (P := Tryd.prog) (A := A2) (c := c2) Tryd.underlying22 Tryd.underlying21 Tryd.underlying9 hC2
    have hin : Kd.C (Kd.int .u8) w2 (some ⟨w.heap.size, 0, none⟩) l0.length l0 := Kd.C_below (Kd.C_below HRD.out HB1.out) hb2
    have hs3 := Kd.C_string (P := Tryd.prog) (A := some ⟨w.heap.size, 0, none⟩) (c := grownCap w l0.length 0 5) Tryd.underlying24 Tryd.underlying5 Tryd.underlying9 hin
    have hs4 := Kd.C_string (P := Tryd.prog) (A := a0) (c := cap0) Tryd.underlying24 Tryd.underlying5 Tryd.underlying9 (Kd.C_below HR.out HB3.out)
    clear hv2 hb2 hc2 hR2 hC1 hC2 hC1b hin
    go_wp2_with (fail)
    refine (calamuslaw02_works.calls true _ (Laid.below HLD.out HB3.out) rfl).mono ?_
    rintro ex w3 ⟨rfl, hb3⟩
    go_wp2
    go_ret
    exact ⟨rfl, HB3.out.trans (hb3.mono HB3.out.size)⟩
end Go.Proofs.YtfnkpjkbgfgbkaaDoor.Pr
