/-
  The contract of chapter 02's works: its calls by their contracts, the constants' rows by the library's law.
-/
import Derived.Test.YtfnkpjkbgfgbkaaDoorH1
import Derived.Test.YtfnkpjkbgfgbkaaDoorH2
import Derived.Test.YtfnkpjkbgfgbkaaDoorH3
import Derived.Test.YtfnkpjkbgfgbkaaDoorH6
import Derived.Test.YtfnkpjkbgfgbkaaDoorHP
import Derived.Test.YtfnkpjkbgfgbkaaDoorPr8
import Derived.Lib.SlBytesConst
namespace Go.Proofs.YtfnkpjkbgfgbkaaDoor.Pr
open Go.RowKit HK Go.Proofs.YtfnkpjkbgfgbkaaDoorW.PrintWords Go.Proofs.YtfnkpjkbgfgbkaaDoorW.PrintLast Go.Proofs.YtfnkpjkbgfgbkaaDoorW.PrintMore
set_option linter.unusedVariables false

def calamuslaw02_works.f : Option Bool := some true

theorem dec_first : ucd_Decode.f 9 [215, 169, 97] = some ([1513, 97], 0, 0) := by kernel_rfl
theorem dec_second : ucd_Decode.f 9 [97, 195, 40] = some ([], 20, 1) := by kernel_rfl
theorem works_Class : ucd_Class.f 1576 = some 3 := by kernel_rfl
theorem works_Joining : ucd_Joining.f 1576 = some 2 := by kernel_rfl
theorem works_Break : ucd_Break.f 32 = some 5 := by kernel_rfl
theorem works_Cluster : ucd_Cluster.f 769 = some 4 := by kernel_rfl
theorem works_Script : ucd_Script.f 97 = some 2 := by kernel_rfl
theorem works_Wide : ucd_Wide.f 19968 = some true := by kernel_rfl
theorem works_Space : ucd_Space.f 32 = some true := by kernel_rfl

/-- A constant's marked row is read. -/
theorem marked_reads (w : World) (C : Array Value) (a b : Nat) (t : Nat) (xs : List Int) (hC : C = (nums .u8 xs).toArray) (hn : xs.length ≤ 9223372036854775807) :
    Kd.C (Kd.int .u8) (w.alloc (.cells C t (a, b))) (some ⟨w.heap.size, 0, none⟩) xs.length xs := by
  have hb := heap_alloc_new w (.cells C t (a, b))
  refine ⟨rfl, hn, fun _ => ⟨_, rfl, fun j p hj => ⟨[.int .u8 p], rfl, rfl, fun i u hu => ?_⟩⟩⟩
  have hi : i = 0 := by
    have := (List.getElem?_eq_some_iff.1 hu).1
    simpa using this
  subst hi
  simp at hu
  subst hu
  rw [show j * (Kd.int IntKind.u8).sz + 0 = j from Nat.mul_one j, addr_add0, cell_of_row _ _ _ _ _ _ hb, hC]
  simp [nums, hj]

theorem below_behind {w w' : World} (o : Obj) (h : Below (w.alloc o).heap.size (w.alloc o) w') : Below w.heap.size w w' :=
  ((Below.refl _ _).alloc (Nat.le_refl _) _).trans (h.mono (by show w.heap.size ≤ (w.heap.push o).size; simp))

theorem addr_at0 (ad : Addr) : ad.add 0 = ad := by
  unfold Addr.add
  split <;> simp_all

set_option maxHeartbeats 8000000 in
set_option maxRecDepth 100000 in
theorem calamuslaw02_works.calls (r : Bool) (w : World) (hLD : Laid [0, 1, 2, 3, 4, 6, 7] w) (h : calamuslaw02_works.f = some r) :
    Calls Tryd.prog 21 #[] w fun e w' => e = .returned (.bool r) ∧ Below w.heap.size w w' := by
  obtain rfl : true = r := by injection h
  have HLD := Aside0.mk hLD
  clear h hLD
  have kc := fun (w : World) (C : Array Value) (n c : Nat) => Lib.run_convert_bytes_const (P := Tryd.prog) w 24 5 C n c Tryd.underlying24 Tryd.underlying5
  go_enter Tryd.func21, Tryd.ntmps21
  go_wp2_with (fail)
  refine (ucd_Decode.calls 9 _ _ [215, 169, 97] _ _ _ _ (marked_reads w _ 3 4 _ [215, 169, 97] rfl (by decide)) (Nat.le_refl _) (Laid.sub (by decide) (Laid.below HLD.out ((Below.refl _ _).alloc (Nat.le_refl _) _))) dec_first).mono ?_
  rintro e w1 ⟨v1, rfl, hv1, hb1⟩
  obtain ⟨A1, c1, rfl, hc1, hR1⟩ := hv1.2.reads
  obtain ⟨ad, rfl, hx⟩ := Kd.at_int hR1 0 (by decide) (by decide)
  have hb01 : Below w.heap.size w w1 := below_behind _ hb1
  have hx1 : w1.cell? ad = some (.int .i32 1513) := by rw [← addr_at0 ad]; exact hx
  have HB1 := Aside0.mk hb01
  clear hx hR1 hv1 hb1 hb01 hc1
  go_wp2_with (fail)
  refine (ucd_Decode.calls 9 _ _ [97, 195, 40] _ _ _ _ (marked_reads w1 _ 3 4 _ [97, 195, 40] rfl (by decide)) (Nat.le_refl _) (Laid.sub (by decide) (Laid.below HLD.out (HB1.out.trans ((Below.refl _ _).alloc HB1.out.size _)))) dec_second).mono ?_
  rintro e w2 ⟨v2, rfl, hv2, hb2⟩
  have hb12 : Below w1.heap.size w1 w2 := below_behind _ hb2
  have hx2 := (hb12.cell (World.block_lt_of_cell? _ _ hx1)).trans hx1
  have HB2 := Aside0.mk (HB1.out.trans (hb12.mono HB1.out.size))
  clear hx1 hv2 hb2 hb12 HB1
  go_wp2_with (fail)
  refine (ucd_Class.calls 1576 _ _ works_Class).mono ?_
  rintro e w3 ⟨rfl, hb⟩
  have HB3 := Aside0.mk (HB2.out.trans (hb.mono HB2.out.size))
  clear hb HB2 hx2
  go_wp2_with (fail)
  refine (ucd_Joining.calls 1576 _ _ (Laid.sub (by decide) (Laid.below HLD.out HB3.out)) works_Joining).mono ?_
  rintro e w4 ⟨rfl, hb⟩
  have HB4 := Aside0.mk (HB3.out.trans (hb.mono HB3.out.size))
  clear hb HB3
  go_wp2_with (fail)
  refine (ucd_Break.calls 32 _ _ works_Break).mono ?_
  rintro e w5 ⟨rfl, hb⟩
  have HB5 := Aside0.mk (HB4.out.trans (hb.mono HB4.out.size))
  clear hb HB4
  go_wp2_with (fail)
  refine (ucd_Cluster.calls 769 _ _ (Laid.sub (by decide) (Laid.below HLD.out HB5.out)) works_Cluster).mono ?_
  rintro e w6 ⟨rfl, hb⟩
  have HB6 := Aside0.mk (HB5.out.trans (hb.mono HB5.out.size))
  clear hb HB5
  go_wp2_with (fail)
  refine (ucd_Script.calls 97 _ _ (Laid.sub (by decide) (Laid.below HLD.out HB6.out)) works_Script).mono ?_
  rintro e w7 ⟨rfl, hb⟩
  have HB7 := Aside0.mk (HB6.out.trans (hb.mono HB6.out.size))
  clear hb HB6
  go_wp2_with (fail)
  refine (ucd_Wide.calls 19968 _ _ (Laid.sub (by decide) (Laid.below HLD.out HB7.out)) works_Wide).mono ?_
  rintro e w8 ⟨rfl, hb⟩
  have HB8 := Aside0.mk (HB7.out.trans (hb.mono HB7.out.size))
  clear hb HB7
  go_wp2_with (fail)
  refine (ucd_Space.calls 32 _ _ (Laid.sub (by decide) (Laid.below HLD.out HB8.out)) works_Space).mono ?_
  rintro e w9 ⟨rfl, hb⟩
  have HB9 := Aside0.mk (HB8.out.trans (hb.mono HB8.out.size))
  clear hb HB8
  go_wp2
  go_ret
  exact ⟨rfl, HB9.out⟩
end Go.Proofs.YtfnkpjkbgfgbkaaDoor.Pr
