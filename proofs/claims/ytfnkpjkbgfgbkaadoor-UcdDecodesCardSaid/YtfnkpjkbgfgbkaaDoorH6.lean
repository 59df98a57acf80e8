/-
  The contract of utf8.DecodeRune, by the library's own, in the form of the printed contracts.
-/
import Derived.Test.YtfnkpjkbgfgbkaaDoorH1
import Derived.Shelf.Spec.DecodeRune
namespace Go.Proofs.YtfnkpjkbgfgbkaaDoor.Pr
open Go.RowKit HK Go.Shelf Go.Proofs.YtfnkpjkbgfgbkaaDoorW.PrintWords Go.Proofs.YtfnkpjkbgfgbkaaDoorW.PrintLast Go.Proofs.YtfnkpjkbgfgbkaaDoorW.PrintMore
set_option linter.unusedVariables false

def renU8 : Ren := ⟨fun | 32 => 53 | 49 => 62 | n => n, fun | 0 => 0 | 3 => 3 | 4 => 4 | 5 => 5 | 21 => 21 | 25 => 67 | 30 => 24 | 33 => 53 | 66 => 95 | 68 => 97 | 69 => 98 | n => n, fun | 2 => 6 | 3 => 7 | n => n⟩
theorem laysU8 : Lays7.n32 Tryd.prog renU8 := {
  mixed := by kernel_rfl,
  f32 := Tryd.func53.trans (congrArg some (by kernel_rfl)),
  f49 := Tryd.func62.trans (congrArg some (by kernel_rfl)),
  t0 := Tryd.underlying0,
  a0 := Tryd.isAgg0,
  z0 := Tryd.sizeOf0,
  v0 := Tryd.zeroValue0,
  i0 := by kernel_rfl,
  t3 := Tryd.underlying3,
  a3 := Tryd.isAgg3,
  z3 := Tryd.sizeOf3,
  v3 := Tryd.zeroValue3,
  i3 := by kernel_rfl,
  t4 := Tryd.underlying4,
  a4 := Tryd.isAgg4,
  z4 := Tryd.sizeOf4,
  v4 := Tryd.zeroValue4,
  i4 := by kernel_rfl,
  t5 := Tryd.underlying5,
  a5 := Tryd.isAgg5,
  z5 := Tryd.sizeOf5,
  v5 := Tryd.zeroValue5,
  i5 := by kernel_rfl,
  t21 := Tryd.underlying21,
  a21 := Tryd.isAgg21,
  z21 := Tryd.sizeOf21,
  v21 := Tryd.zeroValue21,
  i21 := by kernel_rfl,
  t25 := Tryd.underlying67,
  a25 := Tryd.isAgg67,
  z25 := Tryd.sizeOf67,
  v25 := Tryd.zeroValue67,
  i25 := by kernel_rfl,
  t30 := Tryd.underlying24,
  a30 := Tryd.isAgg24,
  z30 := Tryd.sizeOf24,
  v30 := Tryd.zeroValue24,
  i30 := by kernel_rfl,
  t33 := Tryd.underlying53,
  a33 := Tryd.isAgg53,
  z33 := Tryd.sizeOf53,
  v33 := Tryd.zeroValue53,
  i33 := by kernel_rfl,
  t66 := Tryd.underlying95,
  a66 := Tryd.isAgg95,
  z66 := Tryd.sizeOf95,
  t68 := Tryd.underlying97,
  a68 := Tryd.isAgg97,
  z68 := Tryd.sizeOf97,
  v68 := Tryd.zeroValue97,
  i68 := by kernel_rfl,
  t69 := Tryd.underlying98,
  a69 := Tryd.isAgg98,
  z69 := Tryd.sizeOf98,
  v69 := Tryd.zeroValue98,
  i69 := by kernel_rfl,
  g2 := by kernel_rfl,
  g3 := by kernel_rfl }

/-- The bytes of a row of numbers. -/
def byteArr (l : List Int) : ByteArray := ⟨(l.map fun x => UInt8.ofNat x.toNat).toArray⟩
theorem byteArr_size (l : List Int) : (byteArr l).size = l.length := by simp [byteArr, ByteArray.size]
theorem byteArr_get (l : List Int) (hl : ∀ x ∈ l, 0 ≤ x ∧ x ≤ 255) (j : Nat) (hj : j < l.length) : (((byteArr l).get! j).toNat : Int) = l.getD j 0 := by
  have h1 : (byteArr l).get! j = UInt8.ofNat (l[j]'hj).toNat := by
    simp [byteArr, ByteArray.get!, hj]
  have h2 := hl _ (List.getElem_mem hj)
  rw [h1, List.getD_eq_getElem?_getD, List.getElem?_eq_getElem hj, Option.getD_some, UInt8.toNat_ofNat']
  omega

def utf8_DecodeRune.f (l0 : List Int) : Option (Int × Int) := if l0 ≠ [] ∧ ∀ x ∈ l0, 0 ≤ x ∧ x ≤ 255 then some (((Lib.decodeGo (byteArr l0)).1 : Int), ((Lib.decodeGo (byteArr l0)).2 : Int)) else none
theorem utf8_DecodeRune.calls (A0 : Option Addr) (c0 : Nat) (l0 : List Int) (r1 r2 : Int) (w : World) (hr0 : Kd.C (Kd.int .u8) w A0 l0.length l0) (hc0 : l0.length ≤ c0) (hLD : Laid [6, 7] w) (h : utf8_DecodeRune.f l0 = some (r1, r2)) :
    Calls Tryd.prog 53 #[.slice A0 l0.length c0] w fun e w' => e = .returned (.tuple #[.int .i32 r1, .int .i64 r2]) ∧ Below w.heap.size w w' := by
  unfold utf8_DecodeRune.f at h
  split at h
  case isFalse => cases h
  rename_i hl
  obtain ⟨hne, hl⟩ := hl
  simp only [Option.some.injEq, Prod.mk.injEq] at h
  obtain ⟨rfl, rfl⟩ := h
  have hpos : 0 < l0.length := List.length_pos_iff.2 hne
  obtain ⟨-, -, hr⟩ := hr0
  obtain ⟨⟨b, off, spot⟩, rfl, hr2⟩ := hr hpos
  have hcell : ∀ j, j < l0.length → w.cell? ((⟨b, off, spot⟩ : Addr).add j) = some (.int .u8 (l0.getD j 0)) := fun j hj => by
    obtain ⟨c, hc1, hc2, hc3⟩ := hr2 j l0[j] (List.getElem?_eq_getElem hj)
    have hc2 : c = [.int .u8 l0[j]] := hc2
    subst hc2
    have := hc3 0 _ rfl
    rw [show j * (Kd.int .u8).sz + 0 = j from by show j * 1 + 0 = j; omega] at this
    rw [this, List.getD_eq_getElem?_getD, List.getElem?_eq_getElem hj, Option.getD_some]
  have hs : spot = none := by
    have := hcell 0 hpos
    cases spot with
    | none => rfl
    | some s => simp [Addr.add, World.cell?] at this; split at this <;> simp_all
  subst hs
  have hT : Lib.Utf8Tabs (renU8.g 2) (renU8.g 3) w := by
    refine ⟨fun c hc => hLD _ (by decide) c _ ?_, fun i hi => ⟨hLD _ (by decide) (2 * i) _ ?_, hLD _ (by decide) (2 * i + 1) _ ?_⟩⟩
    · show ((List.range 256).map fun c => Value.int .u8 (Go.Lib.firstT c))[c]? = _
      simp [hc]
    · show ((List.range 32).map fun j => Value.int .u8 (if j % 2 = 0 then Go.Lib.accLo (j / 2) else Go.Lib.accHi (j / 2)))[2 * i]? = _
      have h1 : 2 * i < 32 := by omega
      simp [h1]
    · show ((List.range 32).map fun j => Value.int .u8 (if j % 2 = 0 then Go.Lib.accLo (j / 2) else Go.Lib.accHi (j / 2)))[2 * i + 1]? = _
      have h1 : 2 * i + 1 < 32 := by omega
      have h2 : (2 * i + 1) % 2 = 1 := by omega
      have h3 : (2 * i + 1) / 2 = i := by omega
      simp [h1, h2, h3]
  have := Any7.utf8_DecodeRune (P := Tryd.prog) laysU8 (byteArr l0) b off c0 w hT (fun j hj => by
    rw [byteArr_size] at hj
    have h1 := hcell j hj
    have h2 : (⟨b, off, none⟩ : Addr).add j = ⟨b, off + j, none⟩ := by unfold Addr.add; split <;> simp_all
    rw [h2] at h1
    rw [h1, byteArr_get l0 hl j hj])
  rw [byteArr_size] at this
  exact this
end Go.Proofs.YtfnkpjkbgfgbkaaDoor.Pr
