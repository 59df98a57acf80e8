/-
  What the laws that ItemiseKnown calls tell: true.
-/
import Derived.Test.YtfnkpjkbgfgbkaaDoorPK
import Derived.Test.YtfnkpjkbgfgbkaaDoorPL
import Derived.Test.YtfnkpjkbgfgbkaaDoorPr21
namespace Go.Proofs.YtfnkpjkbgfgbkaaDoor.Pr
open Go.RowKit HK Go.Proofs.YtfnkpjkbgfgbkaaDoorW.PrintWords Go.Proofs.YtfnkpjkbgfgbkaaDoorW.PrintLast Go.Proofs.YtfnkpjkbgfgbkaaDoorW.PrintMore
set_option linter.unusedVariables false
set_option linter.unusedSimpArgs false

theorem ev_mono {α : Type} {g : Nat → Option α} {r : α} (hm : ∀ k, LeO (g k) (g (k + 1))) (h : ∃ k, g k = some r) : Ev g r := by
  obtain ⟨k0, hk0⟩ := h
  refine ⟨k0, fun k hk => ?_⟩
  obtain ⟨d, rfl⟩ : ∃ d, k = k0 + d := ⟨k - k0, by omega⟩
  induction d with
  | zero => exact hk0
  | succ d ih => exact hm _ _ (ih (by omega))
theorem ev_and {α β : Type} {g : Nat → Option α} {h : Nat → Option β} {r : α} {s : β} (hg : Ev g r) (hh : Ev h s) : ∃ k0, ∀ k, k0 ≤ k → g k = some r ∧ h k = some s := by
  obtain ⟨k0, hk0⟩ := hg
  obtain ⟨k1, hk1⟩ := hh
  exact ⟨k0 + k1, fun k hk => ⟨hk0 k (by omega), hk1 k (by omega)⟩⟩
theorem sc_ev (l : List Int) : Ev (fun k => calamuslaw14_ItemiseScripts.f k l) true := ev_mono (fun k => calamuslaw14_ItemiseScripts.mono l k) (calamuslaw14_ItemiseScripts.pure' l)
theorem ru_ev (l m : List Int) : Ev (fun k => calamuslaw14_ItemiseRuns.f k l m) true := ev_mono (fun k => calamuslaw14_ItemiseRuns.mono l m k) (calamuslaw14_ItemiseRuns.pure' l m)
theorem ti_ev (l m : List Int) : Ev (fun k => calamuslaw14_ItemiseTiles.f k l m) true := ev_mono (fun k => calamuslaw14_ItemiseTiles.mono l m k) (calamuslaw14_ItemiseTiles.pure' l m)
theorem ss_ev (a b : ByteArray) (h : calamuslaw14_scripts.f 20 a b = some true) : Ev (fun k => calamuslaw14_scripts.f k a b) true := ev_mono (fun k => calamuslaw14_scripts.mono a b k) ⟨20, h⟩

theorem ev_only {g : Nat → Option Bool} (hm : ∀ k, LeO (g k) (g (k + 1))) (he : Ev g true) {k : Nat} {t : Bool} (h : g k = some t) : t = true := by
  obtain ⟨k0, hk0⟩ := he
  obtain ⟨k1, hk1⟩ := ev_mono hm ⟨k, h⟩
  have a := hk0 (k0 + k1) (by omega)
  rw [hk1 (k0 + k1) (by omega)] at a
  exact Option.some.inj a
theorem only_i {l : List Int} {k : Nat} {t : Bool} (h : calamuslaw14_ItemiseScripts.f k l = some t) : t = true := ev_only (g := fun k => calamuslaw14_ItemiseScripts.f k l) (fun k => calamuslaw14_ItemiseScripts.mono l k) (sc_ev l) h
theorem only_r {l m : List Int} {k : Nat} {t : Bool} (h : calamuslaw14_ItemiseRuns.f k l m = some t) : t = true := ev_only (g := fun k => calamuslaw14_ItemiseRuns.f k l m) (fun k => calamuslaw14_ItemiseRuns.mono l m k) (ru_ev l m) h
theorem only_t {l m : List Int} {k : Nat} {t : Bool} (h : calamuslaw14_ItemiseTiles.f k l m = some t) : t = true := ev_only (g := fun k => calamuslaw14_ItemiseTiles.f k l m) (fun k => calamuslaw14_ItemiseTiles.mono l m k) (ti_ev l m) h
theorem only_s {a b : ByteArray} {k : Nat} {t : Bool} (h : calamuslaw14_scripts.f k a b = some t) (e : calamuslaw14_scripts.f 20 a b = some true) : t = true := ev_only (g := fun k => calamuslaw14_scripts.f k a b) (fun k => calamuslaw14_scripts.mono a b k) (ss_ev a b e) h
end Go.Proofs.YtfnkpjkbgfgbkaaDoor.Pr
