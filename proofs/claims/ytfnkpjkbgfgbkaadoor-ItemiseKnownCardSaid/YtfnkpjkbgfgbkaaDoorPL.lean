/-
  The plain law of ItemiseTiles.
-/
import Derived.Test.YtfnkpjkbgfgbkaaDoorPN
import Derived.Test.YtfnkpjkbgfgbkaaDoorTC
namespace Go.Proofs.YtfnkpjkbgfgbkaaDoor.Pr
open Go.RowKit HK Go.Proofs.YtfnkpjkbgfgbkaaDoorW.PrintWords Go.Proofs.YtfnkpjkbgfgbkaaDoorW.PrintLast Go.Proofs.YtfnkpjkbgfgbkaaDoorW.PrintMore
set_option linter.unusedVariables false
set_option linter.unusedSimpArgs false

theorem rdT (R : List RunS) (i : Nat) : rd_T35 R (i : Int) = runAt R i := by
  unfold rd_T35 runAt
  rw [Int.toNat_natCast]
theorem rdN2 (l : List Int) (i : Nat) : rd l (i : Int) = l.getD i 0 := by unfold rd; rw [Int.toNat_natCast]
theorem cls_eq (a : Int) {k : Nat} (hk : 400 ≤ k) : ∃ c, calamusref02_Class.f k a = some c ∧ ((c = 11) ↔ sepB a = true) := by
  refine ⟨ucls a, ref_Class_eq a hk, ?_⟩
  rw [← sepB_eq]
  simp

section
variable (l lv s : List Int) (R : List RunS) (hn : l.length ≤ 300) (hlv : lv.length = l.length) (hs : s.length = l.length) (hR : R.length ≤ 1000000)
  (hso : SOk l s l.length) (hri : RI l lv s R l.length)

include hn hlv hs hso in
theorem t_j6 (i a b k : Nat) (hi : i < R.length) (hab : RunOk l lv s R l.length i a b) (hk1 : a ≤ k) (hk2 : k < b) (t : Int) (ht : t = scr (l.getD k 0))
    (h : Ev (fun q => calamuslaw14_ItemiseTiles.l2 q l lv R s (i : Int) ((k + 1 : Nat) : Int)) true) : Ev (fun q => calamuslaw14_ItemiseTiles.j6 q l lv R s (i : Int) (k : Int) t false) true := by
  obtain ⟨k0, hk0⟩ := h
  refine ⟨k0 + 500, fun q hq => ?_⟩
  obtain ⟨q, rfl⟩ : ∃ m, q = m + 1 := ⟨q - 1, by omega⟩
  have hk3 := hk0 q (by omega)
  have hb := hab.le
  simp only [calamuslaw14_ItemiseTiles.j6]
  rw [if_neg (by simp), wrap64_nat k (by omega)]
  by_cases h1 : t = 1
  · rw [if_pos h1]
    by_cases h2 : k = 0
    · rw [if_neg (by omega)]
      exact hk3
    · have e : wrap64 ((k : Int) - 1) = ((k - 1 : Nat) : Int) := by rw [wrap64_small (by omega)]; omega
      obtain ⟨c, hc1, hc2⟩ := cls_eq (rd l ((k - 1 : Nat) : Int)) (k := q) (by omega)
      rw [if_pos (by omega), e, if_pos (by omega), if_pos (by omega), hc1, Option.bind_some]
      by_cases h3 : c = 11
      · rw [if_pos h3]
        exact hk3
      · have h4 : sepB (l.getD (k - 1) 0) = false := by
          rw [← rdN2]
          cases h5 : sepB (rd l ((k - 1 : Nat) : Int))
          · rfl
          · exact absurd (hc2.2 h5) h3
        have h6 := (hso k (by omega)).2 (by rw [← ht]; exact h1) (by omega) h4
        rw [if_neg h3, if_pos (by omega), if_pos (by omega), if_pos (by omega), rdN2, rdN2, if_pos h6]
        exact hk3
  · rw [if_neg h1]
    exact hk3

include hn hlv hs hR hso hri in
theorem t_l2 (i a b : Nat) (hi : i < R.length) (hab : RunOk l lv s R l.length i a b)
    (h : Ev (fun q => calamuslaw14_ItemiseTiles.l1 q l lv R s (b : Int) ((i + 1 : Nat) : Int)) true) :
    ∀ d k, a ≤ k → k + d = b → Ev (fun q => calamuslaw14_ItemiseTiles.l2 q l lv R s (i : Int) (k : Int)) true := by
  intro d
  have hb := hab.le
  have hlt := hab.lt
  induction d with
  | zero =>
    intro k hk1 hk2
    obtain rfl : k = b := by omega
    obtain ⟨k0, hk0⟩ := h
    refine ⟨k0 + 500, fun q hq => ?_⟩
    obtain ⟨q, rfl⟩ : ∃ m, q = m + 1 := ⟨q - 1, by omega⟩
    have hk3 := hk0 q (by omega)
    simp only [calamuslaw14_ItemiseTiles.l2]
    rw [if_pos (by omega), if_pos (by omega), rdT, hab.f1, if_neg (by omega), wrap64_nat i (by omega)]
    by_cases h0 : i = 0
    · rw [if_neg (by omega)]
      exact hk3
    · obtain ⟨j, rfl⟩ : ∃ j, i = j + 1 := ⟨i - 1, by omega⟩
      have e : wrap64 (((j + 1 : Nat) : Int) - 1) = (j : Int) := by rw [wrap64_small (by omega)]; omega
      rw [if_pos (by omega), e, if_pos (by omega), if_pos (by omega), rdT]
      by_cases h1 : (runAt R j).f2 = (runAt R (j + 1)).f2
      · rw [if_pos h1]
        by_cases h2 : (runAt R j).f3 = (runAt R (j + 1)).f3
        · have hsep := hab.differ j rfl h1 h2
          have ha : 0 < a := by
            obtain ⟨a', b', hab'⟩ := hri.run j (by omega)
            have h3 := hab'.f1
            rw [hab.next j rfl] at h3
            have := hab'.lt
            omega
          have e2 : wrap64 ((a : Int) - 1) = ((a - 1 : Nat) : Int) := by rw [wrap64_small (by omega)]; omega
          obtain ⟨c, hc1, hc2⟩ := cls_eq (rd l ((a - 1 : Nat) : Int)) (k := q) (by omega)
          rw [if_pos h2, hab.f0, e2, if_pos (by omega), if_pos (by omega), hc1, Option.bind_some, if_pos (hc2.2 (by rw [rdN2]; exact hsep))]
          exact hk3
        · rw [if_neg h2]
          exact hk3
      · rw [if_neg h1]
        exact hk3
  | succ d ih =>
    intro k hk1 hk2
    have hj := t_j6 l lv s R hn hlv hs hso i a b k hi hab hk1 (by omega) (scr (l.getD k 0)) rfl (ih (k + 1) (by omega) (by omega))
    obtain ⟨k0, hk0⟩ := hj
    refine ⟨k0 + 500, fun q hq => ?_⟩
    obtain ⟨q, rfl⟩ : ∃ m, q = m + 1 := ⟨q - 1, by omega⟩
    have hk3 : calamuslaw14_ItemiseTiles.j6 q l lv R s (i : Int) (k : Int) (scr (l.getD k 0)) false = some true := hk0 q (by omega)
    obtain ⟨g1, g2, g3⟩ := hab.cont k hk1 (by omega)
    obtain ⟨c, hc1, hc2⟩ := cls_eq (rd l (k : Int)) (k := q) (by omega)
    have hw : wrap64 ((b : Int) - 1) = ((b - 1 : Nat) : Int) := by rw [wrap64_small (by omega)]; omega
    have hfin : (if c = 11 then calamuslaw14_ItemiseTiles.j6 q l lv R s (i : Int) (k : Int) (scr (l.getD k 0)) ((k : Int) != ((b - 1 : Nat) : Int)) else calamuslaw14_ItemiseTiles.j6 q l lv R s (i : Int) (k : Int) (scr (l.getD k 0)) false) = some true := by
      by_cases h3 : c = 11
      · have h4 := g3 (by rw [← rdN2]; exact hc2.1 h3)
        have e : ((k : Int) != ((b - 1 : Nat) : Int)) = false := by
          have : (k : Int) = ((b - 1 : Nat) : Int) := by omega
          simp [this]
        rw [if_pos h3, e]
        exact hk3
      · rw [if_neg h3]
        exact hk3
    simp only [calamuslaw14_ItemiseTiles.l2]
    rw [if_pos (by omega), if_pos (by omega), rdT, hab.f1, if_pos (by omega), if_pos (by omega), if_pos (by omega), rscr_eq _ (by omega), Option.bind_some, if_pos (by omega), if_pos g1, if_pos (by omega), if_pos g2, hw, hc1, Option.bind_some]
    rw [rdN2 l k]
    by_cases h1 : scr (l.getD k 0) > 1
    · have h2 := (hso k (by omega)).1 (by omega)
      rw [if_pos h1, if_pos (by rw [rdN2]; exact h2.symm)]
      exact hfin
    · rw [if_neg h1]
      exact hfin

include hn hlv hs hR hso hri in
theorem t_l1 : ∀ (d i e : Nat), i + d = R.length → (i = 0 → e = 0) → (∀ j, i = j + 1 → (runAt R j).f1 = (e : Int)) → Ev (fun q => calamuslaw14_ItemiseTiles.l1 q l lv R s (e : Int) (i : Int)) true := by
  intro d
  induction d with
  | zero =>
    intro i e hi h0 h1
    have he : e = l.length := by
      by_cases hz : i = 0
      · subst hz
        rw [h0 rfl]
        exact (hri.none (List.length_eq_zero_iff.1 (by omega))).symm
      · obtain ⟨j, rfl⟩ : ∃ j, i = j + 1 := ⟨i - 1, by omega⟩
        have h2 := h1 j rfl
        rw [hri.last j (by omega)] at h2
        omega
    refine ⟨1, fun q hq => ?_⟩
    obtain ⟨q, rfl⟩ : ∃ m, q = m + 1 := ⟨q - 1, by omega⟩
    simp only [calamuslaw14_ItemiseTiles.l1]
    rw [if_neg (by omega), if_pos (by omega), works14]
    rfl
  | succ d ih =>
    intro i e hi h0 h1
    obtain ⟨a, b, hab⟩ := hri.run i (by omega)
    have hlt := hab.lt
    have hle := hab.le
    have hae : a = e := by
      by_cases hz : i = 0
      · rw [hab.first hz, h0 hz]
      · obtain ⟨j, rfl⟩ : ∃ j, i = j + 1 := ⟨i - 1, by omega⟩
        have h2 := h1 j rfl
        rw [hab.next j rfl] at h2
        omega
    subst hae
    obtain ⟨k0, hk0⟩ := t_l2 l lv s R hn hlv hs hR hso hri i a b (by omega) hab (ih (i + 1) b (by omega) (fun h => by omega) (fun j hj => by obtain rfl : i = j := (by omega); exact hab.f1)) (b - a) a (Nat.le_refl _) (by omega)
    refine ⟨k0 + 2, fun q hq => ?_⟩
    obtain ⟨q, rfl⟩ : ∃ m, q = m + 2 := ⟨q - 2, by omega⟩
    have hk3 := hk0 q (by omega)
    simp only [calamuslaw14_ItemiseTiles.l1, calamuslaw14_ItemiseTiles.j4]
    rw [if_pos (by omega), if_pos (by omega), rdT, if_pos hab.f0, hab.f1, if_neg (by omega), decide_eq_false (by omega), if_neg (by simp)]
    exact hk3
end

theorem runsP_len300 (l lv s : List Int) (hn : l.length ≤ 300) : (runsP lv s (prts l 0 0)).length ≤ 1000000 := by
  obtain ⟨ys, hy⟩ := prts_pt l.length l 0 0 (Nat.le_refl _) (by omega)
  rw [← hy]
  have h1 := runsP_le lv s ys
  have h2 := prts_len l 0 0
  have h3 := congrArg List.length hy
  rw [List.length_map] at h3
  have h4 : ys.length * l.length ≤ 301 * 300 := Nat.mul_le_mul (by omega) (by omega)
  omega

theorem t_j1 (l lv : List Int) (hn : l.length ≤ 300) (hlv : lv.length = l.length) : Ev (fun q => calamuslaw14_ItemiseTiles.j1 q l lv) true := by
  have hsl := scripts_length l
  obtain ⟨k0, hk0⟩ := t_l1 l lv (scriptsP l (prts l 0 0)) (runsP lv (scriptsP l (prts l 0 0)) (prts l 0 0)) hn hlv hsl (runsP_len300 _ _ _ hn) (scripts_ok l) (runs_ok l lv _) _ 0 0 (Nat.zero_add _) (fun _ => rfl) (fun j hj => by omega)
  refine ⟨k0 + 2, fun q hq => ?_⟩
  obtain ⟨q, rfl⟩ : ∃ m, q = m + 2 := ⟨q - 2, by omega⟩
  have hk3 := hk0 q (by omega)
  have e1 : itemise_Runs.f l lv = some (runsP lv (scriptsP l (prts l 0 0)) (prts l 0 0), 0) := by
    unfold itemise_Runs.f
    rw [if_neg (by omega), if_pos hlv.symm]
  have e2 : itemise_Scripts.f l = some (scriptsP l (prts l 0 0)) := by unfold itemise_Scripts.f; rw [if_pos (by omega)]
  have e3 : (((scriptsP l (prts l 0 0)).length : Int) != (l.length : Int)) = false := by rw [hsl]; simp
  simp only [calamuslaw14_ItemiseTiles.j1, calamuslaw14_ItemiseTiles.j2]
  rw [e1, Option.bind_some, e2, Option.bind_some]
  simp only
  rw [if_pos trivial, e3, if_neg (by simp)]
  exact hk3

theorem t_l0 (l l1 : List Int) (hn : l.length ≤ 300) : ∀ d i (lv : List Int), i + d = l.length → lv.length = l.length → Ev (fun q => calamuslaw14_ItemiseTiles.l0 q l l1 lv (i : Int)) true := by
  intro d
  induction d with
  | zero =>
    intro i lv hi hlv
    obtain ⟨k0, hk0⟩ := t_j1 l lv hn hlv
    refine ⟨k0 + 1, fun q hq => ?_⟩
    obtain ⟨q, rfl⟩ : ∃ m, q = m + 1 := ⟨q - 1, by omega⟩
    have hk3 := hk0 q (by omega)
    simp only [calamuslaw14_ItemiseTiles.l0]
    rw [if_neg (by omega)]
    exact hk3
  | succ d ih =>
    intro i lv hi hlv
    obtain ⟨k0, hk0⟩ := t_j1 l lv hn hlv
    obtain ⟨k1, hk1⟩ := ih (i + 1) (lv.set i (rd l1 (i : Int))) (by omega) (by simpa using hlv)
    refine ⟨k0 + k1 + 1, fun q hq => ?_⟩
    obtain ⟨q, rfl⟩ : ∃ m, q = m + 1 := ⟨q - 1, by omega⟩
    have hk3 := hk0 q (by omega)
    have hk4 := hk1 q (by omega)
    simp only [calamuslaw14_ItemiseTiles.l0]
    rw [if_pos (by omega)]
    by_cases h : (i : Int) < (l1.length : Int)
    · rw [if_pos h, if_pos (by omega), if_pos (by omega), Int.toNat_natCast, wrap64_nat i (by omega)]
      exact hk4
    · rw [if_neg h]
      exact hk3

theorem calamuslaw14_ItemiseTiles.pure' (l0 l1 : List Int) : ∃ k, calamuslaw14_ItemiseTiles.f k l0 l1 = some true := by
  by_cases hn : (l0.length : Int) > 300
  · refine ⟨0, ?_⟩
    unfold calamuslaw14_ItemiseTiles.f
    rw [if_pos hn, works14]
    rfl
  · obtain ⟨k0, hk0⟩ := t_l0 l0 l1 (by omega) l0.length 0 (List.replicate l0.length 0) (by omega) (by simp)
    refine ⟨k0, ?_⟩
    have h := hk0 k0 (Nat.le_refl _)
    unfold calamuslaw14_ItemiseTiles.f
    rw [if_neg hn, if_pos (by omega), if_pos (by omega), Int.toNat_natCast]
    exact h
theorem calamuslaw14_ItemiseTiles.pure : calamuslaw14_ItemiseTiles.Pure := fun l0 l1 _ _ _ _ _ _ => calamuslaw14_ItemiseTiles.pure' l0 l1
end Go.Proofs.YtfnkpjkbgfgbkaaDoor.Pr
