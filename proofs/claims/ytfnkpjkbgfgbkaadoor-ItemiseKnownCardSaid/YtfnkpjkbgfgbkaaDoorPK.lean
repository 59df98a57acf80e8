/-
  The plain law of ItemiseRuns: the reference's runs are those of the parts.
-/
import Derived.Test.YtfnkpjkbgfgbkaaDoorPJ
import Derived.Test.YtfnkpjkbgfgbkaaDoorPr19
namespace Go.Proofs.YtfnkpjkbgfgbkaaDoor.Pr
open Go.RowKit HK Go.Proofs.YtfnkpjkbgfgbkaaDoorW.PrintWords Go.Proofs.YtfnkpjkbgfgbkaaDoorW.PrintLast Go.Proofs.YtfnkpjkbgfgbkaaDoorW.PrintMore
set_option linter.unusedVariables false
set_option linter.unusedSimpArgs false

abbrev RunR := S36
def cvRun (x : RunS) : RunR := ⟨x.f0, x.f1, x.f2, x.f3⟩
theorem rdR_last (out : List RunS) (k : Nat) (hk : out.length = k + 1) : rd_T36 (out.map cvRun) (k : Int) = cvRun (lastRun out) := by
  unfold rd_T36 lastRun
  rw [Int.toNat_natCast, List.getD_eq_getElem?_getD, List.getElem?_map, List.getElem?_eq_getElem (by omega), List.getD_eq_getElem?_getD, show out.length - 1 = k by omega, List.getElem?_eq_getElem (by omega)]
  rfl
theorem rdN (l : List Int) (i : Nat) : rd l (i : Int) = l.getD i 0 := by unfold rd; rw [Int.toNat_natCast]

/-- A round of the reference: at a place that is the first of a part, or within it. -/
theorem runs_round (x0 lv s : List Int) (f i : Nat) (out : List RunS) (r : List RunR × Int) (hn : x0.length ≤ 65536) (hi : i < x0.length) (hlv : lv.length = x0.length) (hs : s.length = x0.length) (hout : out.length ≤ i) (hfi : f ≤ i)
    (hin : f < i → 0 < out.length ∧ sepB (x0.getD (i - 1) 0) = false) (hst : f = i → out = [] ∨ 0 < i ∧ sepB (x0.getD (i - 1) 0) = true)
    (h : Ev (fun k => calamusref14_Runs.l0 k x0 lv s ((runStep lv s f out i).map cvRun) ((i + 1 : Nat) : Int)) r) :
    Ev (fun k => calamusref14_Runs.l0 k x0 lv s (out.map cvRun) (i : Int)) r := by
  obtain ⟨k0, hk0⟩ := h
  refine ⟨k0 + 500, fun k hk => ?_⟩
  obtain ⟨k, rfl⟩ : ∃ m, k = m + 1 := ⟨k - 1, by omega⟩
  have hk1 := hk0 k (by omega)
  simp only at hk1
  have hml : (out.map cvRun).length = out.length := by simp
  simp only [calamusref14_Runs.l0]
  rw [if_pos (by omega), hml]
  have happ : ∀ c : Prop, [Decidable c] → ¬ c → (runStep lv s f out i = if c then out.set (out.length - 1) ⟨(lastRun out).f0, (i : Int) + 1, (lastRun out).f2, (lastRun out).f3⟩ else out ++ [⟨(i : Int), (i : Int) + 1, rd lv i, rd s i⟩]) → calamusref14_Runs.l0 k x0 lv s (out.map cvRun ++ [(⟨(i : Int), wrap64 ((i : Int) + 1), rd lv i, rd s i⟩ : RunR)]) (wrap64 ((i : Int) + 1)) = some r := by
    intro c _ hc he
    rw [if_neg hc] at he
    rw [he] at hk1
    rw [wrap64_nat i (by omega)]
    rw [List.map_append] at hk1
    exact hk1
  by_cases h0 : out = []
  · subst h0
    rw [if_neg (by simp), if_pos (by omega), if_pos (by omega), if_pos (by omega), if_pos (by simp)]
    refine happ (f < i ∧ (lastRun []).f2 = rd lv i ∧ (lastRun []).f3 = rd s i) (fun h => ?_) rfl
    have := (hin h.1).1
    simp at this
  · have hpos : 0 < out.length := List.length_pos_iff.2 h0
    obtain ⟨q, hq⟩ : ∃ q, out.length = q + 1 := ⟨out.length - 1, by omega⟩
    have e1 : wrap64 ((out.length : Int) - 1) = (q : Int) := by rw [wrap64_small (by omega)]; omega
    rw [if_pos (by omega), e1, if_pos (by omega), if_pos (by omega), if_pos (by omega), if_pos (by omega), rdR_last out q hq]
    have e2 : wrap64 ((i : Int) - 1) = ((i - 1 : Nat) : Int) := by rw [wrap64_small (by omega)]; omega
    by_cases h1 : (lastRun out).f2 = rd lv (i : Int)
    · rw [if_pos (show (cvRun (lastRun out)).f2 = _ from h1), if_pos (by omega)]
      by_cases h2 : (lastRun out).f3 = rd s (i : Int)
      · rw [if_pos (show (cvRun (lastRun out)).f3 = _ from h2), e2, if_pos (by omega), if_pos (by omega), ends_eq _ (by omega), rdN, Option.bind_some]
        by_cases hf : f < i
        · rw [(hin hf).2, if_neg (by simp)]
          have he : runStep lv s f out i = out.set q ⟨(lastRun out).f0, (i : Int) + 1, (lastRun out).f2, (lastRun out).f3⟩ := by
            unfold runStep
            rw [if_pos ⟨hf, h1, h2⟩, show out.length - 1 = q by omega]
          rw [he, List.map_set] at hk1
          rw [wrap64_nat i (by omega), Int.toNat_natCast]
          exact hk1
        · obtain rfl : f = i := by omega
          rcases hst rfl with h | h
          · exact absurd h h0
          · rw [h.2, if_pos rfl, if_pos (by omega)]
            exact happ (f < f ∧ (lastRun out).f2 = rd lv f ∧ (lastRun out).f3 = rd s f) (fun h => by omega) rfl
      · rw [if_neg (show ¬ (cvRun (lastRun out)).f3 = _ from h2), if_pos (by omega)]
        exact happ (f < i ∧ (lastRun out).f2 = rd lv i ∧ (lastRun out).f3 = rd s i) (fun h => h2 h.2.2) rfl
    · rw [if_neg (show ¬ (cvRun (lastRun out)).f2 = _ from h1), if_pos (by omega), if_pos (by omega)]
      exact happ (f < i ∧ (lastRun out).f2 = rd lv i ∧ (lastRun out).f3 = rd s i) (fun h => h1 h.2.1) rfl

theorem runs_part (x0 lv s : List Int) (f : Nat) (out : List RunS) (r : List RunR × Int) (hn : x0.length ≤ 65536) (hlv : lv.length = x0.length) (hs : s.length = x0.length) (hout : out.length ≤ f) (hf : f < x0.length) (hst : out = [] ∨ 0 < f ∧ sepB (x0.getD (f - 1) 0) = true)
    (h : Ev (fun k => calamusref14_Runs.l0 k x0 lv s ((runUpto lv s f (f + (tp (x0.drop f)).length) out).map cvRun) ((f + (tp (x0.drop f)).length : Nat) : Int)) r) :
    ∀ d j, j + d = (tp (x0.drop f)).length → Ev (fun k => calamusref14_Runs.l0 k x0 lv s ((runUpto lv s f (f + j) out).map cvRun) ((f + j : Nat) : Int)) r := by
  have hpl : (tp (x0.drop f)).length ≤ x0.length - f := Nat.le_trans (tp_le _) (by simp)
  intro d
  induction d with
  | zero =>
    intro j hj
    rw [show j = (tp (x0.drop f)).length by omega]
    exact h
  | succ d ih =>
    intro j hj
    have hle := runUpto_le lv s f j out
    refine runs_round x0 lv s f (f + j) _ r hn (by omega) hlv hs (by omega) (by omega) (fun hlt => ⟨runUpto_pos lv s f (f + j) out hlt, ?_⟩) (fun he => ?_) ?_
    · have := tp_inner (x0.drop f) (j - 1) (by omega)
      rw [List.getD_eq_getElem?_getD, List.getElem?_drop, ← List.getD_eq_getElem?_getD, show f + (j - 1) = f + j - 1 by omega] at this
      exact this
    · obtain rfl : j = 0 := by omega
      have e : runUpto lv s f (f + 0) out = out := by simp [runUpto]
      rw [e]
      exact hst
    · rw [← runUpto_succ _ _ _ _ _ (by omega)]
      exact ih (j + 1) (by omega)

theorem runs_main (x0 lv s : List Int) (hn : x0.length ≤ 65536) (hlv : lv.length = x0.length) (hs : s.length = x0.length) : ∀ (m f : Nat) (out : List RunS), x0.length - f ≤ m → f ≤ x0.length → out.length ≤ f → (out = [] ∨ 0 < f ∧ (f < x0.length → sepB (x0.getD (f - 1) 0) = true)) →
    Ev (fun k => calamusref14_Runs.l0 k x0 lv s (out.map cvRun) (f : Int)) (((prts (x0.drop f) f f).foldl (fun out p => runUpto lv s p.1 p.2 out) out).map cvRun, 0) := by
  intro m
  induction m with
  | zero =>
    intro f out hm hf hout _
    obtain rfl : f = x0.length := by omega
    refine ⟨1, fun k hk => ?_⟩
    obtain ⟨k, rfl⟩ : ∃ m, k = m + 1 := ⟨k - 1, by omega⟩
    simp only [calamusref14_Runs.l0]
    rw [if_neg (by omega), List.drop_length]
    simp [prts]
  | succ m ih =>
    intro f out hm hf hout hst
    by_cases hfn : f = x0.length
    · exact ih f out (by omega) hf hout hst
    · have hne : x0.drop f ≠ [] := by
        intro e
        have := congrArg List.length e
        simp at this
        omega
      have hpos := tp_pos hne
      have hpl : (tp (x0.drop f)).length ≤ x0.length - f := Nat.le_trans (tp_le _) (by simp)
      rw [prts_tp (x0.drop f) f f (Nat.le_refl _) (.inr hne), List.drop_drop, List.foldl_cons]
      have hle := runUpto_le lv s f (tp (x0.drop f)).length out
      have h1 := runs_part x0 lv s f out _ hn hlv hs hout (by omega) (by rcases hst with h | h; exact .inl h; exact .inr ⟨h.1, h.2 (by omega)⟩)
        (ih (f + (tp (x0.drop f)).length) (runUpto lv s f (f + (tp (x0.drop f)).length) out) (by omega) (by omega) (by omega) (.inr ⟨by omega, fun hlt => by
          have := tp_last (x0.drop f) (by rw [List.length_drop]; omega)
          rw [List.getD_eq_getElem?_getD, List.getElem?_drop, ← List.getD_eq_getElem?_getD, show f + ((tp (x0.drop f)).length - 1) = f + (tp (x0.drop f)).length - 1 by omega] at this
          exact this⟩)) (tp (x0.drop f)).length 0 (by omega)
      have e : runUpto lv s f (f + 0) out = out := by simp [runUpto]
      rw [e] at h1
      exact h1

/-- The reference's Runs. -/
theorem ref_Runs_ev (l lv : List Int) (hn : l.length ≤ 65536) (a : List RunS) (e : Int) (h : itemise_Runs.f l lv = some (a, e)) : Ev (fun k => calamusref14_Runs.f k l lv) (a.map cvRun, e) := by
  unfold itemise_Runs.f at h
  rw [if_neg (by omega)] at h
  by_cases hll : l.length = lv.length
  · rw [if_pos hll] at h
    simp only [Option.some.injEq, Prod.mk.injEq] at h
    obtain ⟨rfl, rfl⟩ := h
    obtain ⟨k0, hk0⟩ := runs_main l lv (scriptsP l (prts l 0 0)) hn hll.symm (scripts_length l) l.length 0 [] (by omega) (by omega) (by simp) (.inl rfl)
    obtain ⟨k1, hk1⟩ := ref_Scripts_ev l hn
    refine ⟨k0 + k1, fun k hk => ?_⟩
    have h0 := hk0 k (by omega)
    have h1 : calamusref14_Scripts.f k l = some (scriptsP l (prts l 0 0)) := hk1 k (by omega)
    show calamusref14_Runs.f k l lv = _
    unfold calamusref14_Runs.f
    rw [if_neg (by omega), if_pos (by omega), h1, Option.bind_some]
    exact h0
  · rw [if_neg hll] at h
    simp only [Option.some.injEq, Prod.mk.injEq] at h
    obtain ⟨rfl, rfl⟩ := h
    refine ⟨0, fun k hk => ?_⟩
    show calamusref14_Runs.f k l lv = _
    unfold calamusref14_Runs.f
    rw [if_neg (by omega), if_neg (by omega)]
    rfl

theorem ir_l0 (a : List RunS) (ha : a.length ≤ 1000000) : ∀ (d i : Nat), i + d = a.length → Ev (fun k => calamuslaw14_ItemiseRuns.l0 k a (a.map cvRun) (i : Int)) true := by
  intro d
  induction d with
  | zero =>
    intro i hi
    refine ⟨1, fun k hk => ?_⟩
    obtain ⟨k, rfl⟩ : ∃ m, k = m + 1 := ⟨k - 1, by omega⟩
    simp only [calamuslaw14_ItemiseRuns.l0]
    rw [if_neg (by omega), works14]
    rfl
  | succ d ih =>
    intro i hi
    obtain ⟨k0, hk0⟩ := ih (i + 1) (by omega)
    refine ⟨k0 + 1, fun k hk => ?_⟩
    obtain ⟨k, rfl⟩ : ∃ m, k = m + 1 := ⟨k - 1, by omega⟩
    have hml : (a.map cvRun).length = a.length := by simp
    have e : rd_T36 (a.map cvRun) (i : Int) = cvRun (rd_T35 a (i : Int)) := by
      unfold rd_T36 rd_T35
      rw [Int.toNat_natCast, List.getD_eq_getElem?_getD, List.getElem?_map, List.getElem?_eq_getElem (by omega), List.getD_eq_getElem?_getD, List.getElem?_eq_getElem (by omega)]
      rfl
    simp only [calamuslaw14_ItemiseRuns.l0]
    rw [if_pos (by omega), if_pos (by omega), if_pos (by omega), e, if_pos (show (rd_T35 a (i : Int)).f0 = (cvRun (rd_T35 a (i : Int))).f0 from rfl), if_pos (show (rd_T35 a (i : Int)).f1 = (cvRun (rd_T35 a (i : Int))).f1 from rfl), if_pos (show (rd_T35 a (i : Int)).f2 = (cvRun (rd_T35 a (i : Int))).f2 from rfl), if_pos (show (rd_T35 a (i : Int)).f3 = (cvRun (rd_T35 a (i : Int))).f3 from rfl), wrap64_nat i (by omega)]
    exact hk0 k (by omega)

theorem prts_runs_le (l lv : List Int) (hn : l.length ≤ 300) (a : List RunS) (e : Int) (h : itemise_Runs.f l lv = some (a, e)) : a.length ≤ 1000000 := by
  unfold itemise_Runs.f at h
  rw [if_neg (by omega)] at h
  split at h
  · simp only [Option.some.injEq, Prod.mk.injEq] at h
    obtain ⟨rfl, rfl⟩ := h
    obtain ⟨ys, hy⟩ := prts_pt l.length l 0 0 (Nat.le_refl _) (by omega)
    rw [← hy]
    have h1 := runsP_le lv (scriptsP l (ys.map (·.1))) ys
    have h2 := prts_len l 0 0
    have h3 := congrArg List.length hy
    rw [List.length_map] at h3
    have h4 : ys.length * l.length ≤ 301 * 300 := Nat.mul_le_mul (by omega) (by omega)
    omega
  · simp only [Option.some.injEq, Prod.mk.injEq] at h
    obtain ⟨rfl, rfl⟩ := h
    simp

theorem calamuslaw14_ItemiseRuns.pure' (l0 l1 : List Int) : ∃ k, calamuslaw14_ItemiseRuns.f k l0 l1 = some true := by
  have hj0 : Ev (fun k => calamuslaw14_ItemiseRuns.j0 k l0 l1 true) true := by
    refine ⟨1, fun k hk => ?_⟩
    obtain ⟨k, rfl⟩ : ∃ m, k = m + 1 := ⟨k - 1, by omega⟩
    simp only [calamuslaw14_ItemiseRuns.j0]
    rw [if_pos trivial, works14]
    rfl
  by_cases hn : (l0.length : Int) > 300
  · obtain ⟨k0, hk0⟩ := hj0
    refine ⟨k0, ?_⟩
    unfold calamuslaw14_ItemiseRuns.f
    rw [if_pos hn]
    exact hk0 _ (Nat.le_refl _)
  · by_cases hn1 : (l1.length : Int) > 300
    · obtain ⟨k0, hk0⟩ := hj0
      refine ⟨k0, ?_⟩
      unfold calamuslaw14_ItemiseRuns.f
      rw [if_neg hn, decide_eq_true hn1]
      exact hk0 _ (Nat.le_refl _)
    · obtain ⟨⟨a, e⟩, hae⟩ : ∃ x, itemise_Runs.f l0 l1 = some x := by
        unfold itemise_Runs.f
        split
        · exact ⟨_, rfl⟩
        · split <;> exact ⟨_, rfl⟩
      have hal := prts_runs_le l0 l1 (by omega) a e hae
      obtain ⟨k0, hk0⟩ := ref_Runs_ev l0 l1 (by omega) a e hae
      obtain ⟨k1, hk1⟩ := ir_l0 a hal a.length 0 (by omega)
      refine ⟨k0 + k1 + 2, ?_⟩
      have h0 : calamusref14_Runs.f (k0 + k1 + 1) l0 l1 = some (a.map cvRun, e) := hk0 _ (by omega)
      have h1 : calamuslaw14_ItemiseRuns.l0 (k0 + k1) a (a.map cvRun) 0 = some true := hk1 _ (by omega)
      unfold calamuslaw14_ItemiseRuns.f
      rw [if_neg hn, decide_eq_false hn1]
      simp only [calamuslaw14_ItemiseRuns.j0, calamuslaw14_ItemiseRuns.j1]
      rw [if_neg (by simp), if_pos (by simp only [List.length_nil]; omega), Option.bind_some, List.nil_append, hae, Option.bind_some, h0, Option.bind_some]
      simp only
      rw [if_pos trivial, if_pos (by simp), if_neg (by simp)]
      exact h1
theorem calamuslaw14_ItemiseRuns.pure : calamuslaw14_ItemiseRuns.Pure := fun l0 l1 _ _ _ _ _ _ => calamuslaw14_ItemiseRuns.pure' l0 l1
end Go.Proofs.YtfnkpjkbgfgbkaaDoor.Pr
