/-
  Scripts and runs of a text that a separator parts: the plain part of ItemiseParts.
-/
import Derived.Test.YtfnkpjkbgfgbkaaDoorPN
namespace Go.Proofs.YtfnkpjkbgfgbkaaDoor.Pr
open Go.RowKit HK Go.Proofs.YtfnkpjkbgfgbkaaDoorW.PrintWords Go.Proofs.YtfnkpjkbgfgbkaaDoorW.PrintLast Go.Proofs.YtfnkpjkbgfgbkaaDoorW.PrintMore
set_option linter.unusedVariables false
set_option linter.unusedSimpArgs false

/-- The scripts, part by part. -/
def SC : Nat → List Int → List Int
  | 0, _ => []
  | _ + 1, [] => []
  | m + 1, r :: l => partF (tp (r :: l)) ++ SC m ((r :: l).drop (tp (r :: l)).length)
theorem sc_cons (m : Nat) {L : List Int} (h : L ≠ []) : SC (m + 1) L = partF (tp L) ++ SC m (L.drop (tp L).length) := by
  cases L with
  | nil => exact absurd rfl h
  | cons r l => rfl
theorem sc_nil : ∀ m, SC m [] = []
  | 0 => rfl
  | _ + 1 => rfl
theorem sc_main (l : List Int) : ∀ (m f : Nat) (pre : List Int), l.length - f ≤ m → f ≤ l.length → pre.length = f →
    (prts (l.drop f) f f).foldl (fun xs p => xs.take p.1 ++ partF ((l.take p.2).drop p.1) ++ xs.drop p.2) (pre ++ List.replicate (l.length - f) 0) = pre ++ SC m (l.drop f) := by
  intro m
  induction m with
  | zero =>
    intro f pre hm hf hpre
    obtain rfl : f = l.length := by omega
    rw [List.drop_length]
    simp [prts, SC]
  | succ m ih =>
    intro f pre hm hf hpre
    by_cases hfn : f = l.length
    · subst hfn
      rw [List.drop_length]
      simp [prts, SC]
    · have hne : l.drop f ≠ [] := by
        intro e
        have := congrArg List.length e
        simp at this
        omega
      have hpl : (tp (l.drop f)).length ≤ l.length - f := Nat.le_trans (tp_le _) (by simp)
      have hpos := tp_pos hne
      rw [sc_cons m hne, prts_tp (l.drop f) f f (Nat.le_refl _) (.inr hne), List.drop_drop, List.foldl_cons]
      obtain ⟨p, hp⟩ : ∃ p, p = tp (l.drop f) := ⟨_, rfl⟩
      have e1 : (l.take (f + p.length)).drop f = p := by
        rw [List.drop_take, Nat.add_sub_cancel_left]
        conv => lhs; rw [hp]
        rw [tp_take, ← hp]
      have e2 : (pre ++ List.replicate (l.length - f) (0 : Int)).take f = pre := by rw [← hpre, List.take_left]
      have e3 : (pre ++ List.replicate (l.length - f) (0 : Int)).drop (f + p.length) = List.replicate (l.length - (f + p.length)) 0 := by
        rw [← hpre, ← List.drop_drop, List.drop_left, List.drop_replicate]
        congr 1
        omega
      rw [← hp] at hpl hpos ⊢
      simp only [e1, e2, e3]
      rw [ih (f + p.length) (pre ++ partF p) (by omega) (by omega) (by rw [List.length_append, partF_length]; omega), List.append_assoc]
theorem scripts_sc (l : List Int) {m : Nat} (h : l.length ≤ m) : scriptsP l (prts l 0 0) = SC m l := by
  have := sc_main l m 0 [] (by omega) (by omega) rfl
  simpa [scriptsP] using this
theorem sc_fuel {L : List Int} {m m' : Nat} (h : L.length ≤ m) (h' : L.length ≤ m') : SC m L = SC m' L := (scripts_sc L h).symm.trans (scripts_sc L h')
theorem tp_app {u : Int} (hu : sepB u = true) (b : List Int) : ∀ a : List Int, tp (a ++ u :: b) = tp (a ++ [u])
  | [] => by simp [tp, hu]
  | r :: a => by
    have ih := tp_app hu b a
    simp only [List.cons_append, tp]
    rw [ih]
theorem sc_app {u : Int} (hu : sepB u = true) (b : List Int) : ∀ (m : Nat) (a : List Int), a.length + 1 + b.length ≤ m → SC m (a ++ u :: b) = SC m (a ++ [u]) ++ SC m b := by
  intro m
  induction m with
  | zero => intro a h; omega
  | succ m ih =>
    intro a h
    have hk := tp_le (a ++ [u])
    have hk0 : 0 < (tp (a ++ [u])).length := tp_pos (by simp)
    simp only [List.length_append, List.length_singleton] at hk
    rw [sc_cons m (by simp), sc_cons m (L := a ++ [u]) (by simp), tp_app hu b a]
    generalize (tp (a ++ [u])).length = k at hk hk0 ⊢
    have ef : SC (m + 1) b = SC m b := sc_fuel (by omega) (by omega)
    rw [ef, List.append_assoc]
    congr 1
    by_cases hka : k = a.length + 1
    · subst hka
      have e1 : (a ++ u :: b).drop (a.length + 1) = b := by
        rw [show a ++ u :: b = (a ++ [u]) ++ b by simp, show a.length + 1 = (a ++ [u]).length by simp, List.drop_left]
      have e2 : (a ++ [u]).drop (a.length + 1) = [] := by simp
      rw [e1, e2, sc_nil, List.nil_append]
    · have e1 : (a ++ u :: b).drop k = a.drop k ++ u :: b := List.drop_append_of_le_length (by omega)
      have e2 : (a ++ [u]).drop k = a.drop k ++ [u] := List.drop_append_of_le_length (by omega)
      rw [e1, e2]
      exact ih (a.drop k) (by rw [List.length_drop]; omega)

/-- The scripts of what a separator parts. -/
theorem scripts_app {u : Int} (hu : sepB u = true) (a b : List Int) : scriptsP (a ++ [u] ++ b) (prts (a ++ [u] ++ b) 0 0) = scriptsP (a ++ [u]) (prts (a ++ [u]) 0 0) ++ scriptsP b (prts b 0 0) := by
  have hl : a ++ [u] ++ b = a ++ u :: b := by simp
  rw [scripts_sc (a ++ [u] ++ b) (m := a.length + 1 + b.length) (by simp only [List.length_append, List.length_singleton]; omega), scripts_sc (a ++ [u]) (m := a.length + 1 + b.length) (by simp only [List.length_append, List.length_singleton]; omega), scripts_sc b (m := a.length + 1 + b.length) (by omega), hl]
  exact sc_app hu b _ a (Nat.le_refl _)

theorem prts_app {u : Int} (hu : sepB u = true) (b : List Int) : ∀ (a : List Int) (i f : Nat), prts (a ++ [u] ++ b) i f = prts (a ++ [u]) i f ++ prts b (i + a.length + 1) (i + a.length + 1)
  | [], i, f => by simp [prts, hu]
  | r :: a, i, f => by
    have h1 := prts_app hu b a (i + 1) (i + 1)
    have h2 := prts_app hu b a (i + 1) f
    have e : i + (a.length + 1) + 1 = i + 1 + a.length + 1 := by omega
    simp only [List.cons_append, prts, List.length_cons, e]
    by_cases hs : sepB r = true
    · rw [if_pos hs, if_pos hs, h1, List.cons_append]
    · rw [if_neg hs, if_neg hs, h2]
theorem prts_shift (m : Nat) : ∀ (l : List Int) (i f : Nat), prts l (i + m) (f + m) = (prts l i f).map fun p => (p.1 + m, p.2 + m)
  | [], i, f => by
    simp only [prts]
    by_cases h : f < i
    · rw [if_pos h, if_pos (by omega)]; rfl
    · rw [if_neg h, if_neg (by omega)]; rfl
  | r :: l, i, f => by
    have h1 := prts_shift m l (i + 1) (i + 1)
    have h2 := prts_shift m l (i + 1) f
    have e : i + m + 1 = i + 1 + m := by omega
    simp only [prts, e]
    split
    · rw [h1]; rfl
    · rw [h2]

def shRun (m : Nat) (x : RunS) : RunS := ⟨x.f0 + m, x.f1 + m, x.f2, x.f3⟩
theorem lastRun_app {out Y : List RunS} (h : Y ≠ []) : lastRun (out ++ Y) = lastRun Y := by
  have hp := List.length_pos_iff.2 h
  unfold lastRun
  rw [List.length_append, show out.length + Y.length - 1 = out.length + (Y.length - 1) by omega]
  exact getD_right _ _ _ _
theorem runUpto_app (lv s : List Int) (f : Nat) (out : List RunS) : ∀ d, runUpto lv s f (f + d) out = out ++ runUpto lv s f (f + d) []
  | 0 => by simp [runUpto]
  | d + 1 => by
    rw [show f + (d + 1) = (f + d) + 1 by omega, runUpto_succ _ _ _ _ _ (by omega), runUpto_succ _ _ _ _ _ (by omega), runUpto_app lv s f out d]
    obtain ⟨Y, hY⟩ : ∃ Y, Y = runUpto lv s f (f + d) [] := ⟨_, rfl⟩
    rw [← hY]
    unfold runStep
    by_cases hd : d = 0
    · rw [if_neg (by omega), if_neg (by omega), List.append_assoc]
    · have hne : Y ≠ [] := by
        have := runUpto_pos lv s f (f + d) [] (by omega)
        rw [← hY] at this
        exact List.length_pos_iff.1 this
      have hp := List.length_pos_iff.2 hne
      rw [lastRun_app hne]
      split
      · rw [List.length_append, List.set_append_right _ _ (by omega), show out.length + Y.length - 1 - out.length = Y.length - 1 by omega]
      · rw [List.append_assoc]
theorem runUpto_app' (lv s : List Int) (f t : Nat) (out : List RunS) : runUpto lv s f t out = out ++ runUpto lv s f t [] := by
  have h := runUpto_app lv s f out (t - f)
  have e : ∀ o, runUpto lv s f (f + (t - f)) o = runUpto lv s f t o := fun o => by unfold runUpto; rw [Nat.add_sub_cancel_left]
  rw [e, e] at h
  exact h
theorem runs_fold_app (lv s : List Int) : ∀ (ps : List (Nat × Nat)) (out : List RunS), ps.foldl (fun out p => runUpto lv s p.1 p.2 out) out = out ++ runsP lv s ps
  | [], out => by simp [runsP]
  | p :: ps, out => by
    have h1 := runs_fold_app lv s ps (runUpto lv s p.1 p.2 out)
    have h2 := runs_fold_app lv s ps (runUpto lv s p.1 p.2 [])
    have e : runsP lv s (p :: ps) = ps.foldl (fun out p => runUpto lv s p.1 p.2 out) (runUpto lv s p.1 p.2 []) := rfl
    rw [List.foldl_cons, h1, e, h2, runUpto_app' lv s p.1 p.2 out, List.append_assoc]

theorem runUpto_congr {lv s lv' s' : List Int} {N m : Nat} (h : ∀ i : Nat, i < N → rd lv ((i + m : Nat) : Int) = rd lv' (i : Int) ∧ rd s ((i + m : Nat) : Int) = rd s' (i : Int)) (f : Nat) : ∀ d, f + d ≤ N → runUpto lv s (f + m) (f + m + d) [] = (runUpto lv' s' f (f + d) []).map (shRun m)
  | 0, _ => by simp [runUpto]
  | d + 1, hd => by
    have ih := runUpto_congr h f d (by omega)
    obtain ⟨h1, h2⟩ := h (f + d) (by omega)
    rw [show f + m + (d + 1) = (f + m + d) + 1 by omega, show f + (d + 1) = (f + d) + 1 by omega, runUpto_succ _ _ _ _ _ (by omega), runUpto_succ _ _ _ _ _ (by omega), ih]
    obtain ⟨Y, hY⟩ : ∃ Y, Y = runUpto lv' s' f (f + d) [] := ⟨_, rfl⟩
    rw [← hY, show f + m + d = f + d + m by omega]
    unfold runStep
    rw [h1, h2]
    by_cases hd0 : d = 0
    · subst hd0
      rw [if_neg (by omega), if_neg (by omega), List.map_append]
      simp [shRun]
      omega
    · have hp : 0 < Y.length := by
        have := runUpto_pos lv' s' f (f + d) [] (by omega)
        rwa [← hY] at this
      have hl : lastRun (Y.map (shRun m)) = shRun m (lastRun Y) := by
        unfold lastRun
        rw [List.length_map, List.getD_eq_getElem?_getD, List.getElem?_map, List.getElem?_eq_getElem (by omega), List.getD_eq_getElem?_getD, List.getElem?_eq_getElem (by omega)]
        rfl
      rw [hl, List.length_map]
      have e2 : (shRun m (lastRun Y)).f2 = (lastRun Y).f2 := rfl
      have e3 : (shRun m (lastRun Y)).f3 = (lastRun Y).f3 := rfl
      have e0 : (shRun m (lastRun Y)).f0 = (lastRun Y).f0 + m := rfl
      rw [e2, e3, e0]
      by_cases hc : (lastRun Y).f2 = rd lv' ((f + d : Nat) : Int) ∧ (lastRun Y).f3 = rd s' ((f + d : Nat) : Int)
      · rw [if_pos ⟨by omega, hc⟩, if_pos ⟨by omega, hc⟩, List.map_set]
        congr 1
        simp only [shRun, RunS, S35.mk.injEq, true_and, and_true]
        omega
      · rw [if_neg (fun h => hc h.2), if_neg (fun h => hc h.2), List.map_append]
        simp only [List.map_cons, List.map_nil, shRun]
        congr 3 <;> omega
theorem runsP_congr {lv s lv' s' : List Int} {N m : Nat} (h : ∀ i : Nat, i < N → rd lv ((i + m : Nat) : Int) = rd lv' (i : Int) ∧ rd s ((i + m : Nat) : Int) = rd s' (i : Int)) : ∀ (ps : List (Nat × Nat)), (∀ p ∈ ps, p.1 ≤ p.2 ∧ p.2 ≤ N) → runsP lv s (ps.map fun p => (p.1 + m, p.2 + m)) = (runsP lv' s' ps).map (shRun m)
  | [], _ => rfl
  | p :: ps, hp => by
    have ih := runsP_congr h ps (fun q hq => hp q (by simp [hq]))
    obtain ⟨h1, h2⟩ := hp p (by simp)
    have hc := runUpto_congr h p.1 (p.2 - p.1) (by omega)
    rw [show p.1 + m + (p.2 - p.1) = p.2 + m by omega, show p.1 + (p.2 - p.1) = p.2 by omega] at hc
    have e1 : runsP lv s ((p :: ps).map fun p => (p.1 + m, p.2 + m)) = runUpto lv s (p.1 + m) (p.2 + m) [] ++ runsP lv s (ps.map fun p => (p.1 + m, p.2 + m)) := by
      show (((p :: ps).map fun p => (p.1 + m, p.2 + m)).foldl (fun out p => runUpto lv s p.1 p.2 out) []) = _
      rw [List.map_cons, List.foldl_cons]
      exact runs_fold_app lv s _ _
    have e2 : runsP lv' s' (p :: ps) = runUpto lv' s' p.1 p.2 [] ++ runsP lv' s' ps := by
      show ((p :: ps).foldl (fun out p => runUpto lv' s' p.1 p.2 out) []) = _
      rw [List.foldl_cons]
      exact runs_fold_app lv' s' _ _
    rw [e1, e2, hc, ih, List.map_append]
theorem prts_in (l : List Int) : ∀ p ∈ prts l 0 0, p.1 ≤ p.2 ∧ p.2 ≤ l.length := by
  obtain ⟨ys, hy⟩ := prts_pt l.length l 0 0 (Nat.le_refl _) (by omega)
  intro p hp
  rw [← hy] at hp
  obtain ⟨q, _, rfl⟩ := List.mem_map.1 hp
  exact ⟨Nat.le_of_lt q.2.1, q.2.2⟩
theorem shRun0 (x : RunS) : shRun 0 x = x := by cases x; simp [shRun]

/-- The runs of what a separator parts. -/
theorem runs_app {u : Int} (hu : sepB u = true) (a b lv s lv1 s1 lv2 s2 : List Int) (h1 : ∀ i : Nat, i < (a ++ [u]).length → rd lv (i : Int) = rd lv1 (i : Int) ∧ rd s (i : Int) = rd s1 (i : Int))
    (h2 : ∀ i : Nat, i < b.length → rd lv ((i + (a ++ [u]).length : Nat) : Int) = rd lv2 (i : Int) ∧ rd s ((i + (a ++ [u]).length : Nat) : Int) = rd s2 (i : Int)) :
    runsP lv s (prts (a ++ [u] ++ b) 0 0) = runsP lv1 s1 (prts (a ++ [u]) 0 0) ++ (runsP lv2 s2 (prts b 0 0)).map (shRun (a ++ [u]).length) := by
  have hps : prts (a ++ [u] ++ b) 0 0 = prts (a ++ [u]) 0 0 ++ (prts b 0 0).map fun p => (p.1 + (a ++ [u]).length, p.2 + (a ++ [u]).length) := by
    rw [prts_app hu b a 0 0, ← prts_shift]
    simp [Nat.add_comm]
  have hc1 := runsP_congr (lv := lv) (s := s) (lv' := lv1) (s' := s1) (m := 0) (fun i hi => by simpa using h1 i hi) (prts (a ++ [u]) 0 0) (prts_in _)
  have hc2 := runsP_congr h2 (prts b 0 0) (prts_in _)
  rw [hps, ← hc2]
  have e0 : (runsP lv1 s1 (prts (a ++ [u]) 0 0)).map (shRun 0) = runsP lv1 s1 (prts (a ++ [u]) 0 0) := by
    conv => rhs; rw [← List.map_id (runsP lv1 s1 (prts (a ++ [u]) 0 0))]
    exact List.map_congr_left fun x _ => shRun0 x
  have e00 : (prts (a ++ [u]) 0 0).map (fun p => (p.1 + 0, p.2 + 0)) = prts (a ++ [u]) 0 0 := by simp
  rw [e0, e00] at hc1
  rw [← hc1]
  conv => lhs; unfold runsP
  rw [List.foldl_append]
  exact runs_fold_app lv s _ _
end Go.Proofs.YtfnkpjkbgfgbkaaDoor.Pr
