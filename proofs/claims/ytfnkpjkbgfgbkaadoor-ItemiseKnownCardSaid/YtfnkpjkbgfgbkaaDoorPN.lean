/-
  What the scripts and the runs of the parts are like: the plain part of ItemiseTiles.
-/
import Derived.Test.YtfnkpjkbgfgbkaaDoorPM
namespace Go.Proofs.YtfnkpjkbgfgbkaaDoor.Pr
open Go.RowKit HK Go.Proofs.YtfnkpjkbgfgbkaaDoorW.PrintWords Go.Proofs.YtfnkpjkbgfgbkaaDoorW.PrintLast Go.Proofs.YtfnkpjkbgfgbkaaDoorW.PrintMore
set_option linter.unusedVariables false
set_option linter.unusedSimpArgs false

theorem brk_mem : ∀ (L : List Two) (r : Int), (brk L r).2.2 = true → ∃ x ∈ L, r = x.a ∨ r = x.b
  | [], r, h => by simp [brk] at h
  | x :: L, r, h => by
    unfold brk at h
    by_cases h1 : r = x.a ∨ r = x.b
    · exact ⟨x, by simp, h1⟩
    · rw [if_neg h1] at h
      obtain ⟨y, hy, h2⟩ := brk_mem L r h
      exact ⟨y, by simp [hy], h2⟩
theorem brackets_scr : bracketsT.all (fun x => scr x.a == 0 && scr x.b == 0) = true := by kernel_rfl
theorem bracket_common {r : Int} (h : (brk bracketsT r).2.2 = true) : scr r = 0 := by
  obtain ⟨x, hx, h1⟩ := brk_mem _ _ h
  have h2 := List.all_eq_true.1 brackets_scr x hx
  simp only [Bool.and_eq_true, beq_iff_eq] at h2
  rcases h1 with rfl | rfl
  · exact h2.1
  · exact h2.2

theorem pstep_one (s : PS) (r : Int) : ∃ v, (pstep s r).outs = s.outs ++ [v] ∧ (pstep s r).now = v ∧ (scr r ≠ 0 → v = pnow s r) := by
  unfold pstep
  by_cases h1 : (brk bracketsT r).2.2 = true
  · rw [if_pos h1]
    have h0 := bracket_common h1
    by_cases h2 : (brk bracketsT r).2.1 = true
    · rw [if_pos h2]
      split <;> exact ⟨_, rfl, rfl, fun h => absurd h0 h⟩
    · rw [if_neg h2]
      split <;> exact ⟨_, rfl, rfl, fun h => absurd h0 h⟩
  · rw [if_neg h1]
    exact ⟨_, rfl, rfl, fun _ => rfl⟩

theorem getD_left {α : Type} (xs ys : List α) (k : Nat) (d : α) (h : k < xs.length) : (xs ++ ys).getD k d = xs.getD k d := by
  rw [List.getD_eq_getElem?_getD, List.getElem?_append_left h, ← List.getD_eq_getElem?_getD]
theorem getD_right {α : Type} (xs ys : List α) (k : Nat) (d : α) : (xs ++ ys).getD (xs.length + k) d = ys.getD k d := by
  rw [List.getD_eq_getElem?_getD, List.getElem?_append_right (by omega), ← List.getD_eq_getElem?_getD, Nat.add_sub_cancel_left]
theorem getD_last {α : Type} (xs : List α) (v d : α) : (xs ++ [v]).getD xs.length d = v := by
  rw [List.getD_eq_getElem?_getD, List.getElem?_append_right (Nat.le_refl _), Nat.sub_self]
  rfl

/-- What is told of the characters of a part by now. -/
structure POk (p : List Int) (s : PS) : Prop where
  own : ∀ j, j < s.outs.length → 1 < scr (p.getD j 0) → s.outs.getD j 0 = scr (p.getD j 0)
  mark : ∀ j, 0 < j → j < s.outs.length → scr (p.getD j 0) = 1 → s.outs.getD j 0 = s.outs.getD (j - 1) 0
  now : 0 < s.outs.length → s.now = s.outs.getD (s.outs.length - 1) 0
theorem pok_step {p : List Int} {s : PS} (h : POk p s) : POk p (pstep s (p.getD s.outs.length 0)) := by
  obtain ⟨v, h1, h2, h3⟩ := pstep_one s (p.getD s.outs.length 0)
  refine ⟨fun j hj ho => ?_, fun j h0 hj hm => ?_, fun _ => ?_⟩
  · rw [h1] at hj ⊢
    simp only [List.length_append, List.length_singleton] at hj
    by_cases hl : j < s.outs.length
    · rw [getD_left _ _ _ _ hl]
      exact h.own j hl ho
    · obtain rfl : j = s.outs.length := by omega
      rw [getD_last, h3 (by omega)]
      exact if_pos ho
  · rw [h1] at hj ⊢
    simp only [List.length_append, List.length_singleton] at hj
    rw [getD_left _ _ (j - 1) _ (by omega)]
    by_cases hl : j < s.outs.length
    · rw [getD_left _ _ _ _ hl]
      exact h.mark j h0 hl hm
    · obtain rfl : j = s.outs.length := by omega
      rw [getD_last, h3 (by omega), ← h.now h0]
      exact if_neg (by omega)
  · rw [h1, h2, List.length_append, List.length_singleton, Nat.add_sub_cancel, getD_last]
theorem pok_part (p : List Int) : ∀ j, j ≤ p.length → POk p (partS p (p.take j))
  | 0, _ => ⟨fun j hj => by simp [partS] at hj, fun j _ hj => by simp [partS] at hj, fun h => by simp [partS] at h⟩
  | j + 1, hj => by
    have ih := pok_step (pok_part p j (by omega))
    have hl : (partS p (p.take j)).outs.length = j := by rw [partS_length, List.length_take]; omega
    rw [hl, ← partS_snoc] at ih
    have e : p.take (j + 1) = p.take j ++ [p.getD j 0] := by
      rw [List.take_add_one, List.getD_eq_getElem?_getD, List.getElem?_eq_getElem (by omega)]
      rfl
    rw [e]
    exact ih
theorem partF_ok (p : List Int) : POk p (partS p p) := by
  have := pok_part p p.length (Nat.le_refl _)
  rwa [List.take_length] at this

theorem part_at2 {l : List Int} {f j : Nat} (hj : j < (tp (l.drop f)).length) : l.getD (f + j) 0 = (tp (l.drop f)).getD j 0 := by
  have h := tp_prefix (l.drop f)
  generalize tp (l.drop f) = p at h hj ⊢
  rw [List.getD_eq_getElem?_getD, List.getD_eq_getElem?_getD, ← List.getElem?_drop, ← h, List.getElem?_append_left hj]

/-- What is told of the characters up to a place. -/
def SOk (l xs : List Int) (f : Nat) : Prop := ∀ k, k < f → (1 < scr (l.getD k 0) → xs.getD k 0 = scr (l.getD k 0)) ∧ (scr (l.getD k 0) = 1 → 0 < k → sepB (l.getD (k - 1) 0) = false → xs.getD k 0 = xs.getD (k - 1) 0)
def Starts (l : List Int) (f : Nat) : Prop := f = 0 ∨ 0 < f ∧ (f < l.length → sepB (l.getD (f - 1) 0) = true)
theorem starts_next {l : List Int} {f : Nat} (hf : f < l.length) : Starts l (f + (tp (l.drop f)).length) := by
  have hne : l.drop f ≠ [] := by
    intro e
    have := congrArg List.length e
    simp at this
    omega
  have hpos := tp_pos hne
  refine .inr ⟨by omega, fun hlt => ?_⟩
  have := tp_last (l.drop f) (by rw [List.length_drop]; omega)
  rw [List.getD_eq_getElem?_getD, List.getElem?_drop, ← List.getD_eq_getElem?_getD, show f + ((tp (l.drop f)).length - 1) = f + (tp (l.drop f)).length - 1 by omega] at this
  exact this

theorem sok_main (l : List Int) : ∀ (m f : Nat) (pre : List Int), l.length - f ≤ m → f ≤ l.length → pre.length = f → Starts l f → SOk l pre f →
    SOk l ((prts (l.drop f) f f).foldl (fun xs p => xs.take p.1 ++ partF ((l.take p.2).drop p.1) ++ xs.drop p.2) (pre ++ List.replicate (l.length - f) 0)) l.length := by
  intro m
  induction m with
  | zero =>
    intro f pre hm hf hpre _ hs
    obtain rfl : f = l.length := by omega
    rw [List.drop_length]
    simpa [prts] using hs
  | succ m ih =>
    intro f pre hm hf hpre hst hs
    by_cases hfn : f = l.length
    · exact ih f pre (by omega) hf hpre hst hs
    · have hne : l.drop f ≠ [] := by
        intro e
        have := congrArg List.length e
        simp at this
        omega
      have hnext := starts_next (l := l) (f := f) (by omega)
      have hpl : (tp (l.drop f)).length ≤ l.length - f := Nat.le_trans (tp_le _) (by simp)
      have hpos := tp_pos hne
      rw [prts_tp (l.drop f) f f (Nat.le_refl _) (.inr hne), List.drop_drop, List.foldl_cons]
      obtain ⟨p, hp⟩ : ∃ p, p = tp (l.drop f) := ⟨_, rfl⟩
      have e1 : (l.take (f + p.length)).drop f = p := by
        rw [List.drop_take, Nat.add_sub_cancel_left]
        conv => lhs; rw [hp]
        rw [tp_take, ← hp]
      have e2 : (pre ++ List.replicate (l.length - f) (0 : Int)).take f = pre := by rw [← hpre, List.take_left]
      have e3 : (pre ++ List.replicate (l.length - f) (0 : Int)).drop (f + p.length) = List.replicate (l.length - (f + p.length)) 0 := by
        rw [← hpre, ← List.drop_drop, List.drop_left, List.drop_replicate]
        congr 1
        omega
      rw [← hp] at hnext hpl hpos ⊢
      simp only [e1, e2, e3]
      refine ih (f + p.length) (pre ++ partF p) (by omega) (by omega) (by rw [List.length_append, partF_length]; omega) hnext ?_
      intro k hk
      have hlk := partF_length p
      by_cases hkf : k < f
      · have h := hs k hkf
        rw [getD_left _ _ k _ (by omega), getD_left _ _ (k - 1) _ (by omega)]
        exact h
      · obtain ⟨j, rfl⟩ : ∃ j, k = f + j := ⟨k - f, by omega⟩
        have hat : l.getD (f + j) 0 = p.getD j 0 := by
          have := part_at2 (l := l) (f := f) (j := j) (by rw [← hp]; omega)
          rw [← hp] at this
          exact this
        have hok := partF_ok p
        rw [hat]
        have e4 : (pre ++ partF p).getD (f + j) 0 = (partF p).getD j 0 := by rw [← hpre]; exact getD_right _ _ _ _
        rw [e4]
        refine ⟨fun h => hok.own j (by rw [partS_length]; omega) h, fun h h0 h1 => ?_⟩
        by_cases hj0 : j = 0
        · subst hj0
          rcases hst with rfl | ⟨h2, h3⟩
          · omega
          · rw [Nat.add_zero, h3 (by omega)] at h1
            cases h1
        · have e5 : (pre ++ partF p).getD (f + j - 1) 0 = (partF p).getD (j - 1) 0 := by rw [← hpre, show pre.length + j - 1 = pre.length + (j - 1) by omega]; exact getD_right _ _ _ _
          rw [e5]
          exact hok.mark j (by omega) (by rw [partS_length]; omega) h
theorem scripts_ok (l : List Int) : SOk l (scriptsP l (prts l 0 0)) l.length := by
  have h := sok_main l l.length 0 [] (by omega) (by omega) rfl (.inl rfl) (fun k hk => by omega)
  simpa [scriptsP] using h

/-- Runs that lie side by side up to a place. -/
def runAt (R : List RunS) (i : Nat) : RunS := R.getD i z35
structure RunOk (l lv s : List Int) (R : List RunS) (e i a b : Nat) : Prop where
  f0 : (runAt R i).f0 = (a : Int)
  f1 : (runAt R i).f1 = (b : Int)
  lt : a < b
  le : b ≤ e
  first : i = 0 → a = 0
  next : ∀ j, i = j + 1 → (runAt R j).f1 = (a : Int)
  cont : ∀ k, a ≤ k → k < b → rd lv (k : Int) = (runAt R i).f2 ∧ rd s (k : Int) = (runAt R i).f3 ∧ (sepB (l.getD k 0) = true → k + 1 = b)
  differ : ∀ j, i = j + 1 → (runAt R j).f2 = (runAt R i).f2 → (runAt R j).f3 = (runAt R i).f3 → sepB (l.getD (a - 1) 0) = true
structure RI (l lv s : List Int) (R : List RunS) (e : Nat) : Prop where
  none : R = [] → e = 0
  last : ∀ m, R.length = m + 1 → (runAt R m).f1 = (e : Int)
  run : ∀ i, i < R.length → ∃ a b, RunOk l lv s R e i a b

theorem ri_step {l lv s : List Int} {R : List RunS} {f i : Nat} (h : RI l lv s R i) (hin : f < i → 0 < R.length ∧ sepB (l.getD (i - 1) 0) = false) (hst : f = i → i = 0 ∨ 0 < i ∧ sepB (l.getD (i - 1) 0) = true) (hfi : f ≤ i) : RI l lv s (runStep lv s f R i) (i + 1) := by
  unfold runStep
  by_cases hc : f < i ∧ (lastRun R).f2 = rd lv i ∧ (lastRun R).f3 = rd s i
  · rw [if_pos hc]
    obtain ⟨hpos, hsep⟩ := hin hc.1
    obtain ⟨m, hm⟩ : ∃ m, R.length = m + 1 := ⟨R.length - 1, by omega⟩
    have em : R.length - 1 = m := by omega
    have el : lastRun R = runAt R m := by unfold lastRun runAt; rw [em]
    rw [em, el]
    rw [el] at hc
    have hother : ∀ j, j ≠ m → runAt (R.set m ⟨(runAt R m).f0, (i : Int) + 1, (runAt R m).f2, (runAt R m).f3⟩) j = runAt R j := by
      intro j hj
      unfold runAt
      rw [List.getD_eq_getElem?_getD, List.getElem?_set_ne (by omega), ← List.getD_eq_getElem?_getD]
    have hself : runAt (R.set m ⟨(runAt R m).f0, (i : Int) + 1, (runAt R m).f2, (runAt R m).f3⟩) m = ⟨(runAt R m).f0, (i : Int) + 1, (runAt R m).f2, (runAt R m).f3⟩ := by
      conv => lhs; unfold runAt
      rw [List.getD_eq_getElem?_getD, List.getElem?_set_self (by omega)]
      rfl
    have hl2 : (R.set m ⟨(runAt R m).f0, (i : Int) + 1, (runAt R m).f2, (runAt R m).f3⟩).length = R.length := by simp
    refine ⟨fun h0 => ?_, fun q hq => ?_, fun q hq => ?_⟩
    · rw [h0] at hl2
      simp at hl2
      omega
    · rw [hl2] at hq
      obtain rfl : q = m := by omega
      rw [hself]
      simp
    · rw [hl2] at hq
      obtain ⟨a, b, hab⟩ := h.run q hq
      by_cases hqm : q = m
      · subst hqm
        have hb : b = i := by
          have h1 := h.last q hm
          have h2 := hab.f1
          rw [h1] at h2
          omega
        subst hb
        refine ⟨a, b + 1, ?_, ?_, by have := hab.lt; omega, Nat.le_refl _, hab.first, fun j hj => ?_, fun k h1 h2 => ?_, fun j hj h1 h2 => ?_⟩
        · rw [hself]; exact hab.f0
        · rw [hself]; simp
        · rw [hother j (by omega)]; exact hab.next j hj
        · rw [hself]
          by_cases hk : k < b
          · obtain ⟨g1, g2, g3⟩ := hab.cont k h1 hk
            refine ⟨g1, g2, fun h3 => ?_⟩
            have := g3 h3
            obtain rfl : k = b - 1 := by omega
            rw [hsep] at h3
            cases h3
          · obtain rfl : k = b := by omega
            exact ⟨hc.2.1.symm, hc.2.2.symm, fun _ => rfl⟩
        · rw [hself] at h1 h2
          rw [hother j (by omega)] at h1 h2
          exact hab.differ j hj h1 h2
      · refine ⟨a, b, ?_, ?_, hab.lt, by have := hab.le; omega, hab.first, fun j hj => ?_, ?_, fun j hj h1 h2 => ?_⟩
        · rw [hother q hqm]; exact hab.f0
        · rw [hother q hqm]; exact hab.f1
        · rw [hother j (by omega)]; exact hab.next j hj
        · rw [hother q hqm]; exact hab.cont
        · rw [hother q hqm, hother j (by omega)] at h1 h2
          exact hab.differ j hj h1 h2
  · rw [if_neg hc]
    have hother : ∀ j, j < R.length → runAt (R ++ [⟨(i : Int), (i : Int) + 1, rd lv i, rd s i⟩]) j = runAt R j := fun j hj => getD_left _ _ _ _ hj
    have hself : runAt (R ++ [⟨(i : Int), (i : Int) + 1, rd lv i, rd s i⟩]) R.length = ⟨(i : Int), (i : Int) + 1, rd lv i, rd s i⟩ := getD_last _ _ _
    refine ⟨fun h0 => by simp at h0, fun q hq => ?_, fun q hq => ?_⟩
    · obtain rfl : q = R.length := by simpa using hq.symm
      rw [hself]
      simp
    · simp only [List.length_append, List.length_singleton] at hq
      by_cases hql : q < R.length
      · obtain ⟨a, b, hab⟩ := h.run q hql
        refine ⟨a, b, ?_, ?_, hab.lt, by have := hab.le; omega, hab.first, fun j hj => ?_, ?_, fun j hj h1 h2 => ?_⟩
        · rw [hother q hql]; exact hab.f0
        · rw [hother q hql]; exact hab.f1
        · rw [hother j (by omega)]; exact hab.next j hj
        · rw [hother q hql]; exact hab.cont
        · rw [hother q hql, hother j (by omega)] at h1 h2
          exact hab.differ j hj h1 h2
      · obtain rfl : q = R.length := by omega
        refine ⟨i, i + 1, ?_, ?_, by omega, Nat.le_refl _, fun h0 => ?_, fun j hj => ?_, fun k h1 h2 => ?_, fun j hj h1 h2 => ?_⟩
        · rw [hself]
        · rw [hself]; simp
        · exact h.none (List.length_eq_zero_iff.1 h0)
        · rw [hother j (by omega)]; exact h.last j hj
        · obtain rfl : k = i := by omega
          rw [hself]
          exact ⟨rfl, rfl, fun _ => rfl⟩
        · rw [hself] at h1 h2
          rw [hother j (by omega)] at h1 h2
          by_cases hf : f < i
          · have el : lastRun R = runAt R j := by unfold lastRun runAt; rw [hj, Nat.add_sub_cancel]
            rw [el] at hc
            exact absurd ⟨hf, h1, h2⟩ hc
          · rcases hst (by omega) with h0 | h0
            · have := h.last j hj
              obtain ⟨a, b, hab⟩ := h.run j (by omega)
              have h3 := hab.f1
              have h4 := hab.lt
              rw [this] at h3
              omega
            · exact h0.2

theorem ri_part {l lv s : List Int} {R : List RunS} {f : Nat} (hf : f < l.length) (hst : Starts l f) (h : RI l lv s R f) : ∀ j, j ≤ (tp (l.drop f)).length → RI l lv s (runUpto lv s f (f + j) R) (f + j)
  | 0, _ => by simpa [runUpto] using h
  | j + 1, hj => by
    rw [show f + (j + 1) = (f + j) + 1 by omega, runUpto_succ _ _ _ _ _ (by omega)]
    refine ri_step (ri_part hf hst h j (by omega)) (fun hlt => ⟨runUpto_pos lv s f (f + j) R hlt, ?_⟩) (fun he => ?_) (by omega)
    · have := tp_inner (l.drop f) (j - 1) (by omega)
      rw [List.getD_eq_getElem?_getD, List.getElem?_drop, ← List.getD_eq_getElem?_getD, show f + (j - 1) = f + j - 1 by omega] at this
      exact this
    · obtain rfl : j = 0 := by omega
      rcases hst with h0 | h0
      · exact .inl h0
      · exact .inr ⟨h0.1, h0.2 hf⟩
theorem ri_main (l lv s : List Int) : ∀ (m f : Nat) (R : List RunS), l.length - f ≤ m → f ≤ l.length → Starts l f → RI l lv s R f →
    RI l lv s ((prts (l.drop f) f f).foldl (fun out p => runUpto lv s p.1 p.2 out) R) l.length := by
  intro m
  induction m with
  | zero =>
    intro f R hm hf _ hs
    obtain rfl : f = l.length := by omega
    rw [List.drop_length]
    simpa [prts] using hs
  | succ m ih =>
    intro f R hm hf hst hs
    by_cases hfn : f = l.length
    · exact ih f R (by omega) hf hst hs
    · have hne : l.drop f ≠ [] := by
        intro e
        have := congrArg List.length e
        simp at this
        omega
      have hpos := tp_pos hne
      have hpl : (tp (l.drop f)).length ≤ l.length - f := Nat.le_trans (tp_le _) (by simp)
      rw [prts_tp (l.drop f) f f (Nat.le_refl _) (.inr hne), List.drop_drop, List.foldl_cons]
      exact ih _ _ (by omega) (by omega) (starts_next (by omega)) (ri_part (by omega) hst hs _ (Nat.le_refl _))
theorem runs_ok (l lv s : List Int) : RI l lv s (runsP lv s (prts l 0 0)) l.length := by
  have h := ri_main l lv s l.length 0 [] (by omega) (by omega) (.inl rfl) ⟨fun _ => rfl, fun m h => by simp at h, fun i h => by simp at h⟩
  simpa [runsP] using h
end Go.Proofs.YtfnkpjkbgfgbkaaDoor.Pr
