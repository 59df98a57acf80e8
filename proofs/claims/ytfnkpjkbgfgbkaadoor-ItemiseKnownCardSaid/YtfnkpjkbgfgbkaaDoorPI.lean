/-
  The plain law of the reference's Scripts: it tells what the parts' scripts are.
-/
import Derived.Test.YtfnkpjkbgfgbkaaDoorPM
import Derived.Test.YtfnkpjkbgfgbkaaDoorH7
import Derived.Test.YtfnkpjkbgfgbkaaDoorPr16
namespace Go.Proofs.YtfnkpjkbgfgbkaaDoor.Pr
open Go.RowKit HK Go.Proofs.YtfnkpjkbgfgbkaaDoorW.PrintWords Go.Proofs.YtfnkpjkbgfgbkaaDoorW.PrintLast Go.Proofs.YtfnkpjkbgfgbkaaDoorW.PrintMore
set_option linter.unusedVariables false
set_option linter.unusedSimpArgs false

theorem ends_eq (a : Int) {k : Nat} (hk : 400 ≤ k) : calamusref14_ends.f k a = some (sepB a) := by
  unfold calamusref14_ends.f
  rw [ref_Class_eq a hk, Option.bind_some, sepB_eq]
theorem own_eq (a : Int) {k : Nat} (hk : 400 ≤ k) : calamusref14_own.f k a = some (decide (1 < scr a)) := by
  unfold calamusref14_own.f
  rw [rscr_eq a hk]
  rfl

def cvB (x : S71) : Two := ⟨x.f0, x.f1⟩
theorem rbrk_l0 (a : Int) (l : List S71) (hl : l.length + 1 ≤ 9223372036854775807) : ∀ (d k i : Nat), i + d = l.length → 2 * d < k → calamusref02_Bracket.l0 k a l (i : Int) = some (brk ((l.drop i).map cvB) a) := by
  intro d
  induction d with
  | zero =>
    intro k i hi hk
    obtain ⟨k, rfl⟩ : ∃ m, k = m + 1 := ⟨k - 1, by omega⟩
    obtain rfl : i = l.length := by omega
    simp only [calamusref02_Bracket.l0]
    rw [if_neg (by omega), List.drop_length]
    rfl
  | succ d ih =>
    intro k i hi hk
    obtain ⟨k, rfl⟩ : ∃ m, k = m + 2 := ⟨k - 2, by omega⟩
    have hlt : i < l.length := by omega
    have hrd : rd_T71 l (i : Int) = l[i] := by
      unfold rd_T71
      rw [Int.toNat_natCast, List.getD_eq_getElem?_getD, List.getElem?_eq_getElem hlt, Option.getD_some]
    have hn := ih k (i + 1) (by omega) (by omega)
    simp only [calamusref02_Bracket.l0, calamusref02_Bracket.j1]
    rw [hrd, wrap64_nat i (by omega), hn, List.drop_eq_getElem_cons hlt]
    simp only [List.map_cons, brk]
    have e0 : (cvB l[i]).a = l[i].f0 := rfl
    have e1 : (cvB l[i]).b = l[i].f1 := rfl
    rw [e0, e1]
    have h0 : (i : Int) < (l.length : Int) := by omega
    have h00 : (0 : Int) ≤ (i : Int) := by omega
    by_cases h1 : a = l[i].f0
    · simp only [h0, h00, h1, if_true]
      by_cases h3 : l[i].f1 = 9002 <;> simp [h3]
    · by_cases h2 : a = l[i].f1
      · by_cases h3 : l[i].f1 = 9002 <;> simp [h0, h00, h1, h2, h3]
      · have h2' : (a != l[i].f1) = true := by simpa using h2
        simp only [h0, h00, h1, h2, h2', if_true, if_false, false_or]
theorem rbrk_all (a : Int) (l : List S71) (k : Nat) (hl : l.length + 1 ≤ 9223372036854775807) (hk : 2 * l.length < k) : calamusref02_Bracket.l0 k a l 0 = some (brk (l.map cvB) a) := by
  have h := rbrk_l0 a l hl l.length k 0 (by omega) (by omega)
  rw [List.drop_zero] at h
  exact h
theorem rbrk_eq (a : Int) {k : Nat} (hk : 400 ≤ k) : calamusref02_Bracket.f k a = some (brk bracketsT a) := by
  unfold calamusref02_Bracket.f calamusref02_Brackets.f
  rw [Option.bind_some]
  refine (rbrk_all a _ k ?_ ?_).trans (congrArg some (congrArg (fun t => brk t a) ?_))
  · simp only [List.length_cons, List.length_nil]
    omega
  · simp only [List.length_cons, List.length_nil]
    omega
  · rfl

/-- The first script behind a place. -/
def behF : List Int → Int
  | [] => 0
  | r :: l => if 1 < scr r then scr r else if sepB r = true then 0 else behF l
theorem behind_eq (l : List Int) (hl : l.length + 1 ≤ 9223372036854775807) : ∀ (d k i : Nat), i + d = l.length → 400 + d < k → calamusref14_behind.l0 k l (i : Int) = some (behF (l.drop i)) := by
  intro d
  induction d with
  | zero =>
    intro k i hi hk
    obtain ⟨k, rfl⟩ : ∃ m, k = m + 1 := ⟨k - 1, by omega⟩
    obtain rfl : i = l.length := by omega
    simp only [calamusref14_behind.l0]
    rw [if_neg (by omega), List.drop_length]
    rfl
  | succ d ih =>
    intro k i hi hk
    obtain ⟨k, rfl⟩ : ∃ m, k = m + 1 := ⟨k - 1, by omega⟩
    have hlt : i < l.length := by omega
    have hrd : rd l (i : Int) = l[i] := by
      unfold rd
      rw [Int.toNat_natCast, List.getD_eq_getElem?_getD, List.getElem?_eq_getElem hlt, Option.getD_some]
    have hn := ih k (i + 1) (by omega) (by omega)
    simp only [calamusref14_behind.l0]
    rw [if_pos (by omega), if_pos (by omega), hrd, own_eq _ (by omega), rscr_eq _ (by omega), ends_eq _ (by omega), wrap64_nat i (by omega), hn, List.drop_eq_getElem_cons hlt]
    simp only [Option.bind_some, behF, decide_eq_true_eq]
    by_cases h1 : 1 < scr l[i]
    · rw [if_pos h1, if_pos h1]
    · rw [if_neg h1, if_neg h1]
      split <;> rfl

theorem behF_tp : ∀ L : List Int, behF L = firstScr (tp L)
  | [] => rfl
  | r :: l => by
    unfold behF tp
    by_cases h1 : 1 < scr r
    · rw [if_pos h1]
      split <;> simp [firstScr, h1]
    · rw [if_neg h1]
      split
      · simp [firstScr, h1]
      · simp [firstScr, h1, behF_tp l]
theorem behF_in : ∀ (L : List Int) (j : Nat), j < (tp L).length → behF (L.drop j) = firstScr ((tp L).drop j)
  | L, 0, _ => by simpa using behF_tp L
  | [], j + 1, h => by simp [tp] at h
  | r :: l, j + 1, h => by
    unfold tp at h ⊢
    split
    · next hs => rw [if_pos hs] at h; simp at h
    · next hs =>
      rw [if_neg hs] at h
      have := behF_in l j (by simpa using h)
      simpa using this
abbrev OpS := S60
def toS (f : Nat) (st : List (Int × Nat)) : List OpS := st.map fun p => ⟨p.1, ((f + p.2 : Nat) : Int)⟩
theorem toS_rd (f : Nat) (st : List (Int × Nat)) (j : Nat) (hj : j < st.length) : rd_T60 (toS f st) (j : Int) = ⟨(st.getD j (0, 0)).1, ((f + (st.getD j (0, 0)).2 : Nat) : Int)⟩ := by
  unfold rd_T60 toS
  rw [Int.toNat_natCast, List.getD_eq_getElem?_getD, List.getElem?_map, List.getElem?_eq_getElem hj, List.getD_eq_getElem?_getD, List.getElem?_eq_getElem hj]
  rfl

theorem rd_set_self {x : List Int} {i : Nat} (hi : i < x.length) (v : Int) : rd (x.set i v) (i : Int) = v := by
  unfold rd
  rw [Int.toNat_natCast, List.getD_eq_getElem?_getD, List.getElem?_set_self hi]
  rfl

theorem l1_ev (x0 x3 : List Int) (f : Nat) (st : List (Int × Nat)) (x5 : Int) (i : Nat) (c : Int) (r : List Int) (hst : ∀ (k : Nat) (c : Int) (a : Nat), st[k]? = some (c, a) → f + a < x3.length) (hi : i < x3.length) (hlen : x3.length ≤ 65536) (hsl : st.length ≤ 64) :
    ∀ j, j ≤ st.length →
      (match lastAt st c j with
        | some q => Ev (fun k => calamusref14_Scripts.l0 k x0 (x3.set i (rd x3 ((f + (st.getD q (0, 0)).2 : Nat) : Int))) ((toS f st).take q) (rd x3 ((f + (st.getD q (0, 0)).2 : Nat) : Int)) ((i + 1 : Nat) : Int)) r
        | none => Ev (fun k => calamusref14_Scripts.l0 k x0 x3 (toS f st) x5 ((i + 1 : Nat) : Int)) r) →
      Ev (fun k => calamusref14_Scripts.l1 k x0 x3 (toS f st) x5 (i : Int) c ((j : Int) - 1)) r := by
  intro j
  induction j with
  | zero =>
    intro _ h
    simp only [lastAt] at h
    obtain ⟨k0, hk0⟩ := h
    refine ⟨k0 + 1, fun k hk => ?_⟩
    obtain ⟨k, rfl⟩ : ∃ m, k = m + 1 := ⟨k - 1, by omega⟩
    simp only [calamusref14_Scripts.l1]
    rw [if_neg (by omega), wrap64_nat i (by omega)]
    exact hk0 k (by omega)
  | succ j ih =>
    intro hj h
    have hlen2 : (toS f st).length = st.length := by simp [toS]
    have e1 : ((j + 1 : Nat) : Int) - 1 = (j : Int) := by omega
    rw [e1]
    unfold lastAt at h
    by_cases hc : (st.getD j (0, 0)).1 = c
    · rw [if_pos hc] at h
      simp only at h
      obtain ⟨k0, hk0⟩ := h
      have ha : f + (st.getD j (0, 0)).2 < x3.length := by
        refine hst j (st.getD j (0, 0)).1 _ ?_
        rw [List.getD_eq_getElem?_getD, List.getElem?_eq_getElem (by omega)]
        rfl
      refine ⟨k0 + 1, fun k hk => ?_⟩
      obtain ⟨k, rfl⟩ : ∃ m, k = m + 1 := ⟨k - 1, by omega⟩
      simp only [calamusref14_Scripts.l1]
      rw [if_pos (by omega), if_pos (by omega), if_pos (by omega), toS_rd f st j (by omega)]
      simp only
      rw [if_pos hc, if_pos (by omega), if_pos (by omega), if_pos (by omega), if_pos (by omega), Option.bind_some, if_pos (by omega), wrap64_nat i (by omega)]
      have e2 : rd (x3.set i (rd x3 ((f + (st.getD j (0, 0)).2 : Nat) : Int))) (i : Int) = rd x3 ((f + (st.getD j (0, 0)).2 : Nat) : Int) := by
        exact rd_set_self hi _
      simp only [Int.toNat_natCast]
      rw [e2]
      exact hk0 k (by omega)
    · rw [if_neg hc] at h
      obtain ⟨k0, hk0⟩ := ih (by omega) h
      refine ⟨k0 + 1, fun k hk => ?_⟩
      obtain ⟨k, rfl⟩ : ∃ m, k = m + 1 := ⟨k - 1, by omega⟩
      simp only [calamusref14_Scripts.l1]
      rw [if_pos (by omega), if_pos (by omega), if_pos (by omega), toS_rd f st j (by omega)]
      simp only
      rw [if_neg hc, wrap64_small (x := (j : Int) - 1) (by omega)]
      exact hk0 k (by omega)

/-- The reference's last script and the part's. -/
structure Rel (p : List Int) (s : PS) (last : Int) : Prop where
  now : s.now = if last = 0 then firstScr p else last
  rest : last = 0 → firstScr (p.drop s.outs.length) = firstScr p
  outs : ∀ v ∈ s.outs, v = 0 → firstScr p = 0

theorem firstScr_zero : ∀ {p : List Int}, firstScr p = 0 → ∀ r ∈ p, ¬ 1 < scr r
  | [], _, r, h => by simp at h
  | x :: l, h, r, hr => by
    unfold firstScr at h
    by_cases h1 : 1 < scr x
    · rw [if_pos h1] at h
      omega
    · rw [if_neg h1] at h
      rcases List.mem_cons.1 hr with rfl | hr
      · exact h1
      · exact firstScr_zero h r hr
theorem firstScr_none : ∀ {p : List Int}, (∀ r ∈ p, ¬ 1 < scr r) → firstScr p = 0
  | [], _ => rfl
  | x :: l, h => by
    unfold firstScr
    rw [if_neg (h x (by simp))]
    exact firstScr_none fun r hr => h r (by simp [hr])
theorem firstScr_drop0 {p : List Int} (h : firstScr p = 0) (j : Nat) : firstScr (p.drop j) = 0 := firstScr_none fun r hr => firstScr_zero h r (List.mem_of_mem_drop hr)

/-- The script that a character is first told. -/
theorem now_step {p : List Int} {s : PS} {last : Int} (h : Rel p s last) (hj : s.outs.length < p.length) :
    let r := p.getD s.outs.length 0
    let l1 := if 1 < scr r then scr r else last
    (if l1 = 0 then firstScr (p.drop s.outs.length) else l1) = pnow s r ∧ (pnow s r = if l1 = 0 then firstScr p else l1) ∧ (l1 = 0 → firstScr (p.drop (s.outs.length + 1)) = firstScr p) ∧ (pnow s r = 0 → firstScr p = 0) := by
  intro r l1
  have hd : p.drop s.outs.length = r :: p.drop (s.outs.length + 1) := by
    rw [List.drop_eq_getElem_cons hj]
    congr 1
    show _ = p.getD s.outs.length 0
    rw [List.getD_eq_getElem?_getD, List.getElem?_eq_getElem hj]
    rfl
  by_cases h1 : 1 < scr r
  · have e : l1 = scr r := if_pos h1
    have e2 : pnow s r = scr r := if_pos h1
    have e3 : l1 ≠ 0 := by omega
    rw [e2, if_neg e3, if_neg e3]
    exact ⟨e, e.symm, fun h => absurd h e3, fun h => by omega⟩
  · have e : l1 = last := if_neg h1
    have e2 : pnow s r = s.now := if_neg h1
    rw [e2, e]
    by_cases h2 : last = 0
    · have hr := h.rest h2
      have hn := h.now
      rw [if_pos h2] at hn
      rw [if_pos h2, if_pos h2]
      refine ⟨by rw [hr, hn], hn, fun _ => ?_, fun h3 => by rw [← hn, h3]⟩
      rw [hd, show firstScr (r :: p.drop (s.outs.length + 1)) = if 1 < scr r then scr r else firstScr (p.drop (s.outs.length + 1)) from rfl, if_neg h1] at hr
      exact hr
    · have hn := h.now
      rw [if_neg h2] at hn
      rw [if_neg h2, if_neg h2]
      exact ⟨hn.symm, hn, fun h => absurd h h2, fun h3 => absurd (hn.symm.trans h3) h2⟩
theorem mem_snoc {s : PS} {p : List Int} {last : Int} (h : Rel p s last) {v : Int} (hv : v = 0 → firstScr p = 0) : ∀ u ∈ s.outs ++ [v], u = 0 → firstScr p = 0 := by
  intro u hu h0
  rcases List.mem_append.1 hu with hu | hu
  · exact h.outs u hu h0
  · rw [List.mem_singleton] at hu
    exact hv (hu ▸ h0)

theorem set_mid (pre outs zs : List Int) (a b : Int) {i : Nat} (hi : i = pre.length + outs.length) : (pre ++ outs ++ a :: zs).set i b = pre ++ (outs ++ [b]) ++ zs := by
  subst hi
  rw [List.set_append_right _ _ (by simp), List.length_append, Nat.sub_self, List.set_cons_zero]
  simp
theorem set_mid2 (pre outs zs : List Int) (a b : Int) {i : Nat} (hi : i = pre.length + outs.length) : (pre ++ (outs ++ [a]) ++ zs).set i b = pre ++ (outs ++ [b]) ++ zs := by
  have e : pre ++ (outs ++ [a]) ++ zs = pre ++ outs ++ a :: zs := by simp
  rw [e, set_mid _ _ _ _ _ hi]
theorem rd_mid (pre outs zs : List Int) {f a : Nat} (hf : pre.length = f) (ha : a < outs.length) : rd (pre ++ outs ++ zs) ((f + a : Nat) : Int) = outs.getD a 0 := by
  unfold rd
  rw [Int.toNat_natCast, List.getD_eq_getElem?_getD, List.append_assoc, List.getElem?_append_right (by omega), List.getElem?_append_left (by omega), List.getD_eq_getElem?_getD]
  congr 2
  omega
theorem part_at {x0 p : List Int} {f j : Nat} (hp : p = tp (x0.drop f)) (hj : j < p.length) : x0.getD (f + j) 0 = p.getD j 0 := by
  have h := tp_prefix (x0.drop f)
  rw [← hp] at h
  rw [List.getD_eq_getElem?_getD, List.getD_eq_getElem?_getD, ← List.getElem?_drop, ← h, List.getElem?_append_left hj]

set_option maxHeartbeats 1000000 in
theorem step_ev (x0 pre p : List Int) (f i : Nat) (s : PS) (last : Int) (r : List Int) (hp : p = tp (x0.drop f)) (hpre : pre.length = f) (hj : s.outs.length < p.length) (hi : i = f + s.outs.length) (hn : x0.length ≤ 65536) (hok : s.ok) (h : Rel p s last)
    (hK : ∀ last', Rel p (pstep s (p.getD s.outs.length 0)) last' → Ev (fun k => calamusref14_Scripts.l0 k x0 (pre ++ (pstep s (p.getD s.outs.length 0)).outs ++ List.replicate (x0.length - (i + 1)) 0) (toS f (pstep s (p.getD s.outs.length 0)).st) last' ((i + 1 : Nat) : Int)) r) :
    Ev (fun k => calamusref14_Scripts.j2 k x0 (pre ++ s.outs ++ List.replicate (x0.length - i) 0) (toS f s.st) last (i : Int)) r := by
  have hpl : p.length ≤ x0.length - f := by rw [hp]; exact Nat.le_trans (tp_le _) (by simp)
  have hin : i < x0.length := by omega
  obtain ⟨r0, hr0⟩ : ∃ r0, r0 = p.getD s.outs.length 0 := ⟨_, rfl⟩
  have hx : rd x0 (i : Int) = r0 := by
    unfold rd
    rw [Int.toNat_natCast, hi, part_at hp hj, hr0]
  obtain ⟨hv, hl, hl0, hz⟩ := now_step h hj
  rw [← hr0] at hv hl hl0 hz hK
  obtain ⟨l1, hl1⟩ : ∃ l1, l1 = (if 1 < scr r0 then scr r0 else last) := ⟨_, rfl⟩
  rw [← hl1] at hv hl hl0
  have hlen1 : (pre ++ (s.outs ++ [pnow s r0]) ++ List.replicate (x0.length - (i + 1)) 0).length = x0.length := by simp; omega
  have hj4 : Ev (fun k => calamusref14_Scripts.j4 k x0 (pre ++ (s.outs ++ [pnow s r0]) ++ List.replicate (x0.length - (i + 1)) 0) (toS f s.st) l1 (i : Int)) r := by
    unfold pstep at hK
    by_cases h1 : (brk bracketsT r0).2.2 = true
    · rw [if_pos h1] at hK
      by_cases h2 : (brk bracketsT r0).2.1 = true
      · rw [if_pos h2] at hK
        by_cases h3 : s.st.length < 64
        · rw [if_pos h3] at hK
          obtain ⟨k0, hk0⟩ := hK l1 ⟨hl, by simpa using hl0, mem_snoc h hz⟩
          refine ⟨k0 + 401, fun k hk => ?_⟩
          obtain ⟨k, rfl⟩ : ∃ m, k = m + 1 := ⟨k - 1, by omega⟩
          have hk1 := hk0 k (by omega)
          have e : toS f (s.st ++ [((brk bracketsT r0).1, s.outs.length)]) = toS f s.st ++ [(⟨(brk bracketsT r0).1, (i : Int)⟩ : OpS)] := by simp [toS, hi]
          have hl2 : (toS f s.st).length = s.st.length := by simp [toS]
          simp only [calamusref14_Scripts.j4]
          rw [if_pos (by omega), if_pos (by omega), hx, rbrk_eq r0 (by omega), Option.bind_some, if_pos h1, if_pos h2, if_pos (by omega), if_pos (by omega), wrap64_nat i (by omega), ← e]
          exact hk1
        · rw [if_neg h3] at hK
          obtain ⟨k0, hk0⟩ := hK l1 ⟨hl, by simpa using hl0, mem_snoc h hz⟩
          refine ⟨k0 + 401, fun k hk => ?_⟩
          obtain ⟨k, rfl⟩ : ∃ m, k = m + 1 := ⟨k - 1, by omega⟩
          have hk1 := hk0 k (by omega)
          have hl2 : (toS f s.st).length = s.st.length := by simp [toS]
          simp only [calamusref14_Scripts.j4]
          rw [if_pos (by omega), if_pos (by omega), hx, rbrk_eq r0 (by omega), Option.bind_some, if_pos h1, if_pos h2, if_neg (by omega), wrap64_nat i (by omega)]
          exact hk1
      · rw [if_neg h2] at hK
        have hst : ∀ (k : Nat) (c : Int) (a : Nat), s.st[k]? = some (c, a) → f + a < (pre ++ (s.outs ++ [pnow s r0]) ++ List.replicate (x0.length - (i + 1)) 0).length := fun k c a hk => by
          have := hok.2 k c a hk
          rw [hlen1]
          omega
        have hev := l1_ev x0 (pre ++ (s.outs ++ [pnow s r0]) ++ List.replicate (x0.length - (i + 1)) 0) f s.st l1 i (brk bracketsT r0).1 r hst (by omega) (by omega) hok.1 s.st.length (Nat.le_refl _) (by
          cases hla : lastAt s.st (brk bracketsT r0).1 s.st.length with
          | none =>
            rw [hla] at hK
            exact hK l1 ⟨hl, by simpa using hl0, mem_snoc h hz⟩
          | some q =>
            rw [hla] at hK
            simp only at hK ⊢
            have hq := lastAt_lt hla
            have hqa : (s.st.getD q (0, 0)).2 < s.outs.length := by
              refine hok.2 q (s.st.getD q (0, 0)).1 _ ?_
              rw [List.getD_eq_getElem?_getD, List.getElem?_eq_getElem hq]
              rfl
            rw [rd_mid pre (s.outs ++ [pnow s r0]) _ hpre (by rw [List.length_append]; show _ < _ + 1; omega), set_mid2 _ _ _ _ _ (by omega)]
            have hvz : (s.outs ++ [pnow s r0]).getD (s.st.getD q (0, 0)).2 0 = 0 → firstScr p = 0 := fun h0 => by
              have hmem : (s.outs ++ [pnow s r0]).getD (s.st.getD q (0, 0)).2 0 ∈ s.outs ++ [pnow s r0] := by
                rw [List.getD_eq_getElem?_getD, List.getElem?_eq_getElem (by rw [List.length_append]; show _ < _ + 1; omega), Option.getD_some]
                exact List.getElem_mem _
              exact mem_snoc h hz _ hmem h0
            have e : toS f (s.st.take q) = (toS f s.st).take q := by simp [toS, List.map_take]
            rw [← e]
            refine hK _ ⟨?_, fun h0 => ?_, mem_snoc h hvz⟩
            · simp only
              split
              · next h0 => rw [h0, hvz h0]
              · rfl
            · rw [hvz h0]
              exact firstScr_drop0 (hvz h0) _)
        obtain ⟨k0, hk0⟩ := hev
        refine ⟨k0 + 401, fun k hk => ?_⟩
        obtain ⟨k, rfl⟩ : ∃ m, k = m + 1 := ⟨k - 1, by omega⟩
        have hk1 := hk0 k (by omega)
        have hl2 : (toS f s.st).length = s.st.length := by simp [toS]
        have hs64 := hok.1
        simp only [calamusref14_Scripts.j4]
        rw [if_pos (by omega), if_pos (by omega), hx, rbrk_eq r0 (by omega), Option.bind_some, if_pos h1, if_neg h2, hl2, wrap64_small (x := (s.st.length : Int) - 1) (by omega)]
        exact hk1
    · rw [if_neg h1] at hK
      obtain ⟨k0, hk0⟩ := hK l1 ⟨hl, by simpa using hl0, mem_snoc h hz⟩
      refine ⟨k0 + 401, fun k hk => ?_⟩
      obtain ⟨k, rfl⟩ : ∃ m, k = m + 1 := ⟨k - 1, by omega⟩
      have hk1 := hk0 k (by omega)
      simp only [calamusref14_Scripts.j4]
      rw [if_pos (by omega), if_pos (by omega), hx, rbrk_eq r0 (by omega), Option.bind_some, if_neg h1, wrap64_nat i (by omega)]
      exact hk1
  obtain ⟨k4, hk4⟩ := hj4
  refine ⟨k4 + 500 + x0.length, fun k hk => ?_⟩
  obtain ⟨k, rfl⟩ : ∃ m, k = m + 2 := ⟨k - 2, by omega⟩
  have hk1 := hk4 k (by omega)
  have hrep : List.replicate (x0.length - i) (0 : Int) = 0 :: List.replicate (x0.length - (i + 1)) 0 := by
    rw [show x0.length - i = (x0.length - (i + 1)) + 1 by omega, List.replicate_succ]
  have hlen0 : (pre ++ s.outs ++ (0 : Int) :: List.replicate (x0.length - (i + 1)) 0).length = x0.length := by simp; omega
  have hj3 : calamusref14_Scripts.j3 (k + 1) x0 (pre ++ s.outs ++ (0 : Int) :: List.replicate (x0.length - (i + 1)) 0) (toS f s.st) l1 (i : Int) = some r := by
    simp only [calamusref14_Scripts.j3]
    rw [if_pos (by omega), if_pos (by omega), Option.bind_some, Int.toNat_natCast, set_mid _ _ _ _ _ (by omega)]
    by_cases h0 : l1 = 0
    · rw [if_pos h0] at hv ⊢
      unfold calamusref14_behind.f
      rw [behind_eq x0 (by omega) (x0.length - i) k i (by omega) (by omega), Option.bind_some, set_mid2 _ _ _ _ _ (by omega)]
      have hb := behF_in (x0.drop f) s.outs.length (by rw [← hp]; exact hj)
      rw [List.drop_drop, ← hi, ← hp, hv] at hb
      rw [hb]
      exact hk1
    · rw [if_neg h0] at hv ⊢
      rw [← hv] at hk1
      exact hk1
  rw [hrep]
  simp only [calamusref14_Scripts.j2]
  rw [if_pos (by omega), if_pos (by omega), hx, own_eq r0 (by omega), Option.bind_some]
  by_cases h1 : 1 < scr r0
  · rw [if_pos (by simpa using h1), rscr_eq r0 (by omega), Option.bind_some]
    rw [if_pos h1] at hl1
    rw [← hl1]
    exact hj3
  · rw [if_neg (by simpa using h1)]
    rw [if_neg h1] at hl1
    rw [← hl1]
    exact hj3

theorem l0_inner (x0 x3 : List Int) (x4 : List OpS) (x5 : Int) (i : Nat) (r : List Int) (hn : x0.length ≤ 65536) (hi : i + 1 < x0.length) (hs : sepB (x0.getD i 0) = false) (h : Ev (fun k => calamusref14_Scripts.j2 k x0 x3 x4 x5 ((i + 1 : Nat) : Int)) r) :
    Ev (fun k => calamusref14_Scripts.l0 k x0 x3 x4 x5 ((i + 1 : Nat) : Int)) r := by
  obtain ⟨k0, hk0⟩ := h
  refine ⟨k0 + 402, fun k hk => ?_⟩
  obtain ⟨k, rfl⟩ : ∃ m, k = m + 2 := ⟨k - 2, by omega⟩
  have hk1 := hk0 k (by omega)
  have e : ((i + 1 : Nat) : Int) - 1 = (i : Int) := by omega
  have hx : rd x0 (i : Int) = x0.getD i 0 := by unfold rd; rw [Int.toNat_natCast]
  simp only [calamusref14_Scripts.l0, calamusref14_Scripts.j1]
  rw [if_pos (by omega), if_pos (by omega), e, wrap64_small (x := (i : Int)) (by omega), if_pos (by omega), if_pos (by omega), hx, ends_eq _ (by omega), hs, Option.bind_some, if_neg (by simp)]
  exact hk1
theorem l0_start (x0 x3 : List Int) (x4 : List OpS) (x5 : Int) (i : Nat) (r : List Int) (hn : x0.length ≤ 65536) (hi : i < x0.length) (hs : (i = 0 ∧ x4 = [] ∧ x5 = 0) ∨ (0 < i ∧ sepB (x0.getD (i - 1) 0) = true)) (h : Ev (fun k => calamusref14_Scripts.j2 k x0 x3 [] 0 (i : Int)) r) :
    Ev (fun k => calamusref14_Scripts.l0 k x0 x3 x4 x5 (i : Int)) r := by
  obtain ⟨k0, hk0⟩ := h
  refine ⟨k0 + 402, fun k hk => ?_⟩
  obtain ⟨k, rfl⟩ : ∃ m, k = m + 2 := ⟨k - 2, by omega⟩
  have hk1 := hk0 k (by omega)
  simp only [calamusref14_Scripts.l0, calamusref14_Scripts.j1]
  rcases hs with ⟨rfl, rfl, rfl⟩ | ⟨h0, hs⟩
  · rw [if_pos (by omega), if_neg (by omega), if_neg (by simp)]
    exact hk1
  · have e : ((i : Nat) : Int) - 1 = ((i - 1 : Nat) : Int) := by omega
    have hx : rd x0 ((i - 1 : Nat) : Int) = x0.getD (i - 1) 0 := by unfold rd; rw [Int.toNat_natCast]
    rw [if_pos (by omega), if_pos (by omega), e, wrap64_small (x := ((i - 1 : Nat) : Int)) (by omega), if_pos (by omega), if_pos (by omega), hx, ends_eq _ (by omega), hs, Option.bind_some, if_pos rfl]
    exact hk1

theorem take_next {p : List Int} {j : Nat} (hj : j < p.length) : p.take (j + 1) = p.take j ++ [p.getD j 0] := by
  rw [List.take_add_one, List.getD_eq_getElem?_getD, List.getElem?_eq_getElem hj]
  rfl
theorem part_ev (x0 pre p : List Int) (f : Nat) (r : List Int) (hp : p = tp (x0.drop f)) (hpre : pre.length = f) (hn : x0.length ≤ 65536)
    (hK : ∀ st' last', Ev (fun k => calamusref14_Scripts.l0 k x0 (pre ++ partF p ++ List.replicate (x0.length - (f + p.length)) 0) st' last' ((f + p.length : Nat) : Int)) r) :
    ∀ d j, j + d + 1 = p.length → ∀ last, Rel p (partS p (p.take j)) last → Ev (fun k => calamusref14_Scripts.j2 k x0 (pre ++ (partS p (p.take j)).outs ++ List.replicate (x0.length - (f + j)) 0) (toS f (partS p (p.take j)).st) last ((f + j : Nat) : Int)) r := by
  have hpl : p.length ≤ x0.length - f := by rw [hp]; exact Nat.le_trans (tp_le _) (by simp)
  intro d
  induction d with
  | zero =>
    intro j hj last hrel
    have hlen : (partS p (p.take j)).outs.length = j := by rw [partS_length, List.length_take]; omega
    refine step_ev x0 pre p f (f + j) _ last r hp hpre (by omega) (by omega) hn (partS_ok _ _) hrel ?_
    intro last' _
    rw [hlen, ← partS_snoc, ← take_next (by omega), List.take_of_length_le (by omega), show f + j + 1 = f + p.length by omega]
    exact hK _ _
  | succ d ih =>
    intro j hj last hrel
    have hlen : (partS p (p.take j)).outs.length = j := by rw [partS_length, List.length_take]; omega
    refine step_ev x0 pre p f (f + j) _ last r hp hpre (by omega) (by omega) hn (partS_ok _ _) hrel ?_
    intro last' hrel'
    rw [hlen, ← partS_snoc, ← take_next (by omega)] at hrel' ⊢
    refine l0_inner _ _ _ _ _ _ hn (by omega) ?_ (ih (j + 1) (by omega) last' hrel')
    rw [List.getD_eq_getElem?_getD, ← List.getElem?_drop, ← List.getD_eq_getElem?_getD]
    exact tp_inner (x0.drop f) j (by rw [← hp]; omega)

theorem main_ev (x0 : List Int) (hn : x0.length ≤ 65536) : ∀ (m f : Nat) (pre : List Int) (st : List OpS) (last : Int), x0.length - f ≤ m → f ≤ x0.length → pre.length = f → ((f = 0 ∧ st = [] ∧ last = 0) ∨ (0 < f ∧ (f < x0.length → sepB (x0.getD (f - 1) 0) = true))) →
    Ev (fun k => calamusref14_Scripts.l0 k x0 (pre ++ List.replicate (x0.length - f) 0) st last (f : Int)) ((prts (x0.drop f) f f).foldl (fun xs p => xs.take p.1 ++ partF ((x0.take p.2).drop p.1) ++ xs.drop p.2) (pre ++ List.replicate (x0.length - f) 0)) := by
  intro m
  induction m with
  | zero =>
    intro f pre st last hm hf hpre _
    obtain rfl : f = x0.length := by omega
    refine ⟨1, fun k hk => ?_⟩
    obtain ⟨k, rfl⟩ : ∃ m, k = m + 1 := ⟨k - 1, by omega⟩
    simp only [calamusref14_Scripts.l0]
    rw [if_neg (by omega), List.drop_length]
    simp [prts]
  | succ m ih =>
    intro f pre st last hm hf hpre hst
    by_cases hfn : f = x0.length
    · exact ih f pre st last (by omega) hf hpre hst
    · obtain ⟨p, hp⟩ : ∃ p, p = tp (x0.drop f) := ⟨_, rfl⟩
      have hne : x0.drop f ≠ [] := by
        intro e
        have := congrArg List.length e
        simp at this
        omega
      have hpos : 0 < p.length := by rw [hp]; exact tp_pos hne
      have hpl : p.length ≤ x0.length - f := by rw [hp]; exact Nat.le_trans (tp_le _) (by simp)
      rw [prts_tp (x0.drop f) f f (Nat.le_refl _) (.inr hne), ← hp, List.drop_drop, List.foldl_cons]
      have e1 : (x0.take (f + p.length)).drop f = p := by
        rw [List.drop_take, Nat.add_sub_cancel_left]
        conv => lhs; rw [hp]
        rw [tp_take, ← hp]
      have e2 : (pre ++ List.replicate (x0.length - f) (0 : Int)).take f = pre := by rw [← hpre, List.take_left]
      have e3 : (pre ++ List.replicate (x0.length - f) (0 : Int)).drop (f + p.length) = List.replicate (x0.length - (f + p.length)) 0 := by
        rw [← hpre, ← List.drop_drop, List.drop_left, List.drop_replicate]
        congr 1
        omega
      simp only [e1, e2, e3]
      have hK : ∀ st' last', Ev (fun k => calamusref14_Scripts.l0 k x0 (pre ++ partF p ++ List.replicate (x0.length - (f + p.length)) 0) st' last' ((f + p.length : Nat) : Int)) ((prts (x0.drop (f + p.length)) (f + p.length) (f + p.length)).foldl (fun xs p => xs.take p.1 ++ partF ((x0.take p.2).drop p.1) ++ xs.drop p.2) (pre ++ partF p ++ List.replicate (x0.length - (f + p.length)) 0)) := by
        intro st' last'
        refine ih (f + p.length) (pre ++ partF p) st' last' (by omega) (by omega) (by rw [List.length_append, partF_length]; omega) (.inr ⟨by omega, fun hlt => ?_⟩)
        rw [show f + p.length - 1 = f + (p.length - 1) by omega, part_at hp (by omega), ← part_at hp (by omega)]
        have h := tp_last (x0.drop f) (by rw [← hp, List.length_drop]; omega)
        rw [← hp] at h
        rw [List.getD_eq_getElem?_getD, ← List.getElem?_drop, ← List.getD_eq_getElem?_getD]
        exact h
      have hstart := part_ev x0 pre p f _ hp hpre hn hK (p.length - 1) 0 (by omega) 0 ⟨by simp [partS], fun _ => by simp [partS], fun v hv => by simp [partS] at hv⟩
      refine l0_start x0 _ st last f _ hn (by omega) (by rcases hst with h | h; exact .inl h; exact .inr ⟨h.1, h.2 (by omega)⟩) ?_
      simpa [partS, toS] using hstart

/-- The reference's scripts are the parts'. -/
theorem ref_Scripts_ev (l : List Int) (hn : l.length ≤ 65536) : Ev (fun k => calamusref14_Scripts.f k l) (scriptsP l (prts l 0 0)) := by
  obtain ⟨k0, hk0⟩ := main_ev l hn l.length 0 [] [] 0 (by omega) (by omega) rfl (.inl ⟨rfl, rfl, rfl⟩)
  refine ⟨k0, fun k hk => ?_⟩
  have h := hk0 k hk
  show calamusref14_Scripts.f k l = _
  unfold calamusref14_Scripts.f scriptsP
  rw [if_pos (by omega), if_pos (by omega)]
  simpa using h
end Go.Proofs.YtfnkpjkbgfgbkaaDoor.Pr
