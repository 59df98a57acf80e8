/-
  The contract of itemise's Runs: part by part, over the iterator, character by character.
-/
import Derived.RangeFuncBox
import Derived.Maps.AppendAt
import Derived.Test.YtfnkpjkbgfgbkaaDoorH7
import Derived.Test.YtfnkpjkbgfgbkaaDoorHA
namespace Go.Proofs.YtfnkpjkbgfgbkaaDoor.Pr
open Go.RowKit Go.Shelf HK Go.Proofs.YtfnkpjkbgfgbkaaDoorW.PrintWords Go.Proofs.YtfnkpjkbgfgbkaaDoorW.PrintLast Go.Proofs.YtfnkpjkbgfgbkaaDoorW.PrintMore
attribute [local go_sem] Oper.semAt_some
attribute [local irreducible] Go.wpStill
set_option linter.unusedVariables false
set_option linter.unusedSimpArgs false

abbrev RunS := S35
def encRun (x : RunS) : List Value := [.int .i64 x.f0, .int .i64 x.f1, .int .u8 x.f2, .int .u8 x.f3]
def cellsRun (l : List RunS) : List Value := l.flatMap encRun
theorem cellsRun_length : ∀ l : List RunS, (cellsRun l).length = l.length * 4
  | [] => rfl
  | x :: l => by
    have := cellsRun_length l
    simp only [cellsRun, List.flatMap_cons, List.length_append, List.length_cons] at *
    rw [this]
    simp [encRun]
    omega
def lastRun (out : List RunS) : RunS := out.getD (out.length - 1) z35
/-- A character more. -/
def runStep (lv s : List Int) (f : Nat) (out : List RunS) (i : Nat) : List RunS :=
  if f < i ∧ (lastRun out).f2 = rd lv i ∧ (lastRun out).f3 = rd s i then out.set (out.length - 1) ⟨(lastRun out).f0, (i : Int) + 1, (lastRun out).f2, (lastRun out).f3⟩
  else out ++ [⟨(i : Int), (i : Int) + 1, rd lv i, rd s i⟩]
def runUpto (lv s : List Int) (f i : Nat) (out : List RunS) : List RunS := (List.range' f (i - f)).foldl (runStep lv s f) out
def runsP (lv s : List Int) (ps : List (Nat × Nat)) : List RunS := ps.foldl (fun out p => runUpto lv s p.1 p.2 out) []
def itemise_Runs.f (l lv : List Int) : Option (List RunS × Int) :=
  if 65536 < l.length then some ([], 3) else if l.length = lv.length then some (runsP lv (scriptsP l (prts l 0 0)) (prts l 0 0), 0) else some ([], 2)

theorem prts_pt (n : Nat) : ∀ (l : List Int) (i f : Nat), f ≤ i → i + l.length = n → ∃ ys : List (Pt n), ys.map (·.1) = prts l i f
  | [], i, f, hf, hi => by
    unfold prts
    split
    · next h => exact ⟨[⟨(f, i), h, by simp at hi; omega⟩], rfl⟩
    · exact ⟨[], rfl⟩
  | r :: l, i, f, hf, hi => by
    simp only [List.length_cons] at hi
    unfold prts
    split
    · obtain ⟨ys, hy⟩ := prts_pt n l (i + 1) (i + 1) (Nat.le_refl _) (by omega)
      exact ⟨⟨(f, i + 1), by omega, by omega⟩ :: ys, by rw [List.map_cons, hy]⟩
    · exact prts_pt n l (i + 1) f (by omega) (by omega)
theorem scripts_length (l : List Int) : (scriptsP l (prts l 0 0)).length = l.length := by
  (obtain ⟨ys, hy⟩ := prts_pt l.length l 0 0 (Nat.le_refl _) (by omega)); (rw [← hy]); exact scriptsP_length l ys

theorem push3 (h : Array Obj) (a b c : Obj) : (((h.push a).push b).push c)[h.size]? = some a ∧ (((h.push a).push b).push c)[h.size + 1]? = some b ∧ (((h.push a).push b).push c)[h.size + 2]? = some c := by
  (have s1 : (h.push a).size = h.size + 1 := by simp); (have s2 : ((h.push a).push b).size = h.size + 2 := by simp); (refine ⟨?_, ?_, ?_⟩); (· rw [Array.getElem?_push, if_neg (by omega), Array.getElem?_push, if_neg (by omega), Array.getElem?_push, if_pos rfl]); (· rw [Array.getElem?_push, if_neg (by omega), Array.getElem?_push, if_pos (by omega)]); (· rw [Array.getElem?_push, if_pos (by omega)])

/-- What is read, behind rounds that keep it. -/
theorem at_kept {w W0 wr : World} {A : Option Addr} {n n₁ B7 : Nat} {xs : List Int} (h : Kd.C (Kd.int .u8) w A n xs) (hb : Below w.heap.size w W0) (hk : Kept n₁ B7 W0 wr) (h1 : w.heap.size ≤ n₁) (h2 : w.heap.size ≤ B7) {i : Nat} (hi : i < n) :
    ∃ ad, A = some ad ∧ wr.cell? (ad.add i) = some (.int .u8 (rd xs i)) := by
  (obtain ⟨ad, e, hx⟩ := Kd.at_int h (i : Int) (by omega) (by omega)); (rw [Int.toNat_natCast] at hx); (have hlt := World.block_lt_of_cell? w _ hx); (exact ⟨ad, e, hk.cell (by omega) (by omega) ((hb.cell hlt).trans hx)⟩)
theorem runsP_snoc (lv s : List Int) (ps : List (Nat × Nat)) (p : Nat × Nat) : runsP lv s (ps ++ [p]) = runUpto lv s p.1 p.2 (runsP lv s ps) := by simp [runsP]

/-- The runs by now: a box, a row of the loop's own. -/
def RunsInv (n₁ B7 : Nat) (W : World) (out : List RunS) : Prop := ∃ v, Boxed W B7 27 v ∧ W.ownsRow n₁ 35 4 v out.length (cellsRun out) ∧ True

theorem runUpto_succ (lv s : List Int) (f i : Nat) (out : List RunS) (h : f ≤ i) : runUpto lv s f (i + 1) out = runStep lv s f (runUpto lv s f i out) i := by
  unfold runUpto; (rw [show i + 1 - f = (i - f) + 1 by omega, List.range'_1_concat, List.foldl_append, show f + (i - f) = i by omega]); rfl
theorem runStep_length (lv s : List Int) (f : Nat) (out : List RunS) (i : Nat) : (runStep lv s f out i).length ≤ out.length + 1 ∧ out.length ≤ (runStep lv s f out i).length := by
  unfold runStep; (split <;> simp)

theorem ite_no {c : Bool} {p q : Prop} (h : c = false) (k : q) : if c = true then p else q := by rw [h]; exact k
theorem ite_yes {c : Bool} {p q : Prop} (h : c = true) (k : p) : if c = true then p else q := by rw [h]; exact k
/-- Behind an append to the box's row, and the store into the box. -/
theorem appended_run {WA w2 : World} {n₁ B7 : Nat} {t e : TypeId} {v v' : Value} {k m : Nat} {xs ys : List Value} {tmp : Obj} (hv : Boxed WA B7 t v) (hte : t ≠ e) (hrow : WA.ownsRow n₁ e 4 v k xs) (hn : n₁ ≤ WA.heap.size)
    (hown' : w2.ownsRow n₁ e 4 v' m ys) (hgrow : (WA.alloc tmp).grownBy w2 v.ownBlock) :
    Boxed w2 B7 t v ∧ Boxed (w2.setCell ⟨B7, 0, none⟩ v') B7 t v' ∧ (w2.setCell ⟨B7, 0, none⟩ v').ownsRow n₁ e 4 v' m ys ∧ KeepsOthers WA (w2.setCell ⟨B7, 0, none⟩ v') ∧ Kept n₁ B7 WA (w2.setCell ⟨B7, 0, none⟩ v') := by
  have base0 : ∀ {W : World} {u : Value} {j : Nat} {zs : List Value}, W.ownsRow n₁ e 4 u j zs → W.ownsRow 0 e 4 u j zs := by
    rintro W u j zs ⟨h1, h2⟩
    refine ⟨h1, ?_⟩
    rcases h2 with h2 | ⟨g, cap, cur, a, b, c⟩
    · exact .inl h2
    · exact .inr ⟨g, cap, cur, a, Nat.zero_le _, c⟩
  obtain ⟨h1, h2, _, h4, _⟩ := Boxed.appended hv hte (base0 hrow) (Nat.zero_le _) (Nat.zero_le _) (base0 hown') hgrow
  refine ⟨h1, h2, hown'.kept (grownBy_setCell' w2 B7 v') (.inr (h1.not_row hte hown').symm), h4, ?_⟩
  have hrow2 : ∀ j, v.ownBlock = some j → n₁ ≤ j := fun j ej => (hrow.lt j ej).1
  refine ⟨hgrow.os, hgrow.tape, hgrow.output, ?_, fun j hj hne => ?_⟩
  · have := hgrow.size
    rw [World.size_alloc] at this
    show _ ≤ (w2.heap.modify _ _).size
    rw [Array.size_modify]
    omega
  · refine (Below.heap_setCell _ _ _ _ (by show j ≠ B7; exact hne)).trans ?_
    refine (hgrow.block j (by rw [World.size_alloc]; omega) (fun e => ?_)).trans (Below.heap_alloc WA tmp j (by omega))
    have := hrow2 j e.symm
    omega

theorem cells4_new (w : World) (x : RunS) (t : TypeId) : ∀ j u, (encRun x)[j]? = some u → (w.alloc (.cells #[.int .i64 x.f0, .int .i64 x.f1, .int .u8 x.f2, .int .u8 x.f3] t)).cell? ((⟨w.heap.size, 0, none⟩ : Addr).add j) = some u := by
  intro j u hj; (rw [addr_add0, cell_of_row _ _ _ _ _ _ (World.alloc_heap_new w _)]); (simpa [encRun] using hj)
theorem act_slot (A : Act) (t : Nat) : A.tmps[t]?.getD undef = A.eval (.tmp t) := by simp [Act.eval, Array.getD_eq_getD_getElem?]
theorem cell_alloc_old {W : World} {p : Addr} {v : Value} (o : Obj) (h : W.cell? p = some v) : (W.alloc o).cell? p = some v :=
  (World.cell?_of_block (Below.heap_alloc W o p.block (World.block_lt_of_cell? W _ h))).trans h

theorem runUpto_le (lv s : List Int) (f : Nat) : ∀ (d : Nat) (out : List RunS), (runUpto lv s f (f + d) out).length ≤ out.length + d
  | 0, out => by simp [runUpto]
  | d + 1, out => by
    rw [show f + (d + 1) = (f + d) + 1 by omega, runUpto_succ _ _ _ _ _ (by omega)]
    have h1 := runUpto_le lv s f d out
    have h2 := (runStep_length lv s f (runUpto lv s f (f + d) out) (f + d)).1
    omega
theorem runsP_le (lv s : List Int) {n : Nat} : ∀ (ps : List (Pt n)), (runsP lv s (ps.map (·.1))).length ≤ ps.length * n := by
  have key : ∀ (ps : List (Pt n)) (out : List RunS), ((ps.map (·.1)).foldl (fun out p => runUpto lv s p.1 p.2 out) out).length ≤ out.length + ps.length * n := by
    intro ps
    induction ps with
    | nil => intro out; simp
    | cons p ps ih =>
      intro out; (simp only [List.map_cons, List.foldl_cons, List.length_cons, Nat.add_mul, Nat.one_mul]); (have h1 := ih (runUpto lv s p.1.1 p.1.2 out)); (have h2 := runUpto_le lv s p.1.1 (p.1.2 - p.1.1) out); (have h3 := p.2.1); (have h4 := p.2.2); (rw [show p.1.1 + (p.1.2 - p.1.1) = p.1.2 by omega] at h2); omega
  intro ps; (have := key ps []); (simpa [runsP] using this)
theorem prts_len : ∀ (l : List Int) (i f : Nat), (prts l i f).length ≤ l.length + 1
  | [], i, f => by
    unfold prts
    split <;> simp
  | r :: l, i, f => by
    have h1 := prts_len l (i + 1) (i + 1)
    have h2 := prts_len l (i + 1) f
    unfold prts
    split <;> simp <;> omega
theorem runUpto_pos (lv s : List Int) (f i : Nat) (out : List RunS) (h : f < i) : 0 < (runUpto lv s f i out).length := by
  obtain ⟨d, rfl⟩ : ∃ d, i = f + (d + 1) := ⟨i - f - 1, by omega⟩
  have key : ∀ d, 0 < (runUpto lv s f (f + (d + 1)) out).length := by
    intro d
    induction d with
    | zero =>
      (rw [runUpto_succ _ _ _ _ _ (by omega)]); unfold runStep; (rw [if_neg (by omega)]); simp
    | succ d ih =>
      (rw [show f + (d + 1 + 1) = (f + (d + 1)) + 1 by omega, runUpto_succ _ _ _ _ _ (by omega)]); (exact Nat.lt_of_lt_of_le ih (runStep_length _ _ _ _ _).2)
  exact key d
theorem cellsRun_at : ∀ (l : List RunS) (k j : Nat), j < 4 → k < l.length → (cellsRun l)[k * 4 + j]? = (encRun (l.getD k z35))[j]?
  | [], k, j, _, hk => absurd hk (by simp)
  | x :: l, 0, j, hj, _ => by
    simp only [cellsRun, List.flatMap_cons]
    rw [List.getElem?_append_left (by simp [encRun]; omega)]
    simp
  | x :: l, k + 1, j, hj, hk => by
    have := cellsRun_at l k j hj (by simpa using hk)
    simp only [cellsRun, List.flatMap_cons] at *
    rw [List.getElem?_append_right (by simp [encRun]; omega), show (k + 1) * 4 + j - (encRun x).length = k * 4 + j by simp [encRun]; omega, this]
    simp
theorem lastRun_cell (out : List RunS) (k : Nat) (hk : out.length = k + 1) (_ : 0 < out.length) :
    (cellsRun out)[k * 4 + 1]? = some (.int .i64 (lastRun out).f1) ∧ (cellsRun out)[k * 4 + 2]? = some (.int .u8 (lastRun out).f2) ∧ (cellsRun out)[k * 4 + 3]? = some (.int .u8 (lastRun out).f3) := by
  (have e : out.length - 1 = k := by omega); unfold lastRun; (rw [e]); (refine ⟨?_, ?_, ?_⟩); (· rw [cellsRun_at out k 1 (by omega) (by omega)]; rfl); (· rw [cellsRun_at out k 2 (by omega) (by omega)]; rfl); (· rw [cellsRun_at out k 3 (by omega) (by omega)]; rfl)
theorem cellsRun_set : ∀ (l : List RunS) (k : Nat) (u : Int), k < l.length → (cellsRun l).set (k * 4 + 1) (.int .i64 u) = cellsRun (l.set k ⟨(l.getD k z35).f0, u, (l.getD k z35).f2, (l.getD k z35).f3⟩)
  | [], k, u, hk => absurd hk (by simp)
  | x :: l, 0, u, _ => by simp [cellsRun, encRun]
  | x :: l, k + 1, u, hk => by
    have := cellsRun_set l k u (by simpa using hk)
    simp only [cellsRun, List.flatMap_cons, List.set_cons_succ, List.getD_cons_succ] at *
    rw [← this, List.set_append_right _ _ (by simp [encRun]; omega), show (k + 1) * 4 + 1 - (encRun x).length = k * 4 + 1 by simp [encRun]; omega]
theorem stored_run {WA : World} {n₁ B7 g j n cap : Nat} {t e : TypeId} {xs : List Value} (u : Value) (hv : Boxed WA B7 t (.slice (some ⟨g, 0, none⟩) n cap)) (hte : t ≠ e) (hrow : WA.ownsRow n₁ e 4 (.slice (some ⟨g, 0, none⟩) n cap) n xs) (hg : n₁ ≤ g) :
    Boxed (WA.setCell ⟨g, j, none⟩ u) B7 t (.slice (some ⟨g, 0, none⟩) n cap) ∧ (WA.setCell ⟨g, j, none⟩ u).ownsRow n₁ e 4 (.slice (some ⟨g, 0, none⟩) n cap) n (xs.set j u) ∧ KeepsOthers WA (WA.setCell ⟨g, j, none⟩ u) ∧ Kept n₁ B7 WA (WA.setCell ⟨g, j, none⟩ u) := by
  (have h := hrow.stored j u); (exact ⟨hv.kept h.2 (hv.not_row hte hrow), h.1, KeepsOthers.setCell _ _ _, ⟨h.2.os, h.2.tape, h.2.output, by simp, fun k hk _ => Below.heap_setCell _ _ _ _ (by show k ≠ g; omega)⟩⟩)
theorem cellsRun_take : ∀ (l : List RunS) (j : Nat) (p : RunS), l[j]? = some p → ((cellsRun l).drop (j * 4)).take 4 = encRun p
  | [], j, p, h => by simp at h
  | x :: l, 0, p, h => by
    simp at h
    subst h
    simp [cellsRun, encRun]
  | x :: l, j + 1, p, h => by
    have ih := cellsRun_take l j p (by simpa using h)
    simp only [cellsRun, List.flatMap_cons] at ih ⊢
    rw [show (j + 1) * 4 = (encRun x).length + j * 4 from by simp [encRun]; omega, ← List.drop_drop, List.drop_left]
    exact ih
theorem cellsRun_reps (W : World) (base : Nat) (ok : Nat → Prop) (l : List RunS) : Reps (k35.M W base ok) k35.sz l (cellsRun l) :=
  ⟨cellsRun_length l, fun j p hj => by
    have := cellsRun_take l j p hj
    show k35.M W base ok p (((cellsRun l).drop (j * 4)).take 4)
    rw [this]
    exact k35_mkM W base ok p⟩
theorem below_of_kept {w W0 W : World} {n₁ B7 : Nat} (h : Below w.heap.size w W0) (k : Kept n₁ B7 W0 W) (h1 : w.heap.size ≤ n₁) (h2 : w.heap.size ≤ B7) : Below w.heap.size w W := by
  (refine ⟨k.os.trans h.os, k.tape.trans h.tape, k.output.trans h.output, Nat.le_trans h.size k.size, fun j hj => ?_⟩); (exact (k.block j (by omega) (by omega)).trans (h.block j hj))

theorem ownsRow_mono' {W : World} {b0 b1 : Nat} {e : TypeId} {size : Nat} {u : Value} {j : Nat} {zs : List Value} (h : W.ownsRow b1 e size u j zs) (hb : b0 ≤ b1) : W.ownsRow b0 e size u j zs := by
  (obtain ⟨h1, h2⟩ := h); (refine ⟨h1, ?_⟩); (rcases h2 with h2 | ⟨g, cap, cur, a, b, c⟩); (· exact .inl h2); (· exact .inr ⟨g, cap, cur, a, Nat.le_trans hb b, c⟩)

set_option maxRecDepth 100000 in
set_option maxHeartbeats 4000000 in
theorem itemise_Runs.calls (A0 : Option Addr) (c0 : Nat) (l0 : List Int) (A1 : Option Addr) (c1 : Nat) (l1 : List Int) (r1 : List RunS) (r2 : Int) (w : World) (hr0 : Kd.C (Kd.int .i32) w A0 l0.length l0) (hc0 : l0.length ≤ c0) (hr1 : Kd.C (Kd.int .u8) w A1 l1.length l1) (hc1 : l1.length ≤ c1)
    (hLD : Laid [2, 5] w) (h : itemise_Runs.f l0 l1 = some (r1, r2)) :
    Calls Tryd.prog 14 #[.slice A0 l0.length c0, .slice A1 l1.length c1] w fun e w' => ∃ v0_ : Value, e = .returned (.tuple #[v0_, .int .i64 r2]) ∧ Kd.R k35 35 w' w.heap.size (fun _ => True) v0_ r1 ∧ Below w.heap.size w w' := by
  unfold itemise_Runs.f at h
  have HR0 := Aside0.mk hr0
  have HC0 := Aside0.mk hc0
  have HR1 := Aside0.mk hr1
  have HLD := Aside0.mk hLD
  clear hr0 hc0 hr1 hLD
  refine (callsIn_wide (n := 8)).1 ?_
  refine callsIn_of_wp_marks Tryd.func14 rfl trivial ?_ rfl
  simp only [Tryd.ntmps14, List.size_toArray, List.length_cons, List.length_nil, Nat.reduceAdd, Nat.reduceSub, Array.replicate_succ, Array.replicate_zero, List.push_toArray, List.append_toArray, List.nil_append, List.cons_append]
  by_cases hlim : 65536 < l0.length
  · rw [if_pos hlim] at h
    simp only [Option.some.injEq, Prod.mk.injEq] at h
    obtain ⟨rfl, rfl⟩ := h
    have hb : decide ((65536 : Int) < (l0.length : Int)) = true := decide_eq_true (by omega)
    gi_wp2
    refine ⟨_, results_tmp2 rfl _ _ _, ?_⟩
    exact ⟨_, rfl, Kd.R_nil _ _ _ _ _, (Below.refl _ _).alloc (Nat.le_refl _) _⟩
  · rw [if_neg hlim] at h
    have hb : decide ((65536 : Int) < (l0.length : Int)) = false := decide_eq_false (by omega)
    by_cases hll : l0.length = l1.length
    · rw [if_pos hll] at h
      simp only [Option.some.injEq, Prod.mk.injEq] at h
      obtain ⟨rfl, rfl⟩ := h
      have hbl : ((l0.length : Int) != (l1.length : Int)) = false := by rw [hll]; simp
      have HLL := Aside0.mk hll
      have HLIM := Aside0.mk hlim
      clear hll hlim
      gi_wp2
      refine ⟨trivial, ?_⟩
      refine (callsIn_wide.2 (itemise_Scripts.calls A0 c0 l0 _ _ (Kd.C_below HR0.out ((Below.refl _ _).alloc (Nat.le_refl _) _)) HC0.out (Laid.below HLD.out ((Below.refl _ _).alloc (Nat.le_refl _) _)) (by unfold itemise_Scripts.f; rw [if_pos (by have := HLIM.out; omega)]))).mono ?_
      rintro e w1 ⟨v6, rfl, hR6, hb1⟩
      obtain ⟨A6, c6, rfl, hc6, hC6⟩ := hR6.2.reads
      have hC6' : Kd.C (Kd.int .u8) w1 A6 (scriptsP l0 (prts l0 0 0)).length (scriptsP l0 (prts l0 0 0)) := hC6
      obtain ⟨s, hs⟩ : ∃ s, s = scriptsP l0 (prts l0 0 0) := ⟨_, rfl⟩
      have hsl := scripts_length l0
      rw [← hs] at hC6' hsl hR6 ⊢
      rw [hsl] at hC6' ⊢
      have HC6 := Aside0.mk hC6'
      have HSL := Aside0.mk hsl
      have HS := Aside0.mk hs
      have hbx3 := (hb1.block w.heap.size (by simp [World.size_alloc])).trans (Boxed.new w 24 (.slice A1 l1.length c1))
      have hb1w : Below w.heap.size w w1 := ((Below.refl _ _).alloc (Nat.le_refl _) _).trans (hb1.mono (by simp [World.size_alloc]))
      clear hC6 hC6' hsl hs hR6 hb1 hc6
      gi_wp2
      refine ⟨trivial, ?_⟩
      refine (parts_in 7 _ _ _ _).mono ?_
      rintro e w' ⟨rfl, rfl⟩
      gi_wp2
      obtain ⟨W0, hW0⟩ : ∃ W0, ((w1.alloc (.cells #[.slice A6 l0.length c6] 24)).alloc (.cells #[.slice none 0 0] 27)).alloc (.cells #[.slice A0 l0.length c0] 22) = W0 := ⟨_, rfl⟩
      rw [hW0]
      have hsz : W0.heap.size = w1.heap.size + 3 := by rw [← hW0]; simp [World.size_alloc]
      have hb0 : Below w1.heap.size w1 W0 := by
        rw [← hW0]
        exact (((Below.refl _ w1).alloc (Nat.le_refl _) _).alloc (by simp [World.size_alloc]) _).alloc (by simp [World.size_alloc]; omega) _
      have hh : W0.heap = (((w1.heap.push (.cells #[.slice A6 l0.length c6] 24)).push (.cells #[.slice none 0 0] 27)).push (.cells #[.slice A0 l0.length c0] 22)) := by rw [← hW0]; rfl
      have e6 : W0.heap[w1.heap.size]? = some (.cells #[.slice A6 l0.length c6] 24 (0, 0)) := by rw [hh]; exact (push3 w1.heap _ _ _).1
      have e7 : W0.heap[w1.heap.size + 1]? = some (.cells #[.slice none 0 0] 27 (0, 0)) := by rw [hh]; exact (push3 w1.heap _ _ _).2.1
      have e8 : W0.heap[w1.heap.size + 2]? = some (.cells #[.slice A0 l0.length c0] 22 (0, 0)) := by rw [hh]; exact (push3 w1.heap _ _ _).2.2
      have hlt3 : w.heap.size < w1.heap.size := heap_lt hbx3
      have e3 := (hb0.block _ hlt3).trans hbx3
      have hb0w : Below w.heap.size w W0 := hb1w.trans (hb0.mono (by omega))
      clear hh hW0
      have hbox := cell_of_row W0 (w1.heap.size + 2) 0 _ _ _ e8
      refine wpIn_rangeFunc_ownF (n := 8) rfl (by decide) (gf := 55) (lb := #[.pointer (some ⟨w1.heap.size + 2, 0, none⟩)]) rfl trivial (enters_of Tryd.func55 (by kernel_rfl) rfl)
        (parts_stops 7 (by decide) (w1.heap.size + 2) (w1.heap.size + 3) (w1.heap.size + 1) A0 c0 l0 (by have := HLIM.out; omega) (by omega) (by omega) (fun hpos ad e => ⟨Nat.lt_of_lt_of_le (reads_block_lt HR0.out hpos e) (by omega), by have := reads_block_lt HR0.out hpos e; omega⟩) W0 (by omega) hbox (Kd.C_below HR0.out hb0w)) Kept.trans (fun W l o o' hl hs _ _ => Kept.putObj W l o' (by omega) (Array.getElem?_eq_some_iff.1 hs).1) (Below.refl _ _) (fun _ => rfl)
        (fun pre W => RunsInv (w1.heap.size + 3) (w1.heap.size + 1) W (runsP l1 s (pre.map (·.1))) ∧ Kept (w1.heap.size + 3) (w1.heap.size + 1) W0 W)
        (fun _ _ _ => False)
        (OwnFrom.and (Own.from (holdsRow_own (w1.heap.size + 3) (w1.heap.size + 1) 27 35 4 (fun pre : List (Pt l0.length) => (runsP l1 s (pre.map (·.1))).length) (fun pre => cellsRun (runsP l1 s (pre.map (·.1)))) (fun _ _ => True)) _)
          (fun s W W' row hs hg hr => hs.trans ⟨hg.os, hg.tape, hg.output, hg.size, fun k hk _ => hg.block k (by have := hs.size; omega) (fun e => by have := (hr k e.symm).1; omega)⟩))
        (fun _ _ _ _ _ hs _ _ => hs)
        ⟨⟨_, e7, World.ownsRow_nil _ _ _ _, trivial⟩, Kept.refl _ _ _⟩
        (fun x => { tmps := #[Value.slice A0 l0.length c0, Value.slice A1 l1.length c1, undef, Value.pointer (some ⟨w.heap.size, 0, none⟩), Value.slice none 0 0, Value.int IntKind.i64 0, Value.pointer (some ⟨w1.heap.size, 0, none⟩), Value.pointer (some ⟨w1.heap.size + 1, 0, none⟩), .int .i64 (x.1.1 : Int), .int .i64 (x.1.2 : Int), undef, undef, undef,
          Value.bool false, Value.slice A0 l0.length c0, Value.int IntKind.i64 ↑l0.length, Value.bool false, Value.bool false, Value.slice A0 l0.length c0, Value.int IntKind.i64 ↑l0.length, Value.slice A1 l1.length c1, Value.int IntKind.i64 ↑l1.length, Value.bool false, Value.slice A0 l0.length c0, Value.slice A6 l0.length c6, Value.slice A0 l0.length c0,
          Value.func (Fn.func 55) #[] #[Value.pointer (some ⟨w1.heap.size + 1 + 1, 0, none⟩)], .int .i64 (x.1.1 : Int), .int .i64 (x.1.2 : Int), undef, undef, undef, undef, undef, undef, undef, undef, undef, undef, undef, undef, undef, undef, undef, undef, undef, undef, undef, undef, undef, undef, undef, undef, undef, undef, undef, undef, undef, undef, undef, undef, undef, undef, undef, undef, undef, undef, undef, undef, undef, undef, undef, undef, undef, undef, undef, undef, undef, undef, undef, undef, undef, undef, undef, undef, undef], defers := [] }) ?assign ?body ?done ?stop
      case assign =>
        intro l x W K hK
        gi_wp2
        exact hK
      case body =>
        rintro l pre x W ⟨hrun, hkW⟩ hlt
        obtain ⟨⟨f, t⟩, hft, ht⟩ := x
        simp only at hft ht ⊢
        have hmx : Tryd.prog.follows .mixedOrders = true := by kernel_rfl
        have HRUN := Aside0.mk hrun
        have HKW := Aside0.mk hkW
        have HB0 := Aside0.mk hb0
        have HB0W := Aside0.mk hb0w
        have E3 := Aside0.mk e3
        have E6 := Aside0.mk e6
        have HLT := Aside0.mk hlt
        clear hrun hkW hb0 hb0w e3 e6 e7 e8 hbox hlt hb1w hbx3
        gi_wp2
        gi_loopw [10] (fun v10 wr => ∃ i : Nat, v10 = .int .i64 (i : Int) ∧ f ≤ i ∧ i ≤ t ∧ Aside0 (RunsInv (w1.heap.size + 3) (w1.heap.size + 1) wr (runUpto l1 s f i (runsP l1 s (pre.map (·.1)))) ∧ Kept (w1.heap.size + 3) (w1.heap.size + 1) W wr ∧ KeepsOthers W wr))
          (fun v10 _ => t - (intOf v10).toNat)
        case atStart => exact ⟨f, rfl, Nat.le_refl _, by omega, ⟨by simpa [runUpto] using HRUN.out, Kept.refl _ _ _, KeepsOthers.refl _⟩⟩
        case round =>
          obtain ⟨i, rfl, hfi, hit, HI⟩ := hrel
          by_cases hlt : i < t
          · obtain ⟨⟨v, hv, hrow, _⟩, hkW2, hko⟩ := HI.out
            have hk0 := HKW.out.trans hkW2
            have hll := HLL.out
            have c3 : wr.cell? ⟨w.heap.size, 0, none⟩ = some (.slice A1 l1.length c1) := hk0.cell (by show w.heap.size < _; omega) (by show w.heap.size ≠ _; omega) (cell_of_row W0 w.heap.size 0 _ _ _ E3.out)
            have c6' : wr.cell? ⟨w1.heap.size, 0, none⟩ = some (.slice A6 l0.length c6) := hk0.cell (by show w1.heap.size < _; omega) (by show w1.heap.size ≠ _; omega) (cell_of_row W0 w1.heap.size 0 _ _ _ E6.out)
            obtain ⟨ad1, rfl, hx1⟩ := at_kept HR1.out HB0W.out hk0 (by omega) (by omega) (i := i) (by omega)
            obtain ⟨ad6, rfl, hx6⟩ := at_kept HC6.out HB0.out hk0 (by omega) (by omega) (i := i) (by omega)
            have p1 : 0 ≤ (i : Int) := by omega
            have q1 : (i : Int) < (l1.length : Int) := by omega
            have q6 : (i : Int) < (l0.length : Int) := by omega
            have hti : decide ((i : Int) < (t : Int)) = true := decide_eq_true (by omega)
            obtain ⟨out, hout⟩ : ∃ out, out = runUpto l1 s f i (runsP l1 s (pre.map (·.1))) := ⟨_, rfl⟩
            rw [← hout] at hrow
            have HOUT := Aside0.mk hout
            obtain ⟨Av, cv, rfl⟩ := own_slice hrow
            obtain ⟨O, hO⟩ : ∃ O : Obj, O = .cells #[.int .i64 (i : Int), .int .i64 ((i : Int) + 1), .int .u8 (rd l1 i), .int .u8 (rd s i)] 35 := ⟨_, rfl⟩
            have c7 := (hv.alloc O).cell
            have hnew := heap_alloc_new wr O
            rw [hO] at hnew c7
            have cx1 := cell_of_row _ wr.heap.size 1 _ _ _ hnew
            have cx2 := cell_of_row _ wr.heap.size 2 _ _ _ hnew
            have cx3 := cell_of_row _ wr.heap.size 3 _ _ _ hnew
            simp only [List.getElem?_toArray, List.getElem?_cons_succ, List.getElem?_cons_zero] at cx1 cx2 cx3
            have HV := Aside0.mk hv
            have HROW := Aside0.mk hrow
            have HK0 := Aside0.mk hk0
            have HKW2 := Aside0.mk hkW2
            have HKO := Aside0.mk hko
            have HNEW := Aside0.mk hnew
            clear hv hrow hk0 hkW2 hko hll HI hO O hout hnew
            replace p1 := eq_true p1
            replace q1 := eq_true q1
            replace q6 := eq_true q6
            gi_wp2
            refine wpIn_region_values [(35, Value.int .i64 (i : Int)), (36, Value.int .i64 (i : Int)), (37, Value.int .i64 ((i : Int) + 1)), (38, Value.slice (some ad1) l1.length c1), (39, Value.int .i64 (i : Int)), (40, Value.pointer (some (ad1.add i))), (41, Value.int .u8 (rd l1 i)), (42, Value.slice (some ad6) l0.length c6), (43, Value.int .i64 (i : Int)), (44, Value.pointer (some (ad6.add i))), (45, Value.int .u8 (rd s i)), (46, Value.agg #[.int .i64 (i : Int), .int .i64 ((i : Int) + 1), .int .u8 (rd l1 i), .int .u8 (rd s i)]), (11, Value.pointer (some ⟨wr.heap.size, 0, none⟩))] 12 (wr.drew.alloc (.cells #[.int .i64 0, .int .i64 0, .int .u8 0, .int .u8 0] 35)) hmx (by rfl) (show [35, 36, 37, 38, 39, 40, 41, 42, 43, 44, 45, 46, 11].Nodup by decide) (by kernel_rfl) (by kernel_rfl) (by kernel_rfl) (by kernel_rfl) (by kernel_rfl) ?step ?last (show 12 < 13 by decide)
            case step =>
              clear c7 cx1 cx2 cx3
              intro j o A w' hj ho hold hdeps hk hw
              have e10 : A.tmps[10]?.getD undef = .int .i64 (i : Int) := (act_slot A 10).trans (hold 10 (by simp))
              have e3' : A.tmps[3]?.getD undef = .pointer (some ⟨w.heap.size, 0, none⟩) := (act_slot A 3).trans (hold 3 (by simp))
              have e6' : A.tmps[6]?.getD undef = .pointer (some ⟨w1.heap.size, 0, none⟩) := (act_slot A 6).trans (hold 6 (by simp))
              have g3 : w'.cell? ⟨w.heap.size, 0, none⟩ = some (.slice (some ad1) l1.length c1) := by
                rcases hw with rfl | rfl
                · exact c3
                · exact cell_alloc_old _ c3
              have g6 : w'.cell? ⟨w1.heap.size, 0, none⟩ = some (.slice (some ad6) l0.length c6) := by
                rcases hw with rfl | rfl
                · exact c6'
                · exact cell_alloc_old _ c6'
              have g1 : w'.cell? (ad1.add i) = some (.int .u8 (rd l1 i)) := by
                rcases hw with rfl | rfl
                · exact hx1
                · exact cell_alloc_old _ hx1
              have g7 : w'.cell? (ad6.add i) = some (.int .u8 (rd s i)) := by
                rcases hw with rfl | rfl
                · exact hx6
                · exact cell_alloc_old _ hx6
              clear hold
              rcases j with _ | _ | _ | _ | _ | _ | _ | _ | _ | _ | _ | _ | _ | j
              · simp only [List.getElem?_cons_succ, List.getElem?_cons_zero, Option.some.injEq] at ho
                subst ho
                clear hdeps hk
                go_simp
              · simp only [List.getElem?_cons_succ, List.getElem?_cons_zero, Option.some.injEq] at ho
                subst ho
                clear hdeps hk
                go_simp
              · simp only [List.getElem?_cons_succ, List.getElem?_cons_zero, Option.some.injEq] at ho
                subst ho
                have d1 : A.tmps[36]?.getD undef = Value.int .i64 (i : Int) := (act_slot A 36).trans (hdeps ⟨1, .data⟩ (by simp) rfl 36 _ rfl (by simp))
                clear hdeps hk
                go_simp
                rw [IntKind.wrap_i64]
                have hlm := HLIM.out
                omega
              · simp only [List.getElem?_cons_succ, List.getElem?_cons_zero, Option.some.injEq] at ho
                subst ho
                clear hdeps hk
                go_simp
              · simp only [List.getElem?_cons_succ, List.getElem?_cons_zero, Option.some.injEq] at ho
                subst ho
                clear hdeps hk
                go_simp
              · simp only [List.getElem?_cons_succ, List.getElem?_cons_zero, Option.some.injEq] at ho
                subst ho
                have d3 : A.tmps[38]?.getD undef = Value.slice (some ad1) l1.length c1 := (act_slot A 38).trans (hdeps ⟨3, .data⟩ (by simp) rfl 38 _ rfl (by simp))
                have d4 : A.tmps[39]?.getD undef = Value.int .i64 (i : Int) := (act_slot A 39).trans (hdeps ⟨4, .data⟩ (by simp) rfl 39 _ rfl (by simp))
                clear hdeps hk
                go_simp
              · simp only [List.getElem?_cons_succ, List.getElem?_cons_zero, Option.some.injEq] at ho
                subst ho
                have d5 : A.tmps[40]?.getD undef = Value.pointer (some (ad1.add i)) := (act_slot A 40).trans (hdeps ⟨5, .data⟩ (by simp) rfl 40 _ rfl (by simp))
                clear hdeps hk
                go_simp
              · simp only [List.getElem?_cons_succ, List.getElem?_cons_zero, Option.some.injEq] at ho
                subst ho
                clear hdeps hk
                go_simp
              · simp only [List.getElem?_cons_succ, List.getElem?_cons_zero, Option.some.injEq] at ho
                subst ho
                clear hdeps hk
                go_simp
              · simp only [List.getElem?_cons_succ, List.getElem?_cons_zero, Option.some.injEq] at ho
                subst ho
                have d7 : A.tmps[42]?.getD undef = Value.slice (some ad6) l0.length c6 := (act_slot A 42).trans (hdeps ⟨7, .data⟩ (by simp) rfl 42 _ rfl (by simp))
                have d8 : A.tmps[43]?.getD undef = Value.int .i64 (i : Int) := (act_slot A 43).trans (hdeps ⟨8, .data⟩ (by simp) rfl 43 _ rfl (by simp))
                clear hdeps hk
                go_simp
              · simp only [List.getElem?_cons_succ, List.getElem?_cons_zero, Option.some.injEq] at ho
                subst ho
                have d9 : A.tmps[44]?.getD undef = Value.pointer (some (ad6.add i)) := (act_slot A 44).trans (hdeps ⟨9, .data⟩ (by simp) rfl 44 _ rfl (by simp))
                clear hdeps hk
                go_simp
              · simp only [List.getElem?_cons_succ, List.getElem?_cons_zero, Option.some.injEq] at ho
                subst ho
                have d0 : A.tmps[35]?.getD undef = Value.int .i64 (i : Int) := (act_slot A 35).trans (hdeps ⟨0, .data⟩ (by simp) rfl 35 _ rfl (by simp))
                have d2 : A.tmps[37]?.getD undef = Value.int .i64 ((i : Int) + 1) := (act_slot A 37).trans (hdeps ⟨2, .data⟩ (by simp) rfl 37 _ rfl (by simp))
                have d6 : A.tmps[41]?.getD undef = Value.int .u8 (rd l1 i) := (act_slot A 41).trans (hdeps ⟨6, .data⟩ (by simp) rfl 41 _ rfl (by simp))
                have d10 : A.tmps[45]?.getD undef = Value.int .u8 (rd s i) := (act_slot A 45).trans (hdeps ⟨10, .data⟩ (by simp) rfl 45 _ rfl (by simp))
                clear hdeps hk
                go_simp
              · simp only [List.getElem?_cons_succ, List.getElem?_cons_zero, Option.some.injEq] at ho
                subst ho
                obtain rfl := hk rfl
                clear hdeps hk
                go_simp
              · exact absurd hj (by simp)
            case last =>
              intro o ho
              simp only [List.length_cons, List.length_nil, Nat.zero_add, Nat.reduceAdd, List.getElem?_cons_succ, List.getElem?_cons_zero, Option.some.injEq] at ho
              subst ho
              simp only [List.foldl_cons, List.foldl_nil]
              clear c3 c6' hx1 hx6 q1 q6 p1 hti
              gi_wp2
              have hlen_out : out.length ≤ 5000000000 := by have h1 := HLT.out; have h2 := runUpto_le l1 s f (i - f) (runsP l1 s (pre.map (·.1))); rw [show f + (i - f) = i by omega, ← HOUT.out] at h2; have h3 := runsP_le l1 s pre; have h4 := prts_len l0 0 0; have h5 := HLIM.out; have h6 : pre.length * l0.length ≤ 65537 * 65536 := Nat.mul_le_mul (by omega) (by omega); omega
              have HLO := Aside0.mk hlen_out
              clear hlen_out
              by_cases hfi2 : f < i
              · have hpos : 0 < out.length := by rw [HOUT.out]; exact runUpto_pos l1 s f i _ hfi2
                obtain ⟨k, hk⟩ : ∃ k, out.length = k + 1 := ⟨out.length - 1, by omega⟩
                obtain ⟨g, cap, hform, hgb, hgw⟩ := World.ownsRow.form HROW.out hpos
                obtain ⟨rfl, rfl⟩ : Av = some ⟨g, 0, none⟩ ∧ cv = cap := by simpa using hform
                clear hform
                have hgt : decide ((f : Int) < (i : Int)) = true := decide_eq_true (by omega)
                obtain ⟨last, hlast⟩ : ∃ last, last = lastRun out := ⟨_, rfl⟩
                have hrowO := HROW.out.alloc (.cells #[.int .i64 (i : Int), .int .i64 ((i : Int) + 1), .int .u8 (rd l1 i), .int .u8 (rd s i)] 35)
                have cl1 := (hrowO.cellAt (k * 4 + 1) (by omega)).trans (lastRun_cell out k hk hpos).1
                have cl2 := (hrowO.cellAt (k * 4 + 2) (by omega)).trans (lastRun_cell out k hk hpos).2.1
                have cl3 := (hrowO.cellAt (k * 4 + 3) (by omega)).trans (lastRun_cell out k hk hpos).2.2
                have fl1 := hrowO.frozenAt (k * 4 + 1)
                rw [← hlast] at cl1 cl2 cl3
                have HLAST := Aside0.mk hlast
                have HROWO := Aside0.mk hrowO
                have HFL := Aside0.mk (And.intro cl1 fl1)
                have hwk : IntKind.i64.wrap (k : Int) = (k : Int) := by rw [IntKind.wrap_i64]; have := HLO.out; omega
                have hkk : ((k : Int) < (k : Int) + 1) = True := eq_true (by omega)
                clear hlast hrowO cl1 fl1
                by_cases h2 : last.f2 = rd l1 (i : Int)
                · by_cases h3 : last.f3 = rd s (i : Int)
                  · have HSTEP := Aside0.mk (show runStep l1 s f out i = out.set (out.length - 1) ⟨last.f0, (i : Int) + 1, last.f2, last.f3⟩ from by rw [HLAST.out]; exact if_pos ⟨hfi2, by rw [← HLAST.out]; exact h2, by rw [← HLAST.out]; exact h3⟩)
                    refine wpIn_region_still_tail 24 hmx (by kernel_rfl) (by kernel_rfl) ?_
                    simp only [List.take_succ_cons, List.take_zero, List.drop_succ_cons, List.drop_zero]
                    refine wpStill_step (fun K hK => ?_)
                    have HK := Aside0.mk hK
                    clear hK
                    refine ite_yes (by rfl) ?_
                    go_simp
                    refine HK.out _ ?_
                    clear HK K
                    refine wpStill_step (fun K hK => ?_)
                    have HK := Aside0.mk hK
                    clear hK
                    refine ite_yes (by rfl) ?_
                    go_simp
                    refine HK.out _ ?_
                    clear HK K
                    refine wpStill_step (fun K hK => ?_)
                    have HK := Aside0.mk hK
                    clear hK
                    refine ite_yes (by rfl) ?_
                    go_simp
                    refine HK.out _ ?_
                    clear HK K
                    refine wpStill_step (fun K hK => ?_)
                    have HK := Aside0.mk hK
                    clear hK
                    refine ite_yes (by rfl) ?_
                    go_simp
                    refine HK.out _ ?_
                    clear HK K
                    refine wpStill_step (fun K hK => ?_)
                    have HK := Aside0.mk hK
                    clear hK
                    refine ite_yes (by rfl) ?_
                    go_simp
                    refine HK.out _ ?_
                    clear HK K
                    refine wpStill_step (fun K hK => ?_)
                    have HK := Aside0.mk hK
                    clear hK
                    refine ite_yes (by rfl) ?_
                    go_simp
                    refine HK.out _ ?_
                    clear HK K
                    refine wpStill_step (fun K hK => ?_)
                    have HK := Aside0.mk hK
                    clear hK
                    refine ite_yes (by rfl) ?_
                    go_simp
                    refine HK.out _ ?_
                    clear HK K
                    refine wpStill_step (fun K hK => ?_)
                    have HK := Aside0.mk hK
                    clear hK
                    refine ite_yes (by rfl) ?_
                    go_simp
                    refine HK.out _ ?_
                    clear HK K
                    refine wpStill_step (fun K hK => ?_)
                    have HK := Aside0.mk hK
                    clear hK
                    refine ite_yes (by rfl) ?_
                    go_simp
                    refine HK.out _ ?_
                    clear HK K
                    refine wpStill_step (fun K hK => ?_)
                    have HK := Aside0.mk hK
                    clear hK
                    refine ite_yes (by rfl) ?_
                    go_simp
                    refine HK.out _ ?_
                    clear HK K
                    refine wpStill_step (fun K hK => ?_)
                    have HK := Aside0.mk hK
                    clear hK
                    refine ite_yes (by rfl) ?_
                    go_simp
                    refine HK.out _ ?_
                    clear HK K
                    refine wpStill_step (fun K hK => ?_)
                    have HK := Aside0.mk hK
                    clear hK
                    refine ite_yes (by rfl) ?_
                    go_simp
                    refine HK.out _ ?_
                    clear HK K
                    refine wpStill_step (fun K hK => ?_)
                    have HK := Aside0.mk hK
                    clear hK
                    refine ite_yes (by rfl) ?_
                    go_simp
                    refine HK.out _ ?_
                    clear HK K
                    refine wpStill_step (fun K hK => ?_)
                    have HK := Aside0.mk hK
                    clear hK
                    refine ite_yes (by rfl) ?_
                    go_simp
                    refine HK.out _ ?_
                    clear HK K
                    refine wpStill_step (fun K hK => ?_)
                    have HK := Aside0.mk hK
                    clear hK
                    refine ite_yes (by rfl) ?_
                    go_simp
                    refine HK.out _ ?_
                    clear HK K
                    refine wpStill_step (fun K hK => ?_)
                    have HK := Aside0.mk hK
                    clear hK
                    refine ite_yes (by rfl) ?_
                    go_simp
                    refine HK.out _ ?_
                    clear HK K
                    refine wpStill_step (fun K hK => ?_)
                    have HK := Aside0.mk hK
                    clear hK
                    refine ite_yes (by rfl) ?_
                    go_simp
                    refine HK.out _ ?_
                    clear HK K
                    refine wpStill_step (fun K hK => ?_)
                    have HK := Aside0.mk hK
                    clear hK
                    refine ite_yes (by rfl) ?_
                    go_simp
                    refine HK.out _ ?_
                    clear HK K
                    refine wpStill_step (fun K hK => ?_)
                    have HK := Aside0.mk hK
                    clear hK
                    refine ite_yes (by rfl) ?_
                    go_simp
                    refine HK.out _ ?_
                    clear HK K
                    refine wpStill_step (fun K hK => ?_)
                    have HK := Aside0.mk hK
                    clear hK
                    refine ite_yes (by rfl) ?_
                    go_simp
                    refine HK.out _ ?_
                    clear HK K
                    refine wpStill_step (fun K hK => ?_)
                    have HK := Aside0.mk hK
                    clear hK
                    refine ite_yes (by rfl) ?_
                    go_simp
                    refine HK.out _ ?_
                    clear HK K
                    refine wpStill_step (fun K hK => ?_)
                    have HK := Aside0.mk hK
                    clear hK
                    refine ite_yes (by rfl) ?_
                    go_simp
                    refine HK.out _ ?_
                    clear HK K
                    refine wpStill_step (fun K hK => ?_)
                    have HK := Aside0.mk hK
                    clear hK
                    refine ite_yes (by rfl) ?_
                    go_simp
                    refine HK.out _ ?_
                    clear HK K
                    refine wpStill_step (fun K hK => ?_)
                    have HK := Aside0.mk hK
                    clear hK
                    refine ite_yes (by rfl) ?_
                    go_simp
                    refine HK.out _ ?_
                    clear HK K
                    refine wpStill_nil ?_
                    have cl1 := HFL.out.1
                    have fl1 := HFL.out.2
                    gi_wp2
                    clear hwk hkk
                    have hst := stored_run (j := k * 4 + 1) (.int .i64 ((i : Int) + 1)) HV.out (by decide) HROW.out hgb
                    have hek : out.length - 1 = k := by omega
                    have hnext : runUpto l1 s f (i + 1) (runsP l1 s (pre.map (·.1))) = out.set k ⟨last.f0, (i : Int) + 1, last.f2, last.f3⟩ := by rw [runUpto_succ _ _ _ _ _ hfi, ← HOUT.out, HSTEP.out, hek]
                    have hcells : cellsRun (out.set k ⟨last.f0, (i : Int) + 1, last.f2, last.f3⟩) = (cellsRun out).set (k * 4 + 1) (.int .i64 ((i : Int) + 1)) := by
                      have e := cellsRun_set out k ((i : Int) + 1) (by omega)
                      rw [e, HLAST.out]
                      unfold lastRun
                      rw [hek]
                    have hnW : w1.heap.size + 3 ≤ W.heap.size := by have := HKW.out.size; omega
                    have HW64 := Aside0.mk (show wrap64 ((i : Int) + 1) = ((i + 1 : Nat) : Int) from wrap64_nat i (by have := HLIM.out; omega))
                    have hkk2 := (HKW2.out.trans hst.2.2.2).below hnW ((Below.refl _ _).alloc (Nat.le_refl _) (.cells #[.int .i64 (i : Int), .int .i64 ((i : Int) + 1), .int .u8 (rd l1 i), .int .u8 (rd s i)] 35))
                    refine ⟨⟨i + 1, congrArg (Value.int .i64) HW64.out, by omega, by omega, ⟨⟨_, hst.1.alloc _, ?_, trivial⟩, hkk2.trans ⟨rfl, rfl, rfl, Nat.le_refl _, fun _ _ _ => rfl⟩, ((HKO.out.trans hst.2.2.1).trans (KeepsOthers.alloc _ _)).trans ((KeepsOthers.drew _).trans (KeepsOthers.drew _))⟩⟩, ?_⟩
                    · rw [hnext, hcells, List.length_set]
                      exact hst.2.1.alloc _
                    · rw [HW64.out]
                      simp only [intOf, Int.toNat_natCast]
                      omega
                  · have h3b : (last.f3 == rd s (i : Int)) = false := by simpa using h3
                    have HSTEP := Aside0.mk (show runStep l1 s f out i = out ++ [⟨(i : Int), (i : Int) + 1, rd l1 i, rd s i⟩] from if_neg (fun h => h3 (by rw [HLAST.out]; exact h.2.2)))
                    refine wpIn_region_still_tail 24 hmx (by kernel_rfl) (by kernel_rfl) ?_
                    simp only [List.take_succ_cons, List.take_zero, List.drop_succ_cons, List.drop_zero]
                    refine wpStill_step (fun K hK => ?_)
                    have HK := Aside0.mk hK
                    clear hK
                    refine ite_yes (by rfl) ?_
                    go_simp
                    refine HK.out _ ?_
                    clear HK K
                    refine wpStill_step (fun K hK => ?_)
                    have HK := Aside0.mk hK
                    clear hK
                    refine ite_yes (by rfl) ?_
                    go_simp
                    refine HK.out _ ?_
                    clear HK K
                    refine wpStill_step (fun K hK => ?_)
                    have HK := Aside0.mk hK
                    clear hK
                    refine ite_yes (by rfl) ?_
                    go_simp
                    refine HK.out _ ?_
                    clear HK K
                    refine wpStill_step (fun K hK => ?_)
                    have HK := Aside0.mk hK
                    clear hK
                    refine ite_yes (by rfl) ?_
                    go_simp
                    refine HK.out _ ?_
                    clear HK K
                    refine wpStill_step (fun K hK => ?_)
                    have HK := Aside0.mk hK
                    clear hK
                    refine ite_yes (by rfl) ?_
                    go_simp
                    refine HK.out _ ?_
                    clear HK K
                    refine wpStill_step (fun K hK => ?_)
                    have HK := Aside0.mk hK
                    clear hK
                    refine ite_yes (by rfl) ?_
                    go_simp
                    refine HK.out _ ?_
                    clear HK K
                    refine wpStill_step (fun K hK => ?_)
                    have HK := Aside0.mk hK
                    clear hK
                    refine ite_yes (by rfl) ?_
                    go_simp
                    refine HK.out _ ?_
                    clear HK K
                    refine wpStill_step (fun K hK => ?_)
                    have HK := Aside0.mk hK
                    clear hK
                    refine ite_yes (by rfl) ?_
                    go_simp
                    refine HK.out _ ?_
                    clear HK K
                    refine wpStill_step (fun K hK => ?_)
                    have HK := Aside0.mk hK
                    clear hK
                    refine ite_yes (by rfl) ?_
                    go_simp
                    refine HK.out _ ?_
                    clear HK K
                    refine wpStill_step (fun K hK => ?_)
                    have HK := Aside0.mk hK
                    clear hK
                    refine ite_yes (by rfl) ?_
                    go_simp
                    refine HK.out _ ?_
                    clear HK K
                    refine wpStill_step (fun K hK => ?_)
                    have HK := Aside0.mk hK
                    clear hK
                    refine ite_yes (by rfl) ?_
                    go_simp
                    refine HK.out _ ?_
                    clear HK K
                    refine wpStill_step (fun K hK => ?_)
                    have HK := Aside0.mk hK
                    clear hK
                    refine ite_yes (by rfl) ?_
                    go_simp
                    refine HK.out _ ?_
                    clear HK K
                    refine wpStill_step (fun K hK => ?_)
                    have HK := Aside0.mk hK
                    clear hK
                    refine ite_yes (by rfl) ?_
                    go_simp
                    refine HK.out _ ?_
                    clear HK K
                    refine wpStill_step (fun K hK => ?_)
                    have HK := Aside0.mk hK
                    clear hK
                    refine ite_yes (by rfl) ?_
                    go_simp
                    refine HK.out _ ?_
                    clear HK K
                    refine wpStill_step (fun K hK => ?_)
                    have HK := Aside0.mk hK
                    clear hK
                    refine ite_yes (by rfl) ?_
                    go_simp
                    refine HK.out _ ?_
                    clear HK K
                    refine wpStill_step (fun K hK => ?_)
                    have HK := Aside0.mk hK
                    clear hK
                    refine ite_yes (by rfl) ?_
                    go_simp
                    refine HK.out _ ?_
                    clear HK K
                    refine wpStill_step (fun K hK => ?_)
                    have HK := Aside0.mk hK
                    clear hK
                    refine ite_yes (by rfl) ?_
                    go_simp
                    refine HK.out _ ?_
                    clear HK K
                    refine wpStill_step (fun K hK => ?_)
                    have HK := Aside0.mk hK
                    clear hK
                    refine ite_yes (by rfl) ?_
                    go_simp
                    refine HK.out _ ?_
                    clear HK K
                    refine wpStill_step (fun K hK => ?_)
                    have HK := Aside0.mk hK
                    clear hK
                    refine ite_yes (by rfl) ?_
                    go_simp
                    refine HK.out _ ?_
                    clear HK K
                    refine wpStill_step (fun K hK => ?_)
                    have HK := Aside0.mk hK
                    clear hK
                    refine ite_yes (by rfl) ?_
                    go_simp
                    refine HK.out _ ?_
                    clear HK K
                    refine wpStill_step (fun K hK => ?_)
                    have HK := Aside0.mk hK
                    clear hK
                    refine ite_yes (by rfl) ?_
                    go_simp
                    refine HK.out _ ?_
                    clear HK K
                    refine wpStill_step (fun K hK => ?_)
                    have HK := Aside0.mk hK
                    clear hK
                    refine ite_yes (by rfl) ?_
                    go_simp
                    refine HK.out _ ?_
                    clear HK K
                    refine wpStill_step (fun K hK => ?_)
                    have HK := Aside0.mk hK
                    clear hK
                    refine ite_yes (by rfl) ?_
                    go_simp
                    refine HK.out _ ?_
                    clear HK K
                    refine wpStill_step (fun K hK => ?_)
                    have HK := Aside0.mk hK
                    clear hK
                    refine ite_yes (by rfl) ?_
                    go_simp
                    refine HK.out _ ?_
                    clear HK K
                    refine wpStill_nil ?_
                    clear hk hwk hkk cl2 cl3 hgt
                    have hrowA := (HROW.out.alloc (.cells #[.int .i64 (i : Int), .int .i64 ((i : Int) + 1), .int .u8 (rd l1 i), .int .u8 (rd s i)] 35))
                    have hvA := (HV.out.alloc (.cells #[.int .i64 (i : Int), .int .i64 ((i : Int) + 1), .int .u8 (rd l1 i), .int .u8 (rd s i)] 35))
                    obtain ⟨WA, hWA⟩ : ∃ WA, (wr.alloc (.cells #[.int .i64 (i : Int), .int .i64 ((i : Int) + 1), .int .u8 (rd l1 i), .int .u8 (rd s i)] 35)) = WA := ⟨_, rfl⟩
                    have HROWA := Aside0.mk hrowA
                    have HVA := Aside0.mk hvA
                    clear hrowA hvA
                    rw [hWA] at c7 HROWA HVA ⊢
                    have hn0 := HNEW.out
                    rw [hWA] at hn0
                    have cx0 := cell_of_row _ wr.heap.size 0 _ _ _ hn0
                    have cx1 := cell_of_row _ wr.heap.size 1 _ _ _ hn0
                    have cx2 := cell_of_row _ wr.heap.size 2 _ _ _ hn0
                    have cx3 := cell_of_row _ wr.heap.size 3 _ _ _ hn0
                    simp only [List.getElem?_toArray, List.getElem?_cons_succ, List.getElem?_cons_zero] at cx0 cx1 cx2 cx3
                    obtain ⟨i0, hi0, hz0, hz1, hz2⟩ := info_parts (show (Tryd.prog.info? 35).map (fun i => (i.zero, i.size, i.bytes)) = some (some (.agg #[.int .i64 0, .int .i64 0, .int .u8 0, .int .u8 0]), 4, 24) by kernel_rfl)
                    have HI0 := Aside0.mk (And.intro hi0 (And.intro hz0 (And.intro hz1 hz2)))
                    clear hn0 hi0 hz0 hz1 hz2
                    have hW4A : w1.heap.size + 3 ≤ WA.heap.size := by
                      have h1 := HKW.out.size
                      have h2 := HKW2.out.size
                      rw [← hWA, World.size_alloc]
                      omega
                    have HAPP : ∀ {ops : Array Oper} {rest : List Oper} {o : Oper} {a : Act} {Q : Exit → Act → World → Prop} (hg : o.guard = none) (s' x' : Operand) (hop : o.op = Op.call { callee := Callee.builtin Builtin.append, args := #[s', x'], argTypes := #[27, 27] })
                        (hs : a.eval s' = .slice (some ⟨g, 0, none⟩) out.length cv) (hx : a.eval x' = .slice (some ⟨WA.heap.size, 0, none⟩) 1 1)
                        (hK : ∀ v' w', w'.ownsRow (w1.heap.size + 3) 35 4 v' (out.length + 1) (cellsRun out ++ encRun ⟨(i : Int), (i : Int) + 1, rd l1 i, rd s i⟩) → (WA.drew.drew.alloc (.cells #[.int .i64 (i : Int), .int .i64 ((i : Int) + 1), .int .u8 (rd l1 i), .int .u8 (rd s i)] 35)).grownBy w' (Value.slice (some ⟨g, 0, none⟩) out.length cv).ownBlock → wpListIn (Fence.wide.inRound l) 6 Tryd.prog ops Q rest (a.put o.dst v') w'),
                        wpListIn (Fence.wide.inRound l) 6 Tryd.prog ops Q (o :: rest) a (WA.alloc (.cells #[.int .i64 (i : Int), .int .i64 ((i : Int) + 1), .int .u8 (rd l1 i), .int .u8 (rd s i)] 35)).drew.drew := by
                      intro ops rest o a Q hg s' x' hop hs hx hK
                      have hW4 := hW4A
                      exact wpListIn_append_own ((WA.alloc (.cells #[.int .i64 (i : Int), .int .i64 ((i : Int) + 1), .int .u8 (rd l1 i), .int .u8 (rd s i)] 35)).drew.drew) hg s' x' 27 hop (w1.heap.size + 3) 35 i0 _ 4 24 Tryd.underlying27 HI0.out.1 HI0.out.2.1 HI0.out.2.2.1 HI0.out.2.2.2 rfl (by decide) _ _ _ hs (HROWA.out.alloc _) ⟨WA.heap.size, 0, none⟩ 1 1 (encRun ⟨(i : Int), (i : Int) + 1, rd l1 i, rd s i⟩) hx rfl (cells4_new WA ⟨(i : Int), (i : Int) + 1, rd l1 i, rd s i⟩ 35) (by simp [encRun, Value.oneCell']) (by have := HLO.out; unfold maxLen; omega) (by have := HLO.out; omega) (by show w1.heap.size + 3 ≤ (WA.heap.push _).size; simp; omega) (fun v' w' h1 h2 _ => hK v' w' h1 h2)
                    have HAP := Aside0.mk @HAPP
                    have hW4 := hW4A
                    have HW4 := Aside0.mk hW4
                    clear HAPP hW4
                    gi_wp2_with (gi_at_builtin; refine HAP.out rfl _ _ rfl rfl rfl ?_; intro v' w2 hown' hgrow; obtain ⟨g', cap', rfl⟩ := ownsRow_succ hown'; obtain ⟨hv1, hv2, hr2, hk2, hb2⟩ := appended_run (WA := WA.drew.drew) HVA.out (by decide) HROWA.out HW4.out hown' hgrow; have HV2 := Aside0.mk (And.intro hv2 (And.intro hr2 (And.intro hk2 hb2))); have hc1 := hv1.cell; have hf1 := hv1.frozen; clear hv1 hv2 hr2 hk2 hb2 hown' hgrow)
                    have hnext : runUpto l1 s f (i + 1) (runsP l1 s (pre.map (·.1))) = out ++ [⟨(i : Int), (i : Int) + 1, rd l1 i, rd s i⟩] := by rw [runUpto_succ _ _ _ _ _ hfi, ← HOUT.out, HSTEP.out]
                    have hcells : cellsRun (out ++ [⟨(i : Int), (i : Int) + 1, rd l1 i, rd s i⟩]) = cellsRun out ++ encRun ⟨(i : Int), (i : Int) + 1, rd l1 i, rd s i⟩ := by simp [cellsRun]
                    have hbWA : Below wr.heap.size wr WA := by rw [← hWA]; exact (Below.refl _ _).alloc (Nat.le_refl _) _
                    have hkWA : KeepsOthers wr WA := by rw [← hWA]; exact KeepsOthers.alloc _ _
                    have hnW : w1.heap.size + 3 ≤ W.heap.size := by have := HKW.out.size; omega
                    have HW64 := Aside0.mk (show wrap64 ((i : Int) + 1) = ((i + 1 : Nat) : Int) from wrap64_nat i (by have := HLIM.out; omega))
                    go_roundw
                    case rel => exact ⟨i + 1, congrArg (Value.int .i64) HW64.out, by omega, by omega, ⟨⟨_, HV2.out.1, by rw [hnext, hcells, List.length_append]; exact HV2.out.2.1, trivial⟩, (Kept.trans (E := WA.drew.drew) (HKW2.out.below hnW hbWA) ⟨rfl, rfl, rfl, Nat.le_refl _, fun _ _ _ => rfl⟩).trans HV2.out.2.2.2, ((HKO.out.trans hkWA).trans ((KeepsOthers.drew _).trans (KeepsOthers.drew _))).trans HV2.out.2.2.1⟩⟩
                    case measure => rw [HW64.out]; simp only [intOf, Int.toNat_natCast]; omega
                · have h2b : (last.f2 == rd l1 (i : Int)) = false := by simpa using h2
                  have HSTEP := Aside0.mk (show runStep l1 s f out i = out ++ [⟨(i : Int), (i : Int) + 1, rd l1 i, rd s i⟩] from if_neg (fun h => h2 (by rw [HLAST.out]; exact h.2.1)))
                  refine wpIn_region_still_tail 24 hmx (by kernel_rfl) (by kernel_rfl) ?_
                  simp only [List.take_succ_cons, List.take_zero, List.drop_succ_cons, List.drop_zero]
                  refine wpStill_step (fun K hK => ?_)
                  have HK := Aside0.mk hK
                  clear hK
                  refine ite_yes (by rfl) ?_
                  go_simp
                  refine HK.out _ ?_
                  clear HK K
                  refine wpStill_step (fun K hK => ?_)
                  have HK := Aside0.mk hK
                  clear hK
                  refine ite_yes (by rfl) ?_
                  go_simp
                  refine HK.out _ ?_
                  clear HK K
                  refine wpStill_step (fun K hK => ?_)
                  have HK := Aside0.mk hK
                  clear hK
                  refine ite_yes (by rfl) ?_
                  go_simp
                  refine HK.out _ ?_
                  clear HK K
                  refine wpStill_step (fun K hK => ?_)
                  have HK := Aside0.mk hK
                  clear hK
                  refine ite_yes (by rfl) ?_
                  go_simp
                  refine HK.out _ ?_
                  clear HK K
                  refine wpStill_step (fun K hK => ?_)
                  have HK := Aside0.mk hK
                  clear hK
                  refine ite_yes (by rfl) ?_
                  go_simp
                  refine HK.out _ ?_
                  clear HK K
                  refine wpStill_step (fun K hK => ?_)
                  have HK := Aside0.mk hK
                  clear hK
                  refine ite_yes (by rfl) ?_
                  go_simp
                  refine HK.out _ ?_
                  clear HK K
                  refine wpStill_step (fun K hK => ?_)
                  have HK := Aside0.mk hK
                  clear hK
                  refine ite_yes (by rfl) ?_
                  go_simp
                  refine HK.out _ ?_
                  clear HK K
                  refine wpStill_step (fun K hK => ?_)
                  have HK := Aside0.mk hK
                  clear hK
                  refine ite_yes (by rfl) ?_
                  go_simp
                  refine HK.out _ ?_
                  clear HK K
                  refine wpStill_step (fun K hK => ?_)
                  have HK := Aside0.mk hK
                  clear hK
                  refine ite_yes (by rfl) ?_
                  go_simp
                  refine HK.out _ ?_
                  clear HK K
                  refine wpStill_step (fun K hK => ?_)
                  have HK := Aside0.mk hK
                  clear hK
                  refine ite_yes (by rfl) ?_
                  go_simp
                  refine HK.out _ ?_
                  clear HK K
                  refine wpStill_step (fun K hK => ?_)
                  have HK := Aside0.mk hK
                  clear hK
                  refine ite_yes (by rfl) ?_
                  go_simp
                  refine HK.out _ ?_
                  clear HK K
                  refine wpStill_step (fun K hK => ?_)
                  have HK := Aside0.mk hK
                  clear hK
                  refine ite_yes (by rfl) ?_
                  go_simp
                  refine HK.out _ ?_
                  clear HK K
                  refine wpStill_step (fun K hK => ?_)
                  have HK := Aside0.mk hK
                  clear hK
                  refine ite_yes (by rfl) ?_
                  go_simp
                  refine HK.out _ ?_
                  clear HK K
                  refine wpStill_step (fun K hK => ?_)
                  have HK := Aside0.mk hK
                  clear hK
                  refine ite_yes (by rfl) ?_
                  go_simp
                  refine HK.out _ ?_
                  clear HK K
                  refine wpStill_step (fun K hK => ?_)
                  have HK := Aside0.mk hK
                  clear hK
                  refine ite_yes (by rfl) ?_
                  go_simp
                  refine HK.out _ ?_
                  clear HK K
                  refine wpStill_step (fun K hK => ?_)
                  have HK := Aside0.mk hK
                  clear hK
                  refine ite_no (by rfl) ?_
                  go_simp
                  refine HK.out _ ?_
                  clear HK K
                  refine wpStill_step (fun K hK => ?_)
                  have HK := Aside0.mk hK
                  clear hK
                  refine ite_no (by rfl) ?_
                  go_simp
                  refine HK.out _ ?_
                  clear HK K
                  refine wpStill_step (fun K hK => ?_)
                  have HK := Aside0.mk hK
                  clear hK
                  refine ite_no (by rfl) ?_
                  go_simp
                  refine HK.out _ ?_
                  clear HK K
                  refine wpStill_step (fun K hK => ?_)
                  have HK := Aside0.mk hK
                  clear hK
                  refine ite_no (by rfl) ?_
                  go_simp
                  refine HK.out _ ?_
                  clear HK K
                  refine wpStill_step (fun K hK => ?_)
                  have HK := Aside0.mk hK
                  clear hK
                  refine ite_no (by rfl) ?_
                  go_simp
                  refine HK.out _ ?_
                  clear HK K
                  refine wpStill_step (fun K hK => ?_)
                  have HK := Aside0.mk hK
                  clear hK
                  refine ite_no (by rfl) ?_
                  go_simp
                  refine HK.out _ ?_
                  clear HK K
                  refine wpStill_step (fun K hK => ?_)
                  have HK := Aside0.mk hK
                  clear hK
                  refine ite_no (by rfl) ?_
                  go_simp
                  refine HK.out _ ?_
                  clear HK K
                  refine wpStill_step (fun K hK => ?_)
                  have HK := Aside0.mk hK
                  clear hK
                  refine ite_no (by rfl) ?_
                  go_simp
                  refine HK.out _ ?_
                  clear HK K
                  refine wpStill_step (fun K hK => ?_)
                  have HK := Aside0.mk hK
                  clear hK
                  refine ite_no (by rfl) ?_
                  go_simp
                  refine HK.out _ ?_
                  clear HK K
                  refine wpStill_nil ?_
                  clear hk hwk hkk cl2 cl3 hgt
                  have hrowA := (HROW.out.alloc (.cells #[.int .i64 (i : Int), .int .i64 ((i : Int) + 1), .int .u8 (rd l1 i), .int .u8 (rd s i)] 35))
                  have hvA := (HV.out.alloc (.cells #[.int .i64 (i : Int), .int .i64 ((i : Int) + 1), .int .u8 (rd l1 i), .int .u8 (rd s i)] 35))
                  obtain ⟨WA, hWA⟩ : ∃ WA, (wr.alloc (.cells #[.int .i64 (i : Int), .int .i64 ((i : Int) + 1), .int .u8 (rd l1 i), .int .u8 (rd s i)] 35)) = WA := ⟨_, rfl⟩
                  have HROWA := Aside0.mk hrowA
                  have HVA := Aside0.mk hvA
                  clear hrowA hvA
                  rw [hWA] at c7 HROWA HVA ⊢
                  have hn0 := HNEW.out
                  rw [hWA] at hn0
                  have cx0 := cell_of_row _ wr.heap.size 0 _ _ _ hn0
                  have cx1 := cell_of_row _ wr.heap.size 1 _ _ _ hn0
                  have cx2 := cell_of_row _ wr.heap.size 2 _ _ _ hn0
                  have cx3 := cell_of_row _ wr.heap.size 3 _ _ _ hn0
                  simp only [List.getElem?_toArray, List.getElem?_cons_succ, List.getElem?_cons_zero] at cx0 cx1 cx2 cx3
                  obtain ⟨i0, hi0, hz0, hz1, hz2⟩ := info_parts (show (Tryd.prog.info? 35).map (fun i => (i.zero, i.size, i.bytes)) = some (some (.agg #[.int .i64 0, .int .i64 0, .int .u8 0, .int .u8 0]), 4, 24) by kernel_rfl)
                  have HI0 := Aside0.mk (And.intro hi0 (And.intro hz0 (And.intro hz1 hz2)))
                  clear hn0 hi0 hz0 hz1 hz2
                  have hW4A : w1.heap.size + 3 ≤ WA.heap.size := by
                    have h1 := HKW.out.size
                    have h2 := HKW2.out.size
                    rw [← hWA, World.size_alloc]
                    omega
                  have HAPP : ∀ {ops : Array Oper} {rest : List Oper} {o : Oper} {a : Act} {Q : Exit → Act → World → Prop} (hg : o.guard = none) (s' x' : Operand) (hop : o.op = Op.call { callee := Callee.builtin Builtin.append, args := #[s', x'], argTypes := #[27, 27] })
                      (hs : a.eval s' = .slice (some ⟨g, 0, none⟩) out.length cv) (hx : a.eval x' = .slice (some ⟨WA.heap.size, 0, none⟩) 1 1)
                      (hK : ∀ v' w', w'.ownsRow (w1.heap.size + 3) 35 4 v' (out.length + 1) (cellsRun out ++ encRun ⟨(i : Int), (i : Int) + 1, rd l1 i, rd s i⟩) → (WA.drew.drew.alloc (.cells #[.int .i64 (i : Int), .int .i64 ((i : Int) + 1), .int .u8 (rd l1 i), .int .u8 (rd s i)] 35)).grownBy w' (Value.slice (some ⟨g, 0, none⟩) out.length cv).ownBlock → wpListIn (Fence.wide.inRound l) 6 Tryd.prog ops Q rest (a.put o.dst v') w'),
                      wpListIn (Fence.wide.inRound l) 6 Tryd.prog ops Q (o :: rest) a (WA.alloc (.cells #[.int .i64 (i : Int), .int .i64 ((i : Int) + 1), .int .u8 (rd l1 i), .int .u8 (rd s i)] 35)).drew.drew := by
                    intro ops rest o a Q hg s' x' hop hs hx hK
                    have hW4 := hW4A
                    exact wpListIn_append_own ((WA.alloc (.cells #[.int .i64 (i : Int), .int .i64 ((i : Int) + 1), .int .u8 (rd l1 i), .int .u8 (rd s i)] 35)).drew.drew) hg s' x' 27 hop (w1.heap.size + 3) 35 i0 _ 4 24 Tryd.underlying27 HI0.out.1 HI0.out.2.1 HI0.out.2.2.1 HI0.out.2.2.2 rfl (by decide) _ _ _ hs (HROWA.out.alloc _) ⟨WA.heap.size, 0, none⟩ 1 1 (encRun ⟨(i : Int), (i : Int) + 1, rd l1 i, rd s i⟩) hx rfl (cells4_new WA ⟨(i : Int), (i : Int) + 1, rd l1 i, rd s i⟩ 35) (by simp [encRun, Value.oneCell']) (by have := HLO.out; unfold maxLen; omega) (by have := HLO.out; omega) (by show w1.heap.size + 3 ≤ (WA.heap.push _).size; simp; omega) (fun v' w' h1 h2 _ => hK v' w' h1 h2)
                  have HAP := Aside0.mk @HAPP
                  have hW4 := hW4A
                  have HW4 := Aside0.mk hW4
                  clear HAPP hW4
                  gi_wp2_with (gi_at_builtin; refine HAP.out rfl _ _ rfl rfl rfl ?_; intro v' w2 hown' hgrow; obtain ⟨g', cap', rfl⟩ := ownsRow_succ hown'; obtain ⟨hv1, hv2, hr2, hk2, hb2⟩ := appended_run (WA := WA.drew.drew) HVA.out (by decide) HROWA.out HW4.out hown' hgrow; have HV2 := Aside0.mk (And.intro hv2 (And.intro hr2 (And.intro hk2 hb2))); have hc1 := hv1.cell; have hf1 := hv1.frozen; clear hv1 hv2 hr2 hk2 hb2 hown' hgrow)
                  have hnext : runUpto l1 s f (i + 1) (runsP l1 s (pre.map (·.1))) = out ++ [⟨(i : Int), (i : Int) + 1, rd l1 i, rd s i⟩] := by rw [runUpto_succ _ _ _ _ _ hfi, ← HOUT.out, HSTEP.out]
                  have hcells : cellsRun (out ++ [⟨(i : Int), (i : Int) + 1, rd l1 i, rd s i⟩]) = cellsRun out ++ encRun ⟨(i : Int), (i : Int) + 1, rd l1 i, rd s i⟩ := by simp [cellsRun]
                  have hbWA : Below wr.heap.size wr WA := by rw [← hWA]; exact (Below.refl _ _).alloc (Nat.le_refl _) _
                  have hkWA : KeepsOthers wr WA := by rw [← hWA]; exact KeepsOthers.alloc _ _
                  have hnW : w1.heap.size + 3 ≤ W.heap.size := by have := HKW.out.size; omega
                  have HW64 := Aside0.mk (show wrap64 ((i : Int) + 1) = ((i + 1 : Nat) : Int) from wrap64_nat i (by have := HLIM.out; omega))
                  go_roundw
                  case rel => exact ⟨i + 1, congrArg (Value.int .i64) HW64.out, by omega, by omega, ⟨⟨_, HV2.out.1, by rw [hnext, hcells, List.length_append]; exact HV2.out.2.1, trivial⟩, (Kept.trans (E := WA.drew.drew) (HKW2.out.below hnW hbWA) ⟨rfl, rfl, rfl, Nat.le_refl _, fun _ _ _ => rfl⟩).trans HV2.out.2.2.2, ((HKO.out.trans hkWA).trans ((KeepsOthers.drew _).trans (KeepsOthers.drew _))).trans HV2.out.2.2.1⟩⟩
                  case measure => rw [HW64.out]; simp only [intOf, Int.toNat_natCast]; omega
              · have hgt : decide ((f : Int) < (i : Int)) = false := decide_eq_false (by omega)
                have hstep : runStep l1 s f out i = out ++ [⟨(i : Int), (i : Int) + 1, rd l1 i, rd s i⟩] := if_neg (fun h => hfi2 h.1)
                have HSTEP := Aside0.mk hstep
                clear hstep
                refine wpIn_region_still_tail 24 hmx (by kernel_rfl) (by kernel_rfl) ?_
                simp only [List.take_succ_cons, List.take_zero, List.drop_succ_cons, List.drop_zero]
                refine wpStill_step (fun K hK => ?_)
                have HK := Aside0.mk hK
                clear hK
                refine ite_yes (by rfl) ?_
                go_simp
                refine HK.out _ ?_
                clear HK K
                refine wpStill_step (fun K hK => ?_)
                have HK := Aside0.mk hK
                clear hK
                refine ite_yes (by rfl) ?_
                go_simp
                refine HK.out _ ?_
                clear HK K
                refine wpStill_step (fun K hK => ?_)
                have HK := Aside0.mk hK
                clear hK
                refine ite_yes (by rfl) ?_
                go_simp
                refine HK.out _ ?_
                clear HK K
                refine wpStill_step (fun K hK => ?_)
                have HK := Aside0.mk hK
                clear hK
                refine ite_yes (by rfl) ?_
                go_simp
                refine HK.out _ ?_
                clear HK K
                refine wpStill_step (fun K hK => ?_)
                have HK := Aside0.mk hK
                clear hK
                refine ite_no (by rfl) ?_
                go_simp
                refine HK.out _ ?_
                clear HK K
                refine wpStill_step (fun K hK => ?_)
                have HK := Aside0.mk hK
                clear hK
                refine ite_no (by rfl) ?_
                go_simp
                refine HK.out _ ?_
                clear HK K
                refine wpStill_step (fun K hK => ?_)
                have HK := Aside0.mk hK
                clear hK
                refine ite_no (by rfl) ?_
                go_simp
                refine HK.out _ ?_
                clear HK K
                refine wpStill_step (fun K hK => ?_)
                have HK := Aside0.mk hK
                clear hK
                refine ite_no (by rfl) ?_
                go_simp
                refine HK.out _ ?_
                clear HK K
                refine wpStill_step (fun K hK => ?_)
                have HK := Aside0.mk hK
                clear hK
                refine ite_no (by rfl) ?_
                go_simp
                refine HK.out _ ?_
                clear HK K
                refine wpStill_step (fun K hK => ?_)
                have HK := Aside0.mk hK
                clear hK
                refine ite_no (by rfl) ?_
                go_simp
                refine HK.out _ ?_
                clear HK K
                refine wpStill_step (fun K hK => ?_)
                have HK := Aside0.mk hK
                clear hK
                refine ite_no (by rfl) ?_
                go_simp
                refine HK.out _ ?_
                clear HK K
                refine wpStill_step (fun K hK => ?_)
                have HK := Aside0.mk hK
                clear hK
                refine ite_no (by rfl) ?_
                go_simp
                refine HK.out _ ?_
                clear HK K
                refine wpStill_step (fun K hK => ?_)
                have HK := Aside0.mk hK
                clear hK
                refine ite_no (by rfl) ?_
                go_simp
                refine HK.out _ ?_
                clear HK K
                refine wpStill_step (fun K hK => ?_)
                have HK := Aside0.mk hK
                clear hK
                refine ite_yes (by rfl) ?_
                go_simp
                refine HK.out _ ?_
                clear HK K
                refine wpStill_step (fun K hK => ?_)
                have HK := Aside0.mk hK
                clear hK
                refine ite_yes (by rfl) ?_
                go_simp
                refine HK.out _ ?_
                clear HK K
                refine wpStill_step (fun K hK => ?_)
                have HK := Aside0.mk hK
                clear hK
                refine ite_no (by rfl) ?_
                go_simp
                refine HK.out _ ?_
                clear HK K
                refine wpStill_step (fun K hK => ?_)
                have HK := Aside0.mk hK
                clear hK
                refine ite_no (by rfl) ?_
                go_simp
                refine HK.out _ ?_
                clear HK K
                refine wpStill_step (fun K hK => ?_)
                have HK := Aside0.mk hK
                clear hK
                refine ite_no (by rfl) ?_
                go_simp
                refine HK.out _ ?_
                clear HK K
                refine wpStill_step (fun K hK => ?_)
                have HK := Aside0.mk hK
                clear hK
                refine ite_no (by rfl) ?_
                go_simp
                refine HK.out _ ?_
                clear HK K
                refine wpStill_step (fun K hK => ?_)
                have HK := Aside0.mk hK
                clear hK
                refine ite_no (by rfl) ?_
                go_simp
                refine HK.out _ ?_
                clear HK K
                refine wpStill_step (fun K hK => ?_)
                have HK := Aside0.mk hK
                clear hK
                refine ite_no (by rfl) ?_
                go_simp
                refine HK.out _ ?_
                clear HK K
                refine wpStill_step (fun K hK => ?_)
                have HK := Aside0.mk hK
                clear hK
                refine ite_no (by rfl) ?_
                go_simp
                refine HK.out _ ?_
                clear HK K
                refine wpStill_step (fun K hK => ?_)
                have HK := Aside0.mk hK
                clear hK
                refine ite_no (by rfl) ?_
                go_simp
                refine HK.out _ ?_
                clear HK K
                refine wpStill_step (fun K hK => ?_)
                have HK := Aside0.mk hK
                clear hK
                refine ite_no (by rfl) ?_
                go_simp
                refine HK.out _ ?_
                clear HK K
                refine wpStill_nil ?_
                have hrowA := (HROW.out.alloc (.cells #[.int .i64 (i : Int), .int .i64 ((i : Int) + 1), .int .u8 (rd l1 i), .int .u8 (rd s i)] 35))
                have hvA := (HV.out.alloc (.cells #[.int .i64 (i : Int), .int .i64 ((i : Int) + 1), .int .u8 (rd l1 i), .int .u8 (rd s i)] 35))
                obtain ⟨WA, hWA⟩ : ∃ WA, (wr.alloc (.cells #[.int .i64 (i : Int), .int .i64 ((i : Int) + 1), .int .u8 (rd l1 i), .int .u8 (rd s i)] 35)) = WA := ⟨_, rfl⟩
                have HROWA := Aside0.mk hrowA
                have HVA := Aside0.mk hvA
                clear hrowA hvA
                rw [hWA] at c7 HROWA HVA ⊢
                have hn0 := HNEW.out
                rw [hWA] at hn0
                have cx0 := cell_of_row _ wr.heap.size 0 _ _ _ hn0
                have cx1 := cell_of_row _ wr.heap.size 1 _ _ _ hn0
                have cx2 := cell_of_row _ wr.heap.size 2 _ _ _ hn0
                have cx3 := cell_of_row _ wr.heap.size 3 _ _ _ hn0
                simp only [List.getElem?_toArray, List.getElem?_cons_succ, List.getElem?_cons_zero] at cx0 cx1 cx2 cx3
                obtain ⟨i0, hi0, hz0, hz1, hz2⟩ := info_parts (show (Tryd.prog.info? 35).map (fun i => (i.zero, i.size, i.bytes)) = some (some (.agg #[.int .i64 0, .int .i64 0, .int .u8 0, .int .u8 0]), 4, 24) by kernel_rfl)
                have HI0 := Aside0.mk (And.intro hi0 (And.intro hz0 (And.intro hz1 hz2)))
                clear hn0 hi0 hz0 hz1 hz2
                have hW4A : w1.heap.size + 3 ≤ WA.heap.size := by
                  have h1 := HKW.out.size
                  have h2 := HKW2.out.size
                  rw [← hWA, World.size_alloc]
                  omega
                have HAPP : ∀ {ops : Array Oper} {rest : List Oper} {o : Oper} {a : Act} {Q : Exit → Act → World → Prop} (hg : o.guard = none) (s' x' : Operand) (hop : o.op = Op.call { callee := Callee.builtin Builtin.append, args := #[s', x'], argTypes := #[27, 27] })
                    (hs : a.eval s' = .slice Av out.length cv) (hx : a.eval x' = .slice (some ⟨WA.heap.size, 0, none⟩) 1 1)
                    (hK : ∀ v' w', w'.ownsRow (w1.heap.size + 3) 35 4 v' (out.length + 1) (cellsRun out ++ encRun ⟨(i : Int), (i : Int) + 1, rd l1 i, rd s i⟩) → (WA.drew.drew.alloc (.cells #[.int .i64 (i : Int), .int .i64 ((i : Int) + 1), .int .u8 (rd l1 i), .int .u8 (rd s i)] 35)).grownBy w' (Value.slice Av out.length cv).ownBlock → wpListIn (Fence.wide.inRound l) 6 Tryd.prog ops Q rest (a.put o.dst v') w'),
                    wpListIn (Fence.wide.inRound l) 6 Tryd.prog ops Q (o :: rest) a (WA.alloc (.cells #[.int .i64 (i : Int), .int .i64 ((i : Int) + 1), .int .u8 (rd l1 i), .int .u8 (rd s i)] 35)).drew.drew := by
                  intro ops rest o a Q hg s' x' hop hs hx hK
                  have hW4 := hW4A
                  exact wpListIn_append_own ((WA.alloc (.cells #[.int .i64 (i : Int), .int .i64 ((i : Int) + 1), .int .u8 (rd l1 i), .int .u8 (rd s i)] 35)).drew.drew) hg s' x' 27 hop (w1.heap.size + 3) 35 i0 _ 4 24 Tryd.underlying27 HI0.out.1 HI0.out.2.1 HI0.out.2.2.1 HI0.out.2.2.2 rfl (by decide) _ _ _ hs (HROWA.out.alloc _) ⟨WA.heap.size, 0, none⟩ 1 1 (encRun ⟨(i : Int), (i : Int) + 1, rd l1 i, rd s i⟩) hx rfl (cells4_new WA ⟨(i : Int), (i : Int) + 1, rd l1 i, rd s i⟩ 35) (by simp [encRun, Value.oneCell']) (by have := HLO.out; unfold maxLen; omega) (by have := HLO.out; omega) (by show w1.heap.size + 3 ≤ (WA.heap.push _).size; simp; omega) (fun v' w' h1 h2 _ => hK v' w' h1 h2)
                have HAP := Aside0.mk @HAPP
                have hW4 := hW4A
                have HW4 := Aside0.mk hW4
                clear HAPP hW4
                gi_wp2_with (gi_at_builtin; refine HAP.out rfl _ _ rfl rfl rfl ?_; intro v' w2 hown' hgrow; obtain ⟨g', cap', rfl⟩ := ownsRow_succ hown'; obtain ⟨hv1, hv2, hr2, hk2, hb2⟩ := appended_run (WA := WA.drew.drew) HVA.out (by decide) HROWA.out HW4.out hown' hgrow; have HV2 := Aside0.mk (And.intro hv2 (And.intro hr2 (And.intro hk2 hb2))); have hc1 := hv1.cell; have hf1 := hv1.frozen; clear hv1 hv2 hr2 hk2 hb2 hown' hgrow)
                have hnext : runUpto l1 s f (i + 1) (runsP l1 s (pre.map (·.1))) = out ++ [⟨(i : Int), (i : Int) + 1, rd l1 i, rd s i⟩] := by rw [runUpto_succ _ _ _ _ _ hfi, ← HOUT.out, HSTEP.out]
                have hcells : cellsRun (out ++ [⟨(i : Int), (i : Int) + 1, rd l1 i, rd s i⟩]) = cellsRun out ++ encRun ⟨(i : Int), (i : Int) + 1, rd l1 i, rd s i⟩ := by simp [cellsRun]
                have hbWA : Below wr.heap.size wr WA := by rw [← hWA]; exact (Below.refl _ _).alloc (Nat.le_refl _) _
                have hkWA : KeepsOthers wr WA := by rw [← hWA]; exact KeepsOthers.alloc _ _
                have hnW : w1.heap.size + 3 ≤ W.heap.size := by have := HKW.out.size; omega
                have HW64 := Aside0.mk (show wrap64 ((i : Int) + 1) = ((i + 1 : Nat) : Int) from wrap64_nat i (by have := HLIM.out; omega))
                go_roundw
                case rel => exact ⟨i + 1, congrArg (Value.int .i64) HW64.out, by omega, by omega, ⟨⟨_, HV2.out.1, by rw [hnext, hcells, List.length_append]; exact HV2.out.2.1, trivial⟩, (Kept.trans (E := WA.drew.drew) (HKW2.out.below hnW hbWA) ⟨rfl, rfl, rfl, Nat.le_refl _, fun _ _ _ => rfl⟩).trans HV2.out.2.2.2, ((HKO.out.trans hkWA).trans ((KeepsOthers.drew _).trans (KeepsOthers.drew _))).trans HV2.out.2.2.1⟩⟩
                case measure => rw [HW64.out]; simp only [intOf, Int.toNat_natCast]; omega
          · obtain rfl : i = t := by omega
            obtain ⟨hri, hkW2, hko⟩ := HI.out
            gi_wp2
            exact ⟨hko, hkW2, by rw [List.map_append, List.map_singleton, runsP_snoc]; exact hri, HKW.out.trans hkW2⟩
      case done =>
        rintro D ys W hD hys ⟨hrun, hkW⟩ hK
        obtain ⟨v, hv, hrow, _⟩ := hrun
        have hc := hv.cell
        obtain ⟨Av, cv, rfl⟩ := own_slice hrow
        gi_wp2
        refine ⟨by simp, .inl ⟨_, _, rfl, run_takeDeferred hK, ?_⟩⟩
        refine ⟨_, results_tmp2 rfl _ _ _, _, rfl, ?_, (below_of_kept hb0w hkW (by omega) (by omega)).trans (belowK_b (w := w) (Nat.le_refl _) W D _ _ (by omega) hK rfl rfl)⟩
        rw [hys] at hrow
        rw [← HS.out]
        exact ⟨fun _ _ => trivial, cellsRun _, ownsRow_mono' (ownsRow_putObj hrow (.deferred none) hK rfl) (by omega), cellsRun_reps _ _ _ _⟩
      case stop =>
        rintro D c pre W _ _ h _
        exact h.elim
    · rw [if_neg hll] at h
      simp only [Option.some.injEq, Prod.mk.injEq] at h
      obtain ⟨rfl, rfl⟩ := h
      have hbl : ((l0.length : Int) != (l1.length : Int)) = true := by simp; omega
      gi_wp2
      refine ⟨_, results_tmp2 rfl _ _ _, ?_⟩
      exact ⟨_, rfl, Kd.R_nil _ _ _ _ _, (Below.refl _ _).alloc (Nat.le_refl _) _⟩
end Go.Proofs.YtfnkpjkbgfgbkaaDoor.Pr
