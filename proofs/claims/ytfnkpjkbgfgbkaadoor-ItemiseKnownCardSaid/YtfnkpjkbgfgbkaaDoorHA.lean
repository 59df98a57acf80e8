/-
  A region that draws its order, in a round: operations that tell fixed values, of which one allocates, and a last one that waits for all.
-/
import Derived.Great.Frames
import Derived.Test.YtfnkpjkbgfgbkaaDoorHR
namespace Go.Proofs.YtfnkpjkbgfgbkaaDoor.Pr
open Go
set_option linter.unusedVariables false

/-- The slots of the operations that are listed hold their values. -/
def actFrom : Nat → List (Tmp × Value) → Array Bool → Act → Act
  | _, [], _, a => a
  | j, x :: r, L, a => actFrom (j + 1) r L (if L.getD j false = true then a.put (some x.1) x.2 else a)

theorem actFrom_put (s : Tmp) (u : Value) : ∀ (T : List (Tmp × Value)) (j : Nat) (L : Array Bool) (a : Act), (∀ x ∈ T, x.1 ≠ s) → actFrom j T L (a.put (some s) u) = (actFrom j T L a).put (some s) u
  | [], _, _, _, _ => rfl
  | x :: r, j, L, a, h => by
    simp only [actFrom]
    split
    · rw [Act.put_comm a u x.2 (fun d hd e => h x (by simp) (by cases hd; injection e))]
      exact actFrom_put s u r _ L _ (fun y hy => h y (by simp [hy]))
    · exact actFrom_put s u r _ L _ (fun y hy => h y (by simp [hy]))

theorem getD_set_self {L : Array Bool} {i : Nat} (h : i < L.size) : (L.setIfInBounds i true).getD i false = true := by simp [h]
theorem getD_set_other {L : Array Bool} {i j : Nat} (h : i ≠ j) (d : Bool) : (L.setIfInBounds i true).getD j d = L.getD j d := by
  simp only [Array.getD_eq_getD_getElem?]
  rw [Array.getElem?_setIfInBounds_ne h]

theorem actFrom_set : ∀ (T : List (Tmp × Value)) (j i : Nat) (L : Array Bool) (a : Act) (t : Tmp) (v : Value), T[i]? = some (t, v) → (T.map (·.1)).Nodup → L.getD (j + i) false = false → j + i < L.size →
    (actFrom j T L a).put (some t) v = actFrom j T (L.setIfInBounds (j + i) true) a
  | [], _, _, _, _, _, _, h, _, _, _ => by simp at h
  | x :: r, j, 0, L, a, t, v, h, hn, hf, hs => by
    simp only [List.getElem?_cons_zero, Option.some.injEq] at h
    subst h
    simp only [List.map_cons, List.nodup_cons] at hn
    simp only [Nat.add_zero] at hf hs ⊢
    simp only [actFrom]
    rw [if_neg (by rw [hf]; decide), if_pos (getD_set_self hs), ← actFrom_put t v r (j + 1) L a (fun y hy e => hn.1 (List.mem_map.2 ⟨y, hy, e⟩))]
    exact actFrom_far r (j + 1) j L _ (by omega)
  | x :: r, j, i + 1, L, a, t, v, h, hn, hf, hs => by
    simp only [List.map_cons, List.nodup_cons] at hn
    simp only [actFrom]
    rw [getD_set_other (by omega)]
    rw [show j + (i + 1) = (j + 1) + i by omega] at hf hs ⊢
    exact actFrom_set r (j + 1) i L _ t v (by simpa using h) hn.2 hf hs
where
  actFrom_far : ∀ (T : List (Tmp × Value)) (j k : Nat) (L : Array Bool) (a : Act), k < j → actFrom j T L a = actFrom j T (L.setIfInBounds k true) a
    | [], _, _, _, _, _ => rfl
    | x :: r, j, k, L, a, h => by
      simp only [actFrom]
      rw [getD_set_other (by omega)]
      exact actFrom_far r (j + 1) k L _ (by omega)

theorem actFrom_size : ∀ (T : List (Tmp × Value)) (j : Nat) (L : Array Bool) (a : Act), (actFrom j T L a).tmps.size = a.tmps.size
  | [], _, _, _ => rfl
  | x :: r, j, L, a => by
    simp only [actFrom]
    rw [actFrom_size r]
    split
    · simp [Act.put]
    · rfl

/-- A listed operation's slot is read. -/
theorem actFrom_eval : ∀ (T : List (Tmp × Value)) (j i : Nat) (L : Array Bool) (a : Act) (t : Tmp) (v : Value), T[i]? = some (t, v) → (T.map (·.1)).Nodup → L.getD (j + i) false = true → t < a.tmps.size →
    (actFrom j T L a).eval (.tmp t) = v
  | [], _, _, _, _, _, _, h, _, _, _ => by simp at h
  | x :: r, j, 0, L, a, t, v, h, hn, hf, hs => by
    simp only [List.getElem?_cons_zero, Option.some.injEq] at h
    subst h
    simp only [List.map_cons, List.nodup_cons] at hn
    simp only [Nat.add_zero] at hf
    simp only [actFrom]
    rw [if_pos hf, actFrom_put t v r (j + 1) L a (fun y hy e => hn.1 (List.mem_map.2 ⟨y, hy, e⟩))]
    exact Act.eval_put_same _ _ _ (by rw [actFrom_size]; exact hs)
  | x :: r, j, i + 1, L, a, t, v, h, hn, hf, hs => by
    simp only [List.map_cons, List.nodup_cons] at hn
    simp only [actFrom]
    refine actFrom_eval r (j + 1) i L _ t v (by simpa using h) hn.2 (by rw [show j + 1 + i = j + (i + 1) by omega]; exact hf) ?_
    split
    · simpa [Act.put] using hs
    · exact hs
/-- Another slot is as it was. -/
theorem actFrom_old : ∀ (T : List (Tmp × Value)) (j : Nat) (L : Array Bool) (a : Act) (t : Tmp), (∀ x ∈ T, x.1 ≠ t) → (actFrom j T L a).eval (.tmp t) = a.eval (.tmp t)
  | [], _, _, _, _, _ => rfl
  | x :: r, j, L, a, t, h => by
    simp only [actFrom]
    rw [actFrom_old r (j + 1) L _ t (fun y hy => h y (by simp [hy]))]
    split
    · exact Act.eval_put_ne _ _ _ _ (h x (by simp))
    · rfl
theorem actFrom_all : ∀ (T : List (Tmp × Value)) (j : Nat) (L : Array Bool) (a : Act), (∀ i, i < T.length → L.getD (j + i) false = true) → actFrom j T L a = T.foldl (fun b x => b.put (some x.1) x.2) a
  | [], _, _, _, _ => rfl
  | x :: r, j, L, a, h => by
    simp only [actFrom, List.foldl_cons]
    rw [if_pos (by simpa using h 0 (by simp))]
    exact actFrom_all r (j + 1) L _ (fun i hi => by rw [show j + 1 + i = j + (i + 1) by omega]; exact h (i + 1) (by simpa using hi))

/-- How many are not listed. -/
def unlisted (N : Nat) (L : Array Bool) : Nat := (List.range N).countP fun j => !L.getD j false
theorem countP_lt {α : Type} {p q : α → Bool} : ∀ {l : List α} {x : α}, (∀ y ∈ l, q y = true → p y = true) → x ∈ l → p x = true → q x = false → l.countP q < l.countP p
  | [], _, _, hx, _, _ => by cases hx
  | y :: l, x, h, hx, hp, hq => by
    have hle : l.countP q ≤ l.countP p := List.countP_mono_left fun z hz => h z (by simp [hz])
    simp only [List.countP_cons]
    rcases List.mem_cons.1 hx with rfl | hx
    · rw [hp, hq]
      simp
      omega
    · have := countP_lt (fun z hz => h z (by simp [hz])) hx hp hq
      have := h y (by simp)
      split <;> split <;> simp_all <;> omega
theorem unlisted_set {N : Nat} {L : Array Bool} {i : Nat} (hi : i < N) (hs : N ≤ L.size) (hf : L.getD i false = false) : unlisted N (L.setIfInBounds i true) < unlisted N L := by
  refine countP_lt (x := i) (fun y hy hq => ?_) (List.mem_range.2 hi) (by rw [hf]; rfl) (by rw [getD_set_self (by omega)]; rfl)
  by_cases h : i = y
  · subst h
    rw [hf]
    rfl
  · rwa [getD_set_other h] at hq

section
variable {n l : Nat} {P : Program} {ops : Array Oper} {Q : Exit → Act → World → Prop} {T : List (Tmp × Value)} {kA : Nat} {w0 w1 : World}

/-- Dependences point back. -/
def depsBack (ops : Array Oper) : Bool := (List.range ops.size).all fun j => match ops[j]? with | some o => o.after.all (fun e => decide (e.on < j)) | none => true
theorem depsBack_spec (h : depsBack ops = true) {j : Nat} {o : Oper} (ho : ops[j]? = some o) : ∀ e ∈ o.after, e.on < j := fun e he => by
  have hj := (Array.getElem?_eq_some_iff.1 ho).1
  have := List.all_eq_true.1 h j (List.mem_range.2 hj)
  simp only [ho] at this
  exact of_decide_eq_true (Array.all_eq_true'.1 this e he)

theorem least {p : Nat → Prop} (h : ∃ j, p j) : ∃ j, p j ∧ ∀ i, i < j → ¬ p i := by
  obtain ⟨j, hj⟩ := h
  induction j using Nat.strongRecOn with
  | _ j ih =>
    by_cases hc : ∃ i, i < j ∧ p i
    · obtain ⟨i, hi, hp⟩ := hc
      exact ih i hi hp
    · exact ⟨j, hj, fun i hi hp => hc ⟨i, hi, hp⟩⟩

theorem wpAnyIn_values (hN : ops.size = T.length + 1) (hT : (T.map (·.1)).Nodup) (hdst : ∀ j o, j < T.length → ops[j]? = some o → o.dst = (T[j]?).map (·.1)) (hg : ∀ (j : Nat) o, ops[j]? = some o → o.guard = none)
    (hnd : ∀ (i : Nat) o, ops[i]? = some o → ∀ c, o.op ≠ .defer c) (hb : depsBack ops = true) (hsink : Region.sinkB .any ops T.length = true) (a : Act)
    (hstep : ∀ j o (A : Act) (w : World), j < T.length → ops[j]? = some o → (∀ t, (∀ x ∈ T, x.1 ≠ t) → A.eval (.tmp t) = a.eval (.tmp t)) → (∀ e ∈ o.after, Region.binds .any e = true → ∀ t v, T[e.on]? = some (t, v) → t < a.tmps.size → A.eval (.tmp t) = v) →
      (j = kA → w = w0) → (w = w0 ∨ w = w1) → (execOp A.eval o).run P w = .ok (.value ((T.getD j (0, undef)).2)) (if j = kA then w1 else w))
    (hlast : ∀ o, ops[T.length]? = some o → wpListIn (Fence.wide.inRound l) n P ops Q [o] (T.foldl (fun b x => b.put (some x.1) x.2) a) w1) (hkA : kA < T.length) :
    ∀ (f : Nat) (L : Array Bool), L.size = ops.size → unlisted ops.size L ≤ f → (∀ (j : Nat) oj, ops[j]? = some oj → L.getD j false = true → ∀ e ∈ oj.after, Region.binds .any e = true → L.getD e.on false = true) → L.getD T.length false = false →
      wpAnyIn (Fence.wide.inRound l) n P .any ops Q f L (actFrom 0 T L a) (if L.getD kA false = true then w1 else w0) := by
  intro f
  induction f with
  | zero =>
    intro L hs hu hc hl
    exfalso
    have hm : T.length ∈ List.range ops.size := List.mem_range.2 (by omega)
    have hpos : 0 < unlisted ops.size L := List.countP_pos_iff.2 ⟨T.length, hm, by simp only [hl]; rfl⟩
    omega
  | succ f ih =>
    intro L hs hu hc hl
    have hready : ∃ j, j ∈ Region.ready .any ops L := by
      -- the least that is not listed
      have hex : ∃ j, j < ops.size ∧ L.getD j false = false := ⟨T.length, by omega, hl⟩
      obtain ⟨j, hj, hmin⟩ : ∃ j, (j < ops.size ∧ L.getD j false = false) ∧ ∀ i, i < j → ¬ (i < ops.size ∧ L.getD i false = false) := least hex
      obtain ⟨o, ho⟩ : ∃ o, ops[j]? = some o := ⟨_, Array.getElem?_eq_getElem hj.1⟩
      refine ⟨j, mem_ready.2 ⟨getD_in (by omega) hj.2, o, ho, fun e he hbind => ?_⟩⟩
      have hlt := depsBack_spec hb ho e he
      have := hmin e.on hlt
      cases hx : L.getD e.on false with
      | true => rfl
      | false => exact absurd ⟨by omega, hx⟩ this
    refine ⟨fun h0 => ?_, fun i hi => ?_⟩
    · obtain ⟨j, hj⟩ := hready
      rw [h0] at hj
      cases hj
    · obtain ⟨hun, o, ho, hall⟩ := mem_ready.1 hi
      have hif := getD_both hun
      have hilt := (Array.getElem?_eq_some_iff.1 ho).1
      unfold wpOpIn
      simp only [ho]
      rw [if_pos (by simp [Region.wanted, hg i o ho])]
      by_cases him : i = T.length
      · subst him
        have hallL : ∀ d j, T.length - j = d → j < T.length → L.getD j false = true := by
          intro d
          induction d using Nat.strongRecOn with
          | _ d ihd =>
            intro j hd hj
            have h1 := List.all_eq_true.1 hsink j (List.mem_range.2 hj)
            obtain ⟨q, hq, hq2⟩ := List.any_eq_true.1 h1
            simp only [Bool.and_eq_true, decide_eq_true_eq] at hq2
            obtain ⟨oq, hoq, e, he, hbind, hon⟩ := Region.waitsFor_spec hq2.2
            have hqle := List.mem_range.1 hq
            by_cases hqt : q = T.length
            · subst hqt
              obtain rfl : oq = o := Option.some.inj (hoq.symm.trans ho)
              rw [← hon]
              exact hall e he hbind
            · have := ihd (T.length - q) (by omega) q rfl (by omega)
              rw [← hon]
              exact hc q oq hoq this e he hbind
        have hact : actFrom 0 T L a = T.foldl (fun b x => b.put (some x.1) x.2) a := actFrom_all T 0 L a (fun i hi => by rw [Nat.zero_add]; exact hallL _ i rfl hi)
        rw [hact, if_pos (hallL _ kA rfl hkA)]
        have hL := hlast o ho
        unfold wpListIn at hL
        rw [if_pos (by simp [Region.wanted, hg _ o ho])] at hL
        refine Oper.wpIn_mono (fun a' w' h' => ?_) hL
        have hnone : Region.ready .any ops (L.setIfInBounds T.length true) = [] := by
          rw [List.eq_nil_iff_forall_not_mem]
          intro j hj
          obtain ⟨h1, oj, hoj, _⟩ := mem_ready.1 hj
          have hjl := (Array.getElem?_eq_some_iff.1 hoj).1
          have h2 := getD_both h1
          by_cases hj2 : j = T.length
          · subst hj2
            rw [getD_set_self (by omega)] at h2
            cases h2
          · rw [getD_set_other (fun e => hj2 e.symm)] at h2
            rw [hallL _ j rfl (by omega)] at h2
            cases h2
        have hq : Q .normal a' w' := h'
        cases f with
        | zero => exact ⟨hnone, hq⟩
        | succ f => exact ⟨fun _ => hq, fun j hj => by rw [hnone] at hj; cases hj⟩
      · have hiT : i < T.length := by omega
        obtain ⟨⟨t, v⟩, htv⟩ : ∃ x, T[i]? = some x := ⟨_, List.getElem?_eq_getElem hiT⟩
        have hrun := hstep i o (actFrom 0 T L a) (if L.getD kA false = true then w1 else w0) hiT ho (fun t ht => actFrom_old T 0 L a t ht)
          (fun e he hbind t v htv hsz => actFrom_eval T 0 e.on L a t v htv hT (by rw [Nat.zero_add]; exact hall e he hbind) hsz) (fun e => by subst e; rw [if_neg (by rw [hif]; decide)]) (by split <;> simp)
        have hval : (T.getD i (0, undef)).2 = v := by rw [List.getD_eq_getElem?_getD, htv]; rfl
        rw [hval] at hrun
        refine ⟨fun f _ => trivial, ?_⟩
        rw [show (Fence.wide.inRound l).round = some l from rfl, Oper.semAt_some l _ _ (hnd i o ho), hrun]
        simp only [Oper.uponIn]
        have hd := hdst i o hiT ho
        rw [htv, Option.map_some] at hd
        simp only at hd
        rw [hd]
        have hset := actFrom_set T 0 i L a t v htv hT (by rw [Nat.zero_add]; exact hif) (by omega)
        rw [Nat.zero_add] at hset
        rw [hset]
        have hih := ih (L.setIfInBounds i true) (by simpa using hs) (by have := unlisted_set (N := ops.size) hilt (by omega) hif; omega) (fun j oj hoj hj e he hbind => by
          by_cases hji : i = j
          · subst hji
            obtain rfl : oj = o := Option.some.inj (hoj.symm.trans ho)
            by_cases hje : i = e.on
            · rw [← hje, getD_set_self (by omega)]
            · rw [getD_set_other hje]; exact hall e he hbind
          · rw [getD_set_other hji] at hj
            by_cases hje : i = e.on
            · rw [← hje, getD_set_self (by omega)]
            · rw [getD_set_other hje]; exact hc j oj hoj hj e he hbind) (by rw [getD_set_other him]; exact hl)
        by_cases hik : i = kA
        · subst hik
          rw [getD_set_self (by omega), if_pos rfl] at hih
          rw [if_pos rfl]
          exact hih
        · rw [getD_set_other hik] at hih
          rw [if_neg hik]
          exact hih

theorem wpIn_region_values {id : Nat} {q : List Oper} {a : Act} {w : World} (T : List (Tmp × Value)) (kA : Nat) (w1 : World) (hm : P.follows .mixedOrders = true) (hN : q.length = T.length + 1) (hT : (T.map (·.1)).Nodup)
    (hdst : ((List.range T.length).all fun j => decide ((q[j]?).map (·.dst) = (T[j]?).map fun x => some x.1)) = true) (hg : (q.all fun o => o.guard.isNone) = true) (hnd : noDefers q = true) (hb : depsBack q.toArray = true) (hsink : Region.sinkB .any q.toArray T.length = true)
    (hstep : ∀ j o (A : Act) (w' : World), j < T.length → q[j]? = some o → (∀ t, (∀ x ∈ T, x.1 ≠ t) → A.eval (.tmp t) = a.eval (.tmp t)) → (∀ e ∈ o.after, Region.binds .any e = true → ∀ t v, T[e.on]? = some (t, v) → t < a.tmps.size → A.eval (.tmp t) = v) →
      (j = kA → w' = w.drew) → (w' = w.drew ∨ w' = w1) → (execOp A.eval o).run P w' = .ok (.value ((T.getD j (0, undef)).2)) (if j = kA then w1 else w'))
    (hlast : ∀ o, q[T.length]? = some o → wpListIn (Fence.wide.inRound l) n P q.toArray Q [o] (T.foldl (fun b x => b.put (some x.1) x.2) a) w1) (hkA : kA < T.length) :
    (Code.region id q.toArray true).wpIn (Fence.wide.inRound l) n P Q a w := by
  refine wpIn_region_any hm ?_
  have h0 : ∀ j, (Array.replicate q.toArray.size false).getD j false = false := fun j => getD_replicate_false _ _
  have hact : ∀ (T : List (Tmp × Value)) (j : Nat), actFrom j T (Array.replicate q.toArray.size false) a = a := by
    intro T
    induction T with
    | nil => intro j; rfl
    | cons x r ihr => intro j; simp only [actFrom]; rw [if_neg (by rw [h0]; decide)]; exact ihr _
  have H := wpAnyIn_values (n := n) (l := l) (P := P) (ops := q.toArray) (Q := Q) (T := T) (kA := kA) (w0 := w.drew) (w1 := w1) (by simpa using hN) hT (fun j o hj ho => by
      have := of_decide_eq_true (List.all_eq_true.1 hdst j (List.mem_range.2 hj))
      rw [show q[j]? = some o by simpa using ho, Option.map_some] at this
      rw [List.getElem?_eq_getElem hj, Option.map_some] at this ⊢
      injection this) (fun j o ho => by
      have hmm : o ∈ q := List.mem_of_getElem? (show q[j]? = some o by simpa using ho)
      have := List.all_eq_true.1 hg o hmm
      simpa using this) (noDefers_spec hnd) hb hsink a (fun j o A w' hj ho => hstep j o A w' hj (by simpa using ho)) (fun o ho => hlast o (by simpa using ho)) hkA q.toArray.size (Array.replicate q.toArray.size false) (by simp)
    (by unfold unlisted; exact Nat.le_trans (List.countP_le_length) (by simp)) (fun j oj _ hj => by rw [h0] at hj; cases hj) (h0 _)
  rw [hact, h0, if_neg (by decide)] at H
  exact H
end
end Go.Proofs.YtfnkpjkbgfgbkaaDoor.Pr
