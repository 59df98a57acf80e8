/-
  Steps of a walk that stand in many texts of this claim, each under a short name.
-/
import Derived.Test.YtfnkpjkbgfgbkaaDoorPr0
namespace Go.Proofs.YtfnkpjkbgfgbkaaDoor.Pr
open Go.RowKit Go.Proofs.YtfnkpjkbgfgbkaaDoorW.PrintWords Go.Proofs.YtfnkpjkbgfgbkaaDoorW.PrintLast Go.Proofs.YtfnkpjkbgfgbkaaDoorW.PrintMore
attribute [local go_sem] max2_int min2_int max_two min_two max_three min_three max_four min_four
set_option linter.unusedVariables false
set_option linter.unusedSimpArgs false


/-- Marks, by a number's bits. -/
def bA (n m : Nat) : Array Bool := ((List.range n).map fun i => m.testBit i).toArray
theorem pV {P : Program} {ops : Array Oper} {Q : Exit → Act → World → Prop} {md : Region.Mode} {S : World → Prop} {ds : List Nat} {T : Bool × List (List Nat × List Nat)} {oi : Oper} {fuel n m : Nat} {a : Act} {w : World} (i N m' : Nat) (v : Value)
    (hT : rtab md ops = T) (hc : anyT T (bA n m).toList (bA n m').toList i = true) (hi : ops[i]? = some oi) (hN : oi.dst = some N) (hQ : ∀ c a w, Q (.panic c) (a.put oi.dst v) w → Q (.panic c) a w) (hy : Yields P ops oi v a) (a' : Act) (ha : a.put (some N) v = a')
    (h : wpAnyLast P md ops Q S ds fuel (bA n m') a' w) : wpAnyLast P md ops Q S ds (fuel + 1) (bA n m) a w := pure_ (i := i) (N := some N) (bA n m') hi hN (any_of hT hc) hQ hy ha h
theorem pX {P : Program} {ops : Array Oper} {Q : Exit → Act → World → Prop} {md : Region.Mode} {S : World → Prop} {ds : List Nat} {T : Bool × List (List Nat × List Nat)} {oi : Oper} {fuel n m : Nat} {a : Act} {w : World} {v : Value} {a' : Act} (i N m' : Nat)
    (hT : rtab md ops = T) (h : wpAnyLast P md ops Q S ds fuel (bA n m') a' w) (hc : anyT T (bA n m).toList (bA n m').toList i = true := by kernel_rfl) (hi : ops[i]? = some oi := by rfl) (hN : oi.dst = some N := by rfl) (hQ : ∀ c a w, Q (.panic c) (a.put oi.dst v) w → Q (.panic c) a w := by exact fun _ _ _ h => h)
    (hg : Region.wanted oi (yielded ops a.tmps) = true := by rfl) (hy : ∀ w, (execOp a.eval oi).run P w = .ok (.value v) w := by (intro w'; go_simp; with_reducible rfl)) (ha : a.put (some N) v = a' := by (simp only [Act.put, List.setIfInBounds_toArray, List.set_cons_zero, List.set_cons_succ, i64_w, i32_w]; rfl)) :
    wpAnyLast P md ops Q S ds (fuel + 1) (bA n m) a w := pV i N m' v hT hc hi hN hQ (.inl ⟨hg, hy⟩) a' ha h
theorem pU {P : Program} {ops : Array Oper} {Q : Exit → Act → World → Prop} {md : Region.Mode} {S : World → Prop} {ds : List Nat} {T : Bool × List (List Nat × List Nat)} {oi : Oper} {fuel n m : Nat} {a : Act} {w : World} {a' : Act} (i N m' : Nat)
    (hT : rtab md ops = T) (h : wpAnyLast P md ops Q S ds fuel (bA n m') a' w) (hc : anyT T (bA n m).toList (bA n m').toList i = true := by kernel_rfl) (hi : ops[i]? = some oi := by rfl) (hN : oi.dst = some N := by rfl) (hQ : ∀ c a w, Q (.panic c) (a.put oi.dst undef) w → Q (.panic c) a w := by exact fun _ _ _ h => h)
    (hg : Region.wanted oi (yielded ops a.tmps) = false := by rfl) (ha : a.put (some N) undef = a' := by (simp only [Act.put, List.setIfInBounds_toArray, List.set_cons_zero, List.set_cons_succ, i64_w, i32_w]; rfl)) :
    wpAnyLast P md ops Q S ds (fuel + 1) (bA n m) a w := pV i N m' undef hT hc hi hN hQ (.inr ⟨hg, rfl⟩) a' ha h
theorem pT {P : Program} {ops : Array Oper} {Q : Exit → Act → World → Prop} {md : Region.Mode} {S : World → Prop} {ds : List Nat} {T : Bool × List (List Nat × List Nat)} {B : List Nat} {oi : Oper} {fuel n m : Nat} {a : Act} {w : World} {v : Value} {a' : Act} (i N m' : Nat)
    (hT : rtab md ops = T) (hB : waitsOk T.2 B = true) (hS : S w) (h : wpAnyLast P md ops Q S ds fuel (bA n m') a' w) (hc : takeW T B ds (bA n m).toList (bA n m').toList i = true := by kernel_rfl) (hi : ops[i]? = some oi := by rfl) (hN : oi.dst = some N := by rfl) (hQ : ∀ c a w, Q (.panic c) (a.put oi.dst v) w → Q (.panic c) a w := by exact fun _ _ _ h => h)
    (hg : Region.wanted oi (yielded ops a.tmps) = true := by rfl) (hy : ∀ w, S w → (execOp a.eval oi).run P w = .ok (.value v) w := by (intro w' h_; (repeat (obtain ⟨s_, h_⟩ := h_)); go_simp; with_reducible rfl)) (ha : a.put (some N) v = a' := by (simp only [Act.put, List.setIfInBounds_toArray, List.set_cons_zero, List.set_cons_succ, i64_w, i32_w]; rfl)) :
    wpAnyLast P md ops Q S ds (fuel + 1) (bA n m) a w := take_ (i := i) (N := some N) (bA n m') hi hN (take_ofW hT hB hc) hQ (Or.inl ⟨hg, hy⟩) hS ha h

theorem bq {n : Nat} {w w2 : World} (e : Below n w w2 := by repeat (first | (with_reducible first | exact Aside0.out (by assumption) | apply below_alloc | apply pw_below_drewN | apply below_drew1) | exact Aside0.out (by assumption))) : Below n w w2 := e
theorem as_ {p : Prop} (e : p := by first | (with_reducible assumption) | assumption) : p := e
theorem rq {p : Prop} (e : p := by first | rfl | (simp; done) | (simp [*]; done)) : p := e
theorem mq {p : Prop} (e : p := by ((try simp only [List.map_toArray, List.map_cons, List.map_nil]); first | done | rfl | (simp only [List.length_drop, List.length_take]; rfl))) : p := e
theorem kr {p q : Prop} (h : Aside0 p) (e : p → q := by (intro h_; (with_reducible repeat (first | apply Kd.R_alloc | apply Kd.R_drewN | apply Kd.R_drew)); exact h_)) : q := e h.out


end Go.Proofs.YtfnkpjkbgfgbkaaDoor.Pr
