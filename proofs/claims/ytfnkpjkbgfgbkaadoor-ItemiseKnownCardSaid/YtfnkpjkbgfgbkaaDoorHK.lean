/-
  Lemmas of my own for walks: a stretch of operations that touch no memory is run by the kernel at once; an operation by its own run.
-/
import Derived.WalkKit
import Derived.KernelRfl
import Derived.Deep.WholeRow
import Derived.Below
namespace Go.Proofs.YtfnkpjkbgfgbkaaDoor.HK
open Go Go.RowKit

/-- The value of a run that asks nothing of the world. -/
def pureRun {α : Type} (P : Program) : Sem α → Option α
  | .pure a => some a
  | .program k => pureRun P (k P)
  | _ => none

theorem run_of_pureRun {α : Type} {P : Program} : ∀ {s : Sem α} {v : α}, pureRun P s = some v → ∀ w, s.run P w = .ok v w
  | .pure a, v, h, w => by simp only [pureRun, Option.some.injEq] at h; subst h; rfl
  | .program k, v, h, w => by
    have := run_of_pureRun (s := k P) (v := v) h w
    simpa [Sem.run] using this
  | .load .., _, h, _ | .store .., _, h, _ | .new .., _, h, _ | .shape .., _, h, _ | .freeze .., _, h, _ | .frozen .., _, h, _ | .getObj .., _, h, _ | .setObj .., _, h, _ | .choose .., _, h, _ | .sys .., _, h, _ | .mark .., _, h, _ | .halt .., _, h, _ => by simp [pureRun] at h

/-- Operations without a guard that touch no memory, one behind the other. -/
def prefixRun (P : Program) : List Oper → Act → Option Act
  | [], a => some a
  | o :: l, a =>
    match o.guard with
    | some _ => none
    | none =>
      match pureRun P (execOp a.eval o) with
      | some (.value v) => prefixRun P l (a.put o.dst v)
      | _ => none

section
variable {P : Program} {ops : Array Oper} {Q : Exit → Act → World → Prop} {a a' : Act} {w w' : World} {rest : List Oper} {o : Oper}

theorem wpList_val (hg : o.guard = none) {v : Value} (h : (execOp a.eval o).run P w = .ok (.value v) w') (k : wpList P ops Q rest (a.put o.dst v) w') : wpList P ops Q (o :: rest) a w :=
  wpList_plain hg fun K hK => by
    unfold Oper.wp
    rw [h]
    exact hK _ _ k

theorem wpList_done (hg : o.guard = none) (h : (execOp a.eval o).run P w = .ok .skip w') (k : wpList P ops Q rest (a.put o.dst undef) w') : wpList P ops Q (o :: rest) a w :=
  wpList_plain hg fun K hK => by
    unfold Oper.wp
    rw [h]
    exact hK _ _ k

/-- A call of a function of the program, by its contract. -/
theorem wpList_call (hg : o.guard = none) {f : FuncId} {args : Array Value} (h : (execOp a.eval o).run P w = .ok (.enter f args) w')
    (k : Calls P f args w' fun e w2 => ∃ v, e = .returned v ∧ wpList P ops Q rest (a.put o.dst v) w2) : wpList P ops Q (o :: rest) a w :=
  wpList_plain hg fun K hK => by
    unfold Oper.wp
    rw [h, Oper.upon_enter]
    refine k.mono ?_
    rintro e w2 ⟨v, rfl, hw⟩
    exact hK _ _ hw

theorem wpList_prefix : ∀ (l : List Oper) (a : Act), prefixRun P l a = some a' → wpList P ops Q rest a' w → wpList P ops Q (l ++ rest) a w
  | [], a, h, k => by
    simp only [prefixRun, Option.some.injEq] at h
    subst h
    exact k
  | o :: l, a, h, k => by
    simp only [prefixRun] at h
    split at h
    · cases h
    · rename_i hg
      split at h
      · rename_i v hv
        exact wpList_val hg (run_of_pureRun hv w) (wpList_prefix l _ h k)
      · cases h

/-- The first n operations at once. -/
theorem wpList_first (n : Nat) {l : List Oper} (h : prefixRun P (l.take n) a = some a') (k : wpList P ops Q (l.drop n) a' w) : wpList P ops Q l a w := by
  have := wpList_prefix (rest := l.drop n) _ _ h k
  rwa [List.take_append_drop] at this
end

end Go.Proofs.YtfnkpjkbgfgbkaaDoor.HK
