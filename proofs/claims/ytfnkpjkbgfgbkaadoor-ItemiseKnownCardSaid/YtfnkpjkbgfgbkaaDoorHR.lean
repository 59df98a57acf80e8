/-
  A region that draws its order, in a round of a loop over an iterator: all but its last operations keep quiet (the fenced twin of the library's law).
-/
import Derived.StillTailTactics
import Derived.OrdersIn
import Derived.TacticsIn
import Derived.RangeFuncCalls
import Derived.Test.YtfnkpjkbgfgbkaaDoorHK
namespace Go.Proofs.YtfnkpjkbgfgbkaaDoor.Pr
open Go
set_option linter.unusedVariables false

section
variable {n l : Nat} {P : Program} {ops : Array Oper} {md : Region.Mode} {w : World}

theorem round_free (f : FuncId) : (Fence.wide.inRound l).fn f := trivial

theorem wpOpIn_of_stOp {i : Nat} {a : Act} {K : Act → Prop} {K' : Act → World → Prop} {Q' : Exit → Act → World → Prop} (hd : ∀ o, ops[i]? = some o → ∀ c, o.op ≠ .defer c)
    (h : ∀ a, K a → K' a w) (hh : stOp P ops w i K a) : wpOpIn (Fence.wide.inRound l) n P ops Q' i K' a w := by
  unfold stOp at hh
  unfold wpOpIn
  split
  · rename_i ho; simp only [ho] at hh; exact h _ hh
  · rename_i o ho
    simp only [ho] at hh
    split
    · rename_i hw
      simp only [hw, if_true] at hh
      refine ⟨fun f _ => trivial, ?_⟩
      rw [show (Fence.wide.inRound l).round = some l from rfl, Oper.semAt_some l _ _ (hd o ho)]
      unfold Oper.still at hh
      generalize (execOp a.eval o).run P w = r at *
      cases r with
      | ok nx w' =>
        cases nx <;> simp only [Oper.stillUpon] at hh <;> simp only [Oper.uponIn]
        case enter f args =>
          obtain ⟨rfl, v, hc, hn⟩ := hh
          refine ⟨fun hf => (by cases hf), ?_⟩
          exact (CallsIn.inRound l (callsIn_wide.2 hc)).mono fun e w'' ⟨he, hw⟩ => by subst he; subst hw; exact h _ hn
        all_goals (obtain ⟨rfl, h2⟩ := hh; exact h _ h2)
      | halt x w' => simp only [Oper.stillUpon] at hh
    · rename_i hw; simp only [hw] at hh; exact ⟨fun f _ => trivial, h _ hh⟩

theorem wpAnyIn_of_head {m g : Nat} {L : Array Bool → Act → Prop} {Q' : Exit → Act → World → Prop} (hd : ∀ (i : Nat) o, ops[i]? = some o → ∀ c, o.op ≠ .defer c) (hL : ∀ listed a, L listed a → wpAnyIn (Fence.wide.inRound l) n P md ops Q' g listed a w) :
    ∀ (f : Nat) (listed : Array Bool) (a : Act), wpAnyL P md ops w m L f listed a → wpAnyIn (Fence.wide.inRound l) n P md ops Q' (f + g) listed a w
  | 0, listed, a, h => by rw [Nat.zero_add]; exact hL _ _ h
  | f + 1, listed, a, h => by
    rw [show f + 1 + g = (f + g) + 1 by omega]
    exact ⟨fun h0 => absurd h0 h.1, fun i hi => wpOpIn_of_stOp (hd i) (fun a' h' => wpAnyIn_of_head hd hL f _ a' h') (h.2 i hi).2⟩

theorem wpAnyIn_of_seq {Q' : Exit → Act → World → Prop} : ∀ (q : List Oper) (k : Nat) (listed : Array Bool) (a : Act) (w : World), (∀ j, q[j]? = ops[k + j]?) →
    Region.seqB md ops q.length k listed = true → wpListIn (Fence.wide.inRound l) n P ops Q' q a w → wpAnyIn (Fence.wide.inRound l) n P md ops Q' q.length listed a w
  | [], _, _, _, _, _, hB, h => ⟨by simpa [Region.seqB] using hB, h⟩
  | o :: q, k, listed, a, w, hl, hB, h => by
    have h0 : ops[k]? = some o := by simpa using (hl 0).symm
    simp only [List.length_cons, Region.seqB, Bool.and_eq_true, decide_eq_true_eq] at hB
    refine ⟨fun h1 => (by rw [hB.1] at h1; cases h1), fun i hi => ?_⟩
    rw [hB.1] at hi
    have hik : i = k := by simpa using hi
    subst hik
    have hw : wpOpIn (Fence.wide.inRound l) n P ops Q' i (wpListIn (Fence.wide.inRound l) n P ops Q' q) a w := by unfold wpOpIn; simp only [h0]; exact h
    exact wpOpIn_mono (fun a' w' h' => wpAnyIn_of_seq q (i + 1) _ a' w' (fun j => by have := hl (j + 1); simpa [Nat.add_assoc, Nat.add_comm 1 j] using this) hB.2 h') hw

/-- No operation is a defer statement. -/
def noDefers (ops : List Oper) : Bool := ops.all fun o => match o.op with | .defer _ => false | _ => true
theorem noDefers_spec {q : List Oper} (h : noDefers q = true) (i : Nat) (o : Oper) (ho : q.toArray[i]? = some o) (c : Call) : o.op ≠ .defer c := fun e => by
  have hm : o ∈ q := List.mem_of_getElem? (by simpa using ho)
  have := List.all_eq_true.1 h o hm
  rw [e] at this
  cases this

theorem wpIn_region_still_tail {id : Nat} {Q : Exit → Act → World → Prop} {a : Act} {w : World} {q : List Oper} (m : Nat) (hm : P.follows .mixedOrders = true) (hnd : noDefers q = true) (hB : Region.lexTailB .any q.toArray m = true)
    (h : wpStill P q.toArray w.drew (fun a' => wpListIn (Fence.wide.inRound l) n P q.toArray Q (q.drop m) a' w.drew) (q.take m) a) : (Code.region id q.toArray true).wpIn (Fence.wide.inRound l) n P Q a w := by
  simp only [Region.lexTailB, Bool.and_eq_true, decide_eq_true_eq] at hB
  obtain ⟨⟨⟨⟨hsel, hn⟩, hs⟩, hc⟩, hlex⟩ := hB
  have hn' : m < q.length := by simpa using hn
  have htl : (q.take m).length = m := by simp; omega
  have hdl : (q.drop m).length = q.toArray.size - m := by simp
  have inv0 : HeadInv .any q.toArray m (Array.replicate q.toArray.size false) :=
    ⟨by simp, fun j oj _ hl => (by rw [getD_replicate_false] at hl; cases hl), fun t _ ht => getD_in (by simpa using ht) (getD_replicate_false _ _)⟩
  have H := wpAnyL_lex (md := .any) (g := q.toArray.size - m) hsel hs hc hn (q.take m) 0 _ a (fun j hj => by
    have hj' : j < m := by rw [htl] at hj; exact hj
    simp [hj']) (by simpa using htl) inv0 (by rw [htl]; exact hlex) h
  refine wpIn_region_any hm ?_
  have := wpAnyIn_of_head (n := n) (l := l) (Q' := Q) (g := q.toArray.size - m) (noDefers_spec hnd) (fun listed a' hL => by
    have := wpAnyIn_of_seq (n := n) (l := l) (md := .any) (Q' := Q) (q.drop m) m listed a' w.drew (fun j => by simp [List.getElem?_drop]) (by rw [hdl]; exact hL.1) hL.2
    rwa [hdl] at this) _ _ _ H
  rw [htl, show m + (q.toArray.size - m) = q.toArray.size by omega] at this
  exact this
end
end Go.Proofs.YtfnkpjkbgfgbkaaDoor.Pr
