/-
  The iterator over the parts that separators end: what it tells, for every loop body that keeps what it reads.
-/
import Derived.RangeFuncNested
import Derived.RangeFuncBound
import Derived.RangeFuncCalls
import Derived.RangeFuncLeaves
import Derived.Shelf.Abstract
import Derived.Shelf.RegionOpen
import Derived.WalkKit
import Derived.OwnWalkIn
import Derived.TacticsInMore
import Derived.LoopNIn
import Derived.LoopIn
import Derived.Test.YtfnkpjkbgfgbkaaDoorHW
namespace Go.Proofs.YtfnkpjkbgfgbkaaDoor.Pr
open Go.RowKit Go.Shelf HK Go.Proofs.YtfnkpjkbgfgbkaaDoorW.PrintWords Go.Proofs.YtfnkpjkbgfgbkaaDoorW.PrintLast Go.Proofs.YtfnkpjkbgfgbkaaDoorW.PrintMore
attribute [local go_sem] Oper.semAt_some
set_option linter.unusedVariables false

theorem ucd_Class_tot (a : Int) : ucd_Class.f a = some (ofT classesT a 1) := ucd_of_total a 1 classesT _ (by rw [show classesT.length = 146 by kernel_rfl]; decide) (by rw [show classesT.length = 146 by kernel_rfl]; decide)
/-- Does it end a part? -/
def sepB (a : Int) : Bool := ofT classesT a 1 == 11

/-- The parts of a text, from place i on, of which the open one begins at f. -/
def prts : List Int → Nat → Nat → List (Nat × Nat)
  | [], i, f => if f < i then [(f, i)] else []
  | r :: l, i, f => if sepB r = true then (f, i + 1) :: prts l (i + 1) (i + 1) else prts l (i + 1) f
abbrev Pt (n : Nat) := { p : Nat × Nat // p.1 < p.2 ∧ p.2 ≤ n }

/-- What lay below n₁ is as it was, but for one block. -/
structure Kept (n₁ B : Nat) (W W' : World) : Prop where
  os : W'.os = W.os
  tape : W'.tape = W.tape
  output : W'.output = W.output
  size : W.heap.size ≤ W'.heap.size
  block : ∀ k, k < n₁ → k ≠ B → W'.heap[k]? = W.heap[k]?
theorem Kept.refl (n₁ B : Nat) (W : World) : Kept n₁ B W W := ⟨rfl, rfl, rfl, Nat.le_refl _, fun _ _ _ => rfl⟩
theorem Kept.trans {n₁ B : Nat} {A D E : World} (h : Kept n₁ B A D) (k : Kept n₁ B D E) : Kept n₁ B A E :=
  ⟨k.os.trans h.os, k.tape.trans h.tape, k.output.trans h.output, Nat.le_trans h.size k.size, fun i hi hne => (k.block i hi hne).trans (h.block i hi hne)⟩
theorem Kept.below {n₁ B : Nat} {A D E : World} (h : Kept n₁ B A D) (hn : n₁ ≤ A.heap.size) (k : Below D.heap.size D E) : Kept n₁ B A E :=
  h.trans ⟨k.os, k.tape, k.output, k.size, fun i hi _ => k.block i (by have := h.size; omega)⟩
theorem Kept.cell {n₁ B : Nat} {A D : World} (h : Kept n₁ B A D) {p : Addr} {v : Value} (hp : p.block < n₁) (hne : p.block ≠ B) (hc : A.cell? p = some v) : D.cell? p = some v :=
  (World.cell?_of_block (h.block p.block hp hne)).trans hc
theorem Kept.putObj {n₁ B : Nat} (W : World) (l : Nat) (o : Obj) (hl : n₁ ≤ l) (hs : l < W.heap.size) : Kept n₁ B W (W.putObj l o) :=
  ⟨rfl, rfl, rfl, by simp, fun k hk _ => World.putObj_heap_other (by omega)⟩
theorem grownBy_of_below {W W' : World} (h : Below W.heap.size W W') : W.grownBy W' none := ⟨h.os, h.tape, h.output, h.size, fun k hk _ => h.block k hk⟩

theorem prts_step (zs : List Int) (i f : Nat) (hi : i < zs.length) : prts (zs.drop i) i f = if sepB (rd zs (i : Int)) = true then (f, i + 1) :: prts (zs.drop (i + 1)) (i + 1) (i + 1) else prts (zs.drop (i + 1)) (i + 1) f := by
  have hrd : rd zs (i : Int) = zs[i] := by
    unfold rd
    rw [Int.toNat_natCast, List.getD_eq_getElem?_getD, List.getElem?_eq_getElem hi, Option.getD_some]
  rw [List.drop_eq_getElem_cons hi, hrd]
  rfl

set_option maxRecDepth 100000 in
set_option maxHeartbeats 4000000 in
theorem parts1_in (n : Nat) (hn : 2 ≤ n) (l Bs n₁ B : Nat) (A : Option Addr) (c : Nat) (zs : List Int) (hlen : zs.length ≤ 4611686018427387904) (hBs : Bs < n₁) (hBsB : Bs ≠ B) (hA : 0 < zs.length → ∀ ad, A = some ad → ad.block < n₁ ∧ ad.block ≠ B) (J Jx : List (Pt zs.length) → World → Prop)
    (W : World) (hn₁ : n₁ ≤ W.heap.size) (hJ : AbidesFrom W.heap.size J)
    (hY : ∀ pre x W1, J pre W1 → pre.length < (prts zs 0 0).length → YieldAt Fence.wide (n - 1) Tryd.prog l #[.int .i64 (x.1.1 : Int), .int .i64 (x.1.2 : Int)] W1 fun e W' =>
      (e = .returned (.bool true) ∧ J (pre ++ [x]) W' ∧ Kept n₁ B W1 W') ∨ (e = .returned (.bool false) ∧ Jx (pre ++ [x]) W'))
    (hBox : W.cell? ⟨Bs, 0, none⟩ = some (.slice A zs.length c)) (hR : Kd.C (Kd.int .i32) W A zs.length zs) (h0 : J [] W) :
    CallsIn Fence.wide n Tryd.prog 55 #[.func (.yield l) #[] #[], .pointer (some ⟨Bs, 0, none⟩)] W fun e W' => (∃ v, e = .returned v) ∧
      ((∃ ys : List (Pt zs.length), ys.map (·.1) = prts zs 0 0 ∧ J ys W') ∨ (∃ pre, True ∧ Jx pre W')) := by
  refine callsIn_of_wp Tryd.func55 rfl trivial ?_ rfl
  simp only [Tryd.ntmps55, List.size_toArray, List.length_cons, List.length_nil, Nat.reduceAdd, Nat.reduceSub, Array.replicate_succ, Array.replicate_zero, List.push_toArray, List.append_toArray, List.nil_append, List.cons_append]
  gi_wp2
  gi_loopw [3, 8] (fun v3 v8 wr => ∃ (i f : Nat) (pre : List (Pt zs.length)), v8 = .int .i64 (i : Int) ∧ v3 = .int .i64 (f : Int) ∧ i ≤ zs.length ∧ f ≤ i ∧ pre.map (·.1) ++ prts (zs.drop i) i f = prts zs 0 0 ∧ J pre wr ∧ Kept n₁ B W wr)
    (fun _ v8 _ => zs.length - (intOf v8).toNat)
  case atStart => exact ⟨0, 0, [], rfl, rfl, Nat.zero_le _, Nat.le_refl _, by simp, h0, Kept.refl _ _ _⟩
  case round =>
    obtain ⟨i, f, pre, rfl, rfl, hi, hf, hp, hJs, hk⟩ := hrel
    by_cases hlt : i < zs.length
    · have p1 : 0 ≤ (i : Int) := by omega
      have q1 : (i : Int) < (zs.length : Int) := by omega
      obtain ⟨ad, rfl, hx⟩ := Kd.at_int hR (i : Int) p1 q1
      rw [Int.toNat_natCast] at hx
      obtain ⟨ha1, ha2⟩ := hA (by omega) ad rfl
      have hblk : (ad.add i).block = ad.block := by unfold Addr.add; split <;> rfl
      have hx2 : wr.cell? (ad.add i) = some (.int .i32 (rd zs i)) := hk.cell (by rw [hblk]; exact ha1) (by rw [hblk]; exact ha2) hx
      have hst := prts_step zs i f hlt
      rw [hst] at hp
      gi_wp2
      refine ⟨trivial, fun _ => by omega, ?_⟩
      refine (callsIn_wide.2 (ucd_Class.calls (rd zs i) (ofT classesT (rd zs i) 1) wr (ucd_Class_tot _))).mono ?_
      rintro e w2 ⟨rfl, hb2⟩
      have hJ2 : J pre w2 := hJ _ _ _ _ hJs (grownBy_of_below hb2) (fun r e => by cases e)
      have hk2 : Kept n₁ B W w2 := hk.below hn₁ hb2
      cases hsep : sepB (rd zs i)
      · rw [hsep, if_neg (by decide)] at hp
        have hne : (ofT classesT (rd zs i) 1 == 11) = false := hsep
        have hne2 : (ofT classesT (rd zs i) 1 != 11) = true := by rw [bne, hne]; rfl
        gi_wp2
        go_roundw
        case rel => exact ⟨i + 1, f, pre, by go_num, rfl, by omega, by omega, hp, hJ2, hk2⟩
        case measure => simp [intOf]; omega
      · rw [hsep, if_pos rfl] at hp
        have hne : (ofT classesT (rd zs i) 1 == 11) = true := hsep
        have hne2 : (ofT classesT (rd zs i) 1 != 11) = false := by rw [bne, hne]; rfl
        have hpl : pre.length < (prts zs 0 0).length := by
          rw [← hp]
          simp
        obtain ⟨fn, tmps, assign, body, hy, hRd⟩ := hY pre ⟨(f, i + 1), by omega, by omega⟩ w2 hJ2 hpl
        dsimp only at hy
        rw [show ((i + 1 : Nat) : Int) = (i : Int) + 1 by omega] at hy
        gi_wp2
        refine ⟨fun _ => by omega, hRd.mono ?_⟩
        rintro e w3 (⟨rfl, hJ3, hk3⟩ | ⟨rfl, hJx3⟩)
        · gi_wp2
          go_roundw
          case rel => exact ⟨i + 1, i + 1, pre ++ [⟨(f, i + 1), by omega, by omega⟩], by go_num, by go_num, by omega, Nat.le_refl _, by simpa using hp, hJ3, hk2.trans hk3⟩
          case measure => simp [intOf]; omega
        · gi_wp2
          refine bodyPost_ret (results_none rfl _ _ _) rfl ?_
          exact ⟨⟨_, rfl⟩, .inr ⟨_, trivial, hJx3⟩⟩
    · obtain rfl : i = zs.length := by omega
      have hbx : wr.cell? ⟨Bs, 0, none⟩ = some (.slice A zs.length c) := hk.cell hBs hBsB hBox
      rw [List.drop_length] at hp
      by_cases hfl : f < zs.length
      · have hp2 : pre.map (·.1) ++ [(f, zs.length)] = prts zs 0 0 := by rw [← hp, prts, if_pos hfl]
        have hpl : pre.length < (prts zs 0 0).length := by
          rw [← hp2]
          simp
        obtain ⟨fn, tmps, assign, body, hy, hRd⟩ := hY pre ⟨(f, zs.length), hfl, Nat.le_refl _⟩ wr hJs hpl
        dsimp only at hy
        have hfb : decide (f < zs.length) = true := decide_eq_true hfl
        gi_wp2
        refine ⟨fun _ => by omega, hRd.mono ?_⟩
        rintro e w3 (⟨rfl, hJ3, hk3⟩ | ⟨rfl, hJx3⟩)
        · gi_wp2
          go_end0
          exact ⟨⟨_, rfl⟩, .inl ⟨_, by rw [List.map_append]; exact hp2, hJ3⟩⟩
        · gi_wp2
          go_end0
          exact ⟨⟨_, rfl⟩, .inr ⟨_, trivial, hJx3⟩⟩
      · have hp2 : pre.map (·.1) = prts zs 0 0 := by rw [← hp, prts, if_neg hfl, List.append_nil]
        have hfb : decide (f < zs.length) = false := decide_eq_false hfl
        gi_wp2
        go_end0
        exact ⟨⟨_, rfl⟩, .inl ⟨_, hp2, hJs⟩⟩

set_option maxHeartbeats 1000000 in
/-- The iterator is a function that holds the text in a box. -/
theorem parts_in (n : Nat) (a : Option Addr) (len cap : Nat) (w : World) :
    CallsIn Fence.wide n Tryd.prog 30 #[.slice a len cap] w fun e w' => e = .returned (.func (.func 55) #[] #[.pointer (some ⟨w.heap.size, 0, none⟩)]) ∧ w' = w.alloc (.cells #[.slice a len cap] 22) := by
  refine callsIn_of_wp Tryd.func30 rfl trivial ?_ rfl
  simp only [Tryd.ntmps30, List.size_toArray, List.length_cons, List.length_nil, Nat.reduceAdd, Nat.reduceSub, Array.replicate_succ, Array.replicate_zero, List.push_toArray, List.append_toArray, List.nil_append, List.cons_append]
  gi_wp2
  go_ret
  exact ⟨rfl, rfl⟩

/-- What the iterator's value tells. -/
theorem parts_stops (n : Nat) (hn : 2 ≤ n) (Bs n₁ B : Nat) (A : Option Addr) (c : Nat) (zs : List Int) (hlen : zs.length ≤ 4611686018427387904) (hBs : Bs < n₁) (hBsB : Bs ≠ B) (hA : 0 < zs.length → ∀ ad, A = some ad → ad.block < n₁ ∧ ad.block ≠ B) (w : World) (hn₁ : n₁ ≤ w.heap.size)
    (hBox : w.cell? ⟨Bs, 0, none⟩ = some (.slice A zs.length c)) (hR : Kd.C (Kd.int .i32) w A zs.length zs) :
    SeqStopsK Fence.wide n Tryd.prog 55 #[.pointer (some ⟨Bs, 0, none⟩)] (fun x : Pt zs.length => #[Value.int .i64 (x.1.1 : Int), .int .i64 (x.1.2 : Int)]) (Kept n₁ B) (fun ys => ys.map (·.1) = prts zs 0 0) (fun _ => True) (prts zs 0 0).length w := fun l J Jx W hW hJ _ hY h0 =>
  parts1_in n hn l Bs n₁ B A c zs hlen hBs hBsB hA J Jx W (Nat.le_trans hn₁ hW.size) hJ hY ((hW.cell (p := ⟨Bs, 0, none⟩) (Nat.lt_of_lt_of_le hBs hn₁)).trans hBox) (Kd.C_below hR hW) h0
end Go.Proofs.YtfnkpjkbgfgbkaaDoor.Pr
