/-
  What itemise's part comes to, as plain functions; and what its walk keeps of memory.
-/
import Derived.Test.YtfnkpjkbgfgbkaaDoorHP
import Derived.Test.YtfnkpjkbgfgbkaaDoorH4
import Derived.Test.YtfnkpjkbgfgbkaaDoorH2
namespace Go.Proofs.YtfnkpjkbgfgbkaaDoor.Pr
open Go.RowKit HK Go.Proofs.YtfnkpjkbgfgbkaaDoorW.PrintWords Go.Proofs.YtfnkpjkbgfgbkaaDoorW.PrintLast Go.Proofs.YtfnkpjkbgfgbkaaDoorW.PrintMore
set_option linter.unusedVariables false

/-- A part at work: the script by now, the open brackets (what closes them, where they stand), the scripts told. -/
structure PS where
  now : Int
  st : List (Int × Nat)
  outs : List Int

def lastAt (st : List (Int × Nat)) (c : Int) : Nat → Option Nat
  | 0 => none
  | k + 1 => if (st.getD k (0, 0)).1 = c then some k else lastAt st c k

/-- Behind a character's own script. -/
def pnow (s : PS) (r : Int) : Int := if 1 < scr r then scr r else s.now
def pstep (s : PS) (r : Int) : PS :=
  if (brk bracketsT r).2.2 = true then
    if (brk bracketsT r).2.1 = true then
      if s.st.length < 64 then ⟨pnow s r, s.st ++ [((brk bracketsT r).1, s.outs.length)], s.outs ++ [pnow s r]⟩ else ⟨pnow s r, s.st, s.outs ++ [pnow s r]⟩
    else match lastAt s.st (brk bracketsT r).1 s.st.length with
      | some k => ⟨(s.outs ++ [pnow s r]).getD (s.st.getD k (0, 0)).2 0, s.st.take k, s.outs ++ [(s.outs ++ [pnow s r]).getD (s.st.getD k (0, 0)).2 0]⟩
      | none => ⟨pnow s r, s.st, s.outs ++ [pnow s r]⟩
  else ⟨pnow s r, s.st, s.outs ++ [pnow s r]⟩

/-- The first own script. -/
def firstScr : List Int → Int
  | [] => 0
  | r :: l => if 1 < scr r then scr r else firstScr l
def partS (l0 l : List Int) : PS := l.foldl pstep ⟨firstScr l0, [], []⟩
/-- The scripts of a part. -/
def partF (l : List Int) : List Int := (partS l l).outs

theorem partS_snoc (l0 l : List Int) (r : Int) : partS l0 (l ++ [r]) = pstep (partS l0 l) r := by simp [partS]
theorem pstep_outs (s : PS) (r : Int) : (pstep s r).outs.length = s.outs.length + 1 := by
  unfold pstep
  repeat' split
  all_goals simp
theorem foldl_outs : ∀ (l : List Int) (s : PS), (l.foldl pstep s).outs.length = s.outs.length + l.length
  | [], s => by simp
  | r :: l, s => by
    rw [List.foldl_cons, foldl_outs l, pstep_outs, List.length_cons]
    omega
theorem partS_length (l0 l : List Int) : (partS l0 l).outs.length = l.length := by
  unfold partS
  rw [foldl_outs]
  simp
theorem partF_length (l : List Int) : (partF l).length = l.length := partS_length l l

/-- The stack is short, and its places are behind. -/
def PS.ok (s : PS) : Prop := s.st.length ≤ 64 ∧ ∀ (k : Nat) (c : Int) (a : Nat), s.st[k]? = some (c, a) → a < s.outs.length
theorem lastAt_lt {st : List (Int × Nat)} {c : Int} : ∀ {n k : Nat}, lastAt st c n = some k → k < n
  | 0, k, h => by simp [lastAt] at h
  | n + 1, k, h => by
    unfold lastAt at h
    split at h
    · simp only [Option.some.injEq] at h
      omega
    · have := lastAt_lt h
      omega
theorem pstep_ok (s : PS) (r : Int) (h : s.ok) : (pstep s r).ok := by
  obtain ⟨h1, h2⟩ := h
  have h3 : ∀ v : Int, ∀ (k : Nat) (c : Int) (a : Nat), s.st[k]? = some (c, a) → a < (s.outs ++ [v]).length := fun v k c a hk => by
    have := h2 k c a hk
    simp only [List.length_append, List.length_singleton]
    omega
  unfold pstep
  split
  · split
    · split
      · refine ⟨by simp only [List.length_append, List.length_singleton]; omega, fun k c a hk => ?_⟩
        rcases Nat.lt_or_ge k s.st.length with hl | hl
        · exact h3 _ k c a (by rwa [List.getElem?_append_left hl] at hk)
        · rw [List.getElem?_append_right hl] at hk
          rcases Nat.eq_zero_or_pos (k - s.st.length) with h0 | h0
          · rw [h0] at hk
            simp only [List.getElem?_cons_zero, Option.some.injEq, Prod.mk.injEq] at hk
            obtain ⟨_, rfl⟩ := hk
            simp
          · rw [List.getElem?_eq_none (by simp; omega)] at hk
            cases hk
      · exact ⟨h1, fun k c a hk => h3 _ k c a hk⟩
    · split
      · rename_i k hk
        refine ⟨by simp only [List.length_take]; omega, fun j c a hj => ?_⟩
        rw [List.getElem?_take] at hj
        split at hj
        · exact h3 _ j c a hj
        · cases hj
      · exact ⟨h1, fun k c a hk => h3 _ k c a hk⟩
  · exact ⟨h1, fun k c a hk => h3 _ k c a hk⟩
theorem foldl_ok : ∀ (l : List Int) (s : PS), s.ok → (l.foldl pstep s).ok
  | [], s, h => h
  | r :: l, s, h => foldl_ok l _ (pstep_ok s r h)
theorem partS_ok (l0 l : List Int) : (partS l0 l).ok := foldl_ok l _ ⟨by simp, fun k c a h => by simp at h⟩

/-- What lies apart from one block is as it was. -/
structure Rest (B : Nat) (w w' : World) : Prop where
  os : w'.os = w.os
  tape : w'.tape = w.tape
  output : w'.output = w.output
  size : w.heap.size ≤ w'.heap.size
  block : ∀ k, k < w.heap.size → k ≠ B → w'.heap[k]? = w.heap[k]?
theorem Rest.refl (B : Nat) (w : World) : Rest B w w := ⟨rfl, rfl, rfl, Nat.le_refl _, fun _ _ _ => rfl⟩
theorem Rest.below {B : Nat} {w w1 w2 : World} (h : Rest B w w1) (k : Below w1.heap.size w1 w2) : Rest B w w2 :=
  ⟨k.os.trans h.os, k.tape.trans h.tape, k.output.trans h.output, Nat.le_trans h.size k.size, fun i hi hne => (k.block i (Nat.lt_of_lt_of_le hi h.size)).trans (h.block i hi hne)⟩
theorem Rest.set {B : Nat} {w w1 : World} (h : Rest B w w1) {p : Addr} (hp : p.block = B ∨ w.heap.size ≤ p.block) (v : Value) : Rest B w (w1.setCell p v) :=
  ⟨h.os, h.tape, h.output, by simpa [World.setCell] using h.size, fun i hi hne => (Below.heap_setCell w1 p v i (by rcases hp with hp | hp <;> omega)).trans (h.block i hi hne)⟩

/-- The memory of a part at work: the row that is told, the stack, all else. -/
structure PInv (w : World) (B S off : Nat) (xs : List Int) (s : PS) (wr : World) : Prop where
  rest : Rest B w wr
  hS : w.heap.size ≤ S
  row : wr.heap[B]? = some (.cells (nums .u8 (xs.take off ++ s.outs ++ xs.drop (off + s.outs.length))).toArray 5 (0, 0))
  stack : ∃ cs : Array Value, wr.heap[S]? = some (.cells cs 75 (0, 0)) ∧ cs.size = 128 ∧ ∀ (k : Nat) (c : Int) (a : Nat), s.st[k]? = some (c, a) → cs[k * 2]? = some (.int .i32 c) ∧ cs[k * 2 + 1]? = some (.int .i64 (a : Int))

theorem heap_lt {w : World} {k : Nat} {o : Obj} (h : w.heap[k]? = some o) : k < w.heap.size := (Array.getElem?_eq_some_iff.1 h).1

theorem PInv.below {w : World} {B S off : Nat} {xs : List Int} {s : PS} {w1 w2 : World} (h : PInv w B S off xs s w1) (k : Below w1.heap.size w1 w2) : PInv w B S off xs s w2 := by
  obtain ⟨cs, h1, h2, h3⟩ := h.stack
  exact ⟨h.rest.below k, h.hS, (k.block _ (heap_lt h.row)).trans h.row, cs, (k.block _ (heap_lt h1)).trans h1, h2, h3⟩

theorem row_cell {w : World} {B t : Nat} {ys : List Int} (h : w.heap[B]? = some (.cells (nums .u8 ys).toArray t (0, 0))) {j : Nat} (hj : j < ys.length) : w.cell? ⟨B, j, none⟩ = some (.int .u8 (ys.getD j 0)) := by
  rw [cell_of_row w B j _ _ _ h]
  simp [nums, hj]
theorem row_set {w : World} {B t : Nat} {ys : List Int} (h : w.heap[B]? = some (.cells (nums .u8 ys).toArray t (0, 0))) {j : Nat} (v : Int) : (w.setCell ⟨B, j, none⟩ (.int .u8 v)).heap[B]? = some (.cells (nums .u8 (ys.set j v)).toArray t (0, 0)) := by
  rw [heap_setCell_same w B j _ t _ h]
  simp [nums, List.map_set]

/-- The row's element that is next to be told. -/
theorem splice_set {xs outs : List Int} {off : Nat} (hoff : off + outs.length < xs.length) (v : Int) :
    (xs.take off ++ outs ++ xs.drop (off + outs.length)).set (off + outs.length) v = xs.take off ++ (outs ++ [v]) ++ xs.drop (off + (outs ++ [v]).length) := by
  have h1 : (xs.take off ++ outs).length = off + outs.length := by simp; omega
  rw [List.set_append_right _ _ (by omega), h1, Nat.sub_self, List.drop_eq_getElem_cons hoff]
  simp [List.append_assoc, Nat.add_assoc]
theorem splice_set2 {xs outs : List Int} {off : Nat} (u v : Int) (hoff : off ≤ xs.length) :
    (xs.take off ++ (outs ++ [u]) ++ xs.drop (off + (outs ++ [u]).length)).set (off + outs.length) v = xs.take off ++ (outs ++ [v]) ++ xs.drop (off + (outs ++ [v]).length) := by
  have h1 : (xs.take off).length = off := by simp; omega
  rw [List.append_assoc, List.set_append_right _ _ (by omega), h1]
  simp [List.append_assoc]
theorem splice_get {xs outs : List Int} {off j : Nat} (hoff : off ≤ xs.length) (hj : j < outs.length) : (xs.take off ++ outs ++ xs.drop (off + outs.length)).getD (off + j) 0 = outs.getD j 0 := by
  have h1 : (xs.take off).length = off := by simp; omega
  rw [List.append_assoc, List.getD_eq_getElem?_getD, List.getElem?_append_right (by omega), h1, List.getElem?_append_left (by omega), List.getD_eq_getElem?_getD]
  congr 2
  omega
theorem splice_length {xs outs : List Int} {off : Nat} (hoff : off + outs.length ≤ xs.length) : (xs.take off ++ outs ++ xs.drop (off + outs.length)).length = xs.length := by
  simp
  omega
end Go.Proofs.YtfnkpjkbgfgbkaaDoor.Pr
