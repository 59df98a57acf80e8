/-
  Contracts of the references' two longest tables, which are made at each call.
-/
import Derived.Test.YtfnkpjkbgfgbkaaDoorPr0
import Derived.Test.YtfnkpjkbgfgbkaaDoorHK
namespace Go.Proofs.YtfnkpjkbgfgbkaaDoor.Pr
open Go.RowKit HK Go.Proofs.YtfnkpjkbgfgbkaaDoorW.PrintWords Go.Proofs.YtfnkpjkbgfgbkaaDoorW.PrintLast Go.Proofs.YtfnkpjkbgfgbkaaDoorW.PrintMore
set_option linter.unusedVariables false

/-- The operations of the n-th region of a body that is a row of regions. -/
def regionAt : Code → Nat → List Oper
  | .seq (.region _ ops _) _, 0 => ops.toList
  | .seq _ c, n + 1 => regionAt c n
  | .region _ ops _, 0 => ops.toList
  | _, _ => []
def opsAt (f : Func) (n : Nat) : List Oper := match f.body with | some c => regionAt c n | none => []
abbrev SR := S46
def encR (x : SR) : List Value := [.int .i32 x.f0, .int .i32 x.f1, .int .u8 x.f2]
def cellsR (l : List SR) : List Value := l.flatMap encR
def aggR (x : SR) : Value := .agg (encR x).toArray
theorem cellsR_take : ∀ (l : List SR) (j : Nat) (p : SR), l[j]? = some p → ((cellsR l).drop (j * 3)).take 3 = encR p
  | [], j, p, h => by simp at h
  | x :: l, 0, p, h => by
    simp only [List.getElem?_cons_zero, Option.some.injEq] at h
    subst h
    rfl
  | x :: l, j + 1, p, h => by
    have ih := cellsR_take l j p (by simpa using h)
    have hl : (encR x).length = 3 := rfl
    simp only [cellsR, List.flatMap_cons] at ih ⊢
    rw [show (j + 1) * 3 = (encR x).length + j * 3 from by rw [hl]; omega, ← List.drop_drop, List.drop_left]
    exact ih
theorem cellsR_length : ∀ l : List SR, (cellsR l).length = l.length * 3
  | [] => rfl
  | x :: l => by
    have := cellsR_length l
    simp only [cellsR, List.flatMap_cons, List.length_append, List.length_cons] at this ⊢
    rw [this]
    show 3 + _ = _
    omega
theorem cellsR_reps (W : World) (base : Nat) (ok : Nat → Prop) (l : List SR) : Reps (k46.M W base ok) k46.sz l (cellsR l) :=
  ⟨cellsR_length l, fun j p hj => by
    have := cellsR_take l j p hj
    show k46.M W base ok p (((cellsR l).drop (j * 3)).take 3)
    rw [this]
    exact k46_mkM W base ok p⟩

/-! ### Classes -/
def classesR : List SR := [
  ⟨0, 8, 10⟩, ⟨9, 9, 12⟩, ⟨10, 10, 11⟩, ⟨11, 11, 12⟩, ⟨12, 12, 13⟩, ⟨13, 13, 11⟩, ⟨14, 27, 10⟩, ⟨28, 30, 11⟩,
  ⟨31, 31, 12⟩, ⟨32, 32, 13⟩, ⟨33, 34, 14⟩, ⟨35, 37, 6⟩, ⟨38, 42, 14⟩, ⟨43, 43, 5⟩, ⟨44, 44, 8⟩, ⟨45, 45, 5⟩,
  ⟨46, 47, 8⟩, ⟨48, 57, 4⟩, ⟨58, 58, 8⟩, ⟨59, 64, 14⟩, ⟨91, 96, 14⟩, ⟨123, 126, 14⟩, ⟨127, 132, 10⟩, ⟨133, 133, 11⟩,
  ⟨134, 159, 10⟩, ⟨160, 160, 8⟩, ⟨161, 161, 14⟩, ⟨162, 165, 6⟩, ⟨166, 169, 14⟩, ⟨171, 172, 14⟩, ⟨173, 173, 10⟩, ⟨174, 175, 14⟩,
  ⟨176, 177, 6⟩, ⟨178, 179, 4⟩, ⟨180, 180, 14⟩, ⟨182, 184, 14⟩, ⟨185, 185, 4⟩, ⟨187, 191, 14⟩, ⟨215, 215, 14⟩, ⟨247, 247, 14⟩,
  ⟨768, 879, 9⟩, ⟨1155, 1161, 9⟩, ⟨1424, 1424, 2⟩, ⟨1425, 1469, 9⟩, ⟨1470, 1470, 2⟩, ⟨1471, 1471, 9⟩, ⟨1472, 1472, 2⟩, ⟨1473, 1474, 9⟩,
  ⟨1475, 1475, 2⟩, ⟨1476, 1477, 9⟩, ⟨1478, 1478, 2⟩, ⟨1479, 1479, 9⟩, ⟨1480, 1535, 2⟩, ⟨1536, 1541, 7⟩, ⟨1542, 1543, 14⟩, ⟨1544, 1544, 3⟩,
  ⟨1545, 1546, 6⟩, ⟨1547, 1547, 3⟩, ⟨1548, 1548, 8⟩, ⟨1549, 1549, 3⟩, ⟨1550, 1551, 14⟩, ⟨1552, 1562, 9⟩, ⟨1563, 1610, 3⟩, ⟨1611, 1631, 9⟩,
  ⟨1632, 1641, 7⟩, ⟨1642, 1642, 6⟩, ⟨1643, 1644, 7⟩, ⟨1645, 1647, 3⟩, ⟨1648, 1648, 9⟩, ⟨1649, 1749, 3⟩, ⟨1750, 1756, 9⟩, ⟨1757, 1757, 7⟩,
  ⟨1758, 1758, 14⟩, ⟨1759, 1764, 9⟩, ⟨1765, 1766, 3⟩, ⟨1767, 1768, 9⟩, ⟨1769, 1769, 14⟩, ⟨1770, 1773, 9⟩, ⟨1774, 1775, 3⟩, ⟨1776, 1785, 4⟩,
  ⟨1786, 1808, 3⟩, ⟨1809, 1809, 9⟩, ⟨1810, 1839, 3⟩, ⟨1840, 1866, 9⟩, ⟨1867, 1957, 3⟩, ⟨1958, 1968, 9⟩, ⟨1969, 1983, 3⟩, ⟨8192, 8202, 13⟩,
  ⟨8203, 8205, 10⟩, ⟨8207, 8207, 2⟩, ⟨8208, 8231, 14⟩, ⟨8232, 8232, 13⟩, ⟨8233, 8233, 11⟩, ⟨8234, 8234, 15⟩, ⟨8235, 8235, 16⟩, ⟨8236, 8236, 19⟩,
  ⟨8237, 8237, 17⟩, ⟨8238, 8238, 18⟩, ⟨8239, 8239, 8⟩, ⟨8240, 8244, 6⟩, ⟨8245, 8259, 14⟩, ⟨8260, 8260, 8⟩, ⟨8261, 8286, 14⟩, ⟨8287, 8287, 13⟩,
  ⟨8288, 8293, 10⟩, ⟨8294, 8294, 20⟩, ⟨8295, 8295, 21⟩, ⟨8296, 8296, 22⟩, ⟨8297, 8297, 23⟩, ⟨8298, 8303, 10⟩, ⟨8304, 8304, 4⟩, ⟨8308, 8313, 4⟩,
  ⟨8314, 8315, 5⟩, ⟨8316, 8318, 14⟩, ⟨8320, 8329, 4⟩, ⟨8330, 8331, 5⟩, ⟨8332, 8334, 14⟩, ⟨8352, 8399, 6⟩, ⟨8400, 8432, 9⟩, ⟨8592, 8721, 14⟩,
  ⟨8722, 8722, 5⟩, ⟨8723, 8723, 6⟩, ⟨8724, 9013, 14⟩, ⟨9472, 9783, 14⟩, ⟨10214, 10223, 14⟩, ⟨12288, 12288, 13⟩, ⟨12289, 12292, 14⟩, ⟨12296, 12320, 14⟩,
  ⟨64285, 64285, 2⟩, ⟨64286, 64286, 9⟩, ⟨64287, 64296, 2⟩, ⟨64297, 64297, 5⟩, ⟨64298, 64335, 2⟩, ⟨64336, 64829, 3⟩, ⟨64830, 64831, 14⟩, ⟨65024, 65039, 9⟩,
  ⟨65056, 65071, 9⟩, ⟨65136, 65276, 3⟩, ⟨65279, 65279, 10⟩, ⟨65533, 65533, 14⟩, ⟨125184, 125251, 2⟩, ⟨125252, 125258, 9⟩, ⟨125259, 125279, 2⟩, ⟨126464, 126703, 3⟩,
  ⟨127744, 128591, 14⟩, ⟨917760, 917999, 9⟩]
def calamusref02_Classes.f : Option (List SR) := some classesR
def calamusref02_Classes.act : Act := ⟨#[.slice none 0 0] ++ (classesR.map aggR).toArray ++ #[undef], []⟩
theorem calamusref02_Classes.run0 : prefixRun Tryd.prog ((opsAt Tryd.f35 0).take 1) ⟨#[] ++ Array.replicate (Tryd.f35.ntmps - 0) undef, []⟩ = some ⟨#[.slice none 0 0] ++ Array.replicate 147 undef, []⟩ := by kernel_rfl
theorem calamusref02_Classes.run1 : prefixRun Tryd.prog ((opsAt Tryd.f35 1).take 146) ⟨#[.slice none 0 0] ++ Array.replicate 147 undef, []⟩ = some calamusref02_Classes.act := by kernel_rfl
theorem calamusref02_Classes.run2 (w : World) : (execOp calamusref02_Classes.act.eval (((opsAt Tryd.f35 1).drop 146).headD default)).run Tryd.prog w = .ok (.value (.slice (some ⟨w.heap.size, 0, none⟩) 146 146)) (w.alloc (.cells (cellsR classesR).toArray 46)) := by kernel_rfl
theorem calamusref02_Classes.len : (classesR).length = 146 := by kernel_rfl
theorem calamusref02_Classes.run3 (v : Value) : pureRun Tryd.prog (execOp (calamusref02_Classes.act.put (some 147) v).eval (((opsAt Tryd.f35 1).drop 147).headD default)) = some (.value v) := by kernel_rfl
set_option maxHeartbeats 400000 in
set_option maxRecDepth 100000 in
theorem calamusref02_Classes.calls (r : List SR) (w : World) (h : calamusref02_Classes.f = some r) :
    Calls Tryd.prog 35 #[] w fun e w' => ∃ v0_ : Value, e = .returned v0_ ∧ Kd.R k46 46 w' w.heap.size (fun _ => True) v0_ r ∧ Below w.heap.size w w' := by
  obtain rfl : classesR = r := Option.some.inj h
  clear h
  refine calls_of_wp Tryd.func35 rfl ?_
  apply wp_seq_k; intro K hK
  apply wp_region_list
  refine wpList_first 1 calamusref02_Classes.run0 ?_
  refine wpList_nil (hK _ _ ?_)
  clear hK K
  apply wp_seq_k; intro K hK
  apply wp_region_list
  refine wpList_first 146 calamusref02_Classes.run1 ?_
  refine Kd.R_lit k46 w.heap.size 46 rfl (N := 147) rfl (xs := classesR) (inner := cellsR classesR) (ok := fun _ => True) (okp := fun _ => True) (by rw [calamusref02_Classes.len]; exact calamusref02_Classes.run2 w) (cellsR_reps _ _ _ _) (fun _ _ => trivial) trivial (Below.refl _ _) (Nat.le_refl _) (by decide) ?_
  intro v1 w1 hR hb _ _
  refine wpList_val rfl (v := v1) (w' := w1) (run_of_pureRun (calamusref02_Classes.run3 v1) w1) ?_
  refine wpList_nil (hK _ _ ?_)
  clear hK K
  apply wp_ret
  refine bodyPost_ret (results_tmp rfl _ _ _) rfl ⟨v1, rfl, hR, hb⟩
end Go.Proofs.YtfnkpjkbgfgbkaaDoor.Pr
