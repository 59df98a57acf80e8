/-
  Contracts of the references' further tables, which are made at each call.
-/
import Derived.Test.YtfnkpjkbgfgbkaaDoorH5
namespace Go.Proofs.YtfnkpjkbgfgbkaaDoor.Pr
open Go.RowKit HK Go.Proofs.YtfnkpjkbgfgbkaaDoorW.PrintWords Go.Proofs.YtfnkpjkbgfgbkaaDoorW.PrintLast Go.Proofs.YtfnkpjkbgfgbkaaDoorW.PrintMore
set_option linter.unusedVariables false


/-! ### Joinings -/
def joiningsR : List SR := [
  ⟨1570, 1573, 1⟩, ⟨1575, 1575, 1⟩, ⟨1577, 1577, 1⟩, ⟨1583, 1586, 1⟩, ⟨1608, 1608, 1⟩, ⟨1649, 1651, 1⟩, ⟨1653, 1655, 1⟩, ⟨1672, 1689, 1⟩,
  ⟨1728, 1728, 1⟩, ⟨1731, 1739, 1⟩, ⟨1741, 1741, 1⟩, ⟨1743, 1743, 1⟩, ⟨1746, 1747, 1⟩, ⟨1749, 1749, 1⟩, ⟨1774, 1775, 1⟩, ⟨1568, 1568, 2⟩,
  ⟨1574, 1574, 2⟩, ⟨1576, 1576, 2⟩, ⟨1578, 1582, 2⟩, ⟨1587, 1599, 2⟩, ⟨1601, 1607, 2⟩, ⟨1609, 1610, 2⟩, ⟨1646, 1647, 2⟩, ⟨1656, 1671, 2⟩,
  ⟨1690, 1727, 2⟩, ⟨1729, 1730, 2⟩, ⟨1740, 1740, 2⟩, ⟨1742, 1742, 2⟩, ⟨1744, 1745, 2⟩, ⟨1786, 1788, 2⟩, ⟨1791, 1791, 2⟩, ⟨1600, 1600, 3⟩,
  ⟨8205, 8205, 3⟩, ⟨768, 879, 4⟩, ⟨1155, 1161, 4⟩, ⟨1425, 1469, 4⟩, ⟨1471, 1471, 4⟩, ⟨1473, 1474, 4⟩, ⟨1476, 1477, 4⟩, ⟨1479, 1479, 4⟩,
  ⟨1552, 1562, 4⟩, ⟨1611, 1631, 4⟩, ⟨1648, 1648, 4⟩, ⟨1750, 1756, 4⟩, ⟨1759, 1764, 4⟩, ⟨1767, 1768, 4⟩, ⟨1770, 1773, 4⟩, ⟨1809, 1809, 4⟩,
  ⟨1840, 1866, 4⟩, ⟨1958, 1968, 4⟩, ⟨8400, 8432, 4⟩, ⟨64286, 64286, 4⟩, ⟨65024, 65039, 4⟩, ⟨65056, 65071, 4⟩, ⟨125252, 125258, 4⟩, ⟨917760, 917999, 4⟩,
  ⟨173, 173, 4⟩, ⟨8203, 8203, 4⟩, ⟨8206, 8207, 4⟩, ⟨8234, 8238, 4⟩, ⟨8288, 8292, 4⟩, ⟨65279, 65279, 4⟩]
def calamusref02_Joinings.f : Option (List SR) := some joiningsR
def calamusref02_Joinings.act : Act := ⟨#[.slice none 0 0] ++ (joiningsR.map aggR).toArray ++ #[undef], []⟩
theorem calamusref02_Joinings.run0 : prefixRun Tryd.prog ((opsAt Tryd.f36 0).take 1) ⟨#[] ++ Array.replicate (Tryd.f36.ntmps - 0) undef, []⟩ = some ⟨#[.slice none 0 0] ++ Array.replicate 63 undef, []⟩ := by kernel_rfl
theorem calamusref02_Joinings.run1 : prefixRun Tryd.prog ((opsAt Tryd.f36 1).take 62) ⟨#[.slice none 0 0] ++ Array.replicate 63 undef, []⟩ = some calamusref02_Joinings.act := by kernel_rfl
theorem calamusref02_Joinings.run2 (w : World) : (execOp calamusref02_Joinings.act.eval (((opsAt Tryd.f36 1).drop 62).headD default)).run Tryd.prog w = .ok (.value (.slice (some ⟨w.heap.size, 0, none⟩) 62 62)) (w.alloc (.cells (cellsR joiningsR).toArray 46)) := by kernel_rfl
theorem calamusref02_Joinings.len : (joiningsR).length = 62 := by kernel_rfl
theorem calamusref02_Joinings.run3 (v : Value) : pureRun Tryd.prog (execOp (calamusref02_Joinings.act.put (some 63) v).eval (((opsAt Tryd.f36 1).drop 63).headD default)) = some (.value v) := by kernel_rfl
set_option maxHeartbeats 400000 in
set_option maxRecDepth 100000 in
theorem calamusref02_Joinings.calls (r : List SR) (w : World) (h : calamusref02_Joinings.f = some r) :
    Calls Tryd.prog 36 #[] w fun e w' => ∃ v0_ : Value, e = .returned v0_ ∧ Kd.R k46 46 w' w.heap.size (fun _ => True) v0_ r ∧ Below w.heap.size w w' := by
  obtain rfl : joiningsR = r := Option.some.inj h
  clear h
  refine calls_of_wp Tryd.func36 rfl ?_
  apply wp_seq_k; intro K hK
  apply wp_region_list
  refine wpList_first 1 calamusref02_Joinings.run0 ?_
  refine wpList_nil (hK _ _ ?_)
  clear hK K
  apply wp_seq_k; intro K hK
  apply wp_region_list
  refine wpList_first 62 calamusref02_Joinings.run1 ?_
  refine Kd.R_lit k46 w.heap.size 46 rfl (N := 63) rfl (xs := joiningsR) (inner := cellsR joiningsR) (ok := fun _ => True) (okp := fun _ => True) (by rw [calamusref02_Joinings.len]; exact calamusref02_Joinings.run2 w) (cellsR_reps _ _ _ _) (fun _ _ => trivial) trivial (Below.refl _ _) (Nat.le_refl _) (by decide) ?_
  intro v1 w1 hR hb _ _
  refine wpList_val rfl (v := v1) (w' := w1) (run_of_pureRun (calamusref02_Joinings.run3 v1) w1) ?_
  refine wpList_nil (hK _ _ ?_)
  clear hK K
  apply wp_ret
  refine bodyPost_ret (results_tmp rfl _ _ _) rfl ⟨v1, rfl, hR, hb⟩

/-! ### Clusters -/
def clustersR : List SR := [
  ⟨13, 13, 1⟩, ⟨10, 10, 2⟩, ⟨0, 9, 3⟩, ⟨11, 12, 3⟩, ⟨14, 31, 3⟩, ⟨127, 159, 3⟩, ⟨173, 173, 3⟩, ⟨8203, 8203, 3⟩,
  ⟨8206, 8207, 3⟩, ⟨8232, 8238, 3⟩, ⟨8288, 8303, 3⟩, ⟨65279, 65279, 3⟩, ⟨8205, 8205, 5⟩, ⟨768, 879, 4⟩, ⟨1155, 1161, 4⟩, ⟨1425, 1469, 4⟩,
  ⟨1471, 1471, 4⟩, ⟨1473, 1474, 4⟩, ⟨1476, 1477, 4⟩, ⟨1479, 1479, 4⟩, ⟨1552, 1562, 4⟩, ⟨1611, 1631, 4⟩, ⟨1648, 1648, 4⟩, ⟨1750, 1756, 4⟩,
  ⟨1759, 1764, 4⟩, ⟨1767, 1768, 4⟩, ⟨1770, 1773, 4⟩, ⟨1809, 1809, 4⟩, ⟨1840, 1866, 4⟩, ⟨1958, 1968, 4⟩, ⟨8400, 8432, 4⟩, ⟨64286, 64286, 4⟩,
  ⟨65024, 65039, 4⟩, ⟨65056, 65071, 4⟩, ⟨125252, 125258, 4⟩, ⟨917760, 917999, 4⟩, ⟨8204, 8204, 4⟩, ⟨127995, 127999, 4⟩, ⟨127462, 127487, 6⟩, ⟨1536, 1541, 7⟩,
  ⟨1757, 1757, 7⟩, ⟨4352, 4447, 8⟩, ⟨4448, 4519, 9⟩, ⟨4520, 4607, 10⟩, ⟨169, 169, 13⟩, ⟨174, 174, 13⟩, ⟨8252, 8252, 13⟩, ⟨8265, 8265, 13⟩,
  ⟨127744, 127994, 13⟩, ⟨128000, 128591, 13⟩]
def calamusref02_Clusters.f : Option (List SR) := some clustersR
def calamusref02_Clusters.act : Act := ⟨#[.slice none 0 0] ++ (clustersR.map aggR).toArray ++ #[undef], []⟩
theorem calamusref02_Clusters.run0 : prefixRun Tryd.prog ((opsAt Tryd.f38 0).take 1) ⟨#[] ++ Array.replicate (Tryd.f38.ntmps - 0) undef, []⟩ = some ⟨#[.slice none 0 0] ++ Array.replicate 51 undef, []⟩ := by kernel_rfl
theorem calamusref02_Clusters.run1 : prefixRun Tryd.prog ((opsAt Tryd.f38 1).take 50) ⟨#[.slice none 0 0] ++ Array.replicate 51 undef, []⟩ = some calamusref02_Clusters.act := by kernel_rfl
theorem calamusref02_Clusters.run2 (w : World) : (execOp calamusref02_Clusters.act.eval (((opsAt Tryd.f38 1).drop 50).headD default)).run Tryd.prog w = .ok (.value (.slice (some ⟨w.heap.size, 0, none⟩) 50 50)) (w.alloc (.cells (cellsR clustersR).toArray 46)) := by kernel_rfl
theorem calamusref02_Clusters.len : (clustersR).length = 50 := by kernel_rfl
theorem calamusref02_Clusters.run3 (v : Value) : pureRun Tryd.prog (execOp (calamusref02_Clusters.act.put (some 51) v).eval (((opsAt Tryd.f38 1).drop 51).headD default)) = some (.value v) := by kernel_rfl
set_option maxHeartbeats 400000 in
set_option maxRecDepth 100000 in
theorem calamusref02_Clusters.calls (r : List SR) (w : World) (h : calamusref02_Clusters.f = some r) :
    Calls Tryd.prog 38 #[] w fun e w' => ∃ v0_ : Value, e = .returned v0_ ∧ Kd.R k46 46 w' w.heap.size (fun _ => True) v0_ r ∧ Below w.heap.size w w' := by
  obtain rfl : clustersR = r := Option.some.inj h
  clear h
  refine calls_of_wp Tryd.func38 rfl ?_
  apply wp_seq_k; intro K hK
  apply wp_region_list
  refine wpList_first 1 calamusref02_Clusters.run0 ?_
  refine wpList_nil (hK _ _ ?_)
  clear hK K
  apply wp_seq_k; intro K hK
  apply wp_region_list
  refine wpList_first 50 calamusref02_Clusters.run1 ?_
  refine Kd.R_lit k46 w.heap.size 46 rfl (N := 51) rfl (xs := clustersR) (inner := cellsR clustersR) (ok := fun _ => True) (okp := fun _ => True) (by rw [calamusref02_Clusters.len]; exact calamusref02_Clusters.run2 w) (cellsR_reps _ _ _ _) (fun _ _ => trivial) trivial (Below.refl _ _) (Nat.le_refl _) (by decide) ?_
  intro v1 w1 hR hb _ _
  refine wpList_val rfl (v := v1) (w' := w1) (run_of_pureRun (calamusref02_Clusters.run3 v1) w1) ?_
  refine wpList_nil (hK _ _ ?_)
  clear hK K
  apply wp_ret
  refine bodyPost_ret (results_tmp rfl _ _ _) rfl ⟨v1, rfl, hR, hb⟩

/-! ### Scripts -/
def scriptsR : List SR := [
  ⟨768, 879, 1⟩, ⟨1157, 1158, 1⟩, ⟨1611, 1621, 1⟩, ⟨1648, 1648, 1⟩, ⟨8204, 8205, 1⟩, ⟨8400, 8432, 1⟩, ⟨65024, 65039, 1⟩, ⟨65056, 65071, 1⟩,
  ⟨917760, 917999, 1⟩, ⟨65, 90, 2⟩, ⟨97, 122, 2⟩, ⟨170, 170, 2⟩, ⟨186, 186, 2⟩, ⟨192, 214, 2⟩, ⟨216, 246, 2⟩, ⟨248, 696, 2⟩,
  ⟨7680, 7935, 2⟩, ⟨880, 883, 5⟩, ⟨885, 887, 5⟩, ⟨890, 893, 5⟩, ⟨902, 902, 5⟩, ⟨904, 993, 5⟩, ⟨1008, 1023, 5⟩, ⟨1425, 1524, 3⟩,
  ⟨64285, 64335, 3⟩, ⟨1536, 1540, 4⟩, ⟨1542, 1547, 4⟩, ⟨1549, 1562, 4⟩, ⟨1564, 1566, 4⟩, ⟨1568, 1599, 4⟩, ⟨1601, 1610, 4⟩, ⟨1622, 1647, 4⟩,
  ⟨1649, 1756, 4⟩, ⟨1758, 1791, 4⟩, ⟨64336, 64829, 4⟩, ⟨65136, 65276, 4⟩, ⟨4352, 4607, 6⟩, ⟨44032, 55203, 6⟩, ⟨11904, 12245, 7⟩, ⟨12293, 12293, 7⟩,
  ⟨12295, 12295, 7⟩, ⟨13312, 19903, 7⟩, ⟨19968, 40959, 7⟩]
def calamusref02_Scripts.f : Option (List SR) := some scriptsR
def calamusref02_Scripts.act : Act := ⟨#[.slice none 0 0] ++ (scriptsR.map aggR).toArray ++ #[undef], []⟩
theorem calamusref02_Scripts.run0 : prefixRun Tryd.prog ((opsAt Tryd.f33 0).take 1) ⟨#[] ++ Array.replicate (Tryd.f33.ntmps - 0) undef, []⟩ = some ⟨#[.slice none 0 0] ++ Array.replicate 44 undef, []⟩ := by kernel_rfl
theorem calamusref02_Scripts.run1 : prefixRun Tryd.prog ((opsAt Tryd.f33 1).take 43) ⟨#[.slice none 0 0] ++ Array.replicate 44 undef, []⟩ = some calamusref02_Scripts.act := by kernel_rfl
theorem calamusref02_Scripts.run2 (w : World) : (execOp calamusref02_Scripts.act.eval (((opsAt Tryd.f33 1).drop 43).headD default)).run Tryd.prog w = .ok (.value (.slice (some ⟨w.heap.size, 0, none⟩) 43 43)) (w.alloc (.cells (cellsR scriptsR).toArray 46)) := by kernel_rfl
theorem calamusref02_Scripts.len : (scriptsR).length = 43 := by kernel_rfl
theorem calamusref02_Scripts.run3 (v : Value) : pureRun Tryd.prog (execOp (calamusref02_Scripts.act.put (some 44) v).eval (((opsAt Tryd.f33 1).drop 44).headD default)) = some (.value v) := by kernel_rfl
set_option maxHeartbeats 400000 in
set_option maxRecDepth 100000 in
theorem calamusref02_Scripts.calls (r : List SR) (w : World) (h : calamusref02_Scripts.f = some r) :
    Calls Tryd.prog 33 #[] w fun e w' => ∃ v0_ : Value, e = .returned v0_ ∧ Kd.R k46 46 w' w.heap.size (fun _ => True) v0_ r ∧ Below w.heap.size w w' := by
  obtain rfl : scriptsR = r := Option.some.inj h
  clear h
  refine calls_of_wp Tryd.func33 rfl ?_
  apply wp_seq_k; intro K hK
  apply wp_region_list
  refine wpList_first 1 calamusref02_Scripts.run0 ?_
  refine wpList_nil (hK _ _ ?_)
  clear hK K
  apply wp_seq_k; intro K hK
  apply wp_region_list
  refine wpList_first 43 calamusref02_Scripts.run1 ?_
  refine Kd.R_lit k46 w.heap.size 46 rfl (N := 44) rfl (xs := scriptsR) (inner := cellsR scriptsR) (ok := fun _ => True) (okp := fun _ => True) (by rw [calamusref02_Scripts.len]; exact calamusref02_Scripts.run2 w) (cellsR_reps _ _ _ _) (fun _ _ => trivial) trivial (Below.refl _ _) (Nat.le_refl _) (by decide) ?_
  intro v1 w1 hR hb _ _
  refine wpList_val rfl (v := v1) (w' := w1) (run_of_pureRun (calamusref02_Scripts.run3 v1) w1) ?_
  refine wpList_nil (hK _ _ ?_)
  clear hK K
  apply wp_ret
  refine bodyPost_ret (results_tmp rfl _ _ _) rfl ⟨v1, rfl, hR, hb⟩
end Go.Proofs.YtfnkpjkbgfgbkaaDoor.Pr
