/-
  Contracts of the references' two longest tables, which are made at each call.
-/
import Derived.Test.YtfnkpjkbgfgbkaaDoorH5
namespace Go.Proofs.YtfnkpjkbgfgbkaaDoor.Pr
open Go.RowKit HK Go.Proofs.YtfnkpjkbgfgbkaaDoorW.PrintWords Go.Proofs.YtfnkpjkbgfgbkaaDoorW.PrintLast Go.Proofs.YtfnkpjkbgfgbkaaDoorW.PrintMore
set_option linter.unusedVariables false


/-! ### Breaks -/
def breaksR : List SR := [
  ⟨10, 10, 3⟩, ⟨13, 13, 2⟩, ⟨133, 133, 4⟩, ⟨11, 12, 1⟩, ⟨8232, 8233, 1⟩, ⟨32, 32, 5⟩, ⟨8203, 8203, 6⟩, ⟨8288, 8288, 7⟩,
  ⟨65279, 65279, 7⟩, ⟨160, 160, 8⟩, ⟨847, 847, 8⟩, ⟨860, 866, 8⟩, ⟨8199, 8199, 8⟩, ⟨8209, 8209, 8⟩, ⟨8239, 8239, 8⟩, ⟨8205, 8205, 10⟩,
  ⟨1155, 1161, 9⟩, ⟨1425, 1469, 9⟩, ⟨1471, 1471, 9⟩, ⟨1473, 1474, 9⟩, ⟨1476, 1477, 9⟩, ⟨1479, 1479, 9⟩, ⟨1552, 1562, 9⟩, ⟨1611, 1631, 9⟩,
  ⟨1648, 1648, 9⟩, ⟨1750, 1756, 9⟩, ⟨1759, 1764, 9⟩, ⟨1767, 1768, 9⟩, ⟨1770, 1773, 9⟩, ⟨1809, 1809, 9⟩, ⟨1840, 1866, 9⟩, ⟨1958, 1968, 9⟩,
  ⟨8400, 8432, 9⟩, ⟨64286, 64286, 9⟩, ⟨65024, 65039, 9⟩, ⟨65056, 65071, 9⟩, ⟨125252, 125258, 9⟩, ⟨768, 846, 9⟩, ⟨848, 859, 9⟩, ⟨867, 879, 9⟩,
  ⟨0, 8, 9⟩, ⟨14, 31, 9⟩, ⟨127, 132, 9⟩, ⟨134, 159, 9⟩, ⟨8204, 8204, 9⟩, ⟨8206, 8207, 9⟩, ⟨8234, 8238, 9⟩, ⟨8294, 8303, 9⟩,
  ⟨917760, 917999, 9⟩, ⟨9, 9, 11⟩, ⟨124, 124, 11⟩, ⟨173, 173, 11⟩, ⟨1470, 1470, 11⟩, ⟨8192, 8198, 11⟩, ⟨8200, 8202, 11⟩, ⟨8208, 8208, 11⟩,
  ⟨8210, 8211, 11⟩, ⟨8231, 8231, 11⟩, ⟨8278, 8278, 11⟩, ⟨8280, 8283, 11⟩, ⟨8285, 8287, 11⟩, ⟨12288, 12288, 11⟩, ⟨180, 180, 12⟩, ⟨8212, 8212, 13⟩,
  ⟨45, 45, 14⟩, ⟨65532, 65532, 15⟩, ⟨33, 33, 16⟩, ⟨63, 63, 16⟩, ⟨1478, 1478, 16⟩, ⟨1563, 1563, 16⟩, ⟨1565, 1567, 16⟩, ⟨1748, 1748, 16⟩,
  ⟨65281, 65281, 16⟩, ⟨65311, 65311, 16⟩, ⟨8228, 8230, 17⟩, ⟨8252, 8253, 18⟩, ⟨8263, 8265, 18⟩, ⟨12293, 12293, 18⟩, ⟨12316, 12316, 18⟩, ⟨40, 40, 19⟩,
  ⟨91, 91, 19⟩, ⟨123, 123, 19⟩, ⟨161, 161, 19⟩, ⟨191, 191, 19⟩, ⟨8218, 8218, 19⟩, ⟨8222, 8222, 19⟩, ⟨8261, 8261, 19⟩, ⟨8317, 8317, 19⟩,
  ⟨8333, 8333, 19⟩, ⟨8968, 8968, 19⟩, ⟨8970, 8970, 19⟩, ⟨9001, 9001, 19⟩, ⟨10214, 10214, 19⟩, ⟨10216, 10216, 19⟩, ⟨10218, 10218, 19⟩, ⟨10220, 10220, 19⟩,
  ⟨10222, 10222, 19⟩, ⟨12296, 12296, 19⟩, ⟨12298, 12298, 19⟩, ⟨12300, 12300, 19⟩, ⟨12302, 12302, 19⟩, ⟨12304, 12304, 19⟩, ⟨12308, 12308, 19⟩, ⟨12310, 12310, 19⟩,
  ⟨12312, 12312, 19⟩, ⟨12314, 12314, 19⟩, ⟨41, 41, 20⟩, ⟨93, 93, 20⟩, ⟨125, 125, 21⟩, ⟨8262, 8262, 21⟩, ⟨8318, 8318, 21⟩, ⟨8334, 8334, 21⟩,
  ⟨8969, 8969, 21⟩, ⟨8971, 8971, 21⟩, ⟨9002, 9002, 21⟩, ⟨10215, 10215, 21⟩, ⟨10217, 10217, 21⟩, ⟨10219, 10219, 21⟩, ⟨10221, 10221, 21⟩, ⟨10223, 10223, 21⟩,
  ⟨12289, 12290, 21⟩, ⟨12297, 12297, 21⟩, ⟨12299, 12299, 21⟩, ⟨12301, 12301, 21⟩, ⟨12303, 12303, 21⟩, ⟨12305, 12305, 21⟩, ⟨12309, 12309, 21⟩, ⟨12311, 12311, 21⟩,
  ⟨12313, 12313, 21⟩, ⟨12315, 12315, 21⟩, ⟨34, 34, 22⟩, ⟨39, 39, 22⟩, ⟨171, 171, 22⟩, ⟨187, 187, 22⟩, ⟨8216, 8217, 22⟩, ⟨8219, 8221, 22⟩,
  ⟨8223, 8223, 22⟩, ⟨8249, 8250, 22⟩, ⟨44, 44, 23⟩, ⟨46, 46, 23⟩, ⟨58, 59, 23⟩, ⟨1417, 1417, 23⟩, ⟨1548, 1549, 23⟩, ⟨8260, 8260, 23⟩,
  ⟨47, 47, 24⟩, ⟨37, 37, 25⟩, ⟨162, 162, 25⟩, ⟨176, 176, 25⟩, ⟨1545, 1547, 25⟩, ⟨1642, 1642, 25⟩, ⟨8240, 8247, 25⟩, ⟨8451, 8451, 25⟩,
  ⟨36, 36, 26⟩, ⟨43, 43, 26⟩, ⟨92, 92, 26⟩, ⟨163, 165, 26⟩, ⟨177, 177, 26⟩, ⟨8470, 8470, 26⟩, ⟨8722, 8723, 26⟩, ⟨8352, 8358, 26⟩,
  ⟨8360, 8373, 26⟩, ⟨48, 57, 27⟩, ⟨1632, 1641, 27⟩, ⟨1643, 1644, 27⟩, ⟨1776, 1785, 27⟩, ⟨1488, 1514, 28⟩, ⟨1519, 1522, 28⟩, ⟨64285, 64285, 28⟩,
  ⟨64287, 64296, 28⟩, ⟨64298, 64335, 28⟩, ⟨4352, 4447, 33⟩, ⟨4448, 4519, 34⟩, ⟨4520, 4607, 35⟩, ⟨127462, 127487, 32⟩, ⟨127995, 127999, 31⟩, ⟨128074, 128080, 30⟩,
  ⟨128102, 128105, 30⟩, ⟨128581, 128583, 30⟩, ⟨11904, 12245, 29⟩, ⟨12291, 12292, 29⟩, ⟨12294, 12295, 29⟩, ⟨12353, 12438, 29⟩, ⟨12449, 12538, 29⟩, ⟨13312, 19903, 29⟩,
  ⟨19968, 40959, 29⟩, ⟨127744, 127994, 29⟩, ⟨128000, 128073, 29⟩, ⟨128081, 128101, 29⟩, ⟨128106, 128580, 29⟩, ⟨128584, 128591, 29⟩]
def calamusref02_Breaks.f : Option (List SR) := some breaksR
def calamusref02_Breaks.act : Act := ⟨#[.slice none 0 0] ++ (breaksR.map aggR).toArray ++ #[undef], []⟩
theorem calamusref02_Breaks.run0 : prefixRun Tryd.prog ((opsAt Tryd.f37 0).take 1) ⟨#[] ++ Array.replicate (Tryd.f37.ntmps - 0) undef, []⟩ = some ⟨#[.slice none 0 0] ++ Array.replicate 191 undef, []⟩ := by kernel_rfl
theorem calamusref02_Breaks.run1 : prefixRun Tryd.prog ((opsAt Tryd.f37 1).take 190) ⟨#[.slice none 0 0] ++ Array.replicate 191 undef, []⟩ = some calamusref02_Breaks.act := by kernel_rfl
theorem calamusref02_Breaks.run2 (w : World) : (execOp calamusref02_Breaks.act.eval (((opsAt Tryd.f37 1).drop 190).headD default)).run Tryd.prog w = .ok (.value (.slice (some ⟨w.heap.size, 0, none⟩) 190 190)) (w.alloc (.cells (cellsR breaksR).toArray 46)) := by kernel_rfl
theorem calamusref02_Breaks.len : (breaksR).length = 190 := by kernel_rfl
theorem calamusref02_Breaks.run3 (v : Value) : pureRun Tryd.prog (execOp (calamusref02_Breaks.act.put (some 191) v).eval (((opsAt Tryd.f37 1).drop 191).headD default)) = some (.value v) := by kernel_rfl
set_option maxHeartbeats 400000 in
set_option maxRecDepth 100000 in
theorem calamusref02_Breaks.calls (r : List SR) (w : World) (h : calamusref02_Breaks.f = some r) :
    Calls Tryd.prog 37 #[] w fun e w' => ∃ v0_ : Value, e = .returned v0_ ∧ Kd.R k46 46 w' w.heap.size (fun _ => True) v0_ r ∧ Below w.heap.size w w' := by
  obtain rfl : breaksR = r := Option.some.inj h
  clear h
  refine calls_of_wp Tryd.func37 rfl ?_
  apply wp_seq_k; intro K hK
  apply wp_region_list
  refine wpList_first 1 calamusref02_Breaks.run0 ?_
  refine wpList_nil (hK _ _ ?_)
  clear hK K
  apply wp_seq_k; intro K hK
  apply wp_region_list
  refine wpList_first 190 calamusref02_Breaks.run1 ?_
  refine Kd.R_lit k46 w.heap.size 46 rfl (N := 191) rfl (xs := breaksR) (inner := cellsR breaksR) (ok := fun _ => True) (okp := fun _ => True) (by rw [calamusref02_Breaks.len]; exact calamusref02_Breaks.run2 w) (cellsR_reps _ _ _ _) (fun _ _ => trivial) trivial (Below.refl _ _) (Nat.le_refl _) (by decide) ?_
  intro v1 w1 hR hb _ _
  refine wpList_val rfl (v := v1) (w' := w1) (run_of_pureRun (calamusref02_Breaks.run3 v1) w1) ?_
  refine wpList_nil (hK _ _ ?_)
  clear hK K
  apply wp_ret
  refine bodyPost_ret (results_tmp rfl _ _ _) rfl ⟨v1, rfl, hR, hb⟩
end Go.Proofs.YtfnkpjkbgfgbkaaDoor.Pr
