/-
  Contracts of ucd's functions over tables that are made at each call, and of those that ask for syllables.
-/
import Derived.Test.YtfnkpjkbgfgbkaaDoorH1
namespace Go.Proofs.YtfnkpjkbgfgbkaaDoor.Pr
open Go.RowKit HK Go.Proofs.YtfnkpjkbgfgbkaaDoorW.PrintWords Go.Proofs.YtfnkpjkbgfgbkaaDoorW.PrintLast Go.Proofs.YtfnkpjkbgfgbkaaDoorW.PrintMore
set_option linter.unusedVariables false

/-- A block of spans reads as its list. -/
theorem reads_block {w : World} {g t : Nat} {l : List SP} (h : w.heap[g]? = some (.cells (cells3 l).toArray t (0, 0))) (hn : l.length ≤ 9223372036854775807) : Kd.C k80 w (some ⟨g, 0, none⟩) l.length l := by
  refine ⟨rfl, hn, fun _ => ⟨_, rfl, fun j p hj => ⟨enc3 p, rfl, k80_mk w p, fun i u hu => ?_⟩⟩⟩
  rw [addr_add0, cell_of_row w g _ _ _ _ h]
  have := cells3_get l j p i u hj hu
  simp only [List.getElem?_toArray]
  exact this

def agg3 (x : SP) : Value := .agg (enc3 x).toArray

/-! ### classes -/
def classesAct (w : World) : Act := ⟨#[.pointer (some ⟨w.heap.size, 0, none⟩)] ++ (classesT.map agg3).toArray ++ #[.agg (cells3 classesT).toArray], []⟩
theorem classes_size : (Tryd.prog.info? 91).map (·.size) = some (cells3 classesT).toArray.size := by kernel_rfl
theorem classes_one : (cells3 classesT).toArray.all (·.oneCell') = true := by kernel_rfl
theorem classes_same : Tryd.zeroCells91.size = (cells3 classesT).toArray.size := by kernel_rfl
set_option maxHeartbeats 400000 in
set_option maxRecDepth 100000 in
theorem classes.calls (w : World) : Calls Tryd.prog 63 #[] w fun e w' => e = .returned (.agg (cells3 classesT).toArray) ∧ Below w.heap.size w w' := by
  refine calls_of_wp Tryd.func63 rfl ?_
  apply wp_seq_k; intro K hK
  apply wp_region_list
  refine wpList_val rfl (v := .pointer (some ⟨w.heap.size,0,none⟩)) (w' := w.alloc (.cells Tryd.zeroCells91 91)) ?_ ?_
  · go_simp
  refine wpList_nil (hK _ _ ?_)
  clear hK K
  apply wp_seq_k; intro K hK
  apply wp_region_list
  refine wpList_first 147 (a' := classesAct w) ?_ ?_
  · kernel_rfl
  refine wpList_done rfl (w' := w.alloc (.cells (cells3 classesT).toArray 91)) ?_ ?_
  · have h := Go.run_storeAt_new (P := Tryd.prog) w 91 Tryd.zeroCells91 (cells3 classesT).toArray classes_size classes_same classes_one
    have e : execOp (classesAct w).eval ⟨none, .store 91 (.tmp 0) (.tmp 147), 0, "", #[], none⟩ = (do Instr.storeAt 91 (.pointer (some ⟨w.heap.size,0,none⟩)) (.agg (cells3 classesT).toArray); pure .skip) := by kernel_rfl
    have e2 : (execOp (classesAct w).eval ⟨none, .store 91 (.tmp 0) (.tmp 147), 0, "", #[], none⟩).run Tryd.prog (w.alloc (.cells Tryd.zeroCells91 91)) = .ok .skip (w.alloc (.cells (cells3 classesT).toArray 91)) := by
      rw [e, Sem.run_bind, h]
      rfl
    exact e2
  refine wpList_nil (hK _ _ ?_)
  clear hK K
  apply wp_ret
  refine bodyPost_ret (results_cell_row rfl _ _ w.heap.size 91 (cells3 classesT).toArray (0, 0) _ (by kernel_rfl) (heap_alloc_last w _) Tryd.underlying91 rfl classes_size) rfl ⟨rfl, (Below.refl _ _).alloc (Nat.le_refl _) _⟩

set_option maxHeartbeats 400000 in
set_option maxRecDepth 100000 in
theorem classesAll.calls (w : World) : Calls Tryd.prog 58 #[] w fun e w' => ∃ g : Nat, e = .returned (.slice (some ⟨g, 0, none⟩) 146 146) ∧ Kd.C k80 w' (some ⟨g, 0, none⟩) classesT.length classesT ∧ Below w.heap.size w w' := by
  refine calls_of_wp Tryd.func58 rfl ?_
  apply wp_seq_k; intro K hK
  apply wp_region_list
  refine wpList_first 1 (a' := ⟨#[.slice none 0 0, undef, undef, undef], []⟩) (by kernel_rfl) ?_
  refine wpList_nil (hK _ _ ?_)
  clear hK K
  apply wp_seq_k; intro K hK
  apply wp_region_list
  refine wpList_call (f := 63) (args := #[]) (w' := w) rfl (by kernel_rfl) ((classes.calls w).mono ?_)
  rintro e w1 ⟨rfl, hb⟩
  refine ⟨_, rfl, ?_⟩
  obtain ⟨C, hC⟩ : ∃ C, C = (cells3 classesT).toArray := ⟨_, rfl⟩
  have hC1 := classes_size
  have hC2 := classes_same
  have hC3 := classes_one
  rw [← hC] at hC1 hC2 hC3
  have hst := Go.run_storeAt_new (P := Tryd.prog) w1 91 Tryd.zeroCells91 C hC1 hC2 hC3
  have hR : Kd.C k80 (w1.alloc (.cells C 91)) (some ⟨w1.heap.size, 0, none⟩) classesT.length classesT := reads_block (by rw [hC]; exact heap_alloc_last w1 _) (by decide)
  rw [← hC]
  clear hC hC1 hC2 hC3
  refine wpList_val rfl (v := .pointer (some ⟨w1.heap.size,0,none⟩)) (w' := w1.alloc (.cells Tryd.zeroCells91 91)) ?_ ?_
  · go_simp
  refine wpList_done rfl (w' := w1.alloc (.cells C 91)) ?_ ?_
  · have e : execOp (Act.eval ⟨#[.slice none 0 0, .pointer (some ⟨w1.heap.size,0,none⟩), .agg C, undef], []⟩) ⟨none, .store 91 (.tmp 1) (.tmp 2), 0, "", #[], none⟩ = (do Instr.storeAt 91 (.pointer (some ⟨w1.heap.size,0,none⟩)) (.agg C); pure .skip) := by kernel_rfl
    have e2 : (execOp (Act.eval ⟨#[.slice none 0 0, .pointer (some ⟨w1.heap.size,0,none⟩), .agg C, undef], []⟩) ⟨none, .store 91 (.tmp 1) (.tmp 2), 0, "", #[], none⟩).run Tryd.prog (w1.alloc (.cells Tryd.zeroCells91 91)) = .ok .skip (w1.alloc (.cells C 91)) := by
      rw [e, Sem.run_bind, hst]
      rfl
    exact e2
  refine wpList_nil (hK _ _ ?_)
  clear hK K hst
  apply wp_seq_k; intro K hK
  apply wp_region_list
  refine wpList_val rfl (v := .slice (some ⟨w1.heap.size, 0, none⟩) 146 146) (w' := w1.alloc (.cells C 91)) (by kernel_rfl) ?_
  refine wpList_first 1 (a' := ⟨#[.slice (some ⟨w1.heap.size, 0, none⟩) 146 146, .pointer (some ⟨w1.heap.size,0,none⟩), .agg C, .slice (some ⟨w1.heap.size, 0, none⟩) 146 146], []⟩) (by kernel_rfl) ?_
  refine wpList_nil (hK _ _ ?_)
  clear hK K
  apply wp_ret
  refine bodyPost_ret (results_tmp rfl _ _ _) rfl ⟨w1.heap.size, rfl, hR, hb.alloc hb.size _⟩

def ucd_Class.f (a0 : Int) : Option Int := ucd_of.f tabRounds a0 classesT 1
set_option maxHeartbeats 400000 in
set_option maxRecDepth 100000 in
theorem ucd_Class.calls (a0 : Int) (r : Int) (w : World) (h : ucd_Class.f a0 = some r) :
    Calls Tryd.prog 41 #[.int .i32 a0] w fun e w' => e = .returned (.int .u8 r) ∧ Below w.heap.size w w' := by
  have H := Aside0.mk (show ucd_of.f tabRounds a0 classesT 1 = some r from h)
  clear h
  go_enter Tryd.func41, Tryd.ntmps41
  go_wp2_with (fail)
  refine (classesAll.calls w).mono ?_
  rintro e w1 ⟨g, rfl, hR, hb⟩
  have HR := Aside0.mk hR
  clear hR
  go_wp2_with (fail)
  refine calls_of_args (args' := #[.int .i32 a0, .slice (some ⟨g, 0, none⟩) classesT.length 146, .int .u8 1]) (by rfl) ?_
  refine (ucd_of.calls tabRounds a0 _ _ classesT 1 r _ HR.out (by decide) H.out).mono ?_
  rintro e w2 ⟨rfl, hb2⟩
  go_wp2
  go_ret
  exact ⟨rfl, hb.trans (hb2.mono hb.size)⟩
end Go.Proofs.YtfnkpjkbgfgbkaaDoor.Pr
