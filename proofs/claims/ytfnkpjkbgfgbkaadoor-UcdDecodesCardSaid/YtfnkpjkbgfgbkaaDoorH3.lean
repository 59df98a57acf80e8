/-
  Contracts of ucd's functions over tables that are made at each call, and of those that ask for syllables.
-/
import Derived.Test.YtfnkpjkbgfgbkaaDoorH2
import Derived.Test.YtfnkpjkbgfgbkaaDoorPr5
namespace Go.Proofs.YtfnkpjkbgfgbkaaDoor.Pr
open Go.RowKit HK Go.Proofs.YtfnkpjkbgfgbkaaDoorW.PrintWords Go.Proofs.YtfnkpjkbgfgbkaaDoorW.PrintLast Go.Proofs.YtfnkpjkbgfgbkaaDoorW.PrintMore
set_option linter.unusedVariables false


/-! ### breaks -/
def breaksAct (w : World) : Act := ⟨#[.pointer (some ⟨w.heap.size, 0, none⟩)] ++ (breaksT.map agg3).toArray ++ #[.agg (cells3 breaksT).toArray], []⟩
theorem breaks_size : (Tryd.prog.info? 93).map (·.size) = some (cells3 breaksT).toArray.size := by kernel_rfl
theorem breaks_one : (cells3 breaksT).toArray.all (·.oneCell') = true := by kernel_rfl
theorem breaks_same : Tryd.zeroCells93.size = (cells3 breaksT).toArray.size := by kernel_rfl
set_option maxHeartbeats 400000 in
set_option maxRecDepth 100000 in
theorem breaks.calls (w : World) : Calls Tryd.prog 64 #[] w fun e w' => e = .returned (.agg (cells3 breaksT).toArray) ∧ Below w.heap.size w w' := by
  refine calls_of_wp Tryd.func64 rfl ?_
  apply wp_seq_k; intro K hK
  apply wp_region_list
  refine wpList_val rfl (v := .pointer (some ⟨w.heap.size,0,none⟩)) (w' := w.alloc (.cells Tryd.zeroCells93 93)) ?_ ?_
  · go_simp
  refine wpList_nil (hK _ _ ?_)
  clear hK K
  apply wp_seq_k; intro K hK
  apply wp_region_list
  refine wpList_first 191 (a' := breaksAct w) ?_ ?_
  · kernel_rfl
  refine wpList_done rfl (w' := w.alloc (.cells (cells3 breaksT).toArray 93)) ?_ ?_
  · have h := Go.run_storeAt_new (P := Tryd.prog) w 93 Tryd.zeroCells93 (cells3 breaksT).toArray breaks_size breaks_same breaks_one
    have e : execOp (breaksAct w).eval ⟨none, .store 93 (.tmp 0) (.tmp 191), 0, "", #[], none⟩ = (do Instr.storeAt 93 (.pointer (some ⟨w.heap.size,0,none⟩)) (.agg (cells3 breaksT).toArray); pure .skip) := by kernel_rfl
    have e2 : (execOp (breaksAct w).eval ⟨none, .store 93 (.tmp 0) (.tmp 191), 0, "", #[], none⟩).run Tryd.prog (w.alloc (.cells Tryd.zeroCells93 93)) = .ok .skip (w.alloc (.cells (cells3 breaksT).toArray 93)) := by
      rw [e, Sem.run_bind, h]
      rfl
    exact e2
  refine wpList_nil (hK _ _ ?_)
  clear hK K
  apply wp_ret
  refine bodyPost_ret (results_cell_row rfl _ _ w.heap.size 93 (cells3 breaksT).toArray (0, 0) _ (by kernel_rfl) (heap_alloc_last w _) Tryd.underlying93 rfl breaks_size) rfl ⟨rfl, (Below.refl _ _).alloc (Nat.le_refl _) _⟩

set_option maxHeartbeats 400000 in
set_option maxRecDepth 100000 in
theorem breaksAll.calls (w : World) : Calls Tryd.prog 60 #[] w fun e w' => ∃ g : Nat, e = .returned (.slice (some ⟨g, 0, none⟩) 190 190) ∧ Kd.C k80 w' (some ⟨g, 0, none⟩) breaksT.length breaksT ∧ Below w.heap.size w w' := by
  refine calls_of_wp Tryd.func60 rfl ?_
  apply wp_seq_k; intro K hK
  apply wp_region_list
  refine wpList_first 1 (a' := ⟨#[.slice none 0 0, undef, undef, undef], []⟩) (by kernel_rfl) ?_
  refine wpList_nil (hK _ _ ?_)
  clear hK K
  apply wp_seq_k; intro K hK
  apply wp_region_list
  refine wpList_call (f := 64) (args := #[]) (w' := w) rfl (by kernel_rfl) ((breaks.calls w).mono ?_)
  rintro e w1 ⟨rfl, hb⟩
  refine ⟨_, rfl, ?_⟩
  obtain ⟨C, hC⟩ : ∃ C, C = (cells3 breaksT).toArray := ⟨_, rfl⟩
  have hC1 := breaks_size
  have hC2 := breaks_same
  have hC3 := breaks_one
  rw [← hC] at hC1 hC2 hC3
  have hst := Go.run_storeAt_new (P := Tryd.prog) w1 93 Tryd.zeroCells93 C hC1 hC2 hC3
  have hR : Kd.C k80 (w1.alloc (.cells C 93)) (some ⟨w1.heap.size, 0, none⟩) breaksT.length breaksT := reads_block (by rw [hC]; exact heap_alloc_last w1 _) (by decide)
  rw [← hC]
  clear hC hC1 hC2 hC3
  refine wpList_val rfl (v := .pointer (some ⟨w1.heap.size,0,none⟩)) (w' := w1.alloc (.cells Tryd.zeroCells93 93)) ?_ ?_
  · go_simp
  refine wpList_done rfl (w' := w1.alloc (.cells C 93)) ?_ ?_
  · have e : execOp (Act.eval ⟨#[.slice none 0 0, .pointer (some ⟨w1.heap.size,0,none⟩), .agg C, undef], []⟩) ⟨none, .store 93 (.tmp 1) (.tmp 2), 0, "", #[], none⟩ = (do Instr.storeAt 93 (.pointer (some ⟨w1.heap.size,0,none⟩)) (.agg C); pure .skip) := by kernel_rfl
    have e2 : (execOp (Act.eval ⟨#[.slice none 0 0, .pointer (some ⟨w1.heap.size,0,none⟩), .agg C, undef], []⟩) ⟨none, .store 93 (.tmp 1) (.tmp 2), 0, "", #[], none⟩).run Tryd.prog (w1.alloc (.cells Tryd.zeroCells93 93)) = .ok .skip (w1.alloc (.cells C 93)) := by
      rw [e, Sem.run_bind, hst]
      rfl
    exact e2
  refine wpList_nil (hK _ _ ?_)
  clear hK K hst
  apply wp_seq_k; intro K hK
  apply wp_region_list
  refine wpList_val rfl (v := .slice (some ⟨w1.heap.size, 0, none⟩) 190 190) (w' := w1.alloc (.cells C 93)) (by kernel_rfl) ?_
  refine wpList_first 1 (a' := ⟨#[.slice (some ⟨w1.heap.size, 0, none⟩) 190 190, .pointer (some ⟨w1.heap.size,0,none⟩), .agg C, .slice (some ⟨w1.heap.size, 0, none⟩) 190 190], []⟩) (by kernel_rfl) ?_
  refine wpList_nil (hK _ _ ?_)
  clear hK K
  apply wp_ret
  refine bodyPost_ret (results_tmp rfl _ _ _) rfl ⟨w1.heap.size, rfl, hR, hb.alloc hb.size _⟩

def ucd_Break.f (a0 : Int) : Option Int := (ucd_syllable.f a0).bind fun s => if s.1 = true then (if s.2 = true then some 36 else some 37) else ucd_of.f tabRounds a0 breaksT 0
set_option maxHeartbeats 1600000 in
set_option maxRecDepth 100000 in
theorem ucd_Break.calls (a0 : Int) (r : Int) (w : World) (h : ucd_Break.f a0 = some r) :
    Calls Tryd.prog 44 #[.int .i32 a0] w fun e w' => e = .returned (.int .u8 r) ∧ Below w.heap.size w w' := by
  unfold ucd_Break.f at h
  obtain ⟨⟨s1, s2⟩, hs, h⟩ := Option.bind_eq_some_iff.mp h
  have HS := Aside0.mk hs
  clear hs
  cases s1
  · have H := Aside0.mk (show ucd_of.f tabRounds a0 breaksT 0 = some r from by simpa using h)
    clear h
    go_enter Tryd.func44, Tryd.ntmps44
    go_wp2_with (fail)
    refine (ucd_syllable.calls a0 false s2 w HS.out).mono ?_
    rintro e w1 ⟨rfl, ⟨nd, rfl⟩⟩
    go_wp2_with (fail)
    refine (breaksAll.calls _).mono ?_
    rintro e w1 ⟨g, rfl, hR, hb⟩
    have HR := Aside0.mk hR
    clear hR
    go_wp2_with (fail)
    refine calls_of_args (args' := #[.int .i32 a0, .slice (some ⟨g, 0, none⟩) breaksT.length 190, .int .u8 0]) (by rfl) ?_
    refine (ucd_of.calls tabRounds a0 _ _ breaksT 0 r _ HR.out (by decide) H.out).mono ?_
    rintro e w2 ⟨rfl, hb2⟩
    go_wp2
    go_ret
    exact ⟨rfl, (pw_below_drewN (Below.refl _ _) nd).trans (hb.trans (hb2.mono hb.size))⟩
  · cases s2
    · obtain rfl : 37 = r := by simpa using h
      clear h
      go_enter Tryd.func44, Tryd.ntmps44
      go_wp2_with (fail)
      refine (ucd_syllable.calls a0 true false w HS.out).mono ?_
      rintro e w1 ⟨rfl, ⟨nd, rfl⟩⟩
      go_wp2
      go_ret
      exact ⟨rfl, pw_below_drewN (Below.refl _ _) nd⟩
    · obtain rfl : 36 = r := by simpa using h
      clear h
      go_enter Tryd.func44, Tryd.ntmps44
      go_wp2_with (fail)
      refine (ucd_syllable.calls a0 true true w HS.out).mono ?_
      rintro e w1 ⟨rfl, ⟨nd, rfl⟩⟩
      go_wp2
      go_ret
      exact ⟨rfl, pw_below_drewN (Below.refl _ _) nd⟩

def ucd_Cluster.f (a0 : Int) : Option Int := (ucd_syllable.f a0).bind fun s => if s.1 = true then (if s.2 = true then some 11 else some 12) else ucd_of.f tabRounds a0 clustersT 0
set_option maxHeartbeats 1600000 in
set_option maxRecDepth 100000 in
theorem ucd_Cluster.calls (a0 : Int) (r : Int) (w : World) (hLD : Laid [1] w) (h : ucd_Cluster.f a0 = some r) :
    Calls Tryd.prog 46 #[.int .i32 a0] w fun e w' => e = .returned (.int .u8 r) ∧ Below w.heap.size w w' := by
  unfold ucd_Cluster.f at h
  obtain ⟨⟨s1, s2⟩, hs, h⟩ := Option.bind_eq_some_iff.mp h
  have HS := Aside0.mk hs
  have HR := Aside0.mk (hLD.reads (l := clustersT) rfl (by decide))
  clear hLD
  clear hs
  cases s1
  · have H := Aside0.mk (show ucd_of.f tabRounds a0 clustersT 0 = some r from by simpa using h)
    clear h
    go_enter Tryd.func46, Tryd.ntmps46
    go_wp2_with (fail)
    refine (ucd_syllable.calls a0 false s2 w HS.out).mono ?_
    rintro e w1 ⟨rfl, ⟨nd, rfl⟩⟩
    go_wp2_with (fail)
    refine calls_of_args (args' := #[.int .i32 a0, .slice (some ⟨1, 0, none⟩) clustersT.length 50, .int .u8 0]) (by rfl) ?_
    refine (ucd_of.calls tabRounds a0 _ _ clustersT 0 r _ (Kd.C_below HR.out (pw_below_drewN (Below.refl _ _) nd)) (by decide) H.out).mono ?_
    rintro e w2 ⟨rfl, hb2⟩
    go_wp2
    go_ret
    exact ⟨rfl, (pw_below_drewN (Below.refl _ _) nd).trans hb2⟩
  · cases s2
    · obtain rfl : 12 = r := by simpa using h
      clear h
      go_enter Tryd.func46, Tryd.ntmps46
      go_wp2_with (fail)
      refine (ucd_syllable.calls a0 true false w HS.out).mono ?_
      rintro e w1 ⟨rfl, ⟨nd, rfl⟩⟩
      go_wp2
      go_ret
      exact ⟨rfl, pw_below_drewN (Below.refl _ _) nd⟩
    · obtain rfl : 11 = r := by simpa using h
      clear h
      go_enter Tryd.func46, Tryd.ntmps46
      go_wp2_with (fail)
      refine (ucd_syllable.calls a0 true true w HS.out).mono ?_
      rintro e w1 ⟨rfl, ⟨nd, rfl⟩⟩
      go_wp2
      go_ret
      exact ⟨rfl, pw_below_drewN (Below.refl _ _) nd⟩
end Go.Proofs.YtfnkpjkbgfgbkaaDoor.Pr
