/-
  The contract of itemise's Scripts: part by part, over the iterator.
-/
import Derived.Test.YtfnkpjkbgfgbkaaDoorHQ
import Derived.Test.YtfnkpjkbgfgbkaaDoorHR
namespace Go.Proofs.YtfnkpjkbgfgbkaaDoor.Pr
open Go.RowKit Go.Shelf HK Go.Proofs.YtfnkpjkbgfgbkaaDoorW.PrintWords Go.Proofs.YtfnkpjkbgfgbkaaDoorW.PrintLast Go.Proofs.YtfnkpjkbgfgbkaaDoorW.PrintMore
attribute [local go_sem] Oper.semAt_some
set_option linter.unusedVariables false

/-- The row behind some parts. -/
def scriptsP (l : List Int) (ps : List (Nat × Nat)) : List Int := ps.foldl (fun xs p => xs.take p.1 ++ partF ((l.take p.2).drop p.1) ++ xs.drop p.2) (List.replicate l.length 0)
def itemise_Scripts.f (l : List Int) : Option (List Int) := if l.length ≤ 1000000 then some (scriptsP l (prts l 0 0)) else none

theorem scriptsP_snoc (l : List Int) (ps : List (Nat × Nat)) (p : Nat × Nat) : scriptsP l (ps ++ [p]) = (scriptsP l ps).take p.1 ++ partF ((l.take p.2).drop p.1) ++ (scriptsP l ps).drop p.2 := by simp [scriptsP]
theorem foldl_row_length (l : List Int) : ∀ (ps : List (Pt l.length)) (xs : List Int), xs.length = l.length →
    ((ps.map (·.1)).foldl (fun xs p => xs.take p.1 ++ partF ((l.take p.2).drop p.1) ++ xs.drop p.2) xs).length = l.length
  | [], xs, h => h
  | p :: ps, xs, h => by
    rw [List.map_cons, List.foldl_cons]
    refine foldl_row_length l ps _ ?_
    have h1 := p.2.1
    have h2 := p.2.2
    simp only [List.length_append, List.length_take, List.length_drop, partF_length, h]
    omega
theorem scriptsP_length (l : List Int) (ps : List (Pt l.length)) : (scriptsP l (ps.map (·.1))).length = l.length := foldl_row_length l ps _ (by simp)

theorem push4 (h : Array Obj) (a b c d : Obj) : ((((h.push a).push b).push c).push d)[h.size]? = some a ∧ ((((h.push a).push b).push c).push d)[h.size + 1]? = some b ∧ ((((h.push a).push b).push c).push d)[h.size + 2]? = some c ∧ ((((h.push a).push b).push c).push d)[h.size + 3]? = some d := by
  have s1 : (h.push a).size = h.size + 1 := by simp
  have s2 : ((h.push a).push b).size = h.size + 2 := by simp
  have s3 : (((h.push a).push b).push c).size = h.size + 3 := by simp
  refine ⟨?_, ?_, ?_, ?_⟩
  · rw [Array.getElem?_push, if_neg (by omega), Array.getElem?_push, if_neg (by omega), Array.getElem?_push, if_neg (by omega), Array.getElem?_push, if_pos rfl]
  · rw [Array.getElem?_push, if_neg (by omega), Array.getElem?_push, if_neg (by omega), Array.getElem?_push, if_pos (by omega)]
  · rw [Array.getElem?_push, if_neg (by omega), Array.getElem?_push, if_pos (by omega)]
  · rw [Array.getElem?_push, if_pos (by omega)]
theorem reads_block_lt {w : World} {A : Option Addr} {n : Nat} {l : List Int} (h : Kd.C (Kd.int .i32) w A n l) (hn : 0 < n) {ad : Addr} (e : A = some ad) : ad.block < w.heap.size := by
  obtain ⟨ad', e', hx⟩ := Kd.at_int h 0 (by decide) (by omega)
  obtain rfl : ad = ad' := by rw [e] at e'; injection e'
  have := World.block_lt_of_cell? w _ hx
  unfold Addr.add at this
  split at this <;> exact this

theorem mid_row (A0 : Option Addr) (c0 : Nat) (l0 : List Int) (hc : l0.length ≤ c0) (f t : Nat) (hft : f < t) (ht : t ≤ l0.length) :
    ∃ A' : Option Addr, (∀ W : World, (Instr.slice 22 (.slice A0 l0.length c0) (some (.int .i64 (f : Int))) (some (.int .i64 (t : Int))) none).run Tryd.prog W = .ok (.slice A' ((l0.take t).drop f).length (c0 - f)) W) ∧
      (∀ W : World, Kd.C (Kd.int .i32) W A0 l0.length l0 → Kd.C (Kd.int .i32) W A' ((l0.take t).drop f).length ((l0.take t).drop f)) ∧ ∀ ad, A' = some ad → ∃ ad0, A0 = some ad0 ∧ ad.block = ad0.block := by
  obtain ⟨i0, hi, hzz⟩ := Option.map_eq_some_iff.1 (show (Tryd.prog.info? 21).map (fun i => i.size) = some 1 by kernel_rfl)
  have hcut := cut_mid (P := Tryd.prog) 22 21 .i64 .i64 Tryd.underlying22 hi 1 hzz A0 l0.length c0 (f : Int) (t : Int) (by omega) (by omega) (by omega) hc
  have hl : ((l0.take t).drop f).length = t - f := by rw [List.length_drop, List.length_take]; omega
  simp only [Int.toNat_natCast] at hcut
  rw [← hl] at hcut
  refine ⟨_, hcut, fun W h => Kd.C_mid (k := Kd.int .i32) h (by omega) ht hc, fun ad e => ?_⟩
  rw [if_neg (by omega)] at e
  obtain ⟨ad0, rfl, rfl⟩ := Option.map_eq_some_iff.1 e
  exact ⟨ad0, rfl, by unfold Addr.add; split <;> rfl⟩
theorem mid_out (B n f t : Nat) (hft : f < t) (ht : t ≤ n) (W : World) :
    (Instr.slice 24 (.slice (some ⟨B, 0, none⟩) n n) (some (.int .i64 (f : Int))) (some (.int .i64 (t : Int))) none).run Tryd.prog W = .ok (.slice (some ⟨B, f, none⟩) (t - f) (n - f)) W := by
  obtain ⟨i0, hi, hzz⟩ := Option.map_eq_some_iff.1 (show (Tryd.prog.info? 5).map (fun i => i.size) = some 1 by kernel_rfl)
  have hcut := cut_mid (P := Tryd.prog) 24 5 .i64 .i64 Tryd.underlying24 hi 1 hzz (some ⟨B, 0, none⟩) n n (f : Int) (t : Int) (by omega) (by omega) (by omega) (Nat.le_refl _) W
  simp only [Int.toNat_natCast] at hcut
  rw [if_neg (by omega), Option.map_some, addr_add0, Nat.mul_one] at hcut
  exact hcut

theorem made_zeros (n : Nat) : madeCells (Value.int .u8 0).cells (n * 1) = (nums .u8 (List.replicate n 0)).toArray := by
  apply Array.ext
  · simp [size_madeCells, nums]
  · intro i h1 h2
    simp [madeCells, nums, Value.cells, Nat.mod_one]
theorem run_makeRow (n : Nat) (hn : n ≤ 1000000) (W : World) : (Instr.makeSlice 24 (.int .i64 (n : Int)) (.int .i64 (n : Int))).run Tryd.prog W = .ok (.slice (some ⟨W.heap.size, 0, none⟩) n n) (W.alloc (.cells (nums .u8 (List.replicate n 0)).toArray 5)) := by
  obtain ⟨i0, hi, hzz⟩ := Option.map_eq_some_iff.1 (show (Tryd.prog.info? 5).map (fun i => (i.zero, i.size, i.bytes)) = some (some (.int .u8 0), 1, 1) by kernel_rfl)
  simp only [Prod.mk.injEq] at hzz
  obtain ⟨hz0, hz1, hz2⟩ := hzz
  have hr := run_make (P := Tryd.prog) W 24 5 i0 (.int .u8 0) Tryd.underlying24 hi hz0 .i64 .i64 (n : Int) (n : Int) (by omega) (by omega) (by rw [hz2]; omega) (by omega)
  simp only [Int.toNat_natCast, hz1, made_zeros] at hr
  exact hr

/-- A row of bytes in a block of the call's own. -/
theorem row_R {W : World} {B base : Nat} {xs : List Int} (h : W.heap[B]? = some (.cells (nums .u8 xs).toArray 5 (0, 0))) (hb : base ≤ B) (hn : xs.length ≤ 1000000) : Kd.R (Kd.int .u8) 5 W base (fun _ => True) (.slice (some ⟨B, 0, none⟩) xs.length xs.length) xs := by
  have hl : (nums .u8 xs).length = xs.length := by simp [nums]
  have hsz : (Kd.int .u8).sz = 1 := rfl
  refine ⟨fun _ _ => trivial, nums .u8 xs, ⟨by rw [hsz, Nat.mul_one, hl], .inr ⟨B, xs.length, _, rfl, hb, h, Nat.le_refl _, by unfold maxLen; omega, by rw [hsz, Nat.mul_one]; simp [nums], by rw [hsz, Nat.mul_one, List.take_of_length_le (by simp [nums])]⟩⟩, by rw [hsz, Nat.mul_one, hl], fun j p hj => ?_⟩
  show ((nums .u8 xs).drop (j * 1)).take 1 = [.int .u8 p]
  have hjl := (List.getElem?_eq_some_iff.1 hj).1
  have hn2 : j < (nums .u8 xs).length := by omega
  rw [Nat.mul_one, List.drop_eq_getElem_cons hn2]
  simp [nums] at hj ⊢
  exact (List.getElem?_eq_some_iff.1 hj).2

set_option maxRecDepth 100000 in
set_option maxHeartbeats 4000000 in
theorem itemise_Scripts.calls (A0 : Option Addr) (c0 : Nat) (l0 : List Int) (r : List Int) (w : World) (hr0 : Kd.C (Kd.int .i32) w A0 l0.length l0) (hc0 : l0.length ≤ c0) (hLD : Laid [2, 5] w) (h : itemise_Scripts.f l0 = some r) :
    Calls Tryd.prog 13 #[.slice A0 l0.length c0] w fun e w' => ∃ v0_ : Value, e = .returned v0_ ∧ Kd.R (Kd.int .u8) 5 w' w.heap.size (fun _ => True) v0_ r ∧ Below w.heap.size w w' := by
  unfold itemise_Scripts.f at h
  split at h
  case isFalse => cases h
  next hlen =>
  obtain rfl := Option.some.inj h
  clear h
  have hg1 : 2 < w.heap.size := block_lt_of_cell (hLD 2 (by simp) 0 _ rfl)
  have hg2 : 5 < w.heap.size := block_lt_of_cell (hLD 5 (by simp) 0 _ rfl)
  have HR0 := Aside0.mk hr0
  have HC0 := Aside0.mk hc0
  have HLD := Aside0.mk hLD
  have HLEN := Aside0.mk hlen
  clear hr0 hc0 hLD
  refine (callsIn_wide (n := 8)).1 ?_
  refine callsIn_of_wp_marks Tryd.func13 rfl trivial ?_ rfl
  simp only [Tryd.ntmps13, List.size_toArray, List.length_cons, List.length_nil, Nat.reduceAdd, Nat.reduceSub, Array.replicate_succ, Array.replicate_zero, List.push_toArray, List.append_toArray, List.nil_append, List.cons_append]
  have hmk := run_makeRow l0.length hlen
  gi_wp2
  refine ⟨trivial, ?_⟩
  refine (parts_in 7 _ _ _ _).mono ?_
  rintro e w' ⟨rfl, rfl⟩
  gi_wp2
  obtain ⟨W0, hW0⟩ : ∃ W0, (((w.alloc (.cells #[.slice A0 l0.length c0] 22)).alloc (.cells (nums .u8 (List.replicate l0.length 0)).toArray 5)).alloc (.cells #[.slice (some ⟨w.heap.size + 1, 0, none⟩) l0.length l0.length] 24)).alloc (.cells #[.slice A0 l0.length c0] 22) = W0 := ⟨_, rfl⟩
  rw [hW0]
  have hsz : W0.heap.size = w.heap.size + 4 := by rw [← hW0]; simp [World.size_alloc]
  have hb0 : Below w.heap.size w W0 := by
    rw [← hW0]
    exact ((((Below.refl _ w).alloc (Nat.le_refl _) _).alloc (by simp [World.size_alloc]) _).alloc (by simp [World.size_alloc]; omega) _).alloc (by simp [World.size_alloc]; omega) _
  have hh : W0.heap = (((w.heap.push (.cells #[.slice A0 l0.length c0] 22)).push (.cells (nums .u8 (List.replicate l0.length 0)).toArray 5)).push (.cells #[.slice (some ⟨w.heap.size + 1, 0, none⟩) l0.length l0.length] 24)).push (.cells #[.slice A0 l0.length c0] 22) := by rw [← hW0]; rfl
  have e0 : W0.heap[w.heap.size]? = some (.cells #[.slice A0 l0.length c0] 22 (0, 0)) := by rw [hh]; exact (push4 w.heap _ _ _ _).1
  have e1 : W0.heap[w.heap.size + 1]? = some (.cells (nums .u8 (List.replicate l0.length 0)).toArray 5 (0, 0)) := by rw [hh]; exact (push4 w.heap _ _ _ _).2.1
  have e2 : W0.heap[w.heap.size + 2]? = some (.cells #[.slice (some ⟨w.heap.size + 1, 0, none⟩) l0.length l0.length] 24 (0, 0)) := by rw [hh]; exact (push4 w.heap _ _ _ _).2.2.1
  have e3 : W0.heap[w.heap.size + 3]? = some (.cells #[.slice A0 l0.length c0] 22 (0, 0)) := by rw [hh]; exact (push4 w.heap _ _ _ _).2.2.2
  clear hh hW0
  have hbox := cell_of_row W0 (w.heap.size + 3) 0 _ _ _ e3
  refine wpIn_rangeFunc_ownF (n := 8) rfl (by decide) (gf := 55) (lb := #[.pointer (some ⟨w.heap.size + 3, 0, none⟩)]) rfl trivial (enters_of Tryd.func55 (by kernel_rfl) rfl)
    (parts_stops 7 (by decide) (w.heap.size + 3) (w.heap.size + 4) (w.heap.size + 1) A0 c0 l0 (by have := HLEN.out; omega) (by omega) (by omega) (fun hpos ad e => ⟨Nat.lt_of_lt_of_le (reads_block_lt HR0.out hpos e) (by omega), by have := reads_block_lt HR0.out hpos e; omega⟩) W0 (by omega) hbox (Kd.C_below HR0.out hb0)) Kept.trans (fun W l o o' hl hs _ _ => Kept.putObj W l o' (by omega) (Array.getElem?_eq_some_iff.1 hs).1) (Below.refl _ _) (fun _ => rfl)
    (fun pre W => (W.heap[w.heap.size + 1]? = some (.cells (nums .u8 (scriptsP l0 (pre.map (·.1)))).toArray 5 (0, 0)) ∧ W.cell? ⟨w.heap.size, 0, none⟩ = some (.slice A0 l0.length c0) ∧ W.cell? ⟨w.heap.size + 2, 0, none⟩ = some (.slice (some ⟨w.heap.size + 1, 0, none⟩) l0.length l0.length) ∧ w.heap.size + 4 ≤ W.heap.size) ∧ Below w.heap.size w W)
    (fun _ _ _ => False)
    (OwnFrom.and (Own.from (fun s A B row hs hg hr => ⟨?own, cell_kept hs.2.1 hg hr, cell_kept hs.2.2.1 hg hr, Nat.le_trans hs.2.2.2 hg.size⟩) _) (ownFrom_below (Nat.le_refl _) (by omega)))
    (fun _ _ _ _ _ hs _ _ => hs)
    ⟨⟨e1, cell_of_row W0 w.heap.size 0 _ _ _ e0, cell_of_row W0 (w.heap.size + 2) 0 _ _ _ e2, by omega⟩, hb0⟩
    (fun x => { tmps := #[Value.slice A0 l0.length c0, Value.pointer (some ⟨w.heap.size, 0, none⟩), Value.slice none 0 0, Value.pointer (some ⟨w.heap.size + 1 + 1, 0, none⟩), .int .i64 (x.1.1 : Int), .int .i64 (x.1.2 : Int), Value.slice A0 l0.length c0, Value.int IntKind.i64 ↑l0.length,
      Value.slice (some ⟨w.heap.size + 1, 0, none⟩) l0.length l0.length, Value.slice A0 l0.length c0, Value.func (Fn.func 55) #[] #[Value.pointer (some ⟨w.heap.size + 1 + 1 + 1, 0, none⟩)], .int .i64 (x.1.1 : Int), .int .i64 (x.1.2 : Int), undef, undef, undef, undef, undef, undef, undef, undef, undef, undef], defers := [] }) ?assign ?body ?done ?stop
  case own =>
    have h1 := heap_lt hs.1
    refine (hg.block _ h1 (fun e => ?_)).trans hs.1
    obtain ⟨o, ho, hc⟩ := hr _ e.symm
    rw [hs.1] at ho
    injection ho with ho
    subst ho
    cases hc
  case assign =>
    intro l x W K hK
    gi_wp2
    exact hK
  case body =>
    rintro l pre x W ⟨⟨hrow, hc1, hc2, hW4⟩, hB⟩ hlt
    have hmx : Tryd.prog.follows .mixedOrders = true := by kernel_rfl
    obtain ⟨⟨f, t⟩, hft, ht⟩ := x
    simp only at hft ht ⊢
    obtain ⟨A', hcut, hC', hA'⟩ := mid_row A0 c0 l0 HC0.out f t hft ht
    have hl' : ((l0.take t).drop f).length = t - f := by rw [List.length_drop, List.length_take]; omega
    have hcut2 := mid_out (w.heap.size + 1) l0.length f t hft ht
    rw [← hl'] at hcut2
    have hxs := scriptsP_length l0 pre
    have hLDW := Laid.below HLD.out hB
    have hcon := fun (W' : World) (hb : Below W.heap.size W W') => itemise_part.calls A' (c0 - f) ((l0.take t).drop f) (w.heap.size + 1) f (l0.length - f) (scriptsP l0 (pre.map (·.1))) W' (hC' W' (Kd.C_below (Kd.C_below HR0.out hB) hb)) (fun ad e => by
      obtain ⟨ad0, e0, eb⟩ := hA' ad e
      have := reads_block_lt HR0.out (by omega) e0
      omega) ((hb.block _ (heap_lt hrow)).trans hrow) (by rw [hxs, hl']; omega) (by omega) (by rw [hl']; have := HLEN.out; omega) ⟨by omega, by omega⟩ (Laid.below hLDW hb)
    have hcon1 := hcon W.drew (below_drew1 (Below.refl _ _))
    simp only [hl'] at hcon1
    have hin := CallsIn.inRound l ((callsIn_wide (n := 5)).2 hcon1)
    have HIN := Aside0.mk hin
    have HROW := Aside0.mk hrow
    have HBB := Aside0.mk hB
    have HXS := Aside0.mk hxs
    have HL := Aside0.mk hl'
    clear hcon1 hcon hin hrow hB hxs hl' hLDW hC' hA' e0 e1 e2 e3 hbox hb0 hmk
    gi_wp2
    refine wpIn_region_still_tail 8 hmx (by kernel_rfl) (by kernel_rfl) ?_
    simp only [List.take_succ_cons, List.take_zero, List.drop_succ_cons, List.drop_zero]
    repeat still_step
    refine wpStill_nil ?_
    gi_wp2
    refine ⟨trivial, ?_⟩
    refine HIN.out.mono ?_
    rintro e w2 ⟨rfl, hrow2, hrest⟩
    have HR2 := Aside0.mk hrow2
    have HR3 := Aside0.mk hrest
    clear hrow2 hrest
    gi_wp2
    have hlow : ∀ k, k < w.heap.size + 4 → k ≠ w.heap.size + 1 → w2.heap[k]? = W.heap[k]? := fun k hk hne => HR3.out.block k (by show k < W.heap.size; omega) hne
    refine ⟨⟨HR3.out.size, fun k o ho hc => ?_⟩, ⟨HR3.out.os, HR3.out.tape, HR3.out.output, HR3.out.size, hlow⟩, ⟨?_, ?_, ?_, Nat.le_trans hW4 HR3.out.size⟩, ?_⟩
    · have hne : k ≠ w.heap.size + 1 := fun e => by
        subst e
        rw [HROW.out] at ho
        injection ho with ho
        subst ho
        cases hc
      exact (HR3.out.block k (heap_lt ho) hne).trans ho
    · have := HR2.out
      rw [List.map_append, List.map_singleton, scriptsP_snoc]
      rw [show f + (t - f) = t by omega] at this
      exact this
    · exact (World.cell?_of_block (hlow _ (by show w.heap.size < _; omega) (by show w.heap.size ≠ _; omega))).trans hc1
    · exact (World.cell?_of_block (hlow _ (by show w.heap.size + 2 < _; omega) (by show w.heap.size + 2 ≠ _; omega))).trans hc2
    · exact HBB.out.trans ⟨HR3.out.os, HR3.out.tape, HR3.out.output, HR3.out.size, fun k hk => hlow k (by omega) (by omega)⟩
  case done =>
    rintro D ys W hD hys ⟨⟨hrow, hc1, hc2, hW4⟩, hB⟩ hK
    gi_wp2
    refine ⟨by simp, .inl ⟨_, _, rfl, run_takeDeferred hK, ?_⟩⟩
    refine ⟨_, results_tmp rfl _ _ _, _, rfl, ?_, hB.trans (belowK_b (w := w) (Nat.le_refl _) W D _ _ (by omega) hK rfl rfl)⟩
    have hlen2 := scriptsP_length l0 ys
    rw [hys] at hlen2 hrow
    have hne : w.heap.size + 1 ≠ D := fun e => by
      rw [← e, hrow] at hK
      cases hK
    have hrow2 : (W.putObj D (.deferred none)).heap[w.heap.size + 1]? = _ := (World.putObj_heap_other (by omega)).trans hrow
    have := row_R hrow2 (base := w.heap.size) (by omega) (by have := HLEN.out; omega)
    rw [hlen2] at this
    exact this
  case stop =>
    rintro D c pre W _ _ h _
    exact h.elim
end Go.Proofs.YtfnkpjkbgfgbkaaDoor.Pr
