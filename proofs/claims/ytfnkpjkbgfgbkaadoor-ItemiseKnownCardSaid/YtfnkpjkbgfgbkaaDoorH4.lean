/-
  The contract of ucd.Bracket: the first pair that has the character tells.
-/
import Derived.Test.YtfnkpjkbgfgbkaaDoorH1
namespace Go.Proofs.YtfnkpjkbgfgbkaaDoor.Pr
open Go.RowKit HK Go.Proofs.YtfnkpjkbgfgbkaaDoorW.PrintWords Go.Proofs.YtfnkpjkbgfgbkaaDoorW.PrintLast Go.Proofs.YtfnkpjkbgfgbkaaDoorW.PrintMore
set_option linter.unusedVariables false

/-- The first pair that has a character. -/
def brk : List Two → Int → Int × Bool × Bool
  | [], _ => (0, false, false)
  | x :: l, r => if r = x.a ∨ r = x.b then (if x.b = 9002 then (12297, r == x.a, true) else (x.b, r == x.a, true)) else brk l r

theorem run_loadVar_cells {P : Program} (w : World) (g ty : Nat) (cs : List Value) (d : TypeDesc) (hc : ∀ j v, cs[j]? = some v → w.cell? ⟨g, j, none⟩ = some v)
    (hu : P.underlying ty = some d) (hd : (match d with | .struct _ | .array _ _ => true | _ => false) = true) (hi : (P.info? ty).map (·.size) = some cs.length) :
    (loadVar ty ⟨g, 0, none⟩).run P w = .ok (.agg cs.toArray) w := by
  have hl : (loadCells ⟨g, 0, none⟩ cs.length).run P w = .ok cs.toArray w :=
    run_loadCells_list (P := P) w ⟨g, 0, none⟩ cs (fun j v hv => by rw [addr_add0]; exact hc j v hv)
  cases hq : P.info? ty with
  | none => simp [hq] at hi
  | some i =>
    have hs : i.size = cs.length := by simpa [hq] using hi
    have hagg : (isAgg ty).run P w = .ok true w := by
      unfold isAgg
      rw [Sem.run_bind, run_underlying hu w]
      cases d <;> simp_all
    simp [loadVar, Sem.run_bind, hagg, sizeOf, typeInfo, hq, hs, hl]

theorem wpList_load_cells {P : Program} {ops : Array Oper} {rest : List Oper} {o : Oper} {a : Act} {w : World} {Q : Exit → Act → World → Prop} (hgd : o.guard = none) (ty : TypeId) (x : Operand) (ho : o.op = .load ty x)
    (g : Nat) (hx : a.eval x = .pointer (some ⟨g, 0, none⟩)) (cs : List Value) (d : TypeDesc) (hc : ∀ j v, cs[j]? = some v → w.cell? ⟨g, j, none⟩ = some v)
    (hu : P.underlying ty = some d) (hd : (match d with | .struct _ | .array _ _ => true | _ => false) = true) (hi : (P.info? ty).map (·.size) = some cs.length)
    (h : wpList P ops Q rest (a.put o.dst (.agg cs.toArray)) w) : wpList P ops Q (o :: rest) a w :=
  wpList_plain hgd fun K hK => by
    have h1 := hK _ _ h
    unfold Oper.wp execOp
    simp only [ho, hx, Instr.loadAt, Instr.sureAddr, Sem.run_bind, Sem.run_pure, Result.andThen_ok, run_loadVar_cells w g ty cs d hc hu hd hi]
    exact h1

def bracketsC : Array Value := (cells2 bracketsT).toArray
def brkAt (k : Nat) : Two := bracketsT.getD k ⟨0, 0⟩

theorem brk_index (k : Nat) (hk : k < 23) (w : World) : (Instr.index 90 (.agg bracketsC) (.int .i64 (k : Int))).run Tryd.prog w = .ok (.agg #[.int .i32 (brkAt k).a, .int .i32 (brkAt k).b]) w := by
  rcases (show k = 0 ∨ k = 1 ∨ k = 2 ∨ k = 3 ∨ k = 4 ∨ k = 5 ∨ k = 6 ∨ k = 7 ∨ k = 8 ∨ k = 9 ∨ k = 10 ∨ k = 11 ∨ k = 12 ∨ k = 13 ∨ k = 14 ∨ k = 15 ∨ k = 16 ∨ k = 17 ∨ k = 18 ∨ k = 19 ∨ k = 20 ∨ k = 21 ∨ k = 22 by omega) with rfl | rfl | rfl | rfl | rfl | rfl | rfl | rfl | rfl | rfl | rfl | rfl | rfl | rfl | rfl | rfl | rfl | rfl | rfl | rfl | rfl | rfl | rfl <;> kernel_rfl

theorem brk_step (k : Nat) (hk : k < 23) (r : Int) : brk (bracketsT.drop k) r = if r = (brkAt k).a ∨ r = (brkAt k).b then (if (brkAt k).b = 9002 then (12297, r == (brkAt k).a, true) else ((brkAt k).b, r == (brkAt k).a, true)) else brk (bracketsT.drop (k + 1)) r := by
  have hl : k < bracketsT.length := hk
  rw [List.drop_eq_getElem_cons hl]
  simp only [brk, brkAt, List.getD_eq_getElem?_getD, List.getElem?_eq_getElem hl, Option.getD_some]

def ucd_Bracket.f (a0 : Int) : Option (Int × Bool × Bool) := some (brk bracketsT a0)
set_option maxHeartbeats 4000000 in
set_option maxRecDepth 100000 in
theorem ucd_Bracket.calls (a0 : Int) (r1 : Int) (r2 : Bool) (r3 : Bool) (w : World) (hLD : Laid [5] w) (h : ucd_Bracket.f a0 = some (r1, r2, r3)) :
    Calls Tryd.prog 56 #[.int .i32 a0] w fun e w' => e = .returned (.tuple #[.int .i32 r1, .bool r2, .bool r3]) ∧ Below w.heap.size w w' := by
  have H := Aside0.mk (show brk (bracketsT.drop 0) a0 = (r1, r2, r3) from Option.some.inj h)
  have HT := Aside0.mk (hLD _ (List.mem_singleton.2 rfl))
  clear h hLD
  go_enter Tryd.func56, Tryd.ntmps56
  have HI := Aside0.mk brk_index
  have hsz : (Tryd.prog.info? 90).map (·.size) = some (cells2 bracketsT).length := by kernel_rfl
  have HZ := Aside0.mk hsz
  clear hsz
  obtain ⟨C, hC⟩ : ∃ C, C = bracketsC := ⟨_, rfl⟩
  rw [← hC] at HI
  have HC := Aside0.mk hC
  clear hC
  go_wp2_with (refine wpList_load_cells rfl 90 _ rfl 5 rfl (cells2 bracketsT) _ HT.out Tryd.underlying90 rfl HZ.out ?_; rw [show (cells2 bracketsT).toArray = C from HC.out.symm])
  clear HT HC HZ
  go_loopw [8] (fun v8 wr => ∃ k : Nat, v8 = .int .i64 k ∧ k ≤ 23 ∧ Aside0 (brk (bracketsT.drop k) a0 = (r1, r2, r3)) ∧ Aside0 (Below w.heap.size w wr)) (fun v8 _ => 23 - (intOf v8).toNat)
  case atStart => exact ⟨0, rfl, by omega, H, ⟨Below.refl _ _⟩⟩
  case round =>
    clear H
    obtain ⟨k, rfl, hk, H, HB⟩ := hrel
    by_cases hlt : k < 23
    · have hidx := fun w => HI.out k hlt w
      have hs := brk_step k hlt a0
      rw [H.out] at hs
      obtain ⟨x, hx⟩ : ∃ x, x = brkAt k := ⟨_, rfl⟩
      simp only [← hx] at hidx hs
      have HS := Aside0.mk hs
      clear hs hx H HI
      by_cases h1 : a0 = x.a
      · have h1a : (a0 != x.a) = false := bne_eq_false_iff_eq.mpr h1
        have h1b : (a0 == x.a) = true := beq_iff_eq.mpr h1
        by_cases h3 : x.b = 9002
        · have h3b : (x.b == 9002) = true := beq_iff_eq.mpr h3
          have HH := HS.out
          rw [if_pos (.inl h1), if_pos h3] at HH
          clear h1 h3 HS
          obtain ⟨rfl, rfl, rfl⟩ : r1 = 12297 ∧ r2 = (a0 == x.a) ∧ r3 = true := by simpa [eq_comm] using HH
          clear HH
          go_wp2
          go_quiet (fail)
          go_wp2
          go_ret3
          exact ⟨by rw [h1b]; rfl, HB.out.trans ((pw_below_drewN (by first | exact below_alloc (Below.refl _ _) HB.out.size _ | exact Below.alloc (Below.refl _ _) HB.out.size _) _))⟩
        · have h3b : (x.b == 9002) = false := beq_eq_false_iff_ne.mpr h3
          have HH := HS.out
          rw [if_pos (.inl h1), if_neg h3] at HH
          clear h1 h3 HS
          obtain ⟨rfl, rfl, rfl⟩ : r1 = x.b ∧ r2 = (a0 == x.a) ∧ r3 = true := by simpa [eq_comm] using HH
          clear HH
          go_wp2
          go_quiet (fail)
          go_wp2
          go_ret3
          exact ⟨by rw [h1b]; rfl, HB.out.trans ((pw_below_drewN (by first | exact below_alloc (Below.refl _ _) HB.out.size _ | exact Below.alloc (Below.refl _ _) HB.out.size _) _))⟩
      · have h1a : (a0 != x.a) = true := bne_iff_ne.mpr h1
        have h1b : (a0 == x.a) = false := beq_eq_false_iff_ne.mpr h1
        have H1 := Aside0.mk h1
        clear h1
        by_cases h1 : a0 = x.b
        · have h2a : (a0 != x.b) = false := bne_eq_false_iff_eq.mpr h1
          clear H1
          by_cases h3 : x.b = 9002
          · have h3b : (x.b == 9002) = true := beq_iff_eq.mpr h3
            have HH := HS.out
            rw [if_pos (.inr h1), if_pos h3] at HH
            clear h1 h3 HS
            obtain ⟨rfl, rfl, rfl⟩ : r1 = 12297 ∧ r2 = (a0 == x.a) ∧ r3 = true := by simpa [eq_comm] using HH
            clear HH
            go_wp2
            go_quiet (fail)
            go_wp2
            go_ret3
            exact ⟨by rw [h1b]; rfl, HB.out.trans ((pw_below_drewN (by first | exact below_alloc (Below.refl _ _) HB.out.size _ | exact Below.alloc (Below.refl _ _) HB.out.size _) _))⟩
          · have h3b : (x.b == 9002) = false := beq_eq_false_iff_ne.mpr h3
            have HH := HS.out
            rw [if_pos (.inr h1), if_neg h3] at HH
            clear h1 h3 HS
            obtain ⟨rfl, rfl, rfl⟩ : r1 = x.b ∧ r2 = (a0 == x.a) ∧ r3 = true := by simpa [eq_comm] using HH
            clear HH
            go_wp2
            go_quiet (fail)
            go_wp2
            go_ret3
            exact ⟨by rw [h1b]; rfl, HB.out.trans ((pw_below_drewN (by first | exact below_alloc (Below.refl _ _) HB.out.size _ | exact Below.alloc (Below.refl _ _) HB.out.size _) _))⟩
        · have h2a : (a0 != x.b) = true := bne_iff_ne.mpr h1
          have HH := HS.out
          rw [if_neg (fun z => z.elim H1.out h1)] at HH
          have H := Aside0.mk HH.symm
          clear HH HS H1 h1
          go_wp2
          go_roundw
          case rel => exact ⟨k + 1, by go_num, by omega, H, ⟨HB.out.alloc HB.out.size _⟩⟩
          case measure => simp [intOf]; omega
    · obtain rfl : k = 23 := by omega
      have HH := H.out
      obtain ⟨rfl, rfl, rfl⟩ : r1 = 0 ∧ r2 = false ∧ r3 = false := by simpa [bracketsT, brk, eq_comm] using HH
      clear H HH
      go_wp2
      go_ret3
      exact ⟨rfl, HB.out⟩
end Go.Proofs.YtfnkpjkbgfgbkaaDoor.Pr
