/-
  The plain law of ItemiseParts.
-/
import Derived.Test.YtfnkpjkbgfgbkaaDoorPQ
import Derived.Test.YtfnkpjkbgfgbkaaDoorQA
namespace Go.Proofs.YtfnkpjkbgfgbkaaDoor.Pr
open Go.RowKit HK Go.Proofs.YtfnkpjkbgfgbkaaDoorW.PrintWords Go.Proofs.YtfnkpjkbgfgbkaaDoorW.PrintLast Go.Proofs.YtfnkpjkbgfgbkaaDoorW.PrintMore
set_option linter.unusedVariables false
set_option linter.unusedSimpArgs false

theorem rdT2 (R : List RunS) (i : Nat) : rd_T35 R (i : Int) = runAt R i := by
  unfold rd_T35 runAt
  rw [Int.toNat_natCast]
theorem runs_is {l lv : List Int} (h : l.length ≤ 65536) (hlv : lv.length = l.length) : itemise_Runs.f l lv = some (runsP lv (scriptsP l (prts l 0 0)) (prts l 0 0), 0) := by
  unfold itemise_Runs.f
  rw [if_neg (by omega), if_pos hlv.symm]
theorem scripts_is {l : List Int} (h : l.length ≤ 65536) : itemise_Scripts.f l = some (scriptsP l (prts l 0 0)) := by
  unfold itemise_Scripts.f
  rw [if_pos (by omega)]
theorem same_not (x : RunS) : (!((x.f0) == (x.f0)) || (!((x.f1) == (x.f1)) || (!((x.f2) == (x.f2)) || (!((x.f3) == (x.f3)))))) = false := by simp

theorem p_l1 (m : Nat) (hm : m ≤ 1000) (U V : List RunS) (hU : U.length ≤ 1000000) (hVl : V.length ≤ 1000000) (hV : ∀ j, j < V.length → ∃ a b : Nat, (runAt V j).f0 = (a : Int) ∧ (runAt V j).f1 = (b : Int) ∧ a ≤ 1000 ∧ b ≤ 1000) :
    ∀ d i, i + d = (U ++ V.map (shRun m)).length → Ev (fun q => calamuslaw14_ItemiseParts.l1 q (m : Int) (U ++ V.map (shRun m)) U V (i : Int)) true := by
  have hlen : (U ++ V.map (shRun m)).length = U.length + V.length := by simp
  intro d
  induction d with
  | zero =>
    intro i hi
    refine ⟨1, fun q hq => ?_⟩
    obtain ⟨q, rfl⟩ : ∃ m, q = m + 1 := ⟨q - 1, by omega⟩
    simp only [calamuslaw14_ItemiseParts.l1]
    rw [if_neg (by omega), works14]
    rfl
  | succ d ih =>
    intro i hi
    obtain ⟨k0, hk0⟩ := ih (i + 1) (by omega)
    refine ⟨k0 + 2, fun q hq => ?_⟩
    obtain ⟨q, rfl⟩ : ∃ m, q = m + 2 := ⟨q - 2, by omega⟩
    have hk3 := hk0 q (by omega)
    simp only at hk3
    rw [← wrap64_nat i (by omega)] at hk3
    simp only [calamuslaw14_ItemiseParts.l1, calamuslaw14_ItemiseParts.j5]
    rw [if_pos (by omega)]
    by_cases hiU : i < U.length
    · have e : runAt (U ++ V.map (shRun m)) i = runAt U i := getD_left _ _ _ _ hiU
      rw [if_pos (by omega), if_pos (by omega), rdT2, rdT2, e, same_not, if_neg (by simp), if_neg (by omega)]
      exact hk3
    · obtain ⟨j, rfl⟩ : ∃ j, i = U.length + j := ⟨i - U.length, by omega⟩
      obtain ⟨a, b, h0, h1, ha, hb⟩ := hV j (by omega)
      have e : runAt (U ++ V.map (shRun m)) (U.length + j) = shRun m (runAt V j) := by
        have h := getD_right U (V.map (shRun m)) j z35
        unfold runAt
        rw [h, List.getD_eq_getElem?_getD, List.getElem?_map, List.getElem?_eq_getElem (by omega), List.getD_eq_getElem?_getD, List.getElem?_eq_getElem (by omega)]
        rfl
      have ej : wrap64 (((U.length + j : Nat) : Int) - (U.length : Int)) = (j : Int) := by rw [wrap64_small (by omega)]; omega
      have w0 : wrap64 ((runAt V j).f0 + (m : Int)) = (shRun m (runAt V j)).f0 := by rw [wrap64_small (by omega)]; rfl
      have w1 : wrap64 ((runAt V j).f1 + (m : Int)) = (shRun m (runAt V j)).f1 := by rw [wrap64_small (by omega)]; rfl
      have w2 : (runAt V j).f2 = (shRun m (runAt V j)).f2 := rfl
      have w3 : (runAt V j).f3 = (shRun m (runAt V j)).f3 := rfl
      rw [if_neg (by omega), if_neg (by simp), if_pos (by omega), ej, if_pos (by omega), if_pos (by omega), if_pos (by omega), if_pos (by omega), rdT2, rdT2, e, w0, w1, w2, w3, same_not, if_neg (by simp)]
      exact hk3

section
variable (a b : List Int) (x : Int) (ha : a.length ≤ 150) (hb : b.length ≤ 150)

theorem sep2029 : sepB 8233 = true := by kernel_rfl

theorem runs_small (l lv s : List Int) (hn : l.length ≤ 301) : (runsP lv s (prts l 0 0)).length ≤ 1000000 ∧ ∀ j, j < (runsP lv s (prts l 0 0)).length → ∃ a b : Nat, (runAt (runsP lv s (prts l 0 0)) j).f0 = (a : Int) ∧ (runAt (runsP lv s (prts l 0 0)) j).f1 = (b : Int) ∧ a ≤ 1000 ∧ b ≤ 1000 := by
  constructor
  · obtain ⟨ys, hy⟩ := prts_pt l.length l 0 0 (Nat.le_refl _) (by omega)
    rw [← hy]
    have h1 := runsP_le lv s ys
    have h2 := prts_len l 0 0
    have h3 := congrArg List.length hy
    rw [List.length_map] at h3
    have h4 : ys.length * l.length ≤ 302 * 301 := Nat.mul_le_mul (by omega) (by omega)
    omega
  · intro j hj
    obtain ⟨a, b, hab⟩ := (runs_ok l lv s).run j hj
    have := hab.lt
    have := hab.le
    exact ⟨a, b, hab.f0, hab.f1, by omega, by omega⟩

include ha hb in
theorem p_l0 : ∀ d i, i + d = (a ++ [8233] ++ b).length → Ev (fun q => calamuslaw14_ItemiseParts.l0 q b x (a ++ [8233] ++ b) ((a ++ [8233]).length : Int) (List.replicate i x ++ List.replicate ((a ++ [8233] ++ b).length - i) 0) (i : Int)) true := by
  have hL : (a ++ [8233] ++ b).length = (a ++ [8233]).length + b.length := List.length_append
  have hH : (a ++ [8233]).length = a.length + 1 := by simp
  intro d
  induction d with
  | zero =>
    intro i hi
    obtain rfl : i = (a ++ [8233] ++ b).length := by omega
    rw [Nat.sub_self, List.replicate_zero, List.append_nil]
    have hs := scripts_app sep2029 a b
    have hsl := scripts_length (a ++ [8233])
    have hsb := scripts_length b
    have hruns := runs_app sep2029 a b (List.replicate (a ++ [8233] ++ b).length x) (scriptsP (a ++ [8233] ++ b) (prts (a ++ [8233] ++ b) 0 0)) (List.replicate (a ++ [8233]).length x) (scriptsP (a ++ [8233]) (prts (a ++ [8233]) 0 0)) (List.replicate b.length x) (scriptsP b (prts b 0 0))
      (fun i hi => by
        rw [hs]
        unfold rd
        rw [Int.toNat_natCast, getD_left _ _ _ _ (by omega)]
        refine ⟨?_, rfl⟩
        rw [List.getD_eq_getElem?_getD, List.getD_eq_getElem?_getD, List.getElem?_replicate, List.getElem?_replicate, if_pos (by omega), if_pos hi])
      (fun i hi => by
        rw [hs]
        unfold rd
        rw [Int.toNat_natCast, Int.toNat_natCast, Nat.add_comm i, ← hsl, getD_right]
        refine ⟨?_, rfl⟩
        rw [List.getD_eq_getElem?_getD, List.getD_eq_getElem?_getD, List.getElem?_replicate, List.getElem?_replicate, if_pos (by omega), if_pos hi])
    obtain ⟨hU, _⟩ := runs_small (a ++ [8233]) (List.replicate (a ++ [8233]).length x) (scriptsP (a ++ [8233]) (prts (a ++ [8233]) 0 0)) (by omega)
    obtain ⟨hV, hVs⟩ := runs_small b (List.replicate b.length x) (scriptsP b (prts b 0 0)) (by omega)
    obtain ⟨k0, hk0⟩ := p_l1 (a ++ [8233]).length (by omega) _ _ hU hV hVs _ 0 (Nat.zero_add _)
    refine ⟨k0 + 2, fun q hq => ?_⟩
    obtain ⟨q, rfl⟩ : ∃ m, q = m + 2 := ⟨q - 2, by omega⟩
    have hk3 := hk0 q (by omega)
    simp only at hk3
    rw [← hruns] at hk3
    have hlr : (List.replicate (a ++ [8233] ++ b).length x).length = (a ++ [8233] ++ b).length := by simp
    have e1 : (a ++ [8233] ++ b).take (a ++ [8233]).length = a ++ [8233] := List.take_left
    have e2 : (List.replicate (a ++ [8233] ++ b).length x).take (a ++ [8233]).length = List.replicate (a ++ [8233]).length x := by
      rw [List.take_replicate]
      congr 1
      omega
    have e3 : (List.replicate (a ++ [8233] ++ b).length x).drop (a ++ [8233]).length = List.replicate b.length x := by
      rw [List.drop_replicate]
      congr 1
      omega
    have r1 := runs_is (l := a ++ [8233] ++ b) (lv := List.replicate (a ++ [8233] ++ b).length x) (by omega) (by simp)
    have r2 := runs_is (l := a ++ [8233]) (lv := List.replicate (a ++ [8233]).length x) (by omega) (by simp)
    have r3 := runs_is (l := b) (lv := List.replicate b.length x) (by omega) (by simp)
    simp only [calamuslaw14_ItemiseParts.l0, calamuslaw14_ItemiseParts.j3]
    rw [if_neg (by omega), r1, Option.bind_some, if_pos (by omega), if_pos (by omega), if_pos (by omega), Int.toNat_natCast, e1, e2, e3, r2, Option.bind_some, r3, Option.bind_some]
    simp only
    have hlen : (runsP (List.replicate (a ++ [8233] ++ b).length x) (scriptsP (a ++ [8233] ++ b) (prts (a ++ [8233] ++ b) 0 0)) (prts (a ++ [8233] ++ b) 0 0)).length = (runsP (List.replicate (a ++ [8233]).length x) (scriptsP (a ++ [8233]) (prts (a ++ [8233]) 0 0)) (prts (a ++ [8233]) 0 0)).length + (runsP (List.replicate b.length x) (scriptsP b (prts b 0 0)) (prts b 0 0)).length := by
      rw [hruns]
      simp
    have hne : (((runsP (List.replicate (a ++ [8233] ++ b).length x) (scriptsP (a ++ [8233] ++ b) (prts (a ++ [8233] ++ b) 0 0)) (prts (a ++ [8233] ++ b) 0 0)).length : Int) != wrap64 (((runsP (List.replicate (a ++ [8233]).length x) (scriptsP (a ++ [8233]) (prts (a ++ [8233]) 0 0)) (prts (a ++ [8233]) 0 0)).length : Int) + ((runsP (List.replicate b.length x) (scriptsP b (prts b 0 0)) (prts b 0 0)).length : Int))) = false := by
      rw [wrap64_small (by omega), hlen]
      simp
    rw [if_pos trivial, if_pos trivial, if_pos trivial, hne, if_neg (by simp)]
    exact hk3
  | succ d ih =>
    intro i hi
    obtain ⟨k0, hk0⟩ := ih (i + 1) (by omega)
    refine ⟨k0 + 1, fun q hq => ?_⟩
    obtain ⟨q, rfl⟩ : ∃ m, q = m + 1 := ⟨q - 1, by omega⟩
    have hk3 := hk0 q (by omega)
    simp only at hk3
    have hlr : (List.replicate i x ++ List.replicate ((a ++ [8233] ++ b).length - i) (0 : Int)).length = (a ++ [8233] ++ b).length := by
      rw [List.length_append, List.length_replicate, List.length_replicate]
      omega
    have hset : (List.replicate i x ++ List.replicate ((a ++ [8233] ++ b).length - i) (0 : Int)).set i x = List.replicate (i + 1) x ++ List.replicate ((a ++ [8233] ++ b).length - (i + 1)) 0 := by
      have en : (a ++ [8233] ++ b).length - i = ((a ++ [8233] ++ b).length - (i + 1)) + 1 := by omega
      rw [en, List.replicate_succ, List.set_append_right _ _ (by simp), List.length_replicate, Nat.sub_self, List.set_cons_zero, List.replicate_succ']
      simp
    simp only [calamuslaw14_ItemiseParts.l0]
    rw [if_pos (by omega), if_pos (by omega), Int.toNat_natCast, hset, wrap64_nat i (by omega)]
    exact hk3

include ha hb in
theorem p_j0 : Ev (fun q => calamuslaw14_ItemiseParts.j0 q a b x false) true := by
  have hL : (a ++ [8233] ++ b).length = (a ++ [8233]).length + b.length := List.length_append
  have hH : (a ++ [8233]).length = a.length + 1 := by simp
  obtain ⟨k0, hk0⟩ := p_l0 a b x ha hb (a ++ [8233] ++ b).length 0 (Nat.zero_add _)
  refine ⟨k0 + 2, fun q hq => ?_⟩
  obtain ⟨q, rfl⟩ : ∃ m, q = m + 2 := ⟨q - 2, by omega⟩
  have hk3 := hk0 q (by omega)
  simp only [List.replicate_zero, List.nil_append, Nat.sub_zero] at hk3
  have hs := scripts_app sep2029 a b
  have hsl := scripts_length (a ++ [8233])
  have hsb := scripts_length b
  have hsL := scripts_length (a ++ [8233] ++ b)
  have e1 : (a ++ [8233] ++ b).take (a ++ [8233]).length = a ++ [8233] := List.take_left
  have s1 := scripts_is (l := a ++ [8233] ++ b) (by omega)
  have s2 := scripts_is (l := a ++ [8233]) (by omega)
  have s3 := scripts_is (l := b) (by omega)
  have t1 : (scriptsP (a ++ [8233] ++ b) (prts (a ++ [8233] ++ b) 0 0)).take (a ++ [8233]).length = scriptsP (a ++ [8233]) (prts (a ++ [8233]) 0 0) := by rw [hs, ← hsl, List.take_left]
  have t2 : (scriptsP (a ++ [8233] ++ b) (prts (a ++ [8233] ++ b) 0 0)).drop (a ++ [8233]).length = scriptsP b (prts b 0 0) := by rw [hs, ← hsl, List.drop_left]
  simp only [calamuslaw14_ItemiseParts.j0, calamuslaw14_ItemiseParts.j1]
  rw [if_neg (by simp), if_pos (by simp only [List.length_nil]; omega), Option.bind_some, List.nil_append, if_pos (by omega), Option.bind_some, if_pos (by omega), Option.bind_some, s1, Option.bind_some, if_pos (by omega), if_pos (by omega), Int.toNat_natCast, e1, s2, Option.bind_some, s3, Option.bind_some, if_pos (by omega), if_pos (by omega), if_pos (by omega), if_pos (by omega), t1, t2, if_pos rfl, if_neg (by simp), if_pos (by omega), if_pos (by omega), Int.toNat_natCast]
  exact hk3
end

theorem calamuslaw14_ItemiseParts.pure : calamuslaw14_ItemiseParts.Pure := by
  intro l0 l1 a2 _ _ _ _ _ _ _
  have hj0 : Ev (fun k => calamuslaw14_ItemiseParts.j0 k l0 l1 a2 true) true := by
    refine ⟨1, fun k hk => ?_⟩
    obtain ⟨k, rfl⟩ : ∃ m, k = m + 1 := ⟨k - 1, by omega⟩
    simp only [calamuslaw14_ItemiseParts.j0]
    rw [if_pos trivial, works14]
    rfl
  by_cases hn : (l0.length : Int) > 150
  · obtain ⟨k0, hk0⟩ := hj0
    refine ⟨k0, ?_⟩
    unfold calamuslaw14_ItemiseParts.f
    rw [if_pos hn]
    exact hk0 _ (Nat.le_refl _)
  · by_cases hn1 : (l1.length : Int) > 150
    · obtain ⟨k0, hk0⟩ := hj0
      refine ⟨k0, ?_⟩
      unfold calamuslaw14_ItemiseParts.f
      rw [if_neg hn, decide_eq_true hn1]
      exact hk0 _ (Nat.le_refl _)
    · obtain ⟨k0, hk0⟩ := p_j0 l0 l1 a2 (by omega) (by omega)
      refine ⟨k0, ?_⟩
      unfold calamuslaw14_ItemiseParts.f
      rw [if_neg hn, decide_eq_false hn1]
      exact hk0 _ (Nat.le_refl _)
end Go.Proofs.YtfnkpjkbgfgbkaaDoor.Pr
