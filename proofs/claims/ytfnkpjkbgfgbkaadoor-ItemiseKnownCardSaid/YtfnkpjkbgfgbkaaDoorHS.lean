/-
  Conversions between strings and rows of runes, as the printed walks want them.
-/
import Derived.Test.YtfnkpjkbgfgbkaaDoorPr0
import Derived.Laws.IdiomStrings
namespace Go.Proofs.YtfnkpjkbgfgbkaaDoor.Pr
open Go.RowKit Go.Proofs.YtfnkpjkbgfgbkaaDoorW.PrintWords Go.Proofs.YtfnkpjkbgfgbkaaDoorW.PrintLast Go.Proofs.YtfnkpjkbgfgbkaaDoorW.PrintMore
set_option linter.unusedVariables false

/-- The runes of a string, from a place on. -/
def runesAt (s : ByteArray) : Nat → Nat → List Int
  | 0, _ => []
  | b + 1, i => if i < s.size then (Int.ofNat (Utf8.decode s i).1) :: runesAt s b (i + (Utf8.decode s i).2) else []
def runesOf (s : ByteArray) : List Int := runesAt s s.size 0

theorem runesFrom_eq (s : ByteArray) : ∀ (b i : Nat) (acc : Array Value), (Conv.runesFrom s b i acc).toList = acc.toList ++ nums .i32 (runesAt s b i)
  | 0, _, acc => by simp [Conv.runesFrom, runesAt, nums]
  | b + 1, i, acc => by
    unfold Conv.runesFrom runesAt
    by_cases h : i < s.size
    · rw [if_pos h, if_pos h]
      have := runesFrom_eq s b (i + (Utf8.decode s i).2) (acc.push (.int .i32 (Int.ofNat (Utf8.decode s i).1)))
      rw [this]
      simp [nums]
    · rw [if_neg h, if_neg h]
      simp [nums]
theorem runesAt_length (s : ByteArray) : ∀ (b i : Nat), (runesAt s b i).length ≤ b
  | 0, _ => by simp [runesAt]
  | b + 1, i => by
    unfold runesAt
    split
    · have := runesAt_length s b (i + (Utf8.decode s i).2)
      simp only [List.length_cons]
      omega
    · simp

def strOfRunes (xs : List Int) : ByteArray := xs.foldl (fun s n => s ++ Utf8.encode n) ByteArray.empty

section
variable {P : Program} {ops : Array Oper} {rest : List Oper} {o : Oper} {a : Act} {Q : Exit → Act → World → Prop}
/-- '[]rune(s)': a new row of the call's own. -/
theorem R_runes {w0 W : World} (base e : Nat) (hgd : o.guard = none) {N : Tmp} (_hd : o.dst = some N) (src dst : TypeId) (x : Operand) (ho : o.op = .convert src dst x) (s : ByteArray) (hx : a.eval x = .string s)
    (hs : P.underlying src = some .string) (ht : P.underlying dst = some (.slice e)) (he : P.underlying e = some (.int .i32)) {ok okp : Nat → Prop} (hok : ∀ k, okp k → ok k) (hfresh : ok W.heap.size)
    (HB : Below base w0 W) (hbase : base ≤ W.heap.size) (hm : s.size ≤ 70368744177664)
    (h : ∀ v1 w1, (Kd.int .i32).R e w1 base ok v1 (runesOf s) → Below base w0 w1 → W.grownBy w1 none → (∃ b, v1.ownBlock = some b ∧ W.heap.size ≤ b) → wpList P ops Q rest (a.put o.dst v1) w1) : wpList P ops Q (o :: rest) a W := by
  have hl : (Conv.runesFrom s s.size 0 #[]).toList = nums .i32 (runesOf s) := by
    have := runesFrom_eq s s.size 0 #[]
    rw [this]
    rfl
  have hn : (Conv.runesFrom s s.size 0 #[]).size = (runesOf s).length := by rw [← Array.length_toList, hl]; simp [nums]
  have hlen := runesAt_length s s.size 0
  have hsz : (Kd.int .i32).sz = 1 := rfl
  have h46 : (Conv.runesFrom s s.size 0 #[]).size ≤ 70368744177664 := by rw [hn]; unfold runesOf; omega
  have hrun := run_runes_of_string (P := P) W src dst e s hs ht he h46
  have hcap := grownCap_ge W (Conv.runesFrom s s.size 0 #[]).size 0 e
  have hcap2 : grownCap W (Conv.runesFrom s s.size 0 #[]).size 0 e ≤ maxLen := by
    unfold grownCap Question.cut maxLen
    simp only
    have h1 : (Conv.runesFrom s s.size 0 #[]).size < 2 ^ 63 := Nat.lt_of_le_of_lt h46 (by decide)
    have h2 : W.tape W.drawn (Question.appendCap (Conv.runesFrom s s.size 0 #[]).size 0 e) % (2 ^ 63 - (Conv.runesFrom s s.size 0 #[]).size) < 2 ^ 63 - (Conv.runesFrom s s.size 0 #[]).size := Nat.mod_lt _ (by omega)
    omega
  refine wpList_plain hgd fun K hK => ?_
  unfold Oper.wp
  have he2 : (execOp a.eval o).run P W = .ok (.value (.slice (some ⟨W.heap.size, 0, none⟩) (Conv.runesFrom s s.size 0 #[]).size (grownCap W (Conv.runesFrom s s.size 0 #[]).size 0 e)))
      (W.drew.alloc (.cells (Conv.runesFrom s s.size 0 #[] ++ Array.replicate (grownCap W (Conv.runesFrom s s.size 0 #[]).size 0 e - (Conv.runesFrom s s.size 0 #[]).size) (.int .i32 0)) e)) := by
    simp [execOp, ho, hx, hrun]
  rw [he2]
  refine hK _ _ (h _ _ ⟨fun k hk => ?_, nums .i32 (runesOf s), ⟨by rw [hsz, Nat.mul_one]; simp [nums], .inr ⟨W.heap.size, _, _, by rw [hn], hbase, by simpa using heap_alloc_new W.drew (.cells (Conv.runesFrom s s.size 0 #[] ++ Array.replicate (grownCap W (Conv.runesFrom s s.size 0 #[]).size 0 e - (Conv.runesFrom s s.size 0 #[]).size) (.int .i32 0)) e), by rw [← hn]; exact hcap, hcap2, ?_, ?_⟩⟩, ?_⟩ ((HB.drew).alloc hbase _) ⟨rfl, rfl, rfl, by simp, fun k hk _ => Below.heap_alloc W.drew _ k hk⟩ ⟨W.heap.size, by simp [Value.ownBlock], Nat.le_refl _⟩)
  · have : W.heap.size = k := by simpa [Value.ownBlock] using hk
    subst this
    exact hfresh
  · rw [hsz, Nat.mul_one]
    simp only [Array.size_append, Array.size_replicate]
    omega
  · rw [hsz, Nat.mul_one, Array.toList_append, hl, List.take_append_of_le_length (by simp [nums]), List.take_of_length_le (by simp [nums])]
  · refine ⟨by rw [hsz, Nat.mul_one]; simp [nums], fun j p hj => ?_⟩
    show ((nums .i32 (runesOf s)).drop (j * 1)).take 1 = [.int .i32 p]
    have hjl := (List.getElem?_eq_some_iff.1 hj).1
    have hn2 : j < (nums .i32 (runesOf s)).length := by simpa [nums] using hjl
    rw [Nat.mul_one, List.drop_eq_getElem_cons hn2]
    simp [nums] at hj ⊢
    exact (List.getElem?_eq_some_iff.1 hj).2
end

theorem string_of_runes {P : Program} {w : World} {src dst e : TypeId} {A : Option Addr} {n c : Nat} {xs : List Int} (hs : P.underlying src = some (.slice e)) (he : P.underlying e = some (.int .i32)) (hd : P.underlying dst = some .string)
    (h : ReadsInt w .i32 A n xs) : (convert src dst (.slice A n c)).run P w = .ok (.string (strOfRunes xs)) w := by
  have hn : xs.length = n := h.1
  rcases A with _ | ad
  · have h0 : n = 0 := by
      rcases Nat.eq_zero_or_pos n with h0 | h0
      · exact h0
      · obtain ⟨ad, h', _⟩ := h.2.2 h0
        cases h'
    subst h0
    obtain rfl : xs = [] := List.eq_nil_of_length_eq_zero hn
    simp [convert, run_underlying hs, run_underlying hd, run_underlying he, Conv.runesToString, strOfRunes]
  · have hl : (loadCells ad n).run P w = .ok (xs.map (Value.int .i32)).toArray w := by
      have := run_loadCells_list (P := P) w ad (xs.map (Value.int .i32)) (fun j v hj => by
        have hjl : j < xs.length := by
          rcases Nat.lt_or_ge j xs.length with h' | h'
          · exact h'
          · rw [List.getElem?_eq_none (by rw [List.length_map]; exact h')] at hj
            cases hj
        obtain ⟨ad', he', hc⟩ := h.2.2 (by omega)
        injection he' with he'
        subst he'
        rw [hc j (by omega)]
        rw [List.getElem?_map, List.getElem?_eq_getElem hjl] at hj
        simp at hj
        subst hj
        simp [List.getD_eq_getElem?_getD, List.getElem?_eq_getElem hjl])
      simpa [hn] using this
    simp [convert, run_underlying hs, run_underlying hd, run_underlying he, Conv.runesToString, hl]
    rfl
theorem C_runes {P : Program} {w : World} {src dst e : TypeId} {A : Option Addr} {n c : Nat} {xs : List Int} (hs : P.underlying src = some (.slice e)) (he : P.underlying e = some (.int .i32)) (hd : P.underlying dst = some .string)
    (h : (Kd.int .i32).C w A n xs) : (convert src dst (.slice A n c)).run P w = .ok (.string (strOfRunes xs)) w :=
  string_of_runes hs he hd (Kd.reads_of_C (enc := Value.int .i32) (d := (0 : Int)) (h1 := fun _ => rfl) h)
theorem own_runes {P : Program} {w : World} {base n : Nat} {e' src dst e : TypeId} {v : Value} {xs : List Int} (hs : P.underlying src = some (.slice e)) (he : P.underlying e = some (.int .i32)) (hd : P.underlying dst = some .string)
    (h : w.ownsRow base e' 1 v n (nums .i32 xs)) : (convert src dst v).run P w = .ok (.string (strOfRunes xs)) w := by
  obtain ⟨A, c, rfl, hr⟩ := own_reads h
  exact string_of_runes hs he hd hr
end Go.Proofs.YtfnkpjkbgfgbkaaDoor.Pr
