/- A slice of slices of ints, as an argument. -/
import Derived.Test.YtnaldmmdhpobgaaE
import Derived.Test.YtnaldmmdhpobgaaD11
import Derived.Deep.Strs
set_option linter.unusedVariables false
set_option linter.unusedSimpArgs false
namespace Go.Proofs.Ytnaldmmdhpobgaa
open Go Go.RowKit Go.ChangeShapes Go.WideShapes Go.Deep Go.ChangeAt
section
variable {H : Type} {enc : TypeId × Value → H} {P : Program} {W : World} {base : Nat}
/-- The cells of a slice of ints. -/
theorem cells_ints {t e : TypeId} {fuel : Nat} {cs : List Value} {x : DataW H × List MemPlace} (ht : P.underlying t = some (.slice e)) (he : P.underlying e = some (.int .i64)) (hC : P.cellsOf e = 1)
    (h : DataW.trod enc P W 0 (fun _ => true) true fuel t cs = some x) : ∃ A n c f, cs = [.slice A n c] ∧ n ≤ c ∧ c ≤ maxLen ∧ Rd (hp0 W) A n 1 f := by
  rcases open_slice ht h with ⟨rfl, _⟩ | ⟨a, len, cap, m, n', D, Pl, rfl, hb, hl, hm, hmm, rfl, hcell⟩
  · exact ⟨none, 0, 0, fun _ _ => 0, rfl, by omega, by unfold maxLen; omega, Rd.zero⟩
  · have hm' : m = cap := by simpa using hmm
    subst hm'
    have key : ∀ i j, i < len → j < 1 → ∃ x : Int, W.cell? (a.add (i * 1 + j)) = some (.int .i64 x) := by
      intro i j hi' hj
      obtain ⟨cs', hc, ht'⟩ := hcell i (by omega)
      rw [hC] at hc
      obtain ⟨_, hcl, hat⟩ := World.cells?_some hc
      obtain ⟨x, hx, hx2, hw⟩ := DataW.trod_int he ht'
      subst hx
      refine ⟨x, ?_⟩
      rw [← Go.Deep.add_add, hat j hj]
      have : j = 0 := by omega
      subst this
      rfl
    refine ⟨some a, len, m, fun i j => intOf (W.cell? (a.add (i * 1 + j))), rfl, hl, hm, ⟨fun hn => ?_⟩⟩
    obtain ⟨b, off, spot⟩ := a
    have hspot : spot = none := by
      obtain ⟨x, hx⟩ := key 0 0 hn (by omega)
      have := World.cell?_spot hx
      simpa [Addr.add] using this
    subst hspot
    refine ⟨b, off, rfl, fun i j hi' hj => ?_⟩
    obtain ⟨x, hx⟩ := key i j hi' hj
    have e : off + i * 1 + j = off + (i * 1 + j) := by omega
    have ea : Addr.add ⟨b, off, none⟩ (i * 1 + j) = ⟨b, off + (i * 1 + j), none⟩ := by simp [Addr.add]
    rw [e]
    simp only [hx, intOf]
    rw [ea] at hx
    exact rd0 hx
/-- What is known of sizes at the start. -/
def llOk (ls : List (List Int)) : Prop := ∀ i, i < ls.length → (rowOf ls i).length ≤ 9223372036854775807
theorem arg_intss {t e ti : TypeId} {v : Value} (ht : P.underlying t = some (.slice e)) (he : P.underlying e = some (.slice ti)) (hti : P.underlying ti = some (.int .i64)) (hCi : P.cellsOf ti = 1) (hC : P.cellsOf e = 1) (h : Arg enc P W base t v) :
    ∃ (A : Option Addr) (c : Nat) (ls : List (List Int)), v = .slice A ls.length c ∧ ls.length * P.bytesOf e ≤ reachBytes ∧ ls.length ≤ c ∧ RdLL (hp0 W) A ls ∧ llOk ls := by
  obtain ⟨d, p, h1, h2, h3⟩ := h
  obtain ⟨A, n, c, rfl⟩ := okWide_slice ht h2
  obtain ⟨fuel, hf⟩ := h1
  rcases open_slice ht hf with ⟨hcs, hx⟩ | ⟨a, len, cap, m, n', D, Pl, hcs, hb, hl, hm, hmm, hx, hcell⟩
  · simp [Value.cells] at hcs
    obtain ⟨rfl, rfl, rfl⟩ := hcs
    exact ⟨none, 0, [], rfl, by simp, Nat.le_refl _, ⟨⟨fun _ => none, fun _ => 0, RdV.zero, fun i hi => absurd hi (by simp)⟩⟩, fun i hi => absurd hi (by simp)⟩
  · simp [Value.cells] at hcs
    obtain ⟨rfl, rfl, rfl⟩ := hcs
    simp only [Prod.mk.injEq] at hx
    obtain ⟨rfl, rfl⟩ := hx
    have hm' : m = c := by simpa using hmm
    subst hm'
    have hre : n * P.bytesOf e ≤ reachBytes := by
      have := List.all_eq_true.1 h3 ((((List.range n).map D).length + ((List.range (m - n)).map fun j => D (n + j)).length) * P.bytesOf e) (by simp [DataW.weights, ht])
      simp only [List.length_map, List.length_range, decide_eq_true_eq] at this
      exact Nat.le_trans (Nat.mul_le_mul_right _ (by omega)) this
    have hall : ∀ i, ∃ q : Option Addr × Nat × Nat × (Nat → Nat → Int), i < n → W.cell? (a.add (i * 1 + 0)) = some (.slice q.1 q.2.1 q.2.2.1) ∧ q.2.1 ≤ q.2.2.1 ∧ q.2.2.1 ≤ maxLen ∧ Rd (hp0 W) q.1 q.2.1 1 q.2.2.2 := by
      intro i
      by_cases hi : i < n
      · obtain ⟨cs', hc, ht'⟩ := hcell i (by omega)
        rw [hC] at hc
        obtain ⟨B, m', d', f, rfl, h1, h2, h3⟩ := cells_ints he hti hCi ht'
        obtain ⟨_, hcl, hat⟩ := World.cells?_some hc
        exact ⟨(B, m', d', f), fun _ => ⟨by rw [← Go.Deep.add_add]; exact hat 0 (by omega), h1, h2, h3⟩⟩
      · exact ⟨(none, 0, 0, fun _ _ => 0), fun h => absurd h hi⟩
    obtain ⟨F, hF⟩ : ∃ F : Nat → Option Addr × Nat × Nat × (Nat → Nat → Int), ∀ i, i < n → W.cell? (a.add (i * 1 + 0)) = some (.slice (F i).1 (F i).2.1 (F i).2.2.1) ∧ (F i).2.1 ≤ (F i).2.2.1 ∧ (F i).2.2.1 ≤ maxLen ∧ Rd (hp0 W) (F i).1 (F i).2.1 1 (F i).2.2.2 := ⟨fun i => (hall i).choose, fun i => (hall i).choose_spec⟩
    clear hall
    have hrow : ∀ i, i < n → rowOf ((List.range n).map fun i => (List.range (F i).2.1).map fun q => (F i).2.2.2 q 0) i = (List.range (F i).2.1).map fun q => (F i).2.2.2 q 0 := by
      intro i hi
      simp only [rowOf, List.getD_eq_getElem?_getD, List.getElem?_map, List.getElem?_range hi, Option.map_some, Option.getD_some]
    have hlen : ∀ i, i < n → (rowOf ((List.range n).map fun i => (List.range (F i).2.1).map fun q => (F i).2.2.2 q 0) i).length = (F i).2.1 := by
      intro i hi
      rw [hrow i hi, List.length_map, List.length_range]
    have hll : ((List.range n).map fun i => (List.range (F i).2.1).map fun q => (F i).2.2.2 q 0).length = n := by rw [List.length_map, List.length_range]
    refine ⟨some a, m, (List.range n).map fun i => (List.range (F i).2.1).map fun q => (F i).2.2.2 q 0, by rw [hll], by rw [hll]; exact hre, by rw [hll]; exact hl, ⟨⟨fun i => (F i).1, fun i => (F i).2.2.1, ?_, fun i hi => ?_⟩⟩, fun i hi => ?_⟩
    · rw [hll]
      refine ⟨fun hn => ?_⟩
      obtain ⟨b, off, spot⟩ := a
      have hspot : spot = none := by
        have hx := (hF 0 hn).1
        have := World.cell?_spot (a := Addr.add ⟨b, off, spot⟩ (0 * 1 + 0)) hx
        simpa [Addr.add] using this
      subst hspot
      refine ⟨b, off, rfl, fun i j hi hj => ?_⟩
      have hx := (hF i hi).1
      have hj0 : j = 0 := by omega
      subst hj0
      have e : off + i * 1 + 0 = off + (i * 1 + 0) := by omega
      have ea : Addr.add ⟨b, off, none⟩ (i * 1 + 0) = ⟨b, off + (i * 1 + 0), none⟩ := by simp [Addr.add]
      rw [ea] at hx
      rw [e]
      unfold rowsV
      rw [hlen i hi]
      exact rd0 hx
    · rw [hll] at hi
      obtain ⟨_, h1, h2, h3⟩ := hF i hi
      refine ⟨by rw [hlen i hi]; exact h1, ?_⟩
      unfold RdL
      rw [hlen i hi]
      refine h3.congr fun q j hq hj => ?_
      have hj0 : j = 0 := by omega
      subst hj0
      rw [hrow i hi]
      simp only [rowL, List.getD_eq_getElem?_getD, List.getElem?_map, List.getElem?_range hq, Option.map_some, Option.getD_some]
    · rw [hll] at hi
      obtain ⟨_, h1, h2, h3⟩ := hF i hi
      rw [hlen i hi]
      have hM : maxLen ≤ 9223372036854775807 := by unfold maxLen; omega
      exact Nat.le_trans h1 (Nat.le_trans h2 hM)
end
end Go.Proofs.Ytnaldmmdhpobgaa
