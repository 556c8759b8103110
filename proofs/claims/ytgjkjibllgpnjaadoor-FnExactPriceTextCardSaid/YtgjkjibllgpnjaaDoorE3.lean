/- An argument that is a struct of ints, by value. For every program. -/
import Derived.Test.YtgjkjibllgpnjaaDoorE
set_option linter.unusedVariables false
set_option linter.unusedSimpArgs false
namespace Go.Proofs.YtgjkjibllgpnjaaDoor
open Go Go.RowKit Go.ChangeShapes Go.WideShapes Go.Deep Go.ChangeAt
section
variable {H : Type} {enc : TypeId × Value → H} {P : Program} {W : World} {base : Nat}
/-- The types of a struct's fields, all ints: a closed fact. -/
def intsTy (P : Program) (k : Nat) (fs : Array Field) : Bool := oneCellFields P fs && decide (fs.size = k) && fs.toList.all fun f => isI64 (P.underlying f.type)
theorem arg_struct {t : TypeId} {fs : Array Field} {k : Nat} {v : Value} (he : P.underlying t = some (.struct fs)) (hs : intsTy P k fs = true) (hC : P.cellsOf t = k) (h : Arg enc P W base t v) :
    ∃ f : Nat → Int, v = .agg ((List.range k).map fun j => Value.int .i64 (f j)).toArray ∧ ∀ j, j < k → -9223372036854775808 ≤ f j ∧ f j ≤ 9223372036854775807 := by
  obtain ⟨dd, p, h1, h2, h3⟩ := h
  obtain ⟨fuel, hf⟩ := h1
  simp only [intsTy, Bool.and_eq_true, decide_eq_true_eq] at hs
  obtain ⟨⟨hone, hk⟩, hi⟩ := hs
  obtain ⟨ys, n'', hn', hy, hlen, hyl, hfl⟩ := DataW.trod_struct he hf
  rw [hC] at hlen
  have key : ∀ j, j < k → ∃ x : Int, v.cells.toList[j]? = some (.int .i64 x) ∧ -9223372036854775808 ≤ x ∧ x ≤ 9223372036854775807 := by
    intro j hj
    have hjs : j < fs.size := by omega
    obtain ⟨ho, hk1⟩ := hone_of hone j fs[j] (Array.getElem?_eq_getElem hjs)
    have h1 := hfl j fs[j] (Array.getElem?_eq_getElem hjs)
    rw [ho, hk1] at h1
    have hone' : (v.cells.toList.drop j).take 1 = [v.cells.toList[j]'(by omega)] := by
      rw [List.drop_eq_getElem_cons (by omega)]
      rfl
    rw [hone'] at h1
    have hys : ys[j]? = some (ys[j]'(by omega)) := List.getElem?_eq_getElem (by omega)
    rw [hys] at h1
    have hty : P.underlying fs[j].type = some (.int .i64) := isI64_eq (List.all_eq_true.1 hi fs[j] (by simp))
    obtain ⟨x, hx, hx2, hw⟩ := DataW.trod_int hty h1
    simp only [List.cons.injEq, and_true] at hx
    exact ⟨x, by rw [List.getElem?_eq_getElem (by omega), hx], wf_i64 hw⟩
  have hcs : v.cells.toList = (List.range k).map fun j => Value.int .i64 (intOf (v.cells.toList[j]?)) := by
    refine List.ext_getElem? fun q => ?_
    by_cases hq : q < k
    · obtain ⟨x, hx, _⟩ := key q hq
      rw [List.getElem?_map, List.getElem?_range hq]
      simp only [Option.map_some]
      rw [hx]
      rfl
    · rw [List.getElem?_eq_none (by omega), List.getElem?_eq_none (by simp; omega)]
  refine ⟨fun j => intOf (v.cells.toList[j]?), ?_, fun j hj => ?_⟩
  · obtain ⟨cs, rfl, _⟩ := okWide_struct he h2
    simp only [Value.cells] at hcs ⊢
    congr 1
    exact Array.ext' hcs
  · obtain ⟨x, hx, hb⟩ := key j hj
    simp only [hx, intOf]
    exact hb
theorem arg_step {t : TypeId} {fs : Array Field} {v : Value} (he : P.underlying t = some (.struct fs)) (hs : intsTy P 2 fs = true) (hC : P.cellsOf t = 2) (h : Arg enc P W base t v) :
    ∃ x y : Int, v = .agg #[.int .i64 x, .int .i64 y] := by
  obtain ⟨f, rfl, _⟩ := arg_struct he hs hC h
  exact ⟨f 0, f 1, rfl⟩
end
end Go.Proofs.YtgjkjibllgpnjaaDoor
