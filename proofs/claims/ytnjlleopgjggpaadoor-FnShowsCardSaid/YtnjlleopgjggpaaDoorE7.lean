/- The argument of a law on drawn inputs, opened. -/
import Derived.Test.YtnjlleopgjggpaaDoorE
import Derived.Test.YtnjlleopgjggpaaDoorU1
set_option linter.unusedVariables false
set_option linter.unusedSimpArgs false
set_option maxRecDepth 100000
set_option maxHeartbeats 1000000
namespace Go.Proofs.YtnjlleopgjggpaaDoor
open Go Go.RowKit Go.Proofs Go.ChangeShapes Go.WideShapes Go.Deep Go.ChangeAt
theorem wf_u8 {n : Int} (h : (Lit.int .u8 n).wf = true) : 0 ≤ n ∧ n ≤ 255 := by
  have h1 : IntKind.u8.min = 0 := rfl
  have h2 : IntKind.u8.max = 255 := rfl
  simp only [Lit.wf, Bool.and_eq_true, decide_eq_true_eq] at h
  omega
section
variable {H : Type} {enc : TypeId × Value → H} {P : Program} {W : World} {base : Nat}
/-- A slice of bytes. -/
theorem arg_bytes {t e : TypeId} {v : Value} (ht : P.underlying t = some (.slice e)) (he : P.underlying e = some (.int .u8)) (hC : P.cellsOf e = 1) (h : Arg enc P W base t v) :
    ∃ A n c, v = .slice A n c ∧ n * P.bytesOf e ≤ reachBytes ∧ n ≤ c ∧ RdU (hp0 W) A n := by
  obtain ⟨d, p, h1, h2, h3⟩ := h
  obtain ⟨A, n, c, rfl⟩ := okWide_slice ht h2
  obtain ⟨fuel, hf⟩ := h1
  rcases open_slice ht hf with ⟨hcs, hx⟩ | ⟨a, len, cap, m, n', D, Pl, hcs, hb, hl, hm, hmm, hx, hcell⟩
  · simp [Value.cells] at hcs
    obtain ⟨rfl, rfl, rfl⟩ := hcs
    exact ⟨none, 0, 0, rfl, by omega, Nat.le_refl _, ⟨fun hn => by omega⟩⟩
  · simp [Value.cells] at hcs
    obtain ⟨rfl, rfl, rfl⟩ := hcs
    simp only [Prod.mk.injEq] at hx
    obtain ⟨rfl, rfl⟩ := hx
    have hm' : m = c := by simpa using hmm
    subst hm'
    have hre : n * P.bytesOf e ≤ reachBytes := by
      have := List.all_eq_true.1 h3 ((((List.range n).map D).length + ((List.range (m - n)).map fun j => D (n + j)).length) * P.bytesOf e) (by simp [DataW.weights, ht])
      simp only [List.length_map, List.length_range, decide_eq_true_eq] at this
      exact Nat.le_trans (Nat.mul_le_mul_right _ (by omega)) this
    have key : ∀ i, i < n → ∃ x : Int, W.cell? (a.add i) = some (.int .u8 x) ∧ 0 ≤ x ∧ x ≤ 255 := by
      intro i hi'
      obtain ⟨cs', hc, ht'⟩ := hcell i (by omega)
      rw [hC] at hc
      obtain ⟨_, hcl, hat⟩ := World.cells?_some hc
      obtain ⟨x, hx, hx2, hw⟩ := DataW.trod_int he ht'
      subst hx
      refine ⟨x, ?_, wf_u8 hw⟩
      have := hat 0 (by omega)
      rw [Go.Deep.add_add] at this
      rw [← Nat.mul_one i, ← Nat.add_zero (i * 1), this]
      rfl
    refine ⟨some a, n, m, rfl, hre, hl, ⟨fun hn => ?_⟩⟩
    obtain ⟨b, off, spot⟩ := a
    have hspot : spot = none := by
      obtain ⟨x, hx, _⟩ := key 0 hn
      have := World.cell?_spot hx
      simpa [Addr.add] using this
    subst hspot
    refine ⟨b, off, rfl, fun i hi' => ?_⟩
    obtain ⟨x, hx, hb⟩ := key i hi'
    rw [addr_add] at hx
    exact ⟨x, rd0 hx, hb⟩
end
theorem rBig (A : Option Addr) (n c : Nat) (H : Hp) (nx : Nat) (hn : n ≤ 9223372036854775807) : PC Tryd.prog 6 #[.slice A n c] H nx (.bool (decide (65536 < (n : Int)))) := by
  refine AC_of x_laws_rBig rfl fun hB => ?_
  simp (disch := omega) only [bsW, WOp, WOq, WV, bo, eqN, gdc, gw, bnd, ↓reduceIte, Nat.reduceEqDiff, rsvs, rsv, oneOf, rdN, ne_eq, Nat.reduceAdd, Nat.reduceMul, Nat.reduceLT, reduceCtorEq, Value.cells, setN, Value.oneCell', Nat.reduceLeDiff, undef, fcT, c_laws_rBig]
  exact Is_i (Sub.refl H)
end Go.Proofs.YtnjlleopgjggpaaDoor
