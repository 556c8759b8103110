/- Arguments: a puzzle by value, opened. -/
import Derived.Test.YtbhabpenlaklcaaDoorE
import Derived.Test.YtbhabpenlaklcaaDoorP21
import Derived.Deep.Strs
set_option linter.unusedVariables false
set_option linter.unusedSimpArgs false
namespace Go.Proofs.YtbhabpenlaklcaaDoor
open Go Go.RowKit Go.ChangeShapes Go.WideShapes Go.Deep Go.ChangeAt
section
variable {H : Type} {enc : TypeId × Value → H} {P : Program} {W : World} {base : Nat}
/-- The cells of a slice of ints. -/
theorem cells_ints {t e : TypeId} {fuel : Nat} {cs : List Value} {x : DataW H × List MemPlace} (ht : P.underlying t = some (.slice e)) (he : P.underlying e = some (.int .i64)) (hC : P.cellsOf e = 1)
    (h : DataW.trod enc P W 0 (fun _ => true) true fuel t cs = some x) : ∃ A n c f, cs = [.slice A n c] ∧ n ≤ c ∧ c ≤ maxLen ∧ Rd (hp0 W) A n 1 f := by
  rcases open_slice ht h with ⟨rfl, _⟩ | ⟨a, len, cap, m, n', D, Pl, rfl, hb, hl, hm, hmm, rfl, hcell⟩
  · exact ⟨none, 0, 0, fun _ _ => 0, rfl, by omega, by unfold maxLen; omega, Rd.zero⟩
  · have hm' : m = cap := by simpa using hmm
    subst hm'
    have key : ∀ i j, i < len → j < 1 → ∃ x : Int, W.cell? (a.add (i * 1 + j)) = some (.int .i64 x) := by
      intro i j hi' hj
      obtain ⟨cs', hc, ht'⟩ := hcell i (by omega)
      rw [hC] at hc
      obtain ⟨_, hcl, hat⟩ := World.cells?_some hc
      obtain ⟨x, hx, hx2, hw⟩ := DataW.trod_int he ht'
      subst hx
      refine ⟨x, ?_⟩
      rw [← Go.Deep.add_add, hat j hj]
      have : j = 0 := by omega
      subst this
      rfl
    refine ⟨some a, len, m, fun i j => intOf (W.cell? (a.add (i * 1 + j))), rfl, hl, hm, ⟨fun hn => ?_⟩⟩
    obtain ⟨b, off, spot⟩ := a
    have hspot : spot = none := by
      obtain ⟨x, hx⟩ := key 0 0 hn (by omega)
      have := World.cell?_spot hx
      simpa [Addr.add] using this
    subst hspot
    refine ⟨b, off, rfl, fun i j hi' hj => ?_⟩
    obtain ⟨x, hx⟩ := key i j hi' hj
    have e : off + i * 1 + j = off + (i * 1 + j) := by omega
    have ea : Addr.add ⟨b, off, none⟩ (i * 1 + j) = ⟨b, off + (i * 1 + j), none⟩ := by simp [Addr.add]
    rw [e]
    simp only [hx, intOf]
    rw [ea] at hx
    exact rd0 hx
def isBl : Option TypeDesc → Bool
  | some .bool => true
  | _ => false
theorem isBl_eq {o : Option TypeDesc} (h : isBl o = true) : o = some .bool := by
  unfold isBl at h
  split at h
  · rfl
  · cases h
theorem rd_list {H : Hp} {A : Option Addr} {n : Nat} {f : Nat → Nat → Int} (h : Rd H A n 1 f) : ∃ l : List Int, l.length = n ∧ RdL H A l := by
  refine ⟨(List.range n).map fun i => f i 0, by simp, ?_⟩
  unfold RdL
  rw [show ((List.range n).map fun i => f i 0).length = n by simp]
  exact h.congr fun i j hi hj => by
    have : j = 0 := by omega
    subst this
    simp [rowL, List.getD_eq_getElem?_getD, hi]
/-- The types of a puzzle's fields: a closed fact. -/
def pzTy (P : Program) (e ti : TypeId) (fs : Array Field) : Bool := oneCellFields P fs && decide (fs.size = 5) && isI64 ((fs[0]?.map (·.type)).bind P.underlying) && decide (fs[1]?.map (·.type) = some ti) && isI64 ((fs[2]?.map (·.type)).bind P.underlying) && decide (fs[3]?.map (·.type) = some ti) && isBl ((fs[4]?.map (·.type)).bind P.underlying)
theorem cells_puzzle {e ti tn : TypeId} {fs : Array Field} {fuel : Nat} {cs : List Value} {x : DataW H × List MemPlace} (he : P.underlying e = some (.struct fs)) (hs : pzTy P e ti fs = true) (hC : P.cellsOf e = 5)
    (hti : P.underlying ti = some (.slice tn)) (htn : P.underlying tn = some (.int .i64)) (hCn : P.cellsOf tn = 1) (h : DataW.trod enc P W 0 (fun _ => true) true fuel e cs = some x) :
    ∃ (tot hand : Int) (A B : Option Addr) (la rj : List Int) (c d : Nat) (sl : Bool), cs = [.int .i64 tot, .slice A la.length c, .int .i64 hand, .slice B rj.length d, .bool sl] ∧ la.length ≤ c ∧ c ≤ maxLen ∧ rj.length ≤ d ∧ d ≤ maxLen ∧ RdL (hp0 W) A la ∧ RdL (hp0 W) B rj := by
  simp only [pzTy, Bool.and_eq_true, decide_eq_true_eq] at hs
  obtain ⟨⟨⟨⟨⟨⟨hone, hk⟩, h0⟩, h1⟩, h2⟩, h3⟩, h4⟩ := hs
  obtain ⟨ys, n'', hn', hy, hlen, hyl, hfl⟩ := DataW.trod_struct he h
  rw [hC] at hlen
  have hpiece : ∀ j (hj : j < fs.size), ∃ y v, cs[j]? = some v ∧ DataW.trod enc P W 0 (fun _ => true) true n'' fs[j].type [v] = some y := by
    intro j hj
    obtain ⟨ho, hk1⟩ := hone_of hone j fs[j] (Array.getElem?_eq_getElem hj)
    have h1 := hfl j fs[j] (Array.getElem?_eq_getElem hj)
    rw [ho, hk1] at h1
    have hone' : (cs.drop j).take 1 = [cs[j]'(by omega)] := by
      rw [List.drop_eq_getElem_cons (by omega)]
      rfl
    rw [hone'] at h1
    have hys : ys[j]? = some (ys[j]'(by omega)) := List.getElem?_eq_getElem (by omega)
    rw [hys] at h1
    exact ⟨_, _, List.getElem?_eq_getElem (by omega), h1⟩
  obtain ⟨y0, v0, e0, p0⟩ := hpiece 0 (by omega)
  obtain ⟨y1, v1, e1, p1⟩ := hpiece 1 (by omega)
  obtain ⟨y2, v2, e2, p2⟩ := hpiece 2 (by omega)
  obtain ⟨y3, v3, e3, p3⟩ := hpiece 3 (by omega)
  obtain ⟨y4, v4, e4, p4⟩ := hpiece 4 (by omega)
  rw [Array.getElem?_eq_getElem (by omega)] at h0 h1 h2 h3 h4
  simp only [Option.map_some, Option.bind_some, Option.some.injEq] at h0 h1 h2 h3 h4
  obtain ⟨tot, htot, _, _⟩ := DataW.trod_int (isI64_eq h0) p0
  rw [h1] at p1
  obtain ⟨A, n, c, f, hA, hnc, hc, hR⟩ := cells_ints hti htn hCn p1
  obtain ⟨hand, hhand, _, _⟩ := DataW.trod_int (isI64_eq h2) p2
  rw [h3] at p3
  obtain ⟨B, m, d, g, hB, hmd, hd, hR'⟩ := cells_ints hti htn hCn p3
  obtain ⟨sl, hsl, _⟩ := DataW.trod_bool (isBl_eq h4) p4
  obtain ⟨la, hla, hRA⟩ := rd_list hR
  obtain ⟨rj, hrj, hRB⟩ := rd_list hR'
  simp only [List.cons.injEq, and_true] at htot hA hhand hB hsl
  subst htot hA hhand hB hsl hla hrj
  refine ⟨tot, hand, A, B, la, rj, c, d, sl, ?_, hnc, hc, hmd, hd, hRA, hRB⟩
  refine List.ext_getElem? fun p => ?_
  match p with
  | 0 => simpa using e0
  | 1 => simpa using e1
  | 2 => simpa using e2
  | 3 => simpa using e3
  | 4 => simpa using e4
  | p + 5 => rw [List.getElem?_eq_none (by omega)]; simp
theorem arg_puzzle {t ti tn : TypeId} {fs : Array Field} {v : Value} (he : P.underlying t = some (.struct fs)) (hs : pzTy P t ti fs = true) (hC : P.cellsOf t = 5)
    (hti : P.underlying ti = some (.slice tn)) (htn : P.underlying tn = some (.int .i64)) (hCn : P.cellsOf tn = 1) (h : Arg enc P W base t v) :
    ∃ (tot hand : Int) (A B : Option Addr) (la rj : List Int) (c d : Nat) (sl : Bool), v = .agg #[.int .i64 tot, .slice A la.length c, .int .i64 hand, .slice B rj.length d, .bool sl] ∧ la.length ≤ c ∧ la.length ≤ 9223372036854775807 ∧ rj.length ≤ 9223372036854775807 ∧ RdL (hp0 W) A la ∧ RdL (hp0 W) B rj := by
  obtain ⟨dd, p, h1, h2, h3⟩ := h
  obtain ⟨fuel, hf⟩ := h1
  obtain ⟨tot, hand, A, B, la, rj, c, d, sl, hcs, hc, hcm, hd, hdm, hRA, hRB⟩ := cells_puzzle he hs hC hti htn hCn hf
  unfold maxLen at hcm hdm
  refine ⟨tot, hand, A, B, la, rj, c, d, sl, ?_, hc, by omega, by omega, hRA, hRB⟩
  cases v <;> first
    | (simp [Value.cells] at hcs; done)
    | (rename_i cs
       simp only [Value.cells] at hcs
       congr 1
       exact Array.ext' hcs)
end
end Go.Proofs.YtbhabpenlaklcaaDoor
