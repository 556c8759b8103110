/- Arguments of nested kinds, opened: a slice of ints in a field, an exhibit, a slice of exhibits. -/
import Derived.Test.YtnjlleopgjggpaaDoorE
import Derived.Test.YtnjlleopgjggpaaDoorP23
import Derived.Deep.Strs
set_option linter.unusedVariables false
set_option linter.unusedSimpArgs false
namespace Go.Proofs.YtnjlleopgjggpaaDoor
open Go Go.RowKit Go.ChangeShapes Go.WideShapes Go.Deep Go.ChangeAt
section
variable {H : Type} {enc : TypeId × Value → H} {P : Program} {W : World} {base : Nat}
/-- The cells of a slice of ints. -/
theorem cells_ints {t e : TypeId} {fuel : Nat} {cs : List Value} {x : DataW H × List MemPlace} (ht : P.underlying t = some (.slice e)) (he : P.underlying e = some (.int .i64)) (hC : P.cellsOf e = 1)
    (h : DataW.trod enc P W 0 (fun _ => true) true fuel t cs = some x) : ∃ A n c f, cs = [.slice A n c] ∧ n ≤ c ∧ c ≤ maxLen ∧ Rd (hp0 W) A n 1 f := by
  rcases open_slice ht h with ⟨rfl, _⟩ | ⟨a, len, cap, m, n', D, Pl, rfl, hb, hl, hm, hmm, rfl, hcell⟩
  · exact ⟨none, 0, 0, fun _ _ => 0, rfl, by omega, by unfold maxLen; omega, Rd.zero⟩
  · have hm' : m = cap := by simpa using hmm
    subst hm'
    have key : ∀ i j, i < len → j < 1 → ∃ x : Int, W.cell? (a.add (i * 1 + j)) = some (.int .i64 x) := by
      intro i j hi' hj
      obtain ⟨cs', hc, ht'⟩ := hcell i (by omega)
      rw [hC] at hc
      obtain ⟨_, hcl, hat⟩ := World.cells?_some hc
      obtain ⟨x, hx, hx2, hw⟩ := DataW.trod_int he ht'
      subst hx
      refine ⟨x, ?_⟩
      rw [← Go.Deep.add_add, hat j hj]
      have : j = 0 := by omega
      subst this
      rfl
    refine ⟨some a, len, m, fun i j => intOf (W.cell? (a.add (i * 1 + j))), rfl, hl, hm, ⟨fun hn => ?_⟩⟩
    obtain ⟨b, off, spot⟩ := a
    have hspot : spot = none := by
      obtain ⟨x, hx⟩ := key 0 0 hn (by omega)
      have := World.cell?_spot hx
      simpa [Addr.add] using this
    subst hspot
    refine ⟨b, off, rfl, fun i j hi' hj => ?_⟩
    obtain ⟨x, hx⟩ := key i j hi' hj
    have e : off + i * 1 + j = off + (i * 1 + j) := by omega
    have ea : Addr.add ⟨b, off, none⟩ (i * 1 + j) = ⟨b, off + (i * 1 + j), none⟩ := by simp [Addr.add]
    rw [e]
    simp only [hx, intOf]
    rw [ea] at hx
    exact rd0 hx
def isStr : Option TypeDesc → Bool
  | some .string => true
  | _ => false
theorem isStr_eq {o : Option TypeDesc} (h : isStr o = true) : o = some .string := by
  unfold isStr at h
  split at h
  · rfl
  · cases h
/-- The types of an exhibit's fields: a closed fact. -/
def showTy (P : Program) (e ti : TypeId) (fs : Array Field) : Bool := oneCellFields P fs && decide (fs.size = 4) && isI64 ((fs[0]?.map (·.type)).bind P.underlying) && isStr ((fs[1]?.map (·.type)).bind P.underlying) && isI64 ((fs[2]?.map (·.type)).bind P.underlying) && decide (fs[3]?.map (·.type) = some ti)
/-- The cells of an exhibit. -/
theorem cells_show {e ti tn : TypeId} {fs : Array Field} {fuel : Nat} {cs : List Value} {x : DataW H × List MemPlace} (he : P.underlying e = some (.struct fs)) (hs : showTy P e ti fs = true) (hC : P.cellsOf e = 4)
    (hti : P.underlying ti = some (.slice tn)) (htn : P.underlying tn = some (.int .i64)) (hCn : P.cellsOf tn = 1) (h : DataW.trod enc P W 0 (fun _ => true) true fuel e cs = some x) :
    ∃ (id : Int) (t : ByteArray) (fr : Int) (B : Option Addr) (m d : Nat) (f : Nat → Nat → Int), cs = [.int .i64 id, .string t, .int .i64 fr, .slice B m d] ∧ t.size ≤ maxLen ∧ m ≤ d ∧ d ≤ maxLen ∧ Rd (hp0 W) B m 1 f := by
  simp only [showTy, Bool.and_eq_true, decide_eq_true_eq] at hs
  obtain ⟨⟨⟨⟨⟨hone, hk⟩, h0⟩, h1⟩, h2⟩, h3⟩ := hs
  obtain ⟨ys, n'', hn', hy, hlen, hyl, hfl⟩ := DataW.trod_struct he h
  rw [hC] at hlen
  have hpiece : ∀ j (hj : j < fs.size), ∃ y v, cs[j]? = some v ∧ DataW.trod enc P W 0 (fun _ => true) true n'' fs[j].type [v] = some y := by
    intro j hj
    obtain ⟨ho, hk1⟩ := hone_of hone j fs[j] (Array.getElem?_eq_getElem hj)
    have h1 := hfl j fs[j] (Array.getElem?_eq_getElem hj)
    rw [ho, hk1] at h1
    have hone' : (cs.drop j).take 1 = [cs[j]'(by omega)] := by
      rw [List.drop_eq_getElem_cons (by omega)]
      rfl
    rw [hone'] at h1
    have hys : ys[j]? = some (ys[j]'(by omega)) := List.getElem?_eq_getElem (by omega)
    rw [hys] at h1
    exact ⟨_, _, List.getElem?_eq_getElem (by omega), h1⟩
  obtain ⟨y0, v0, e0, p0⟩ := hpiece 0 (by omega)
  obtain ⟨y1, v1, e1, p1⟩ := hpiece 1 (by omega)
  obtain ⟨y2, v2, e2, p2⟩ := hpiece 2 (by omega)
  obtain ⟨y3, v3, e3, p3⟩ := hpiece 3 (by omega)
  rw [Array.getElem?_eq_getElem (by omega)] at h0 h1 h2 h3
  simp only [Option.map_some, Option.bind_some, Option.some.injEq] at h0 h1 h2 h3
  obtain ⟨id, hid, _, _⟩ := DataW.trod_int (isI64_eq h0) p0
  obtain ⟨t, htt, _, hwt⟩ := DataW.trod_string (isStr_eq h1) p1
  obtain ⟨fr, hfr, _, _⟩ := DataW.trod_int (isI64_eq h2) p2
  rw [h3] at p3
  obtain ⟨B, m, d, f, hB, hmd, hd, hR⟩ := cells_ints hti htn hCn p3
  simp only [List.cons.injEq, and_true] at hid htt hfr hB
  subst hid htt hfr hB
  refine ⟨id, t, fr, B, m, d, f, ?_, ?_, hmd, hd, hR⟩
  · refine List.ext_getElem? fun p => ?_
    match p with
    | 0 => simpa using e0
    | 1 => simpa using e1
    | 2 => simpa using e2
    | 3 => simpa using e3
    | p + 4 => rw [List.getElem?_eq_none (by omega)]; simp
  · first
    | (simp [Lit.wf] at hwt; unfold maxLen; omega)
    | exact hwt
/-- What is known of sizes at the start. -/
def szOk (n : Nat) (s : Shw) : Prop := ∀ i, i < n → (s.title i).size ≤ 9223372036854775807 ∧ s.m i ≤ 9223372036854775807
theorem arg_show {t ti tn : TypeId} {fs : Array Field} {v : Value} (he : P.underlying t = some (.struct fs)) (hs : showTy P t ti fs = true) (hC : P.cellsOf t = 4)
    (hti : P.underlying ti = some (.slice tn)) (htn : P.underlying tn = some (.int .i64)) (hCn : P.cellsOf tn = 1) (h : Arg enc P W base t v) :
    ∃ (id : Int) (tt : ByteArray) (fr : Int) (B : Option Addr) (m d : Nat) (mk : Nat → Int), v = .agg #[.int .i64 id, .string tt, .int .i64 fr, .slice B m d] ∧ tt.size ≤ 9223372036854775807 ∧ m ≤ 9223372036854775807 ∧ Rd (hp0 W) B m 1 (fun q _ => mk q) := by
  obtain ⟨d, p, h1, h2, h3⟩ := h
  obtain ⟨fuel, hf⟩ := h1
  obtain ⟨id, tt, fr, B, m, d', f, hcs, ht, hmd, hd, hR⟩ := cells_show he hs hC hti htn hCn hf
  unfold maxLen at ht hd
  refine ⟨id, tt, fr, B, m, d', fun q => f q 0, ?_, by omega, by omega, hR.congr fun i j hi hj => by rw [show j = 0 by omega]⟩
  cases v <;> first
    | (simp [Value.cells] at hcs; done)
    | (rename_i cs
       simp only [Value.cells] at hcs
       congr 1
       exact Array.ext' hcs)
theorem arg_shows {t e ti tn : TypeId} {fs : Array Field} {v : Value} (ht : P.underlying t = some (.slice e)) (he : P.underlying e = some (.struct fs)) (hs : showTy P e ti fs = true) (hC : P.cellsOf e = 4)
    (hti : P.underlying ti = some (.slice tn)) (htn : P.underlying tn = some (.int .i64)) (hCn : P.cellsOf tn = 1) (h : Arg enc P W base t v) :
    ∃ (A : Option Addr) (n c : Nat) (s : Shw), v = .slice A n c ∧ n * P.bytesOf e ≤ reachBytes ∧ n ≤ c ∧ RdS (hp0 W) A n s ∧ szOk n s := by
  obtain ⟨d, p, h1, h2, h3⟩ := h
  obtain ⟨A, n, c, rfl⟩ := okWide_slice ht h2
  obtain ⟨fuel, hf⟩ := h1
  rcases open_slice ht hf with ⟨hcs, hx⟩ | ⟨a, len, cap, m, n', D, Pl, hcs, hb, hl, hm, hmm, hx, hcell⟩
  · simp [Value.cells] at hcs
    obtain ⟨rfl, rfl, rfl⟩ := hcs
    exact ⟨none, 0, 0, ⟨fun _ => 0, fun _ => ByteArray.empty, fun _ => 0, fun _ => 0, fun _ _ => 0⟩, rfl, by omega, Nat.le_refl _, ⟨fun _ => none, fun _ => 0, RdV.zero, fun i hi => by omega⟩, fun i hi => by omega⟩
  · simp [Value.cells] at hcs
    obtain ⟨rfl, rfl, rfl⟩ := hcs
    simp only [Prod.mk.injEq] at hx
    obtain ⟨rfl, rfl⟩ := hx
    have hm' : m = c := by simpa using hmm
    subst hm'
    have hre : n * P.bytesOf e ≤ reachBytes := by
      have := List.all_eq_true.1 h3 ((((List.range n).map D).length + ((List.range (m - n)).map fun j => D (n + j)).length) * P.bytesOf e) (by simp [DataW.weights, ht])
      simp only [List.length_map, List.length_range, decide_eq_true_eq] at this
      exact Nat.le_trans (Nat.mul_le_mul_right _ (by omega)) this
    have hall : ∀ i, ∃ q : Int × ByteArray × Int × Option Addr × Nat × Nat × (Nat → Nat → Int), i < n → (∀ j, j < 4 → W.cell? (a.add (i * 4 + j)) = [Value.int .i64 q.1, .string q.2.1, .int .i64 q.2.2.1, .slice q.2.2.2.1 q.2.2.2.2.1 q.2.2.2.2.2.1][j]?) ∧
        q.2.1.size ≤ maxLen ∧ q.2.2.2.2.1 ≤ q.2.2.2.2.2.1 ∧ q.2.2.2.2.2.1 ≤ maxLen ∧ Rd (hp0 W) q.2.2.2.1 q.2.2.2.2.1 1 q.2.2.2.2.2.2 := by
      intro i
      by_cases hi : i < n
      · obtain ⟨cs', hc, ht'⟩ := hcell i (by omega)
        rw [hC] at hc
        obtain ⟨id, tt, fr, B, m, d', f, rfl, h1, h2, h3, h4⟩ := cells_show he hs hC hti htn hCn ht'
        obtain ⟨_, hcl, hat⟩ := World.cells?_some hc
        exact ⟨(id, tt, fr, B, m, d', f), fun _ => ⟨fun j hj => by rw [← Go.Deep.add_add]; exact hat j hj, h1, h2, h3, h4⟩⟩
      · exact ⟨(0, ByteArray.empty, 0, none, 0, 0, fun _ _ => 0), fun h => absurd h hi⟩
    refine ⟨some a, n, m, ⟨fun i => (hall i).choose.1, fun i => (hall i).choose.2.1, fun i => (hall i).choose.2.2.1, fun i => (hall i).choose.2.2.2.2.1, fun i q => (hall i).choose.2.2.2.2.2.2 q 0⟩, rfl, hre, hl, ⟨fun i => (hall i).choose.2.2.2.1, fun i => (hall i).choose.2.2.2.2.2.1, ⟨fun hn => ?_⟩, fun i hi => ?_⟩, fun i hi => ?_⟩
    · obtain ⟨b, off, spot⟩ := a
      have hspot : spot = none := by
        have hx := ((hall 0).choose_spec hn).1 0 (by omega)
        have := World.cell?_spot (a := Addr.add ⟨b, off, spot⟩ (0 * 4 + 0)) hx
        simpa [Addr.add] using this
      subst hspot
      refine ⟨b, off, rfl, fun i j hi hj => ?_⟩
      have hx := ((hall i).choose_spec hi).1 j hj
      have e : off + i * 4 + j = off + (i * 4 + j) := by omega
      have ea : Addr.add ⟨b, off, none⟩ (i * 4 + j) = ⟨b, off + (i * 4 + j), none⟩ := by simp [Addr.add]
      rw [ea] at hx
      rw [e]
      match j, hj with
      | 0, _ => exact rd0 hx
      | 1, _ => exact rd0 hx
      | 2, _ => exact rd0 hx
      | 3, _ => exact rd0 hx
    · obtain ⟨_, h1, h2, h3, h4⟩ := (hall i).choose_spec hi
      exact ⟨h2, h4.congr fun q j hq hj => by rw [show j = 0 by omega]⟩
    · obtain ⟨_, h1, h2, h3, h4⟩ := (hall i).choose_spec hi
      have hM : maxLen ≤ 9223372036854775807 := by unfold maxLen; omega
      exact ⟨Nat.le_trans h1 hM, Nat.le_trans h2 (Nat.le_trans h3 hM)⟩
end
end Go.Proofs.YtnjlleopgjggpaaDoor
