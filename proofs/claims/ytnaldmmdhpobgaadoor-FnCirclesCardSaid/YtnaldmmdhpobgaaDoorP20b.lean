/- All circles: plain laws. No program stands here. -/
import Derived.Test.YtnaldmmdhpobgaaDoorP20
set_option linter.unusedVariables false
set_option linter.unusedSimpArgs false
namespace Go.Proofs.YtnaldmmdhpobgaaDoor
open Go Go.RowKit

/-- How many of the first n are not among those. -/
def absN : Nat → List Int → Nat
  | 0, _ => 0
  | n + 1, b => absN n b + if (n : Int) ∈ b then 0 else 1
theorem absN_same {b : List Int} {k : Nat} : ∀ n : Nat, n ≤ k → absN n (b ++ [(k : Int)]) = absN n b
  | 0, _ => rfl
  | n + 1, h => by
    have e : ((n : Int) ∈ b ++ [(k : Int)]) ↔ (n : Int) ∈ b := by
      simp only [List.mem_append, List.mem_singleton]
      exact ⟨fun h => h.elim id (fun h => by omega), .inl⟩
    have ih := absN_same (b := b) (k := k) n (Nat.le_of_succ_le h)
    simp only [absN, ih, e]
theorem absN_step {b : List Int} {k : Nat} (hb : (k : Int) ∉ b) : ∀ n : Nat, k < n → absN n (b ++ [(k : Int)]) + 1 = absN n b
  | 0, h => by omega
  | n + 1, h => by
    by_cases e : k = n
    · subst e
      simp only [absN, absN_same k (Nat.le_refl _)]
      simp [hb]
    · have e2 : ((n : Int) ∈ b ++ [(k : Int)]) ↔ (n : Int) ∈ b := by
        simp only [List.mem_append, List.mem_singleton]
        exact ⟨fun h => h.elim id (fun h => by omega), .inl⟩
      have := absN_step hb n (by omega)
      simp only [absN, e2]
      split <;> omega
theorem absN_pos {b : List Int} {k : Nat} (hb : (k : Int) ∉ b) : ∀ n : Nat, k < n → 0 < absN n b := fun n h => by
  have := absN_step hb n h; omega
theorem absN_one {p : Nat} : ∀ n : Nat, p < n → absN n [(p : Int)] + 1 = n := fun n h => by
  have h0 : ∀ n, absN n [] = n := fun n => by
    induction n with
    | zero => rfl
    | succ n ih => simp [absN, ih]
  have := absN_step (b := []) (k := p) (by simp) n h
  rw [h0] at this
  simpa using this

/-- One who may follow. -/
def cand (m : Nat) (f : Nat → Nat → Int) (b : List Int) (k : Nat) : Bool := !(b.contains (k : Int)) && decide (0 < gnV m f (b.getLastD 0) k)
def ownC (m : Nat) (f : Nat → Nat → Int) (p : Nat) (b : List Int) : List (List Int) := if 1 < b.length ∧ 0 < gnV m f (b.getLastD 0) p then [b] else []
def restC (sub : List Int → List (List Int)) (m : Nat) (f : Nat → Nat → Int) (p : Nat) (b : List Int) : Nat → List (List Int)
  | 0 => []
  | j + 1 => restC sub m f p b j ++ if cand m f b (p + 1 + j) = true then sub (b ++ [((p + 1 + j : Nat) : Int)]) else []
/-- All circles that begin so. -/
def circs (n m : Nat) (f : Nat → Nat → Int) (p : Nat) : Nat → List Int → List (List Int)
  | 0, b => ownC m f p b
  | u + 1, b => ownC m f p b ++ restC (circs n m f p u) m f p b (n - (p + 1))
theorem cand_not {m : Nat} {f : Nat → Nat → Int} {b : List Int} {k : Nat} (h : cand m f b k = true) : (k : Int) ∉ b ∧ 0 < gnV m f (b.getLastD 0) k := by
  simp only [cand, Bool.and_eq_true, Bool.not_eq_eq_eq_not, Bool.not_true, decide_eq_true_eq] at h
  refine ⟨fun hh => ?_, h.2⟩
  have := h.1
  rw [List.contains_eq_mem] at this
  simp [hh] at this
theorem cand_iff {m : Nat} {f : Nat → Nat → Int} {b : List Int} {k : Nat} : cand m f b k = true ↔ (k : Int) ∉ b ∧ 0 < gnV m f (b.getLastD 0) k := ⟨cand_not, fun h => by
  simp only [cand, Bool.and_eq_true, Bool.not_eq_eq_eq_not, Bool.not_true, decide_eq_true_eq]
  refine ⟨?_, h.2⟩
  rw [List.contains_eq_mem]
  simp [h.1]⟩
/-- How many there may be. -/
def tc : Nat → Nat
  | 0 => 1
  | u + 1 => 1 + (u + 1) * tc u
theorem ownC_len (m : Nat) (f : Nat → Nat → Int) (p : Nat) (b : List Int) : (ownC m f p b).length ≤ 1 := by
  unfold ownC; split <;> simp
theorem restC_len {sub : List Int → List (List Int)} {m : Nat} {f : Nat → Nat → Int} {p : Nat} {b : List Int} {T n : Nat} : ∀ j : Nat, p + 1 + j ≤ n →
    (∀ k, k < n → (k : Int) ∉ b → (sub (b ++ [(k : Int)])).length ≤ T) → (restC sub m f p b j).length ≤ absN (p + 1 + j) b * T
  | 0, _, _ => by simp [restC]
  | j + 1, hj, h => by
    have h1 := restC_len (m := m) (f := f) (p := p) (b := b) j (show p + 1 + j ≤ n by omega) h
    rw [show p + 1 + (j + 1) = (p + 1 + j) + 1 from rfl]
    simp only [restC, List.length_append, absN]
    split
    · rename_i hc
      have hc := (cand_not hc).1
      have h2 := h _ (by omega) hc
      rw [if_neg hc, Nat.add_mul]
      omega
    · rw [Nat.add_mul]; simp only [List.length_nil]; omega
theorem circs_len {n m : Nat} {f : Nat → Nat → Int} {p : Nat} (hp : p < n) : ∀ (u : Nat) (b : List Int), absN n b ≤ u → (circs n m f p u b).length ≤ tc u
  | 0, b, _ => by simpa [circs, tc] using ownC_len m f p b
  | u + 1, b, h => by
    simp only [circs, List.length_append, tc]
    have h1 := ownC_len m f p b
    have h2 := restC_len (sub := circs n m f p u) (m := m) (f := f) (p := p) (b := b) (T := tc u) (n := n) (n - (p + 1)) (by omega) (fun k hk hb => circs_len hp u _ (by have := absN_step hb n hk; omega))
    rw [show p + 1 + (n - (p + 1)) = n by omega] at h2
    have h3 := Nat.mul_le_mul_right (tc u) h
    omega
theorem tc_le {u : Nat} (h : u ≤ 8) : tc u ≤ 109601 := by
  match u, h with
  | 0, _ => decide
  | 1, _ => decide
  | 2, _ => decide
  | 3, _ => decide
  | 4, _ => decide
  | 5, _ => decide
  | 6, _ => decide
  | 7, _ => decide
  | 8, _ => decide
/-- Without ones that may follow, nothing follows. -/
theorem restC_none {sub : List Int → List (List Int)} {n m : Nat} {f : Nat → Nat → Int} {p : Nat} {b : List Int} (h : absN n b = 0) : ∀ j : Nat, p + 1 + j ≤ n → restC sub m f p b j = []
  | 0, _ => rfl
  | j + 1, hj => by
    simp only [restC, restC_none (sub := sub) (m := m) (f := f) h j (show p + 1 + j ≤ n by omega), List.nil_append]
    refine if_neg fun hc => ?_
    have := absN_pos (cand_not hc).1 n (show p + 1 + j < n by omega)
    omega

/-! The reference stops at so many. -/
def restM (sub : List Int → List (List Int)) (most m : Nat) (f : Nat → Nat → Int) (p : Nat) (b : List Int) (own : List (List Int)) : Nat → List (List Int)
  | 0 => own
  | j + 1 => if (restM sub most m f p b own j).length < most ∧ cand m f b (p + 1 + j) = true then restM sub most m f p b own j ++ sub (b ++ [((p + 1 + j : Nat) : Int)]) else restM sub most m f p b own j
def circsM (most n m : Nat) (f : Nat → Nat → Int) (p : Nat) : Nat → List Int → List (List Int)
  | 0, b => ownC m f p b
  | u + 1, b => restM (circsM most n m f p u) most m f p b (ownC m f p b) (n - (p + 1))
theorem restM_stop {sub : List Int → List (List Int)} {most m : Nat} {f : Nat → Nat → Int} {p : Nat} {b : List Int} {own : List (List Int)} {j : Nat} (h : most ≤ (restM sub most m f p b own j).length) : ∀ i : Nat, restM sub most m f p b own (j + i) = restM sub most m f p b own j
  | 0 => rfl
  | i + 1 => by
    have := restM_stop h i
    rw [← Nat.add_assoc]
    simp only [restM, this]
    rw [if_neg (by omega)]
/-- All of them, or so many. -/
def capd (most : Nat) (r full : List (List Int)) : Prop := r = full ∨ (most ≤ r.length ∧ r.length ≤ full.length)
theorem capd.yes {most : Nat} {r full : List (List Int)} (h : capd most r full) (hl : full.length < most) : r = full := by
  rcases h with h | h
  · exact h
  · omega
theorem capd.le {most : Nat} {r full : List (List Int)} (h : capd most r full) : r.length ≤ full.length := by
  rcases h with h | h
  · rw [h]; exact Nat.le_refl _
  · omega
theorem restM_cap {sub sub' : List Int → List (List Int)} {most m : Nat} {f : Nat → Nat → Int} {p : Nat} {b : List Int} {own : List (List Int)} (hs : ∀ k : Nat, (k : Int) ∉ b → p < k → capd most (sub (b ++ [(k : Int)])) (sub' (b ++ [(k : Int)]))) :
    ∀ j : Nat, capd most (restM sub most m f p b own j) (own ++ restC sub' m f p b j)
  | 0 => by simp [restM, restC, capd]
  | j + 1 => by
    have h := restM_cap (m := m) (f := f) (own := own) hs j
    have hle := h.le
    simp only [restM, restC]
    by_cases hc : cand m f b (p + 1 + j) = true
    · have hsub := hs (p + 1 + j) (cand_not hc).1 (by omega)
      have hsl := hsub.le
      simp only [hc, if_true, and_true]
      by_cases hl : (restM sub most m f p b own j).length < most
      · rw [if_pos hl]
        rcases h with h | h
        · rw [h, List.append_assoc]
          rcases hsub with hsub | hsub
          · rw [hsub]; exact .inl rfl
          · refine .inr ?_
            simp only [List.length_append] at hle ⊢
            omega
        · omega
      · rw [if_neg hl]
        refine .inr ?_
        simp only [List.length_append] at hle ⊢
        omega
    · simp only [hc, if_false, and_false, List.append_nil, Bool.false_eq_true]
      exact h
theorem circsM_cap {most n m : Nat} {f : Nat → Nat → Int} {p : Nat} : ∀ (u : Nat) (b : List Int), capd most (circsM most n m f p u b) (circs n m f p u b)
  | 0, b => .inl rfl
  | u + 1, b => by
    simp only [circsM, circs]
    exact restM_cap (fun k _ _ => circsM_cap u _) _

/-! What is told is a circle. -/
structure begC (n m : Nat) (f : Nat → Nat → Int) (p : Nat) (b : List Int) : Prop where
  hd : b[0]? = some (p : Int)
  rg : ∀ (i : Nat) (x : Int), b[i]? = some x → (p : Int) ≤ x ∧ x < n
  nd : b.Nodup
  gn : ∀ (i : Nat) (x y : Int), b[i]? = some x → b[i + 1]? = some y → gnV m f x y ≠ 0
  ln : absN n b + b.length ≤ n
theorem begC.one {n m : Nat} {f : Nat → Nat → Int} {p : Nat} (hp : p < n) : begC n m f p [(p : Int)] where
  hd := rfl
  rg i x h := by
    match i with
    | 0 => simp at h; omega
    | i + 1 => simp at h
  nd := by simp
  gn i x y h1 h2 := by simp at h2
  ln := by have := absN_one n hp; simp; omega
theorem getLastD_get {b : List Int} (h : 0 < b.length) : b[b.length - 1]? = some (b.getLastD 0) := by
  rw [List.getLastD_eq_getLast?, ← List.getLast?_eq_getElem?]
  cases hb : b.getLast? with
  | none => rw [List.getLast?_eq_none_iff] at hb; subst hb; simp at h
  | some x => rfl
theorem begC.len {n m : Nat} {f : Nat → Nat → Int} {p : Nat} {b : List Int} (h : begC n m f p b) : 0 < b.length := by
  have := h.hd
  rcases b with _ | _
  · simp at this
  · simp
theorem begC.next {n m : Nat} {f : Nat → Nat → Int} {p : Nat} {b : List Int} (h : begC n m f p b) {k : Nat} (hk : p < k) (hn : k < n) (hc : cand m f b k = true) : begC n m f p (b ++ [(k : Int)]) where
  hd := by rw [List.getElem?_append_left h.len]; exact h.hd
  rg i x hx := by
    rw [List.getElem?_append] at hx
    split at hx
    · exact h.rg i x hx
    · have : x = k := by
        rcases Nat.eq_zero_or_pos (i - b.length) with e | e
        · rw [e] at hx; simpa using hx.symm
        · obtain ⟨q, hq⟩ : ∃ q, i - b.length = q + 1 := ⟨i - b.length - 1, by omega⟩
          rw [hq] at hx; simp at hx
      omega
  nd := by
    rw [List.nodup_append]
    refine ⟨h.nd, by simp, fun a ha c hc' => ?_⟩
    simp at hc'
    subst hc'
    intro e
    subst e
    exact (cand_not hc).1 ha
  gn i x y hx hy := by
    have hi : i + 1 < b.length + 1 := by
      have := (List.getElem?_eq_some_iff.1 hy).1
      simpa using this
    rw [List.getElem?_append_left (by omega)] at hx
    by_cases e : i + 1 < b.length
    · rw [List.getElem?_append_left e] at hy
      exact h.gn i x y hx hy
    · have e2 : i = b.length - 1 := by omega
      rw [List.getElem?_append_right (by omega), show i + 1 - b.length = 0 by omega] at hy
      have hl := getLastD_get h.len
      rw [← e2, hx] at hl
      simp only [Option.some.injEq] at hl
      simp at hy
      have := (cand_not hc).2
      rw [← hl, hy] at this
      omega
  ln := by
    have h1 := absN_step (cand_not hc).1 n hn
    have := h.ln
    simp
    omega
theorem rowL_get {l : List Int} {i : Nat} (h : i < l.length) : l[i]? = some (rowL l i 0) := by
  simp [rowL, List.getD_eq_getElem?_getD, List.getElem?_eq_getElem h]
theorem begC.circle {n m : Nat} {f : Nat → Nat → Int} {p : Nat} {b : List Int} (h : begC n m f p b) (h1 : 1 < b.length) (hg : 0 < gnV m f (b.getLastD 0) p) : crOk (n : Int) m f b.length (rowL b) := by
  have hd : rowL b 0 0 = p := by
    have := rowL_get h.len
    rw [h.hd] at this
    simpa using this.symm
  refine ⟨⟨fun i hi => ?_, h1, ?_⟩, fun i hi => ?_⟩
  · have hx := rowL_get hi
    have hr := h.rg i _ hx
    refine ⟨by omega, by omega, by omega, fun k hk e => ?_⟩
    have hy := rowL_get (show k < b.length by omega)
    rw [e, ← hx] at hy
    have hxy : b[k]'(by omega) = b[i]'hi := by
      have a1 := List.getElem?_eq_getElem (l := b) (i := k) (by omega)
      have a2 := List.getElem?_eq_getElem (l := b) hi
      rw [a1, a2] at hy
      exact Option.some.inj hy
    have := List.pairwise_iff_getElem.1 h.nd k i (by omega) hi hk
    exact this hxy
  · have := h.ln; omega
  · unfold gnAt nxt
    by_cases e : i + 1 < b.length
    · rw [Nat.mod_eq_of_lt e]
      exact h.gn i _ _ (rowL_get hi) (rowL_get e)
    · have e2 : i + 1 = b.length := by omega
      rw [e2, Nat.mod_self, hd]
      have hl := getLastD_get h.len
      rw [show b.length - 1 = i by omega, rowL_get hi] at hl
      simp only [Option.some.injEq] at hl
      rw [hl]
      omega
theorem restC_all {sub : List Int → List (List Int)} {n m : Nat} {f : Nat → Nat → Int} {p : Nat} {b : List Int} {R : List Int → Prop} (hs : ∀ k, p < k → k < n → cand m f b k = true → ∀ c ∈ sub (b ++ [(k : Int)]), R c) : ∀ j : Nat, p + 1 + j ≤ n → ∀ c ∈ restC sub m f p b j, R c
  | 0, _, c, hc => by simp [restC] at hc
  | j + 1, hj, c, hc => by
    simp only [restC, List.mem_append] at hc
    rcases hc with hc | hc
    · exact restC_all hs j (by omega) c hc
    · split at hc
      · rename_i hcd
        exact hs _ (by omega) (by omega) hcd c hc
      · simp at hc
theorem circs_ok {n m : Nat} {f : Nat → Nat → Int} {p : Nat} (hp : p < n) : ∀ (u : Nat) (b : List Int), begC n m f p b → ∀ c ∈ circs n m f p u b, crOk (n : Int) m f c.length (rowL c) ∧ c[0]? = some (p : Int)
  | u, b, h => by
    have h0 : ∀ c ∈ ownC m f p b, crOk (n : Int) m f c.length (rowL c) ∧ c[0]? = some (p : Int) := fun c hc => by
      unfold ownC at hc
      split at hc
      · rename_i h1
        simp only [List.mem_singleton] at hc
        subst hc
        exact ⟨h.circle h1.1 h1.2, h.hd⟩
      · simp at hc
    match u with
    | 0 => exact h0
    | u + 1 =>
      intro c hc
      simp only [circs, List.mem_append] at hc
      rcases hc with hc | hc
      · exact h0 c hc
      · exact restC_all (fun k h1 h2 h3 => circs_ok hp u _ (h.next h1 h2 h3)) _ (by omega) c hc
/-- All circles of all. -/
def allC (n m : Nat) (f : Nat → Nat → Int) : Nat → List (List Int)
  | 0 => []
  | k + 1 => allC n m f k ++ circs n m f k n [(k : Int)]
theorem allC_len {n m : Nat} {f : Nat → Nat → Int} (hn : n ≤ 8) : ∀ k : Nat, k ≤ n → (allC n m f k).length ≤ k * 109601
  | 0, _ => by simp [allC]
  | k + 1, h => by
    have h1 := allC_len (m := m) (f := f) hn k (by omega)
    have h2 := circs_len (m := m) (f := f) (show k < n by omega) n [(k : Int)] (by have := absN_one (p := k) n (by omega); omega)
    have h3 := tc_le hn
    simp only [allC, List.length_append]
    omega
theorem allC_ok {n m : Nat} {f : Nat → Nat → Int} : ∀ k : Nat, k ≤ n → ∀ c ∈ allC n m f k, crOk (n : Int) m f c.length (rowL c)
  | 0, _, c, hc => by simp [allC] at hc
  | k + 1, h, c, hc => by
    simp only [allC, List.mem_append] at hc
    rcases hc with hc | hc
    · exact allC_ok k (by omega) c hc
    · exact (circs_ok (show k < n by omega) n _ (begC.one (by omega)) c hc).1
end Go.Proofs.YtnaldmmdhpobgaaDoor
