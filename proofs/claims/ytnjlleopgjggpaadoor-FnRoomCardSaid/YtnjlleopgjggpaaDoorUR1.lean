/- The room, plain: what its bidders are, and with one less one does not win. -/
import Derived.Test.YtnjlleopgjggpaaDoorC8
import Derived.Test.YtnjlleopgjggpaaDoorP22
set_option linter.unusedVariables false
set_option linter.unusedSimpArgs false
set_option maxRecDepth 100000
set_option maxHeartbeats 4000000
namespace Go.Proofs.YtnjlleopgjggpaaDoor
open Go Go.RowKit Go.Proofs

/-- The j-th bid behind b. -/
def bidAt (n : Nat) (f : Nat → Nat → Int) : Nat → Int → Int
  | 0, b => b
  | j + 1, b => bidAt n f j (nextB n f b)
theorem bidAt_succ (n : Nat) (f : Nat → Nat → Int) : ∀ (j : Nat) (b : Int), bidAt n f (j + 1) b = nextB n f (bidAt n f j b)
  | 0, _ => rfl
  | j + 1, b => by
    show bidAt n f (j + 1) (nextB n f b) = _
    rw [bidAt_succ n f j]
    rfl
theorem bidAt_le {n : Nat} {f : Nat → Nat → Int} (hok : stepsOk n f) : ∀ (j : Nat) {b : Int}, 0 ≤ b → b ≤ bidAt n f j b
  | 0, b, _ => Int.le_refl _
  | j + 1, b, h => by
    have h1 := nextB_bd hok h
    have h2 := bidAt_le hok j (b := nextB n f b) (by omega)
    show b ≤ bidAt n f j (nextB n f b)
    omega
theorem bidAt_mono {n : Nat} {f : Nat → Nat → Int} (hok : stepsOk n f) {b : Int} (h : 0 ≤ b) (i : Nat) : ∀ (k : Nat), bidAt n f i b + (if k = 0 then 0 else 200) ≤ bidAt n f (i + k) b
  | 0 => by simp
  | k + 1 => by
    have h1 := bidAt_mono hok h i k
    have h0 := bidAt_le hok (i + k) h
    have h2 := nextB_bd hok (b := bidAt n f (i + k) b) (by omega)
    have e : bidAt n f (i + (k + 1)) b = nextB n f (bidAt n f (i + k) b) := bidAt_succ n f (i + k) b
    rw [e, if_neg (by omega)]
    split at h1 <;> omega
theorem bidAt_lt {n : Nat} {f : Nat → Nat → Int} (hok : stepsOk n f) {b : Int} (h : 0 ≤ b) {i j : Nat} (hij : i < j) : bidAt n f i b < bidAt n f j b := by
  have := bidAt_mono hok h i (j - i)
  rw [if_neg (by omega), show i + (j - i) = j by omega] at this
  omega
theorem bidAt_iff {n : Nat} {f : Nat → Nat → Int} (hok : stepsOk n f) {b : Int} (h : 0 ≤ b) (i j : Nat) : bidAt n f i b ≤ bidAt n f j b ↔ i ≤ j := by
  constructor
  · intro h1
    by_cases hh : i ≤ j
    · exact hh
    · have := bidAt_lt hok h (show j < i by omega)
      omega
  · intro h1
    rcases Nat.lt_or_ge i j with h2 | h2
    · exact Int.le_of_lt (bidAt_lt hok h h2)
    · rw [show i = j by omega]
      exact Int.le_refl _
theorem countB_at {n : Nat} {f : Nat → Nat → Int} (hok : stepsOk n f) : ∀ (j F : Nat) (b : Int), 0 ≤ b → countB n f (bidAt n f j b) (F + 1 + j) b = j + 1
  | 0, F, b, h => by
    have := nextB_bd hok h
    have e0 : bidAt n f 0 b = b := rfl
    rw [e0]
    simp only [countB]
    rw [if_pos (Int.le_refl _), countB_gt _ _ _ _ _ (by omega)]
    rfl
  | j + 1, F, b, h => by
    have h1 := nextB_bd hok h
    have h2 := bidAt_le hok j (b := nextB n f b) (by omega)
    have ih := countB_at hok j F (nextB n f b) (by omega)
    show countB n f (bidAt n f j (nextB n f b)) (F + 1 + j + 1) b = _
    simp only [countB]
    rw [if_pos (by omega), ih]
    omega
/-- No two beside each other are alike. -/
def adjD (l : List Int) : Prop := ∀ i, i + 1 < l.length → l[i + 1]? ≠ l[i]?
theorem getLastD_at (l : List Int) (d : Int) (h : l ≠ []) : l[l.length - 1]? = some (l.getLastD d) := by
  rw [List.getLastD_eq_getLast?, ← List.getLast?_eq_getElem?]
  cases h1 : l.getLast? with
  | none => simp at h1; exact absurd h1 h
  | some x => rfl
theorem adjD_snoc {l : List Int} {x : Int} (h : adjD l) (hx : l ≠ [] → x ≠ l.getLastD 0) : adjD (l ++ [x]) := by
  intro i hi
  simp only [List.length_append, List.length_singleton] at hi
  by_cases hl : i + 1 < l.length
  · rw [List.getElem?_append_left hl, List.getElem?_append_left (by omega)]
    exact h i hl
  · have hne : l ≠ [] := by
      intro e
      subst e
      simp at hi
    have e1 : i + 1 = l.length := by omega
    have e2 : i = l.length - 1 := by omega
    rw [e1, List.getElem?_append_right (Nat.le_refl _), List.getElem?_append_left (by omega), e2, getLastD_at l 0 hne]
    simp only [Nat.sub_self, List.getElem?_cons_zero, ne_eq, Option.some.injEq]
    exact hx hne
/-- What the room's search leaves. -/
structure RmI (n : Nat) (f : Nat → Nat → Int) (m : Nat) (g : Nat → Nat → Int) (start : Int) (bid last : Int) (l : List Int) : Prop where
  bid : bid = bidAt n f l.length start
  last : l ≠ [] → last = bidAt n f (l.length - 1) start ∧ last ≤ 20000
  adj : adjD l
  mem : ∀ x ∈ l, ∃ i, i < m ∧ x = g i 0 ∧ start ≤ g i 1
theorem rmHit_t {g : Nat → Nat → Int} {bid who : Int} {i : Nat} : rmHit g bid who i = true ↔ bid ≤ g i 1 ∧ g i 0 ≠ who := by
  unfold rmHit
  simp
theorem roomL_inv {n : Nat} {f : Nat → Nat → Int} {m : Nat} {g : Nat → Nat → Int} (hok : stepsOk n f) (hab : abssOk m g) {start : Int} (h0 : 0 ≤ start) : ∀ (F : Nat) (bid last : Int) (l : List Int), RmI n f m g start bid last l →
    ∃ bid', RmI n f m g start bid' (roomL n f m g F bid last l).2 (roomL n f m g F bid last l).1
  | 0, bid, last, l, h => ⟨bid, h⟩
  | F + 1, bid, last, l, h => by
    simp only [roomL]
    split
    · exact ⟨bid, h⟩
    · rename_i hi
      obtain ⟨k, hk, hkm, hkp⟩ : ∃ k : Nat, idxOf (rmHit g bid (l.getLastD 0)) m = (k : Int) ∧ k < m ∧ rmHit g bid (l.getLastD 0) k = true := by
        rcases idxOf_cases (rmHit g bid (l.getLastD 0)) m with ⟨h1, _⟩ | ⟨k, h1, h2, h3, _⟩
        · omega
        · exact ⟨k, h1, h2, h3⟩
      rw [hk, Int.toNat_natCast]
      obtain ⟨q1, q2⟩ := rmHit_t.1 hkp
      have hb := inR_true.1 (hab.1 k hkm).2.1
      refine roomL_inv hok hab h0 F _ _ _ ⟨?_, fun _ => ⟨?_, by omega⟩, adjD_snoc h.adj (fun _ => q2), ?_⟩
      · rw [List.length_append, List.length_singleton, bidAt_succ, ← h.bid]
      · rw [List.length_append, List.length_singleton, Nat.add_sub_cancel]
        exact h.bid
      · intro x hx
        rcases List.mem_append.1 hx with hx | hx
        · exact h.mem x hx
        · rw [List.mem_singleton] at hx
          have := bidAt_le hok l.length h0
          have := h.bid
          exact ⟨k, hkm, hx, by omega⟩
theorem room_inv {n : Nat} {f : Nat → Nat → Int} {m : Nat} {g : Nat → Nat → Int} (hok : stepsOk n f) (hab : abssOk m g) {start : Int} (h0 : 0 ≤ start) : ∃ bid', RmI n f m g start bid' (room n f m g start).2 (room n f m g start).1 :=
  roomL_inv hok hab h0 101 start 0 [] ⟨rfl, fun h => absurd rfl h, fun i hi => by simp at hi, fun x hx => by cases hx⟩
theorem roomL_congr {n : Nat} {f : Nat → Nat → Int} {m : Nat} {g g' : Nat → Nat → Int} {start : Int} (h1 : ∀ i, g i 0 = g' i 0) (h2 : ∀ (j i : Nat), bidAt n f j start ≤ g i 1 ↔ bidAt n f j start ≤ g' i 1) : ∀ (F : Nat) (bid last : Int) (l : List Int), bid = bidAt n f l.length start →
    roomL n f m g F bid last l = roomL n f m g' F bid last l
  | 0, bid, last, l, h => rfl
  | F + 1, bid, last, l, h => by
    have e : rmHit g bid (l.getLastD 0) = rmHit g' bid (l.getLastD 0) := by
      funext i
      unfold rmHit
      rw [h1 i, h, decide_eq_decide.2 (h2 l.length i)]
    simp only [roomL]
    rw [e]
    split
    · rfl
    · rw [h1]
      exact roomL_congr h1 h2 F _ _ _ (by rw [List.length_append, List.length_singleton, bidAt_succ, ← h])
theorem cwGo_some {n : Nat} {f : Nat → Nat → Int} {m : Nat} {g : Nat → Nat → Int} {start : Int} {k : Nat} : ∀ (F : Nat) (b x : Int), cwGo n f m g start k F b = some x →
    ∃ j, x = bidAt n f j b ∧ x ≤ 20000 ∧ winB n f m g start k x = true ∧ ∀ i, i < j → winB n f m g start k (bidAt n f i b) = false
  | 0, b, x, h => by cases h
  | F + 1, b, x, h => by
    simp only [cwGo] at h
    split at h
    · rename_i hb
      split at h
      · rename_i hw
        cases h
        exact ⟨0, rfl, hb, hw, fun i hi => by omega⟩
      · rename_i hw
        obtain ⟨j, h1, h2, h3, h4⟩ := cwGo_some F _ x h
        refine ⟨j + 1, h1, h2, h3, fun i hi => ?_⟩
        cases i with
        | zero => simpa [bidAt] using hw
        | succ i => exact h4 i (by omega)
    · cases h
/-- With one less he does not win. -/
theorem less_no {n : Nat} {f : Nat → Nat → Int} {m : Nat} {g : Nat → Nat → Int} (hok : stepsOk n f) (hab : abssOk m g) {start x : Int} (h0 : 0 ≤ start) {k F : Nat} (hk : k < m) (h : cwGo n f m g start k F start = some x) (hx : 0 < x) :
    winB n f m g start k (x - 1) = false := by
  obtain ⟨j, h1, h2, h3, h4⟩ := cwGo_some F start x h
  cases j with
  | zero =>
    have e : x = start := h1
    have hab' : abssOk m (set2 g k 1 (x - 1)) := abss_set hab (by omega) (by omega)
    obtain ⟨_, hI⟩ := room_inv hok hab' h0
    rw [Bool.eq_false_iff]
    intro hw
    simp only [winB, Bool.and_eq_true, Bool.not_eq_true', List.isEmpty_eq_false_iff, beq_iff_eq] at hw
    obtain ⟨hne, hl⟩ := hw
    obtain ⟨i, hi, e1, e2⟩ := hI.mem _ (List.mem_of_getElem? (getLastD_at _ 0 hne))
    rw [hl] at e1
    by_cases hik : i = k
    · subst hik
      simp [set2] at e2
      omega
    · simp only [set2, show ¬ (0 : Nat) = 1 by omega, and_false, if_false, hik, false_and] at e1 e2
      rcases Nat.lt_or_ge i k with h5 | h5
      · have := (hab.1 k hk).2.2 i h5
        simp at this
        omega
      · have := (hab.1 i hi).2.2 k (by omega)
        simp at this
        omega
  | succ j =>
    have hf := h4 j (by omega)
    have e : room n f m (set2 g k 1 (x - 1)) start = room n f m (set2 g k 1 (bidAt n f j start)) start := by
      refine roomL_congr (fun i => by simp [set2]) (fun i q => ?_) 101 _ _ _ rfl
      by_cases hq : q = k
      · subst hq
        simp only [set2, and_self, if_true]
        rw [h1]
        have a1 := bidAt_iff hok h0 i j
        have a2 := bidAt_iff hok h0 i (j + 1)
        have a3 := bidAt_iff hok h0 (j + 1) i
        constructor
        · intro h5
          refine a1.2 ?_
          by_cases hij : i ≤ j
          · exact hij
          · have := a3.2 (by omega)
            omega
        · intro h5
          have h6 := a1.1 h5
          have := bidAt_lt hok h0 (show i < j + 1 by omega)
          omega
      · simp only [set2, hq, false_and, if_false]
    unfold winB at hf ⊢
    rw [e]
    exact hf
end Go.Proofs.YtnjlleopgjggpaaDoor
