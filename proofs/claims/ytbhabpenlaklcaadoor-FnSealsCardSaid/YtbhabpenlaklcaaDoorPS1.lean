/- FnSeals, plain: the told steps seal. -/
import Derived.Test.YtbhabpenlaklcaaDoorQ15
set_option linter.unusedVariables false
set_option linter.unusedSimpArgs false
set_option maxRecDepth 100000
set_option maxHeartbeats 4000000
namespace Go.Proofs.YtbhabpenlaklcaaDoor
open Go Go.RowKit Go.Proofs

/-- The steps that seal: lay, then take and lay each that waits, then seal. -/
def sealF (ws : List Int) (i j : Nat) : Int :=
  if i = 0 then (if j = 0 then 2 else 0)
  else if i = 2 * ws.length + 1 then (if j = 0 then 5 else 0)
  else if i % 2 = 1 then (if j = 0 then 1 else ws.getD (i / 2) 0)
  else (if j = 0 then 2 else 0)
theorem sealF_0 (ws : List Int) : sealF ws 0 0 = 2 ∧ sealF ws 0 1 = 0 := by simp [sealF]
theorem sealF_take {ws : List Int} {i : Nat} (h : i < ws.length) : sealF ws (2 * i + 1) 0 = 1 ∧ sealF ws (2 * i + 1) 1 = ws.getD i 0 := by
  have h1 : ¬ 2 * i + 1 = 0 := by omega
  have h2 : ¬ 2 * i + 1 = 2 * ws.length + 1 := by omega
  have h3 : (2 * i + 1) % 2 = 1 := by omega
  have h4 : (2 * i + 1) / 2 = i := by omega
  simp only [sealF, if_neg h1, if_neg h2, if_pos h3, h4]
  simp
theorem sealF_lay {ws : List Int} {i : Nat} (h : i < ws.length) : sealF ws (2 * i + 2) 0 = 2 ∧ sealF ws (2 * i + 2) 1 = 0 := by
  have h1 : ¬ 2 * i + 2 = 0 := by omega
  have h2 : ¬ 2 * i + 2 = 2 * ws.length + 1 := by omega
  have h3 : ¬ (2 * i + 2) % 2 = 1 := by omega
  simp only [sealF, if_neg h1, if_neg h2, if_neg h3]
  simp
theorem sealF_end (ws : List Int) : sealF ws (2 * ws.length + 1) 0 = 5 ∧ sealF ws (2 * ws.length + 1) 1 = 0 := by
  have h1 : ¬ 2 * ws.length + 1 = 0 := by omega
  simp only [sealF, if_neg h1, if_pos]
  simp
theorem nodup_upto : ∀ t : Nat, (upto t).Nodup
  | 0 => by simp [upto]
  | t + 1 => by
    simp only [upto]
    rw [nodup_snoc]
    exact ⟨nodup_upto t, fun h => by have := mem_upto.1 h; omega⟩
theorem mem_waitL {tot : Int} {la : List Int} {hand : Int} {rj : List Int} {x : Int} : x ∈ waitL tot la hand rj ↔ (1 ≤ x ∧ x ≤ tot.toNat) ∧ x ≠ hand ∧ x ∉ la ∧ x ∉ rj := by
  simp only [waitL, List.mem_filter, mem_upto, decide_eq_true_eq]
def laid0 (p : PzD) : List Int := if 0 < p.hand then p.la ++ [p.hand] else p.la
def hd0 (p : PzD) : Nat := if 0 < p.hand then 1 else 0
theorem seal_run {p : PzD} (h : p.ok) (hs : p.sl = false) : ∀ i, i ≤ (waitL p.tot p.la p.hand p.rj).length →
    runP p (sealF (waitL p.tot p.la p.hand p.rj)) (2 * i + 1) = (⟨p.tot, laid0 p ++ (waitL p.tot p.la p.hand p.rj).take i, 0, p.rj, false⟩, hd0 p + 2 * i)
  | 0, _ => by
    have h0 := sealF_0 (waitL p.tot p.la p.hand p.rj)
    have hh : p.hand = 0 ∨ 0 < p.hand := by
      by_cases e : p.hand = 0
      · exact .inl e
      · have := h.rg p.hand (by unfold pcs; simp [e])
        exact .inr (by omega)
    have hb : stepB 2 0 = true := by decide
    obtain ⟨tot, la, hand, rj, sl⟩ := p
    dsimp only at *
    subst hs
    rcases hh with e | e
    · subst e
      have : runP ⟨tot, la, 0, rj, false⟩ (sealF (waitL tot la 0 rj)) (0 + 1) = runP ⟨tot, la, 0, rj, false⟩ (sealF (waitL tot la 0 rj)) 0 := runP_no (.inr (by rw [h0.1, h0.2]; simp [stOk, runP]))
      show runP _ _ (0 + 1) = _
      rw [this]
      simp [runP, laid0, hd0]
    · have : runP ⟨tot, la, hand, rj, false⟩ (sealF (waitL tot la hand rj)) (0 + 1) = _ := runP_yes (by rw [h0.1, h0.2]; exact hb) (by rw [h0.1, h0.2]; simp [stOk, runP, e])
      show runP _ _ (0 + 1) = _
      rw [this, h0.1, h0.2]
      simp [runP, laid0, hd0, stP, e]
  | i + 1, hi => by
    have ih := seal_run h hs i (by omega)
    have ht := sealF_take (ws := waitL p.tot p.la p.hand p.rj) (i := i) (by omega)
    have hl := sealF_lay (ws := waitL p.tot p.la p.hand p.rj) (i := i) (by omega)
    have hmem : (waitL p.tot p.la p.hand p.rj).getD i 0 ∈ waitL p.tot p.la p.hand p.rj := getD_mem (by omega)
    have hnd : (waitL p.tot p.la p.hand p.rj).Nodup := (nodup_upto _).filter _
    have hnt := nodup_not_take hnd (i := i) (by omega)
    have hsn := take_snoc (waitL p.tot p.la p.hand p.rj) i (by omega)
    have hw := mem_waitL.1 hmem
    have ht1 := h.t1
    have ht2 := h.t2
    generalize hws : waitL p.tot p.la p.hand p.rj = ws at *
    generalize hx : ws.getD i 0 = x at *
    have hin : x ∈ waitL p.tot (laid0 p ++ ws.take i) 0 p.rj := by
      refine mem_waitL.2 ⟨hw.1, by omega, fun hm => ?_, hw.2.2.2⟩
      rcases List.mem_append.1 hm with hm | hm
      · unfold laid0 at hm
        split at hm
        · rcases List.mem_append.1 hm with hm | hm
          · exact hw.2.2.1 hm
          · exact hw.2.1 (List.mem_singleton.1 hm)
        · exact hw.2.2.1 hm
      · exact hnt hm
    have hb1 : stepB 1 x = true := by
      unfold stepB
      rw [if_pos (.inl rfl)]
      exact decide_eq_true (by omega)
    have e1 : runP p (sealF ws) (2 * i + 1 + 1) = (⟨p.tot, laid0 p ++ ws.take i, x, p.rj, false⟩, hd0 p + 2 * i + 1) := by
      rw [runP_yes (by rw [ht.1, ht.2]; exact hb1) (by rw [ih, ht.1, ht.2]; simp [stOk, hin]), ih, ht.1, ht.2]
      simp [stP]
    have e2 : runP p (sealF ws) (2 * i + 2 + 1) = (⟨p.tot, laid0 p ++ ws.take (i + 1), 0, p.rj, false⟩, hd0 p + 2 * (i + 1)) := by
      have hpos : 0 < x := by omega
      rw [runP_yes (by rw [hl.1, hl.2]; decide) (by rw [show 2 * i + 2 = 2 * i + 1 + 1 by omega, e1, ← show 2 * i + 2 = 2 * i + 1 + 1 by omega, hl.1, hl.2]; simp [stOk, hpos])]
      rw [show runP p (sealF ws) (2 * i + 2) = runP p (sealF ws) (2 * i + 1 + 1) from rfl, e1, hl.1, hl.2, hsn]
      simp [stP, List.append_assoc]
      omega
    exact e2
/-- The told steps seal. -/
theorem seal_all {p : PzD} (h : p.ok) : (runP p (sealF (waitL p.tot p.la p.hand p.rj)) (2 * (waitL p.tot p.la p.hand p.rj).length + 2)).1.sl = true ∧
    ((runP p (sealF (waitL p.tot p.la p.hand p.rj)) (2 * (waitL p.tot p.la p.hand p.rj).length + 2)).2 : Int) = if p.sl = true then 0 else 1 + 2 * ((waitL p.tot p.la p.hand p.rj).length : Int) + (if 0 < p.hand then 1 else 0) := by
  cases hs : p.sl
  · have hr := seal_run h hs _ (Nat.le_refl _)
    have he := sealF_end (waitL p.tot p.la p.hand p.rj)
    rw [List.take_length] at hr
    have hw : waitL p.tot (laid0 p ++ waitL p.tot p.la p.hand p.rj) 0 p.rj = [] := by
      refine List.eq_nil_iff_forall_not_mem.2 fun x hx => ?_
      have h1 := mem_waitL.1 hx
      have h2 : x ∈ waitL p.tot p.la p.hand p.rj := mem_waitL.2 ⟨h1.1, fun e => h1.2.2.1 (List.mem_append.2 (.inl (by
        unfold laid0
        rw [if_pos (by omega)]
        simp [e]))), fun hm => h1.2.2.1 (List.mem_append.2 (.inl (by
        unfold laid0
        split
        · simp [hm]
        · exact hm))), h1.2.2.2⟩
      exact h1.2.2.1 (List.mem_append.2 (.inr h2))
    have e : runP p (sealF (waitL p.tot p.la p.hand p.rj)) (2 * (waitL p.tot p.la p.hand p.rj).length + 1 + 1) = _ := runP_yes (by rw [he.1, he.2]; decide) (by rw [hr, he.1, he.2]; simp [stOk, hw])
    show (runP p _ (2 * _ + 1 + 1)).1.sl = true ∧ ((runP p _ (2 * _ + 1 + 1)).2 : Int) = _
    rw [e, hr, he.1, he.2]
    constructor
    · simp [stP]
    · simp only [hd0]
      split <;> simp <;> omega
  · have hok := h.sl hs
    have hl := waitL_len h
    have ht := h.t1
    have hwn : (waitL p.tot p.la p.hand p.rj).length = 0 := by omega
    have hno : ∀ k, k ≤ 2 → runP p (sealF (waitL p.tot p.la p.hand p.rj)) k = (p, 0) := fun k => by
      induction k with
      | zero => intro _; rfl
      | succ k ih =>
        intro hk
        have ih := ih (by omega)
        rw [runP_no (.inr ?_), ih]
        rw [ih]
        have hkd : sealF (waitL p.tot p.la p.hand p.rj) k 0 ≠ 6 := by
          unfold sealF
          (repeat' split) <;> first | omega | (intro e; cases e) | skip
        simp only [stOk, hs, if_true]
        exact decide_eq_false hkd
    rw [hwn, hno _ (by omega)]
    exact ⟨hs, by simp⟩
end Go.Proofs.YtbhabpenlaklcaaDoor
