/- FnSeals: plain facts, comparisons. -/
import Derived.Test.YtbhabpenlaklcaaDoorPS1
import Derived.Test.YtbhabpenlaklcaaDoorPS2
import Derived.Test.YtbhabpenlaklcaaDoorQ7
import Derived.Test.YtbhabpenlaklcaaDoorXZ
set_option linter.unusedVariables false
set_option linter.unusedSimpArgs false
set_option maxRecDepth 100000
set_option maxHeartbeats 4000000
namespace Go.Proofs.YtbhabpenlaklcaaDoor
open Go Go.RowKit Go.Proofs
theorem vInts (A B : Option Addr) (n c d : Nat) (f : Nat → Nat → Int) (H : Hp) (nx : Nat) (hn : n ≤ 17592186044416) (h : Rd H A n 1 f) (h' : Rd H B n 1 f) :
    PC Tryd.prog 16 #[.slice A n c, .slice B n d] H nx (.bool true) := by
  refine AC_of x_laws_vInts rfl fun hB => ?_
  simp (disch := omega) only [bsW, WOp, WOq, WV, bo, eqN, gdc, gw, bnd, ↓reduceIte, Nat.reduceEqDiff, rsvs, rsv, oneOf, rdN, ne_eq, Nat.reduceAdd, Nat.reduceMul, Nat.reduceLT, reduceCtorEq, Value.cells, setN, Value.oneCell', Nat.reduceLeDiff, undef, fcT, c_laws_vInts]
  (repeat' (first | ((with_reducible refine gif_split (fun hs_ => ?_) (fun hs_ => ?_)) <;> (have hp_ := hs_; (try simp only [hpL, ne_eq] at hp_); (try simp (disch := omega) only [bsW, WOp, WOq, WV, bo, eqN, gdc, gw, bnd, ↓reduceIte, Nat.reduceEqDiff, rsvs, rsv, oneOf, rdN, ne_eq, Nat.reduceAdd, Nat.reduceMul, Nat.reduceLT, reduceCtorEq, Value.cells, setN, Value.oneCell', Nat.reduceLeDiff, undef, fcT, hs_]))) | ((first | (with_reducible refine newB_i (fun nb_ hb_ => ?_)) | (with_reducible refine RgE_i (fun (hBd_ : Bd _ _) => ?_))); (try simp (disch := omega) only [bsW, WOp, WOq, WV, bo, eqN, gdc, gw, bnd, ↓reduceIte, Nat.reduceEqDiff, rsvs, rsv, oneOf, rdN, ne_eq, Nat.reduceAdd, Nat.reduceMul, Nat.reduceLT, reduceCtorEq, Value.cells, setN, Value.oneCell', Nat.reduceLeDiff, undef, fcT])) | (with_reducible refine fun (hBd_ : Bd _ _) => ?_) | ((first | (with_reducible refine @And.intro (Sub _ _) _ ?_ ?_) | ((with_reducible refine @And.intro (Sub _ _ ∧ _) _ ?_ ?_); (with_reducible refine @And.intro (Sub _ _) _ ?_ ?_))); exact sbX) | ((with_reducible refine And.intro ?_ ?_); omega)))
  all_goals try (exfalso; omega)
  all_goals try (exfalso; simp_all; done)
  refine LpE_rule (fun m fr H' nx' => ∃ k : Nat, m = n - k + 1 ∧ k ≤ n ∧ fr 0 = .slice A n c ∧ fr 1 = .slice B n d ∧ fr 5 = .int .i64 k ∧ Sub H H' ∧ nx ≤ nx') ?_ ?_ (n + 1) ?_
  · rintro m K hK fr H' nx' ⟨k, hm, hk, f0, f1, f5, hs, hx⟩
    simp (disch := omega) only [bsW, WOp, WOq, WV, bo, eqN, gdc, gw, bnd, ↓reduceIte, Nat.reduceEqDiff, rsvs, rsv, oneOf, rdN, ne_eq, Nat.reduceAdd, Nat.reduceMul, Nat.reduceLT, reduceCtorEq, Value.cells, setN, Value.oneCell', Nat.reduceLeDiff, undef, fcT, f0, f1, f5]
    refine gif_split (fun b1 => ?_) (fun b1 => ?_)
    · have hlt : k < n := by simpa using b1
      obtain ⟨b, off, rfl, hc⟩ := h.at_ (by omega)
      obtain ⟨b', off', rfl, hc'⟩ := h'.at_ (by omega)
      have c0 := rd_sub hs (hc k 0 hlt (by omega))
      have d0 := rd_sub hs (hc' k 0 hlt (by omega))
      simp only [Nat.add_zero] at c0 d0
      simp (disch := omega) only [bsW, WOp, WOq, WV, bo, eqN, gdc, gw, bnd, ↓reduceIte, Nat.reduceEqDiff, rsvs, rsv, oneOf, rdN, ne_eq, Nat.reduceAdd, Nat.reduceMul, Nat.reduceLT, reduceCtorEq, Value.cells, setN, Value.oneCell', Nat.reduceLeDiff, undef, fcT, f0, f1, f5, c0, d0, b1]
      (repeat' (first | ((with_reducible refine gif_split (fun hs_ => ?_) (fun hs_ => ?_)) <;> (have hp_ := hs_; (try simp only [hpL, ne_eq] at hp_); (try simp (disch := omega) only [bsW, WOp, WOq, WV, bo, eqN, gdc, gw, bnd, ↓reduceIte, Nat.reduceEqDiff, rsvs, rsv, oneOf, rdN, ne_eq, Nat.reduceAdd, Nat.reduceMul, Nat.reduceLT, reduceCtorEq, Value.cells, setN, Value.oneCell', Nat.reduceLeDiff, undef, fcT, f0, f1, f5, c0, d0, hs_]))) | ((first | (with_reducible refine newB_i (fun nb_ hb_ => ?_)) | (with_reducible refine RgE_i (fun (hBd_ : Bd _ _) => ?_))); (try simp (disch := omega) only [bsW, WOp, WOq, WV, bo, eqN, gdc, gw, bnd, ↓reduceIte, Nat.reduceEqDiff, rsvs, rsv, oneOf, rdN, ne_eq, Nat.reduceAdd, Nat.reduceMul, Nat.reduceLT, reduceCtorEq, Value.cells, setN, Value.oneCell', Nat.reduceLeDiff, undef, fcT, f0, f1, f5, c0, d0])) | (with_reducible refine fun (hBd_ : Bd _ _) => ?_) | ((first | (with_reducible refine @And.intro (Sub _ _) _ ?_ ?_) | ((with_reducible refine @And.intro (Sub _ _ ∧ _) _ ?_ ?_); (with_reducible refine @And.intro (Sub _ _) _ ?_ ?_))); exact sbX) | ((with_reducible refine And.intro ?_ ?_); omega)))
      all_goals try (exfalso; simp_all; done)
      refine hK _ _ _ ?_
      refine ⟨k + 1, by omega, by omega, by simp (disch := omega) only [bsW, ↓reduceIte, Nat.reduceEqDiff, ne_eq, reduceCtorEq, fcT, f0, f1, f5, c0, d0], by simp (disch := omega) only [bsW, ↓reduceIte, Nat.reduceEqDiff, ne_eq, reduceCtorEq, fcT, f0, f1, f5, c0, d0], by simp (disch := omega) only [bsW, ↓reduceIte, Nat.reduceEqDiff, ne_eq, reduceCtorEq, fcT, f0, f1, f5, c0, d0, Int.natCast_add, Int.natCast_one], hs, by omega⟩
    · simp (disch := omega) only [bsW, WOp, WOq, WV, bo, eqN, gdc, gw, bnd, ↓reduceIte, Nat.reduceEqDiff, rsvs, rsv, oneOf, rdN, ne_eq, Nat.reduceAdd, Nat.reduceMul, Nat.reduceLT, reduceCtorEq, Value.cells, setN, Value.oneCell', Nat.reduceLeDiff, undef, fcT, f0, f1, f5, b1]
      exact Is_i hs
  · rintro fr H' nx' ⟨k, hm, _⟩; omega
  · exact ⟨0, by omega, by omega, by simp (disch := omega) only [bsW, ↓reduceIte, Nat.reduceEqDiff, ne_eq, reduceCtorEq, fcT], by simp (disch := omega) only [bsW, ↓reduceIte, Nat.reduceEqDiff, ne_eq, reduceCtorEq, fcT], by simp (disch := omega) only [bsW, ↓reduceIte, Nat.reduceEqDiff, ne_eq, reduceCtorEq, fcT, Int.natCast_zero], Sub.refl _, by omega⟩
theorem seal_snoc (ws : List Int) (i j : Nat) (hi : i < 2 * ws.length + 1 + 1) (hj : j < 2) : snoc (2 * ws.length + 1) (sealF ws) (fun j => if j = 0 then 5 else 0) i j = sealF ws i j := by
  unfold snoc
  have he := sealF_end ws
  have hj' : j = 0 ∨ j = 1 := by omega
  by_cases h : i = 2 * ws.length + 1
  · subst h
    rcases hj' with rfl | rfl
    · simp [he.1]
    · simp [he.2]
  · rw [if_pos (by omega)]
theorem seal_cat (ws : List Int) (k : Nat) (hk : k < ws.length) (i j : Nat) (hi : i < 2 * k + 1 + 2) (hj : j < 2) : cat (2 * k + 1) (sealF ws) (fun i j => if i = 0 then (if j = 0 then 1 else ws.getD k 0) else (if j = 0 then 2 else 0)) i j = sealF ws i j := by
  unfold cat
  have h1 := sealF_take hk
  have h2 := sealF_lay hk
  have hj' : j = 0 ∨ j = 1 := by omega
  by_cases h : i < 2 * k + 1
  · rw [if_pos h]
  · rw [if_neg h]
    by_cases e : i = 2 * k + 1
    · subst e
      rcases hj' with rfl | rfl
      · simp [h1.1]
      · simp [h1.2]
    · have e2 : i = 2 * k + 2 := by omega
      subst e2
      have e3 : 2 * k + 2 - (2 * k + 1) = 1 := by omega
      rcases hj' with rfl | rfl
      · simp [h2.1, e3]
      · simp [h2.2, e3]
theorem undo_lift {tot : Int} {la : List Int} {hand : Int} {rj : List Int} {sl : Bool} {x : Int} (hb : undoB tot la hand rj sl x = true) (h0 : undoI tot la hand rj sl x = 0) (hh : hand = 0) (hs : sl = false) :
    sdB ⟨tot, la, hand, rj, sl⟩ 3 x = true ∧ (sdD ⟨tot, la, hand, rj, sl⟩ 3 x).hand = x := by
  have hb' := hb
  unfold undoB at hb
  simp only [Bool.and_eq_true, decide_eq_true_eq] at hb
  unfold undoI at h0
  rw [if_pos hb'] at h0
  have hok := pzB_iff.1 hb.1
  obtain ⟨k, hk1, hk2, hk3⟩ : ∃ k : Nat, idxOf (fun j => la.getD j 0 == x) la.length = (k : Int) ∧ k < la.length ∧ (la.getD k 0 == x) = true := by
    rcases idxOf_cases (fun j => la.getD j 0 == x) la.length with ⟨h1, _⟩ | ⟨k, h1, h2, h3, _⟩
    · omega
    · exact ⟨k, h1, h2, h3⟩
  have hkl : k = la.length - 1 := by omega
  have hx : la.getD (la.length - 1) 0 = x := by rw [← hkl]; simpa using hk3
  have hm : x ∈ pcs la rj hand := by
    have : x ∈ la := by rw [← hx]; exact getD_mem (by omega)
    unfold pcs
    simp [this]
  have hr := hok.rg x hm
  have ht := hok.t2
  have hne : la ≠ [] := by intro e; subst e; simp at hk2
  have hB : sdB ⟨tot, la, hand, rj, sl⟩ 3 x = true := by
    unfold sdB stepB stOk
    dsimp only
    rw [hb.1, if_pos (.inr rfl), hs, hh, hx]
    simp [hne]
    omega
  refine ⟨hB, ?_⟩
  rw [sdD, if_pos hB]
  simp [stP, hs]
theorem pw_wait {tot : Int} {la : List Int} {hand : Int} {rj : List Int} {sl : Bool} (h : pzB tot la hand rj sl = true) : pwL tot la hand rj sl = waitL tot la hand rj := by
  unfold pwL
  rw [if_pos h, waitK_waitL]
theorem seal_told {tot : Int} {la : List Int} {hand : Int} {rj : List Int} {sl : Bool} (h : pzB tot la hand rj sl = true) (hl : (pwL tot la hand rj sl).length < 19) :
    runB ⟨tot, la, hand, rj, sl⟩ (2 * (pwL tot la hand rj sl).length + 2) = true ∧ (runM ⟨tot, la, hand, rj, sl⟩ (sealF (pwL tot la hand rj sl)) (2 * (pwL tot la hand rj sl).length + 2) : Int) = sealI tot la hand rj sl ∧
    (runD ⟨tot, la, hand, rj, sl⟩ (sealF (pwL tot la hand rj sl)) (2 * (pwL tot la hand rj sl).length + 2)).sl = true := by
  have hok := pzB_iff.1 h
  have hb : runB ⟨tot, la, hand, rj, sl⟩ (2 * (pwL tot la hand rj sl).length + 2) = true := by
    unfold runB
    dsimp only
    rw [h, Bool.true_and]
    exact decide_eq_true (by omega)
  obtain ⟨h1, h2⟩ := seal_all (p := ⟨tot, la, hand, rj, sl⟩) hok
  dsimp only at h1 h2
  rw [← pw_wait (sl := sl) h] at h1 h2
  refine ⟨hb, ?_, ?_⟩
  · rw [runM, if_pos hb, h2]
    unfold sealI
    rw [pw_wait h, ← waitK_waitL]
    cases sl <;> simp [h]
  · rw [runD, if_pos hb]
    exact h1
theorem PuzzleTextO (g : Nat) (ty : TypeId) (v : Value) (tot : Int) (la : List Int) (hand : Int) (rj : List Int) (sl : Bool) (lo hi : Nat) (H : Hp) (nx : Nat) (hg : g = 0) (hT : H g = some (.rw powCells ty)) (hla : la.length + rj.length ≤ 1048576) (h : OwnP H lo hi tot la hand rj sl v) : PC Tryd.prog 8 #[v] H nx (.tuple #[.string (bs (ptT tot la hand rj sl)), .bool (pzB tot la hand rj sl)]) := by
  obtain ⟨A, c, B, d, rfl, hc, hd, hA, hB⟩ := h.rd
  exact PuzzleText g ty tot A la c hand B rj d sl H nx hg hT hla hc hA hB
theorem sPuzzleTextO (v : Value) (tot : Int) (la : List Int) (hand : Int) (rj : List Int) (sl : Bool) (lo hi : Nat) (H : Hp) (nx : Nat) (hla : la.length + rj.length ≤ 1048576) (h : OwnP H lo hi tot la hand rj sl v) : PC Tryd.prog 6 #[v] H nx (.tuple #[.string (bs (ptT tot la hand rj sl)), .bool (pzB tot la hand rj sl)]) := by
  obtain ⟨A, c, B, d, rfl, hc, hd, hA, hB⟩ := h.rd
  exact sPuzzleText tot A la c hand B rj d sl H nx hla hc hA hB
end Go.Proofs.YtbhabpenlaklcaaDoor
