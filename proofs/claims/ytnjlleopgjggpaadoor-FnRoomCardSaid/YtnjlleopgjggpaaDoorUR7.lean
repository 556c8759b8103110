/- FnRoom: comparisons and plain facts. -/
import Derived.Test.YtnjlleopgjggpaaDoorUR1
import Derived.Test.YtnjlleopgjggpaaDoorC9
set_option linter.unusedVariables false
set_option linter.unusedSimpArgs false
set_option maxRecDepth 100000
set_option maxHeartbeats 4000000
namespace Go.Proofs.YtnjlleopgjggpaaDoor
open Go Go.RowKit Go.Proofs
theorem rSteps (A B : Option Addr) (n c d : Nat) (f : Nat → Nat → Int) (H : Hp) (nx : Nat) (hn : n ≤ 17592186044416) (h : Rd H A n 2 f) (h' : Rd H B n 2 f) :
    PC Tryd.prog 20 #[.slice A n c, .slice B n d] H nx (.bool true) := by
  refine AC_of x_laws_rSteps rfl fun hB => ?_
  simp (disch := omega) only [bsW, WOp, WOq, WV, bo, eqN, gdc, gw, bnd, ↓reduceIte, Nat.reduceEqDiff, rsvs, rsv, oneOf, rdN, ne_eq, Nat.reduceAdd, Nat.reduceMul, Nat.reduceLT, reduceCtorEq, Value.cells, setN, Value.oneCell', Nat.reduceLeDiff, undef, fcT, c_laws_rSteps]
  refine LpE_rule (fun m fr H' nx' => ∃ k : Nat, m = n - k + 1 ∧ k ≤ n ∧ fr 0 = .slice A n c ∧ fr 1 = .slice B n d ∧ fr 5 = .int .i64 k ∧ Sub H H' ∧ nx ≤ nx') ?_ ?_ (n + 1) ?_
  · rintro m K hK fr H' nx' ⟨k, hm, hk, f0, f1, f5, hs, hx⟩
    simp (disch := omega) only [bsW, WOp, WOq, WV, bo, eqN, gdc, gw, bnd, ↓reduceIte, Nat.reduceEqDiff, rsvs, rsv, oneOf, rdN, ne_eq, Nat.reduceAdd, Nat.reduceMul, Nat.reduceLT, reduceCtorEq, Value.cells, setN, Value.oneCell', Nat.reduceLeDiff, undef, fcT, f0, f1, f5]
    refine gif_split (fun b1 => ?_) (fun b1 => ?_)
    · have hlt : k < n := by simpa using b1
      obtain ⟨b, off, rfl, hc⟩ := h.at_ (by omega)
      obtain ⟨b', off', rfl, hc'⟩ := h'.at_ (by omega)
      have c0 := rd_sub hs (hc k 0 hlt (by omega))
      have e0 := rd_sub hs (hc' k 0 hlt (by omega))
      have c1 := rd_sub hs (hc k 1 hlt (by omega))
      have e1 := rd_sub hs (hc' k 1 hlt (by omega))
      simp only [Nat.add_zero] at c0 e0
      simp (disch := omega) only [bsW, WOp, WOq, WV, bo, eqN, gdc, gw, bnd, ↓reduceIte, Nat.reduceEqDiff, rsvs, rsv, oneOf, rdN, ne_eq, Nat.reduceAdd, Nat.reduceMul, Nat.reduceLT, reduceCtorEq, Value.cells, setN, Value.oneCell', Nat.reduceLeDiff, undef, fcT, f0, f1, f5, c0, e0, c1, e1, b1]
      (repeat' (first | ((with_reducible refine gif_split (fun hs_ => ?_) (fun hs_ => ?_)) <;> (have hp_ := hs_; (try simp only [hpL, ne_eq] at hp_); (try simp (disch := omega) only [bsW, WOp, WOq, WV, bo, eqN, gdc, gw, bnd, ↓reduceIte, Nat.reduceEqDiff, rsvs, rsv, oneOf, rdN, ne_eq, Nat.reduceAdd, Nat.reduceMul, Nat.reduceLT, reduceCtorEq, Value.cells, setN, Value.oneCell', Nat.reduceLeDiff, undef, fcT, f0, f1, f5, c0, e0, c1, e1, hs_]))) | ((first | (with_reducible refine newB_i (fun nb_ hb_ => ?_)) | (with_reducible refine RgE_i (fun (hBd_ : Bd _ _) => ?_))); (try simp (disch := omega) only [bsW, WOp, WOq, WV, bo, eqN, gdc, gw, bnd, ↓reduceIte, Nat.reduceEqDiff, rsvs, rsv, oneOf, rdN, ne_eq, Nat.reduceAdd, Nat.reduceMul, Nat.reduceLT, reduceCtorEq, Value.cells, setN, Value.oneCell', Nat.reduceLeDiff, undef, fcT, f0, f1, f5, c0, e0, c1, e1])) | (with_reducible refine fun (hBd_ : Bd _ _) => ?_) | ((first | (with_reducible refine @And.intro (Sub _ _) _ ?_ ?_) | ((with_reducible refine @And.intro (Sub _ _ ∧ _) _ ?_ ?_); (with_reducible refine @And.intro (Sub _ _) _ ?_ ?_))); exact sbX) | ((with_reducible refine And.intro ?_ ?_); omega)))
      refine hK _ _ _ ?_
      refine ⟨k + 1, by omega, by omega, by simp (disch := omega) only [bsW, ↓reduceIte, Nat.reduceEqDiff, ne_eq, reduceCtorEq, fcT, f0, f1, f5, c0, e0, c1, e1], by simp (disch := omega) only [bsW, ↓reduceIte, Nat.reduceEqDiff, ne_eq, reduceCtorEq, fcT, f0, f1, f5, c0, e0, c1, e1], by simp (disch := omega) only [bsW, ↓reduceIte, Nat.reduceEqDiff, ne_eq, reduceCtorEq, fcT, f0, f1, f5, c0, e0, c1, e1, Int.natCast_add, Int.natCast_one], hs, by omega⟩
    · simp (disch := omega) only [bsW, WOp, WOq, WV, bo, eqN, gdc, gw, bnd, ↓reduceIte, Nat.reduceEqDiff, rsvs, rsv, oneOf, rdN, ne_eq, Nat.reduceAdd, Nat.reduceMul, Nat.reduceLT, reduceCtorEq, Value.cells, setN, Value.oneCell', Nat.reduceLeDiff, undef, fcT, f0, f1, f5, b1]
      exact Is_i hs
  · rintro fr H' nx' ⟨k, hm, _⟩; omega
  · exact ⟨0, by omega, by omega, by simp (disch := omega) only [bsW, ↓reduceIte, Nat.reduceEqDiff, ne_eq, reduceCtorEq, fcT], by simp (disch := omega) only [bsW, ↓reduceIte, Nat.reduceEqDiff, ne_eq, reduceCtorEq, fcT], by simp (disch := omega) only [bsW, ↓reduceIte, Nat.reduceEqDiff, ne_eq, reduceCtorEq, fcT, Int.natCast_zero], Sub.refl _, by omega⟩
theorem rInts (A B : Option Addr) (n c d : Nat) (f : Nat → Nat → Int) (H : Hp) (nx : Nat) (hn : n ≤ 17592186044416) (h : Rd H A n 1 f) (h' : Rd H B n 1 f) :
    PC Tryd.prog 12 #[.slice A n c, .slice B n d] H nx (.bool true) := by
  refine AC_of x_laws_rInts rfl fun hB => ?_
  simp (disch := omega) only [bsW, WOp, WOq, WV, bo, eqN, gdc, gw, bnd, ↓reduceIte, Nat.reduceEqDiff, rsvs, rsv, oneOf, rdN, ne_eq, Nat.reduceAdd, Nat.reduceMul, Nat.reduceLT, reduceCtorEq, Value.cells, setN, Value.oneCell', Nat.reduceLeDiff, undef, fcT, c_laws_rInts]
  refine LpE_rule (fun m fr H' nx' => ∃ k : Nat, m = n - k + 1 ∧ k ≤ n ∧ fr 0 = .slice A n c ∧ fr 1 = .slice B n d ∧ fr 5 = .int .i64 k ∧ Sub H H' ∧ nx ≤ nx') ?_ ?_ (n + 1) ?_
  · rintro m K hK fr H' nx' ⟨k, hm, hk, f0, f1, f5, hs, hx⟩
    simp (disch := omega) only [bsW, WOp, WOq, WV, bo, eqN, gdc, gw, bnd, ↓reduceIte, Nat.reduceEqDiff, rsvs, rsv, oneOf, rdN, ne_eq, Nat.reduceAdd, Nat.reduceMul, Nat.reduceLT, reduceCtorEq, Value.cells, setN, Value.oneCell', Nat.reduceLeDiff, undef, fcT, f0, f1, f5]
    refine gif_split (fun b1 => ?_) (fun b1 => ?_)
    · have hlt : k < n := by simpa using b1
      obtain ⟨b, off, rfl, hc⟩ := h.at_ (by omega)
      obtain ⟨b', off', rfl, hc'⟩ := h'.at_ (by omega)
      have c0 := rd_sub hs (hc k 0 hlt (by omega))
      have e0 := rd_sub hs (hc' k 0 hlt (by omega))
      simp only [Nat.add_zero] at c0 e0
      simp (disch := omega) only [bsW, WOp, WOq, WV, bo, eqN, gdc, gw, bnd, ↓reduceIte, Nat.reduceEqDiff, rsvs, rsv, oneOf, rdN, ne_eq, Nat.reduceAdd, Nat.reduceMul, Nat.reduceLT, reduceCtorEq, Value.cells, setN, Value.oneCell', Nat.reduceLeDiff, undef, fcT, f0, f1, f5, c0, e0, b1]
      (repeat' (first | ((with_reducible refine gif_split (fun hs_ => ?_) (fun hs_ => ?_)) <;> (have hp_ := hs_; (try simp only [hpL, ne_eq] at hp_); (try simp (disch := omega) only [bsW, WOp, WOq, WV, bo, eqN, gdc, gw, bnd, ↓reduceIte, Nat.reduceEqDiff, rsvs, rsv, oneOf, rdN, ne_eq, Nat.reduceAdd, Nat.reduceMul, Nat.reduceLT, reduceCtorEq, Value.cells, setN, Value.oneCell', Nat.reduceLeDiff, undef, fcT, f0, f1, f5, c0, e0, hs_]))) | ((first | (with_reducible refine newB_i (fun nb_ hb_ => ?_)) | (with_reducible refine RgE_i (fun (hBd_ : Bd _ _) => ?_))); (try simp (disch := omega) only [bsW, WOp, WOq, WV, bo, eqN, gdc, gw, bnd, ↓reduceIte, Nat.reduceEqDiff, rsvs, rsv, oneOf, rdN, ne_eq, Nat.reduceAdd, Nat.reduceMul, Nat.reduceLT, reduceCtorEq, Value.cells, setN, Value.oneCell', Nat.reduceLeDiff, undef, fcT, f0, f1, f5, c0, e0])) | (with_reducible refine fun (hBd_ : Bd _ _) => ?_) | ((first | (with_reducible refine @And.intro (Sub _ _) _ ?_ ?_) | ((with_reducible refine @And.intro (Sub _ _ ∧ _) _ ?_ ?_); (with_reducible refine @And.intro (Sub _ _) _ ?_ ?_))); exact sbX) | ((with_reducible refine And.intro ?_ ?_); omega)))
      refine hK _ _ _ ?_
      refine ⟨k + 1, by omega, by omega, by simp (disch := omega) only [bsW, ↓reduceIte, Nat.reduceEqDiff, ne_eq, reduceCtorEq, fcT, f0, f1, f5, c0, e0], by simp (disch := omega) only [bsW, ↓reduceIte, Nat.reduceEqDiff, ne_eq, reduceCtorEq, fcT, f0, f1, f5, c0, e0], by simp (disch := omega) only [bsW, ↓reduceIte, Nat.reduceEqDiff, ne_eq, reduceCtorEq, fcT, f0, f1, f5, c0, e0, Int.natCast_add, Int.natCast_one], hs, by omega⟩
    · simp (disch := omega) only [bsW, WOp, WOq, WV, bo, eqN, gdc, gw, bnd, ↓reduceIte, Nat.reduceEqDiff, rsvs, rsv, oneOf, rdN, ne_eq, Nat.reduceAdd, Nat.reduceMul, Nat.reduceLT, reduceCtorEq, Value.cells, setN, Value.oneCell', Nat.reduceLeDiff, undef, fcT, f0, f1, f5, b1]
      exact Is_i hs
  · rintro fr H' nx' ⟨k, hm, _⟩; omega
  · exact ⟨0, by omega, by omega, by simp (disch := omega) only [bsW, ↓reduceIte, Nat.reduceEqDiff, ne_eq, reduceCtorEq, fcT], by simp (disch := omega) only [bsW, ↓reduceIte, Nat.reduceEqDiff, ne_eq, reduceCtorEq, fcT], by simp (disch := omega) only [bsW, ↓reduceIte, Nat.reduceEqDiff, ne_eq, reduceCtorEq, fcT, Int.natCast_zero], Sub.refl _, by omega⟩
theorem winner_no {n : Nat} {f : Nat → Nat → Int} {m : Nat} {g : Nat → Nat → Int} {start : Int} (h : rbL n f m g start = []) : vWinner n f m g start = .tuple #[.int .i64 0, .int .i64 0, .bool false] := by
  unfold vWinner
  rw [if_pos h]
theorem winner_yes {n : Nat} {f : Nat → Nat → Int} {m : Nat} {g : Nat → Nat → Int} {start : Int} (h : rbL n f m g start ≠ []) :
    vWinner n f m g start = .tuple #[.int .i64 ((rbL n f m g start).getLastD 0), .int .i64 (room n f m g start).2, .bool true] ∧ askB n f m g start = true ∧ rbL n f m g start = (room n f m g start).1 := by
  have ha : askB n f m g start = true := by
    cases h1 : askB n f m g start
    · exact absurd (by unfold rbL; rw [h1, if_neg (by simp)]) h
    · rfl
  refine ⟨by unfold vWinner; rw [if_neg h], ha, by unfold rbL; rw [if_pos ha]⟩
/-- The room's bidders: no two beside each other are alike, and as many bids are counted. -/
theorem room_facts {n : Nat} {f : Nat → Nat → Int} {m : Nat} {g : Nat → Nat → Int} {start : Int} (F : Nat) (hF : 20002 ≤ F) (h : rbL n f m g start ≠ []) :
    vCountBids F n f start (room n f m g start).2 = .tuple #[.int .i64 (rbL n f m g start).length, .bool true] := by
  obtain ⟨_, ha, hr⟩ := winner_yes h
  obtain ⟨hok, hab, h0, h1⟩ := askB_iff.1 ha
  obtain ⟨_, hI⟩ := room_inv hok hab h0
  rw [hr] at h
  obtain ⟨e1, e2⟩ := hI.last h
  have hlen := room_len n f m g start
  have hpos : 0 < (room n f m g start).1.length := by
    rcases Nat.eq_zero_or_pos (room n f m g start).1.length with e | e
    · exact absurd (List.eq_nil_of_length_eq_zero e) h
    · exact e
  have hge := bidAt_le hok ((room n f m g start).1.length - 1) h0
  have hc := countB_at hok ((room n f m g start).1.length - 1) (F - ((room n f m g start).1.length - 1) - 1) start h0
  rw [show F - ((room n f m g start).1.length - 1) - 1 + 1 + ((room n f m g start).1.length - 1) = F by omega, ← e1] at hc
  unfold vCountBids
  have s1 : inR start 0 20000 = true := inR_true.2 ⟨h0, h1⟩
  have s2 : inR (room n f m g start).2 0 20000 = true := inR_true.2 ⟨by omega, e2⟩
  have e : countB n f (room n f m g start).2 F start = ((rbL n f m g start).length : Int) := by
    rw [hc, hr]
    omega
  rw [stepsB_iff.2 hok, s1, s2, e]
  simp
theorem room_adj {n : Nat} {f : Nat → Nat → Int} {m : Nat} {g : Nat → Nat → Int} {start : Int} : adjD (rbL n f m g start) := by
  unfold rbL
  split
  · rename_i ha
    obtain ⟨hok, hab, h0, h1⟩ := askB_iff.1 ha
    obtain ⟨_, hI⟩ := room_inv hok hab h0
    exact hI.adj
  · intro i hi
    simp at hi
theorem adj_at {l : List Int} (h : adjD l) {i : Nat} (hi : i + 1 < l.length) : l.getD (i + 1) 0 ≠ l.getD i 0 := by
  have := h i hi
  rw [List.getElem?_eq_getElem hi, List.getElem?_eq_getElem (by omega)] at this
  rw [List.getD_eq_getElem?_getD, List.getD_eq_getElem?_getD, List.getElem?_eq_getElem hi, List.getElem?_eq_getElem (by omega)]
  simpa using this
theorem last_at {l : List Int} (h : l ≠ []) : l.getD (l.length - 1) 0 = l.getLastD 0 := by
  have := getLastD_at l 0 h
  rw [List.getD_eq_getElem?_getD, this]
  rfl
/-- With the told most he wins, with one less he does not. -/
theorem could_ex (n : Nat) (f : Nat → Nat → Int) (m : Nat) (g : Nat → Nat → Int) (start bidder : Int) : ∃ (x : Int) (t : Bool), vCould n f m g start bidder = .tuple #[.int .i64 x, .bool t] ∧
    (t = true → ∃ k, k < m ∧ g k 0 = bidder ∧ (∀ j, j < m → j ≠ k → g j 0 ≠ bidder) ∧ 0 ≤ x ∧ x ≤ 20000 ∧
      (∃ y : Int, vWinner n f m (set2 g k 1 x) start = .tuple #[.int .i64 bidder, .int .i64 y, .bool true]) ∧
      (0 < x → ∃ (w y : Int) (u : Bool), vWinner n f m (set2 g k 1 (x - 1)) start = .tuple #[.int .i64 w, .int .i64 y, .bool u] ∧ (u = true → w ≠ bidder))) := by
  unfold vCould
  split
  · rename_i h
    obtain ⟨ha, hi⟩ := h
    obtain ⟨hok, hab, h0, h1⟩ := askB_iff.1 ha
    obtain ⟨k, hk1, hk2, hk3⟩ : ∃ k : Nat, idxOf (fun j => g j 0 == bidder) m = (k : Int) ∧ k < m ∧ (g k 0 == bidder) = true := by
      rcases idxOf_cases (fun j => g j 0 == bidder) m with ⟨h1, _⟩ | ⟨k, h1, h2, h3, _⟩
      · omega
      · exact ⟨k, h1, h2, h3⟩
    have hgk : g k 0 = bidder := by simpa using hk3
    rw [hk1, Int.toNat_natCast]
    cases hcw : cwGo n f m g start k 101 start with
    | none => exact ⟨0, false, rfl, fun h => by cases h⟩
    | some x =>
      refine ⟨x, true, rfl, fun _ => ?_⟩
      obtain ⟨j, j1, j2, j3, j4⟩ := cwGo_some 101 start x hcw
      have hx0 : 0 ≤ x := by
        have := bidAt_le hok j h0
        omega
      have hask : ∀ y : Int, 0 ≤ y → y ≤ 20000 → askB n f m (set2 g k 1 y) start = true := fun y y0 y1 => askB_iff.2 ⟨hok, abss_set hab y0 y1, h0, h1⟩
      have hL : ∀ y : Int, 0 ≤ y → y ≤ 20000 → rbL n f m (set2 g k 1 y) start = (room n f m (set2 g k 1 y) start).1 := fun y y0 y1 => by unfold rbL; rw [if_pos (hask y y0 y1)]
      refine ⟨k, hk2, hgk, fun q hq hne e => ?_, hx0, j2, ?_, fun hp => ?_⟩
      · rcases Nat.lt_or_ge q k with h5 | h5
        · exact (hab.1 k hk2).2.2 q h5 (by rw [e, hgk])
        · exact (hab.1 q hq).2.2 k (by omega) (by rw [e, hgk])
      · simp only [winB, Bool.and_eq_true, Bool.not_eq_true', List.isEmpty_eq_false_iff, beq_iff_eq] at j3
        have hne : rbL n f m (set2 g k 1 x) start ≠ [] := by rw [hL x hx0 j2]; exact j3.1
        refine ⟨(room n f m (set2 g k 1 x) start).2, ?_⟩
        rw [(winner_yes hne).1, hL x hx0 j2, j3.2, hgk]
      · have hl := less_no hok hab h0 hk2 hcw hp
        by_cases hne : rbL n f m (set2 g k 1 (x - 1)) start = []
        · exact ⟨0, 0, false, winner_no hne, fun h => by cases h⟩
        · refine ⟨_, _, true, (winner_yes hne).1, fun _ e => ?_⟩
          rw [hL _ (by omega) (by omega)] at hne e
          rw [Bool.eq_false_iff] at hl
          refine hl ?_
          simp only [winB, Bool.and_eq_true, Bool.not_eq_true', List.isEmpty_eq_false_iff, beq_iff_eq]
          exact ⟨hne, by rw [e, hgk]⟩
  · exact ⟨0, false, rfl, fun h => by cases h⟩
end Go.Proofs.YtnjlleopgjggpaaDoor
