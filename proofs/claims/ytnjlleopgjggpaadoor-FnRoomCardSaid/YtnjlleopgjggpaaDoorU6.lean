/- What FnRoom draws. -/
import Derived.Test.YtnjlleopgjggpaaDoorU5
import Derived.Test.YtnjlleopgjggpaaDoorUR1
set_option linter.unusedVariables false
set_option linter.unusedSimpArgs false
set_option maxRecDepth 100000
set_option maxHeartbeats 4000000
namespace Go.Proofs.YtnjlleopgjggpaaDoor
open Go Go.RowKit Go.Proofs
theorem DrawAreSteps (A : Option Addr) (n c : Nat) (H : Hp) (nx : Nat) (hn : n ≤ 9223372036854775807) (hR : RdU H A n) :
    AC Tryd.prog 77 #[.slice A n c] H nx (fun v H' nx' => Sub H H' ∧ ∃ (A1 : Option Addr) (m1 c1 : Nat) (f : Nat → Nat → Int), v = .slice A1 m1 c1 ∧ m1 ≤ 20 ∧ m1 ≤ c1 ∧ Rd H' A1 m1 2 f) := by
  refine AC_of x_spec_DrawAreSteps rfl fun hB => ?_
  simp (disch := omega) only [bsW, WOp, WOq, WV, bo, eqN, gdc, gw, bnd, ↓reduceIte, Nat.reduceEqDiff, rsvs, rsv, oneOf, rdN, ne_eq, Nat.reduceAdd, Nat.reduceMul, Nat.reduceLT, reduceCtorEq, Value.cells, setN, Value.oneCell', Nat.reduceLeDiff, undef, fcT, c_spec_DrawAreSteps]
  (repeat' (first | ((with_reducible refine gif_split (fun hs_ => ?_) (fun hs_ => ?_)) <;> (have hp_ := hs_; (try simp only [hpL, ne_eq] at hp_); (try simp (disch := omega) only [bsW, WOp, WOq, WV, bo, eqN, gdc, gw, bnd, ↓reduceIte, Nat.reduceEqDiff, rsvs, rsv, oneOf, rdN, ne_eq, Nat.reduceAdd, Nat.reduceMul, Nat.reduceLT, reduceCtorEq, Value.cells, setN, Value.oneCell', Nat.reduceLeDiff, undef, fcT, hs_]))) | ((first | (with_reducible refine newB_i (fun nb_ hb_ => ?_)) | (with_reducible refine RgE_i (fun (hBd_ : Bd _ _) => ?_))); (try simp (disch := omega) only [bsW, WOp, WOq, WV, bo, eqN, gdc, gw, bnd, ↓reduceIte, Nat.reduceEqDiff, rsvs, rsv, oneOf, rdN, ne_eq, Nat.reduceAdd, Nat.reduceMul, Nat.reduceLT, reduceCtorEq, Value.cells, setN, Value.oneCell', Nat.reduceLeDiff, undef, fcT])) | (with_reducible refine fun (hBd_ : Bd _ _) => ?_) | ((first | (with_reducible refine @And.intro (Sub _ _) _ ?_ ?_) | ((with_reducible refine @And.intro (Sub _ _ ∧ _) _ ?_ ?_); (with_reducible refine @And.intro (Sub _ _) _ ?_ ?_))); exact sbX) | ((with_reducible refine And.intro ?_ ?_); omega)))
  have hbC := hb_
  generalize nb_ = bC at *
  refine (steps22 H nx bC 0 _ _ (Cur.start hB hbC hn hR) (by omega)).monoC ?_
  rintro v1 H1 nx1 hB1 hx1 ⟨⟨m1, f, hO1, hm1⟩, hC1, hoth1, hx1'⟩
  obtain ⟨A1, c1, rfl, hc1, _⟩ := hO1.rd
  (try (simp (disch := omega) only [bsW, WOp, WOq, WV, bo, eqN, gdc, gw, bnd, ↓reduceIte, Nat.reduceEqDiff, rsvs, rsv, oneOf, rdN, ne_eq, Nat.reduceAdd, Nat.reduceMul, Nat.reduceLT, reduceCtorEq, Value.cells, setN, Value.oneCell', Nat.reduceLeDiff, undef, fcT]))
  obtain ⟨A9, c9, e9, _, hRd⟩ := hO1.rd
  cases e9
  exact ⟨hC1.s, A1, m1, c1, f, rfl, hm1, hc1, hRd⟩
theorem DrawMergeSteps (A : Option Addr) (n c : Nat) (H : Hp) (nx : Nat) (hn : n ≤ 9223372036854775807) (hR : RdU H A n) :
    AC Tryd.prog 17 #[.slice A n c] H nx (fun v H' nx' => Sub H H' ∧ ∃ (A1 : Option Addr) (m1 c1 : Nat) (f : Nat → Nat → Int), v = .slice A1 m1 c1 ∧ m1 ≤ 20 ∧ m1 ≤ c1 ∧ Rd H' A1 m1 2 f) := by
  refine AC_of x_spec_DrawMergeSteps rfl fun hB => ?_
  simp (disch := omega) only [bsW, WOp, WOq, WV, bo, eqN, gdc, gw, bnd, ↓reduceIte, Nat.reduceEqDiff, rsvs, rsv, oneOf, rdN, ne_eq, Nat.reduceAdd, Nat.reduceMul, Nat.reduceLT, reduceCtorEq, Value.cells, setN, Value.oneCell', Nat.reduceLeDiff, undef, fcT, c_spec_DrawMergeSteps]
  refine (DrawAreSteps A n c H nx hn hR).monoC ?_
  rintro v1 H1 nx1 hB1 hx1 ⟨hs, A1, m1, c1, f, rfl, h1, h2, h3⟩
  (try (simp (disch := omega) only [bsW, WOp, WOq, WV, bo, eqN, gdc, gw, bnd, ↓reduceIte, Nat.reduceEqDiff, rsvs, rsv, oneOf, rdN, ne_eq, Nat.reduceAdd, Nat.reduceMul, Nat.reduceLT, reduceCtorEq, Value.cells, setN, Value.oneCell', Nat.reduceLeDiff, undef, fcT]))
  exact ⟨hs, A1, m1, c1, f, rfl, h1, h2, h3⟩
theorem DrawRoomWinner (A : Option Addr) (n c : Nat) (H : Hp) (nx : Nat) (hn : n ≤ 9223372036854775807) (hR : RdU H A n) :
    AC Tryd.prog 7 #[.slice A n c] H nx (fun v H' nx' => Sub H H' ∧ ∃ (A1 : Option Addr) (m1 c1 : Nat) (f : Nat → Nat → Int) (A2 : Option Addr) (m2 c2 : Nat) (g : Nat → Nat → Int) (s : Int), v = .tuple #[.slice A1 m1 c1, .slice A2 m2 c2, .int .i64 s] ∧ m1 ≤ 20 ∧ m1 ≤ c1 ∧ Rd H' A1 m1 2 f ∧ m2 ≤ 13 ∧ m2 ≤ c2 ∧ Rd H' A2 m2 2 g) := by
  refine AC_of x_spec_DrawRoomWinner rfl fun hB => ?_
  simp (disch := omega) only [bsW, WOp, WOq, WV, bo, eqN, gdc, gw, bnd, ↓reduceIte, Nat.reduceEqDiff, rsvs, rsv, oneOf, rdN, ne_eq, Nat.reduceAdd, Nat.reduceMul, Nat.reduceLT, reduceCtorEq, Value.cells, setN, Value.oneCell', Nat.reduceLeDiff, undef, fcT, c_spec_DrawRoomWinner]
  (repeat' (first | ((with_reducible refine gif_split (fun hs_ => ?_) (fun hs_ => ?_)) <;> (have hp_ := hs_; (try simp only [hpL, ne_eq] at hp_); (try simp (disch := omega) only [bsW, WOp, WOq, WV, bo, eqN, gdc, gw, bnd, ↓reduceIte, Nat.reduceEqDiff, rsvs, rsv, oneOf, rdN, ne_eq, Nat.reduceAdd, Nat.reduceMul, Nat.reduceLT, reduceCtorEq, Value.cells, setN, Value.oneCell', Nat.reduceLeDiff, undef, fcT, hs_]))) | ((first | (with_reducible refine newB_i (fun nb_ hb_ => ?_)) | (with_reducible refine RgE_i (fun (hBd_ : Bd _ _) => ?_))); (try simp (disch := omega) only [bsW, WOp, WOq, WV, bo, eqN, gdc, gw, bnd, ↓reduceIte, Nat.reduceEqDiff, rsvs, rsv, oneOf, rdN, ne_eq, Nat.reduceAdd, Nat.reduceMul, Nat.reduceLT, reduceCtorEq, Value.cells, setN, Value.oneCell', Nat.reduceLeDiff, undef, fcT])) | (with_reducible refine fun (hBd_ : Bd _ _) => ?_) | ((first | (with_reducible refine @And.intro (Sub _ _) _ ?_ ?_) | ((with_reducible refine @And.intro (Sub _ _ ∧ _) _ ?_ ?_); (with_reducible refine @And.intro (Sub _ _) _ ?_ ?_))); exact sbX) | ((with_reducible refine And.intro ?_ ?_); omega)))
  have hbC := hb_
  generalize nb_ = bC at *
  refine (steps22 H nx bC 0 _ _ (Cur.start hB hbC hn hR) (by omega)).monoC ?_
  rintro v1 H1 nx1 hB1 hx1 ⟨⟨m1, f, hO1, hm1⟩, hC1, hoth1, hx1'⟩
  obtain ⟨A1, c1, rfl, hc1, _⟩ := hO1.rd
  (try (simp (disch := omega) only [bsW, WOp, WOq, WV, bo, eqN, gdc, gw, bnd, ↓reduceIte, Nat.reduceEqDiff, rsvs, rsv, oneOf, rdN, ne_eq, Nat.reduceAdd, Nat.reduceMul, Nat.reduceLT, reduceCtorEq, Value.cells, setN, Value.oneCell', Nat.reduceLeDiff, undef, fcT]))
  refine (absentees22 H nx bC _ _ _ hC1 (by omega)).monoC ?_
  rintro v2 H2 nx2 hB2 hx2 ⟨⟨m2, g, hO2, hm2⟩, hC2, hoth2, hx2'⟩
  obtain ⟨A2, c2, rfl, hc2, _⟩ := hO2.rd
  have hO12 : OwnR H2 (bC + 1) nx1 m1 2 f 95 (.slice A1 m1 c1) := hO1.keep (fun q hq => by have := hO1.blk hq; exact hoth2 q (by omega) (by omega)) (Nat.le_refl _)
  (try (simp (disch := omega) only [bsW, WOp, WOq, WV, bo, eqN, gdc, gw, bnd, ↓reduceIte, Nat.reduceEqDiff, rsvs, rsv, oneOf, rdN, ne_eq, Nat.reduceAdd, Nat.reduceMul, Nat.reduceLT, reduceCtorEq, Value.cells, setN, Value.oneCell', Nat.reduceLeDiff, undef, fcT]))
  (repeat' (first | ((with_reducible refine gif_split (fun hs_ => ?_) (fun hs_ => ?_)) <;> (have hp_ := hs_; (try simp only [hpL, ne_eq] at hp_); (try simp (disch := omega) only [bsW, WOp, WOq, WV, bo, eqN, gdc, gw, bnd, ↓reduceIte, Nat.reduceEqDiff, rsvs, rsv, oneOf, rdN, ne_eq, Nat.reduceAdd, Nat.reduceMul, Nat.reduceLT, reduceCtorEq, Value.cells, setN, Value.oneCell', Nat.reduceLeDiff, undef, fcT, hs_]))) | ((first | (with_reducible refine newB_i (fun nb_ hb_ => ?_)) | (with_reducible refine RgE_i (fun (hBd_ : Bd _ _) => ?_))); (try simp (disch := omega) only [bsW, WOp, WOq, WV, bo, eqN, gdc, gw, bnd, ↓reduceIte, Nat.reduceEqDiff, rsvs, rsv, oneOf, rdN, ne_eq, Nat.reduceAdd, Nat.reduceMul, Nat.reduceLT, reduceCtorEq, Value.cells, setN, Value.oneCell', Nat.reduceLeDiff, undef, fcT])) | (with_reducible refine fun (hBd_ : Bd _ _) => ?_) | ((first | (with_reducible refine @And.intro (Sub _ _) _ ?_ ?_) | ((with_reducible refine @And.intro (Sub _ _ ∧ _) _ ?_ ?_); (with_reducible refine @And.intro (Sub _ _) _ ?_ ?_))); exact sbX) | ((with_reducible refine And.intro ?_ ?_); omega)))
  have hbL := hb_
  generalize nb_ = bL at *
  refine (pick1 H nx bC _ 24 _ _ (Cur.new (b := bL) hC2 (by omega) (by omega)) (by omega) (by omega)).monoC ?_
  rintro v6 H6 nx6 hB6 hx6 ⟨⟨x, rfl, hx2, hx3⟩, hC6, hoth6, rfl⟩
  rw [if_neg (by omega)] at hx3
  have q1 := Int.tdiv_nonneg hx2 (show (0:Int) ≤ 11 by omega)
  have q2 : x.tdiv 11 ≤ 2 := by rw [Int.tdiv_eq_ediv_of_nonneg hx2]; omega
  (try (simp (disch := omega) only [bsW, WOp, WOq, WV, bo, eqN, gdc, gw, bnd, ↓reduceIte, Nat.reduceEqDiff, rsvs, rsv, oneOf, rdN, ne_eq, Nat.reduceAdd, Nat.reduceMul, Nat.reduceLT, reduceCtorEq, Value.cells, setN, Value.oneCell', Nat.reduceLeDiff, undef, fcT]))
  (repeat' (first | ((with_reducible refine gif_split (fun hs_ => ?_) (fun hs_ => ?_)) <;> (have hp_ := hs_; (try simp only [hpL, ne_eq] at hp_); (try simp (disch := omega) only [bsW, WOp, WOq, WV, bo, eqN, gdc, gw, bnd, ↓reduceIte, Nat.reduceEqDiff, rsvs, rsv, oneOf, rdN, ne_eq, Nat.reduceAdd, Nat.reduceMul, Nat.reduceLT, reduceCtorEq, Value.cells, setN, Value.oneCell', Nat.reduceLeDiff, undef, fcT, hs_]))) | ((first | (with_reducible refine newB_i (fun nb_ hb_ => ?_)) | (with_reducible refine RgE_i (fun (hBd_ : Bd _ _) => ?_))); (try simp (disch := omega) only [bsW, WOp, WOq, WV, bo, eqN, gdc, gw, bnd, ↓reduceIte, Nat.reduceEqDiff, rsvs, rsv, oneOf, rdN, ne_eq, Nat.reduceAdd, Nat.reduceMul, Nat.reduceLT, reduceCtorEq, Value.cells, setN, Value.oneCell', Nat.reduceLeDiff, undef, fcT])) | (with_reducible refine fun (hBd_ : Bd _ _) => ?_) | ((first | (with_reducible refine @And.intro (Sub _ _) _ ?_ ?_) | ((with_reducible refine @And.intro (Sub _ _ ∧ _) _ ?_ ?_); (with_reducible refine @And.intro (Sub _ _) _ ?_ ?_))); exact sbX) | ((with_reducible refine And.intro ?_ ?_); omega)))
  all_goals try (exfalso; omega)
  refine (amongL H nx bC _ (-1) 20001 bL _ _ _ 3 _ _ hC6 (by omega) (by rw [hoth6 _ (by omega)]; exact upd_same _ _ _) (by omega) (by omega) (by simp; omega) (by simp) (by decide)).monoC ?_
  rintro v7 H7 nx7 hB7 hx7 ⟨⟨s, rfl, _, _⟩, hC7, hoth7, rfl⟩
  (try (simp (disch := omega) only [bsW, WOp, WOq, WV, bo, eqN, gdc, gw, bnd, ↓reduceIte, Nat.reduceEqDiff, rsvs, rsv, oneOf, rdN, ne_eq, Nat.reduceAdd, Nat.reduceMul, Nat.reduceLT, reduceCtorEq, Value.cells, setN, Value.oneCell', Nat.reduceLeDiff, undef, fcT]))
  have r1 : OwnR H7 (bC + 1) _ m1 2 f 95 (.slice A1 m1 c1) := hO12.keep (fun q hq => by have := hO12.blk hq; rw [hoth7 q (by omega), hoth6 q (by omega), upd_ne (by omega)]) (Nat.le_refl _)
  have r2 : OwnR H7 _ _ m2 2 g 40 _ := hO2.keep (fun q hq => by have := hO2.blk hq; rw [hoth7 q (by omega), hoth6 q (by omega), upd_ne (by omega)]) (Nat.le_refl _)
  obtain ⟨A9, c9, e9, _, hRd1⟩ := r1.rd
  cases e9
  obtain ⟨A9, c9, e9, _, hRd2⟩ := r2.rd
  cases e9
  exact ⟨hC7.s, A1, m1, c1, f, _, m2, c2, g, s, rfl, hm1, hc1, hRd1, hm2, hc2, hRd2⟩
theorem DrawCouldWin (A : Option Addr) (n c : Nat) (H : Hp) (nx : Nat) (hn : n ≤ 9223372036854775807) (hR : RdU H A n) :
    AC Tryd.prog 14 #[.slice A n c] H nx (fun v H' nx' => Sub H H' ∧ ∃ (A1 : Option Addr) (m1 c1 : Nat) (f : Nat → Nat → Int) (A2 : Option Addr) (m2 c2 : Nat) (g : Nat → Nat → Int) (s b : Int), v = .tuple #[.slice A1 m1 c1, .slice A2 m2 c2, .int .i64 s, .int .i64 b] ∧ m1 ≤ 20 ∧ m1 ≤ c1 ∧ Rd H' A1 m1 2 f ∧ m2 ≤ 13 ∧ m2 ≤ c2 ∧ Rd H' A2 m2 2 g) := by
  refine AC_of x_spec_DrawCouldWin rfl fun hB => ?_
  simp (disch := omega) only [bsW, WOp, WOq, WV, bo, eqN, gdc, gw, bnd, ↓reduceIte, Nat.reduceEqDiff, rsvs, rsv, oneOf, rdN, ne_eq, Nat.reduceAdd, Nat.reduceMul, Nat.reduceLT, reduceCtorEq, Value.cells, setN, Value.oneCell', Nat.reduceLeDiff, undef, fcT, c_spec_DrawCouldWin]
  (repeat' (first | ((with_reducible refine gif_split (fun hs_ => ?_) (fun hs_ => ?_)) <;> (have hp_ := hs_; (try simp only [hpL, ne_eq] at hp_); (try simp (disch := omega) only [bsW, WOp, WOq, WV, bo, eqN, gdc, gw, bnd, ↓reduceIte, Nat.reduceEqDiff, rsvs, rsv, oneOf, rdN, ne_eq, Nat.reduceAdd, Nat.reduceMul, Nat.reduceLT, reduceCtorEq, Value.cells, setN, Value.oneCell', Nat.reduceLeDiff, undef, fcT, hs_]))) | ((first | (with_reducible refine newB_i (fun nb_ hb_ => ?_)) | (with_reducible refine RgE_i (fun (hBd_ : Bd _ _) => ?_))); (try simp (disch := omega) only [bsW, WOp, WOq, WV, bo, eqN, gdc, gw, bnd, ↓reduceIte, Nat.reduceEqDiff, rsvs, rsv, oneOf, rdN, ne_eq, Nat.reduceAdd, Nat.reduceMul, Nat.reduceLT, reduceCtorEq, Value.cells, setN, Value.oneCell', Nat.reduceLeDiff, undef, fcT])) | (with_reducible refine fun (hBd_ : Bd _ _) => ?_) | ((first | (with_reducible refine @And.intro (Sub _ _) _ ?_ ?_) | ((with_reducible refine @And.intro (Sub _ _ ∧ _) _ ?_ ?_); (with_reducible refine @And.intro (Sub _ _) _ ?_ ?_))); exact sbX) | ((with_reducible refine And.intro ?_ ?_); omega)))
  have hbC := hb_
  generalize nb_ = bC at *
  refine (steps22 H nx bC 0 _ _ (Cur.start hB hbC hn hR) (by omega)).monoC ?_
  rintro v1 H1 nx1 hB1 hx1 ⟨⟨m1, f, hO1, hm1⟩, hC1, hoth1, hx1'⟩
  obtain ⟨A1, c1, rfl, hc1, _⟩ := hO1.rd
  (try (simp (disch := omega) only [bsW, WOp, WOq, WV, bo, eqN, gdc, gw, bnd, ↓reduceIte, Nat.reduceEqDiff, rsvs, rsv, oneOf, rdN, ne_eq, Nat.reduceAdd, Nat.reduceMul, Nat.reduceLT, reduceCtorEq, Value.cells, setN, Value.oneCell', Nat.reduceLeDiff, undef, fcT]))
  refine (absentees22 H nx bC _ _ _ hC1 (by omega)).monoC ?_
  rintro v2 H2 nx2 hB2 hx2 ⟨⟨m2, g, hO2, hm2⟩, hC2, hoth2, hx2'⟩
  obtain ⟨A2, c2, rfl, hc2, _⟩ := hO2.rd
  have hO12 : OwnR H2 (bC + 1) nx1 m1 2 f 95 (.slice A1 m1 c1) := hO1.keep (fun q hq => by have := hO1.blk hq; exact hoth2 q (by omega) (by omega)) (Nat.le_refl _)
  (try (simp (disch := omega) only [bsW, WOp, WOq, WV, bo, eqN, gdc, gw, bnd, ↓reduceIte, Nat.reduceEqDiff, rsvs, rsv, oneOf, rdN, ne_eq, Nat.reduceAdd, Nat.reduceMul, Nat.reduceLT, reduceCtorEq, Value.cells, setN, Value.oneCell', Nat.reduceLeDiff, undef, fcT]))
  (repeat' (first | ((with_reducible refine gif_split (fun hs_ => ?_) (fun hs_ => ?_)) <;> (have hp_ := hs_; (try simp only [hpL, ne_eq] at hp_); (try simp (disch := omega) only [bsW, WOp, WOq, WV, bo, eqN, gdc, gw, bnd, ↓reduceIte, Nat.reduceEqDiff, rsvs, rsv, oneOf, rdN, ne_eq, Nat.reduceAdd, Nat.reduceMul, Nat.reduceLT, reduceCtorEq, Value.cells, setN, Value.oneCell', Nat.reduceLeDiff, undef, fcT, hs_]))) | ((first | (with_reducible refine newB_i (fun nb_ hb_ => ?_)) | (with_reducible refine RgE_i (fun (hBd_ : Bd _ _) => ?_))); (try simp (disch := omega) only [bsW, WOp, WOq, WV, bo, eqN, gdc, gw, bnd, ↓reduceIte, Nat.reduceEqDiff, rsvs, rsv, oneOf, rdN, ne_eq, Nat.reduceAdd, Nat.reduceMul, Nat.reduceLT, reduceCtorEq, Value.cells, setN, Value.oneCell', Nat.reduceLeDiff, undef, fcT])) | (with_reducible refine fun (hBd_ : Bd _ _) => ?_) | ((first | (with_reducible refine @And.intro (Sub _ _) _ ?_ ?_) | ((with_reducible refine @And.intro (Sub _ _ ∧ _) _ ?_ ?_); (with_reducible refine @And.intro (Sub _ _) _ ?_ ?_))); exact sbX) | ((with_reducible refine And.intro ?_ ?_); omega)))
  refine (amongL H nx bC _ 0 50 nb_ _ _ _ 3 _ _ (hC2.new (by omega) (by omega)) (by omega) (upd_same _ _ _) (by omega) (by omega) (by simp) (by simp) (by decide)).monoC ?_
  rintro v3 H3 nx3 hB3 hx3 ⟨⟨b, rfl, _, _⟩, hC3, hoth3, rfl⟩
  have hO13 : OwnR H3 (bC + 1) _ m1 2 f 95 (.slice A1 m1 c1) := hO12.keep (fun q hq => by have := hO12.blk hq; rw [hoth3 q (by omega), upd_ne (by omega)]) (Nat.le_refl _)
  have hO23 : OwnR H3 _ _ m2 2 g 40 (.slice A2 m2 c2) := hO2.keep (fun q hq => by have := hO2.blk hq; rw [hoth3 q (by omega), upd_ne (by omega)]) (Nat.le_refl _)
  by_cases h0 : 0 < m2
  · have d0 : decide ((0 : Int) < (m2 : Int)) = true := decide_eq_true (by omega)
    (try (simp (disch := omega) only [bsW, WOp, WOq, WV, bo, eqN, gdc, gw, bnd, ↓reduceIte, Nat.reduceEqDiff, rsvs, rsv, oneOf, rdN, ne_eq, Nat.reduceAdd, Nat.reduceMul, Nat.reduceLT, reduceCtorEq, Value.cells, setN, Value.oneCell', Nat.reduceLeDiff, undef, fcT, d0]))
    (repeat' (first | ((with_reducible refine gif_split (fun hs_ => ?_) (fun hs_ => ?_)) <;> (have hp_ := hs_; (try simp only [hpL, ne_eq] at hp_); (try simp (disch := omega) only [bsW, WOp, WOq, WV, bo, eqN, gdc, gw, bnd, ↓reduceIte, Nat.reduceEqDiff, rsvs, rsv, oneOf, rdN, ne_eq, Nat.reduceAdd, Nat.reduceMul, Nat.reduceLT, reduceCtorEq, Value.cells, setN, Value.oneCell', Nat.reduceLeDiff, undef, fcT, d0, hs_]))) | ((first | (with_reducible refine newB_i (fun nb_ hb_ => ?_)) | (with_reducible refine RgE_i (fun (hBd_ : Bd _ _) => ?_))); (try simp (disch := omega) only [bsW, WOp, WOq, WV, bo, eqN, gdc, gw, bnd, ↓reduceIte, Nat.reduceEqDiff, rsvs, rsv, oneOf, rdN, ne_eq, Nat.reduceAdd, Nat.reduceMul, Nat.reduceLT, reduceCtorEq, Value.cells, setN, Value.oneCell', Nat.reduceLeDiff, undef, fcT, d0])) | (with_reducible refine fun (hBd_ : Bd _ _) => ?_) | ((first | (with_reducible refine @And.intro (Sub _ _) _ ?_ ?_) | ((with_reducible refine @And.intro (Sub _ _ ∧ _) _ ?_ ?_); (with_reducible refine @And.intro (Sub _ _) _ ?_ ?_))); exact sbX) | ((with_reducible refine And.intro ?_ ?_); omega)))
    refine (one1 H nx bC _ 8 _ _ hC3 (by omega) (by omega)).monoC ?_
    rintro v4 H4 nx4 hB4 hx4 ⟨⟨t, rfl⟩, hC4, hoth4, rfl⟩
    have hO14 : OwnR H4 (bC + 1) _ m1 2 f 95 (.slice A1 m1 c1) := hO13.keep (fun q hq => by have := hO13.blk hq; rw [hoth4 q (by omega)]) (Nat.le_refl _)
    have hO24 : OwnR H4 _ _ m2 2 g 40 (.slice A2 m2 c2) := hO23.keep (fun q hq => by have := hO23.blk hq; rw [hoth4 q (by omega)]) (Nat.le_refl _)
    cases t
    · (try (simp (disch := omega) only [bsW, WOp, WOq, WV, bo, eqN, gdc, gw, bnd, ↓reduceIte, Nat.reduceEqDiff, rsvs, rsv, oneOf, rdN, ne_eq, Nat.reduceAdd, Nat.reduceMul, Nat.reduceLT, reduceCtorEq, Value.cells, setN, Value.oneCell', Nat.reduceLeDiff, undef, fcT, d0]))
      (repeat' (first | ((with_reducible refine gif_split (fun hs_ => ?_) (fun hs_ => ?_)) <;> (have hp_ := hs_; (try simp only [hpL, ne_eq] at hp_); (try simp (disch := omega) only [bsW, WOp, WOq, WV, bo, eqN, gdc, gw, bnd, ↓reduceIte, Nat.reduceEqDiff, rsvs, rsv, oneOf, rdN, ne_eq, Nat.reduceAdd, Nat.reduceMul, Nat.reduceLT, reduceCtorEq, Value.cells, setN, Value.oneCell', Nat.reduceLeDiff, undef, fcT, d0, hs_]))) | ((first | (with_reducible refine newB_i (fun nb_ hb_ => ?_)) | (with_reducible refine RgE_i (fun (hBd_ : Bd _ _) => ?_))); (try simp (disch := omega) only [bsW, WOp, WOq, WV, bo, eqN, gdc, gw, bnd, ↓reduceIte, Nat.reduceEqDiff, rsvs, rsv, oneOf, rdN, ne_eq, Nat.reduceAdd, Nat.reduceMul, Nat.reduceLT, reduceCtorEq, Value.cells, setN, Value.oneCell', Nat.reduceLeDiff, undef, fcT, d0])) | (with_reducible refine fun (hBd_ : Bd _ _) => ?_) | ((first | (with_reducible refine @And.intro (Sub _ _) _ ?_ ?_) | ((with_reducible refine @And.intro (Sub _ _ ∧ _) _ ?_ ?_); (with_reducible refine @And.intro (Sub _ _) _ ?_ ?_))); exact sbX) | ((with_reducible refine And.intro ?_ ?_); omega)))
      refine (pick1 H nx bC _ m2 _ _ hC4 (by omega) (by omega)).monoC ?_
      rintro v5 H5 nx5 hB5 hx5 ⟨⟨y, rfl, hy1, hy2⟩, hC5, hoth5, rfl⟩
      have hyn : y < m2 := by split at hy2 <;> omega
      obtain ⟨k, rfl⟩ : ∃ k : Nat, y = (k : Int) := ⟨y.toNat, by omega⟩
      have hkl : k < m2 := by omega
      have hO15 : OwnR H5 (bC + 1) _ m1 2 f 95 (.slice A1 m1 c1) := hO14.keep (fun q hq => by have := hO14.blk hq; rw [hoth5 q (by omega)]) (Nat.le_refl _)
      have hO25 : OwnR H5 _ _ m2 2 g 40 (.slice A2 m2 c2) := hO24.keep (fun q hq => by have := hO24.blk hq; rw [hoth5 q (by omega)]) (Nat.le_refl _)
      obtain ⟨A9, c9, e9, _, hR5⟩ := hO25.rd
      cases e9
      obtain ⟨bq, oq, rfl, hc⟩ := hR5.at_ (by omega)
      have c0 := hc k 0 hkl (by omega)
      simp only [Nat.add_zero] at c0
      (try (simp (disch := omega) only [bsW, WOp, WOq, WV, bo, eqN, gdc, gw, bnd, ↓reduceIte, Nat.reduceEqDiff, rsvs, rsv, oneOf, rdN, ne_eq, Nat.reduceAdd, Nat.reduceMul, Nat.reduceLT, reduceCtorEq, Value.cells, setN, Value.oneCell', Nat.reduceLeDiff, undef, fcT, c0]))
      (repeat' (first | ((with_reducible refine gif_split (fun hs_ => ?_) (fun hs_ => ?_)) <;> (have hp_ := hs_; (try simp only [hpL, ne_eq] at hp_); (try simp (disch := omega) only [bsW, WOp, WOq, WV, bo, eqN, gdc, gw, bnd, ↓reduceIte, Nat.reduceEqDiff, rsvs, rsv, oneOf, rdN, ne_eq, Nat.reduceAdd, Nat.reduceMul, Nat.reduceLT, reduceCtorEq, Value.cells, setN, Value.oneCell', Nat.reduceLeDiff, undef, fcT, c0, hs_]))) | ((first | (with_reducible refine newB_i (fun nb_ hb_ => ?_)) | (with_reducible refine RgE_i (fun (hBd_ : Bd _ _) => ?_))); (try simp (disch := omega) only [bsW, WOp, WOq, WV, bo, eqN, gdc, gw, bnd, ↓reduceIte, Nat.reduceEqDiff, rsvs, rsv, oneOf, rdN, ne_eq, Nat.reduceAdd, Nat.reduceMul, Nat.reduceLT, reduceCtorEq, Value.cells, setN, Value.oneCell', Nat.reduceLeDiff, undef, fcT, c0])) | (with_reducible refine fun (hBd_ : Bd _ _) => ?_) | ((first | (with_reducible refine @And.intro (Sub _ _) _ ?_ ?_) | ((with_reducible refine @And.intro (Sub _ _ ∧ _) _ ?_ ?_); (with_reducible refine @And.intro (Sub _ _) _ ?_ ?_))); exact sbX) | ((with_reducible refine And.intro ?_ ?_); omega)))
      have hbL := hb_
      generalize nb_ = bL at *
      refine (pick1 H nx bC _ 24 _ _ (Cur.new (b := bL) hC5 (by omega) (by omega)) (by omega) (by omega)).monoC ?_
      rintro v6 H6 nx6 hB6 hx6 ⟨⟨x, rfl, hx2, hx3⟩, hC6, hoth6, rfl⟩
      rw [if_neg (by omega)] at hx3
      have q1 := Int.tdiv_nonneg hx2 (show (0:Int) ≤ 11 by omega)
      have q2 : x.tdiv 11 ≤ 2 := by rw [Int.tdiv_eq_ediv_of_nonneg hx2]; omega
      (try (simp (disch := omega) only [bsW, WOp, WOq, WV, bo, eqN, gdc, gw, bnd, ↓reduceIte, Nat.reduceEqDiff, rsvs, rsv, oneOf, rdN, ne_eq, Nat.reduceAdd, Nat.reduceMul, Nat.reduceLT, reduceCtorEq, Value.cells, setN, Value.oneCell', Nat.reduceLeDiff, undef, fcT]))
      (repeat' (first | ((with_reducible refine gif_split (fun hs_ => ?_) (fun hs_ => ?_)) <;> (have hp_ := hs_; (try simp only [hpL, ne_eq] at hp_); (try simp (disch := omega) only [bsW, WOp, WOq, WV, bo, eqN, gdc, gw, bnd, ↓reduceIte, Nat.reduceEqDiff, rsvs, rsv, oneOf, rdN, ne_eq, Nat.reduceAdd, Nat.reduceMul, Nat.reduceLT, reduceCtorEq, Value.cells, setN, Value.oneCell', Nat.reduceLeDiff, undef, fcT, hs_]))) | ((first | (with_reducible refine newB_i (fun nb_ hb_ => ?_)) | (with_reducible refine RgE_i (fun (hBd_ : Bd _ _) => ?_))); (try simp (disch := omega) only [bsW, WOp, WOq, WV, bo, eqN, gdc, gw, bnd, ↓reduceIte, Nat.reduceEqDiff, rsvs, rsv, oneOf, rdN, ne_eq, Nat.reduceAdd, Nat.reduceMul, Nat.reduceLT, reduceCtorEq, Value.cells, setN, Value.oneCell', Nat.reduceLeDiff, undef, fcT])) | (with_reducible refine fun (hBd_ : Bd _ _) => ?_) | ((first | (with_reducible refine @And.intro (Sub _ _) _ ?_ ?_) | ((with_reducible refine @And.intro (Sub _ _ ∧ _) _ ?_ ?_); (with_reducible refine @And.intro (Sub _ _) _ ?_ ?_))); exact sbX) | ((with_reducible refine And.intro ?_ ?_); omega)))
      all_goals try (exfalso; omega)
      refine (amongL H nx bC _ (-1) 20001 bL _ _ _ 3 _ _ hC6 (by omega) (by rw [hoth6 _ (by omega)]; exact upd_same _ _ _) (by omega) (by omega) (by simp; omega) (by simp) (by decide)).monoC ?_
      rintro v7 H7 nx7 hB7 hx7 ⟨⟨s, rfl, _, _⟩, hC7, hoth7, rfl⟩
      (try (simp (disch := omega) only [bsW, WOp, WOq, WV, bo, eqN, gdc, gw, bnd, ↓reduceIte, Nat.reduceEqDiff, rsvs, rsv, oneOf, rdN, ne_eq, Nat.reduceAdd, Nat.reduceMul, Nat.reduceLT, reduceCtorEq, Value.cells, setN, Value.oneCell', Nat.reduceLeDiff, undef, fcT]))
      have r1 : OwnR H7 (bC + 1) _ m1 2 f 95 (.slice A1 m1 c1) := hO15.keep (fun q hq => by have := hO15.blk hq; rw [hoth7 q (by omega), hoth6 q (by omega), upd_ne (by omega)]) (Nat.le_refl _)
      have r2 : OwnR H7 _ _ m2 2 g 40 _ := hO25.keep (fun q hq => by have := hO25.blk hq; rw [hoth7 q (by omega), hoth6 q (by omega), upd_ne (by omega)]) (Nat.le_refl _)
      obtain ⟨A9, c9, e9, _, hRd1⟩ := r1.rd
      cases e9
      obtain ⟨A9, c9, e9, _, hRd2⟩ := r2.rd
      cases e9
      exact ⟨hC7.s, A1, m1, c1, f, _, m2, c2, g, s, (g k 0), rfl, hm1, hc1, hRd1, hm2, hc2, hRd2⟩
    · (try (simp (disch := omega) only [bsW, WOp, WOq, WV, bo, eqN, gdc, gw, bnd, ↓reduceIte, Nat.reduceEqDiff, rsvs, rsv, oneOf, rdN, ne_eq, Nat.reduceAdd, Nat.reduceMul, Nat.reduceLT, reduceCtorEq, Value.cells, setN, Value.oneCell', Nat.reduceLeDiff, undef, fcT, d0]))
      (repeat' (first | ((with_reducible refine gif_split (fun hs_ => ?_) (fun hs_ => ?_)) <;> (have hp_ := hs_; (try simp only [hpL, ne_eq] at hp_); (try simp (disch := omega) only [bsW, WOp, WOq, WV, bo, eqN, gdc, gw, bnd, ↓reduceIte, Nat.reduceEqDiff, rsvs, rsv, oneOf, rdN, ne_eq, Nat.reduceAdd, Nat.reduceMul, Nat.reduceLT, reduceCtorEq, Value.cells, setN, Value.oneCell', Nat.reduceLeDiff, undef, fcT, d0, hs_]))) | ((first | (with_reducible refine newB_i (fun nb_ hb_ => ?_)) | (with_reducible refine RgE_i (fun (hBd_ : Bd _ _) => ?_))); (try simp (disch := omega) only [bsW, WOp, WOq, WV, bo, eqN, gdc, gw, bnd, ↓reduceIte, Nat.reduceEqDiff, rsvs, rsv, oneOf, rdN, ne_eq, Nat.reduceAdd, Nat.reduceMul, Nat.reduceLT, reduceCtorEq, Value.cells, setN, Value.oneCell', Nat.reduceLeDiff, undef, fcT, d0])) | (with_reducible refine fun (hBd_ : Bd _ _) => ?_) | ((first | (with_reducible refine @And.intro (Sub _ _) _ ?_ ?_) | ((with_reducible refine @And.intro (Sub _ _ ∧ _) _ ?_ ?_); (with_reducible refine @And.intro (Sub _ _) _ ?_ ?_))); exact sbX) | ((with_reducible refine And.intro ?_ ?_); omega)))
      have hbL := hb_
      generalize nb_ = bL at *
      refine (pick1 H nx bC _ 24 _ _ (Cur.new (b := bL) hC4 (by omega) (by omega)) (by omega) (by omega)).monoC ?_
      rintro v6 H6 nx6 hB6 hx6 ⟨⟨x, rfl, hx2, hx3⟩, hC6, hoth6, rfl⟩
      rw [if_neg (by omega)] at hx3
      have q1 := Int.tdiv_nonneg hx2 (show (0:Int) ≤ 11 by omega)
      have q2 : x.tdiv 11 ≤ 2 := by rw [Int.tdiv_eq_ediv_of_nonneg hx2]; omega
      (try (simp (disch := omega) only [bsW, WOp, WOq, WV, bo, eqN, gdc, gw, bnd, ↓reduceIte, Nat.reduceEqDiff, rsvs, rsv, oneOf, rdN, ne_eq, Nat.reduceAdd, Nat.reduceMul, Nat.reduceLT, reduceCtorEq, Value.cells, setN, Value.oneCell', Nat.reduceLeDiff, undef, fcT]))
      (repeat' (first | ((with_reducible refine gif_split (fun hs_ => ?_) (fun hs_ => ?_)) <;> (have hp_ := hs_; (try simp only [hpL, ne_eq] at hp_); (try simp (disch := omega) only [bsW, WOp, WOq, WV, bo, eqN, gdc, gw, bnd, ↓reduceIte, Nat.reduceEqDiff, rsvs, rsv, oneOf, rdN, ne_eq, Nat.reduceAdd, Nat.reduceMul, Nat.reduceLT, reduceCtorEq, Value.cells, setN, Value.oneCell', Nat.reduceLeDiff, undef, fcT, hs_]))) | ((first | (with_reducible refine newB_i (fun nb_ hb_ => ?_)) | (with_reducible refine RgE_i (fun (hBd_ : Bd _ _) => ?_))); (try simp (disch := omega) only [bsW, WOp, WOq, WV, bo, eqN, gdc, gw, bnd, ↓reduceIte, Nat.reduceEqDiff, rsvs, rsv, oneOf, rdN, ne_eq, Nat.reduceAdd, Nat.reduceMul, Nat.reduceLT, reduceCtorEq, Value.cells, setN, Value.oneCell', Nat.reduceLeDiff, undef, fcT])) | (with_reducible refine fun (hBd_ : Bd _ _) => ?_) | ((first | (with_reducible refine @And.intro (Sub _ _) _ ?_ ?_) | ((with_reducible refine @And.intro (Sub _ _ ∧ _) _ ?_ ?_); (with_reducible refine @And.intro (Sub _ _) _ ?_ ?_))); exact sbX) | ((with_reducible refine And.intro ?_ ?_); omega)))
      all_goals try (exfalso; omega)
      refine (amongL H nx bC _ (-1) 20001 bL _ _ _ 3 _ _ hC6 (by omega) (by rw [hoth6 _ (by omega)]; exact upd_same _ _ _) (by omega) (by omega) (by simp; omega) (by simp) (by decide)).monoC ?_
      rintro v7 H7 nx7 hB7 hx7 ⟨⟨s, rfl, _, _⟩, hC7, hoth7, rfl⟩
      (try (simp (disch := omega) only [bsW, WOp, WOq, WV, bo, eqN, gdc, gw, bnd, ↓reduceIte, Nat.reduceEqDiff, rsvs, rsv, oneOf, rdN, ne_eq, Nat.reduceAdd, Nat.reduceMul, Nat.reduceLT, reduceCtorEq, Value.cells, setN, Value.oneCell', Nat.reduceLeDiff, undef, fcT]))
      have r1 : OwnR H7 (bC + 1) _ m1 2 f 95 (.slice A1 m1 c1) := hO14.keep (fun q hq => by have := hO14.blk hq; rw [hoth7 q (by omega), hoth6 q (by omega), upd_ne (by omega)]) (Nat.le_refl _)
      have r2 : OwnR H7 _ _ m2 2 g 40 _ := hO24.keep (fun q hq => by have := hO24.blk hq; rw [hoth7 q (by omega), hoth6 q (by omega), upd_ne (by omega)]) (Nat.le_refl _)
      obtain ⟨A9, c9, e9, _, hRd1⟩ := r1.rd
      cases e9
      obtain ⟨A9, c9, e9, _, hRd2⟩ := r2.rd
      cases e9
      exact ⟨hC7.s, A1, m1, c1, f, _, m2, c2, g, s, b, rfl, hm1, hc1, hRd1, hm2, hc2, hRd2⟩
  · have d0 : decide ((0 : Int) < (m2 : Int)) = false := decide_eq_false (by omega)
    (try (simp (disch := omega) only [bsW, WOp, WOq, WV, bo, eqN, gdc, gw, bnd, ↓reduceIte, Nat.reduceEqDiff, rsvs, rsv, oneOf, rdN, ne_eq, Nat.reduceAdd, Nat.reduceMul, Nat.reduceLT, reduceCtorEq, Value.cells, setN, Value.oneCell', Nat.reduceLeDiff, undef, fcT, d0]))
    (repeat' (first | ((with_reducible refine gif_split (fun hs_ => ?_) (fun hs_ => ?_)) <;> (have hp_ := hs_; (try simp only [hpL, ne_eq] at hp_); (try simp (disch := omega) only [bsW, WOp, WOq, WV, bo, eqN, gdc, gw, bnd, ↓reduceIte, Nat.reduceEqDiff, rsvs, rsv, oneOf, rdN, ne_eq, Nat.reduceAdd, Nat.reduceMul, Nat.reduceLT, reduceCtorEq, Value.cells, setN, Value.oneCell', Nat.reduceLeDiff, undef, fcT, d0, hs_]))) | ((first | (with_reducible refine newB_i (fun nb_ hb_ => ?_)) | (with_reducible refine RgE_i (fun (hBd_ : Bd _ _) => ?_))); (try simp (disch := omega) only [bsW, WOp, WOq, WV, bo, eqN, gdc, gw, bnd, ↓reduceIte, Nat.reduceEqDiff, rsvs, rsv, oneOf, rdN, ne_eq, Nat.reduceAdd, Nat.reduceMul, Nat.reduceLT, reduceCtorEq, Value.cells, setN, Value.oneCell', Nat.reduceLeDiff, undef, fcT, d0])) | (with_reducible refine fun (hBd_ : Bd _ _) => ?_) | ((first | (with_reducible refine @And.intro (Sub _ _) _ ?_ ?_) | ((with_reducible refine @And.intro (Sub _ _ ∧ _) _ ?_ ?_); (with_reducible refine @And.intro (Sub _ _) _ ?_ ?_))); exact sbX) | ((with_reducible refine And.intro ?_ ?_); omega)))
    have hbL := hb_
    generalize nb_ = bL at *
    refine (pick1 H nx bC _ 24 _ _ (Cur.new (b := bL) hC3 (by omega) (by omega)) (by omega) (by omega)).monoC ?_
    rintro v6 H6 nx6 hB6 hx6 ⟨⟨x, rfl, hx2, hx3⟩, hC6, hoth6, rfl⟩
    rw [if_neg (by omega)] at hx3
    have q1 := Int.tdiv_nonneg hx2 (show (0:Int) ≤ 11 by omega)
    have q2 : x.tdiv 11 ≤ 2 := by rw [Int.tdiv_eq_ediv_of_nonneg hx2]; omega
    (try (simp (disch := omega) only [bsW, WOp, WOq, WV, bo, eqN, gdc, gw, bnd, ↓reduceIte, Nat.reduceEqDiff, rsvs, rsv, oneOf, rdN, ne_eq, Nat.reduceAdd, Nat.reduceMul, Nat.reduceLT, reduceCtorEq, Value.cells, setN, Value.oneCell', Nat.reduceLeDiff, undef, fcT]))
    (repeat' (first | ((with_reducible refine gif_split (fun hs_ => ?_) (fun hs_ => ?_)) <;> (have hp_ := hs_; (try simp only [hpL, ne_eq] at hp_); (try simp (disch := omega) only [bsW, WOp, WOq, WV, bo, eqN, gdc, gw, bnd, ↓reduceIte, Nat.reduceEqDiff, rsvs, rsv, oneOf, rdN, ne_eq, Nat.reduceAdd, Nat.reduceMul, Nat.reduceLT, reduceCtorEq, Value.cells, setN, Value.oneCell', Nat.reduceLeDiff, undef, fcT, hs_]))) | ((first | (with_reducible refine newB_i (fun nb_ hb_ => ?_)) | (with_reducible refine RgE_i (fun (hBd_ : Bd _ _) => ?_))); (try simp (disch := omega) only [bsW, WOp, WOq, WV, bo, eqN, gdc, gw, bnd, ↓reduceIte, Nat.reduceEqDiff, rsvs, rsv, oneOf, rdN, ne_eq, Nat.reduceAdd, Nat.reduceMul, Nat.reduceLT, reduceCtorEq, Value.cells, setN, Value.oneCell', Nat.reduceLeDiff, undef, fcT])) | (with_reducible refine fun (hBd_ : Bd _ _) => ?_) | ((first | (with_reducible refine @And.intro (Sub _ _) _ ?_ ?_) | ((with_reducible refine @And.intro (Sub _ _ ∧ _) _ ?_ ?_); (with_reducible refine @And.intro (Sub _ _) _ ?_ ?_))); exact sbX) | ((with_reducible refine And.intro ?_ ?_); omega)))
    all_goals try (exfalso; omega)
    refine (amongL H nx bC _ (-1) 20001 bL _ _ _ 3 _ _ hC6 (by omega) (by rw [hoth6 _ (by omega)]; exact upd_same _ _ _) (by omega) (by omega) (by simp; omega) (by simp) (by decide)).monoC ?_
    rintro v7 H7 nx7 hB7 hx7 ⟨⟨s, rfl, _, _⟩, hC7, hoth7, rfl⟩
    (try (simp (disch := omega) only [bsW, WOp, WOq, WV, bo, eqN, gdc, gw, bnd, ↓reduceIte, Nat.reduceEqDiff, rsvs, rsv, oneOf, rdN, ne_eq, Nat.reduceAdd, Nat.reduceMul, Nat.reduceLT, reduceCtorEq, Value.cells, setN, Value.oneCell', Nat.reduceLeDiff, undef, fcT]))
    have r1 : OwnR H7 (bC + 1) _ m1 2 f 95 (.slice A1 m1 c1) := hO13.keep (fun q hq => by have := hO13.blk hq; rw [hoth7 q (by omega), hoth6 q (by omega), upd_ne (by omega)]) (Nat.le_refl _)
    have r2 : OwnR H7 _ _ m2 2 g 40 _ := hO23.keep (fun q hq => by have := hO23.blk hq; rw [hoth7 q (by omega), hoth6 q (by omega), upd_ne (by omega)]) (Nat.le_refl _)
    obtain ⟨A9, c9, e9, _, hRd1⟩ := r1.rd
    cases e9
    obtain ⟨A9, c9, e9, _, hRd2⟩ := r2.rd
    cases e9
    exact ⟨hC7.s, A1, m1, c1, f, _, m2, c2, g, s, b, rfl, hm1, hc1, hRd1, hm2, hc2, hRd2⟩
end Go.Proofs.YtnjlleopgjggpaaDoor
