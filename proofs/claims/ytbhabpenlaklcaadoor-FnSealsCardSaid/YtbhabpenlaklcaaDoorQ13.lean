/- Puzzles: a step. -/
import Derived.Test.YtbhabpenlaklcaaDoorQ12
set_option linter.unusedVariables false
set_option linter.unusedSimpArgs false
set_option maxRecDepth 100000
set_option maxHeartbeats 4000000
namespace Go.Proofs.YtbhabpenlaklcaaDoor
open Go Go.RowKit Go.Proofs

def StK (H : Hp) (nx : Nat) (p : PzD) (kd pc : Int) (v : Value) (H' : Hp) (nx' : Nat) : Prop := ∃ w, v = .tuple #[w, .bool (stOk p kd pc)] ∧ NewPz H nx (if stOk p kd pc = true then stP p kd pc else PzD.zero) w H' nx'
theorem stK_no {H : Hp} {nx : Nat} {p : PzD} {kd pc : Int} {H' : Hp} {nx' : Nat} (h : stOk p kd pc = false) (hs : Sub H H') : StK H nx p kd pc (.tuple #[.agg #[.int .i64 0, .slice none 0 0, .int .i64 0, .slice none 0 0, .bool false], .bool false]) H' nx' := by
  refine ⟨_, by rw [h], ?_⟩
  rw [h, if_neg (by simp)]
  exact ⟨ownP_nil _ _ _ _ _ _, hs⟩
theorem stK_yes {H : Hp} {nx : Nat} {p q : PzD} {kd pc : Int} {w : Value} {H' : Hp} {nx' : Nat} (h : stOk p kd pc = true) (hq : stP p kd pc = q) (ho : OwnP H' nx nx' q.tot q.la q.hand q.rj q.sl w) (hs : Sub H H') : StK H nx p kd pc (.tuple #[w, .bool true]) H' nx' := by
  refine ⟨_, by rw [h], ?_⟩
  rw [h, if_pos rfl, hq]
  exact ⟨ho, hs⟩
theorem OwnL.take {H : Hp} {lo nx m k : Nat} {l : List Int} {A : Option Addr} {ty : TypeId} (h : OwnL H lo nx l ty (.slice A l.length k)) (hm : m ≤ l.length) : OwnL H lo nx (l.take m) ty (.slice A m k) := by
  have el : (l.take m).length = m := by simp; omega
  rcases OwnR.ex h with ⟨e, h0⟩ | ⟨b, cap, sp, e, h1, h2, h3, h4, h5, h6⟩
  · simp only [Value.slice.injEq] at e
    obtain ⟨rfl, _, rfl⟩ := e
    have : m = 0 := by omega
    subst this
    rw [List.take_zero]
    exact .nil
  · simp only [Value.slice.injEq] at e
    obtain ⟨rfl, _, rfl⟩ := e
    rw [flat_ints] at h3
    have e2 : intsV l ++ sp = intsV (l.take m) ++ (intsV (l.drop m) ++ sp) := by
      rw [← List.append_assoc, ← show intsV (l.take m ++ l.drop m) = intsV (l.take m) ++ intsV (l.drop m) by simp only [intsV, List.map_append], List.take_append_drop]
    rw [e2] at h3
    have := ownL_ints (l := l.take m) h1 h2 h3 (by omega) h5 (by simp [intsV]; omega)
    rw [el] at this
    exact this
theorem plc_pos {l : List Int} (x : Int) (h : ascL l) : plc l x (posL l x) := by
  have hp := pair_tw (x := x) (ascL_pair.1 h)
  have hs := List.takeWhile_append_dropWhile (p := fun y => decide (y < x)) (l := l)
  unfold posL
  generalize l.takeWhile (fun y => decide (y < x)) = tw at *
  generalize l.dropWhile (fun y => decide (y < x)) = dw at *
  subst hs
  refine ⟨by simp, fun i hi => ?_, fun hl => ?_⟩
  · rw [List.getD_eq_getElem?_getD, List.getElem?_append_left hi, List.getElem?_eq_getElem hi]
    exact hp.1 _ (List.getElem_mem hi)
  · rw [List.getD_eq_getElem?_getD, List.getElem?_append_right (Nat.le_refl _), Nat.sub_self]
    cases dw with
    | nil => simp at hl
    | cons a dw => exact hp.2 a (by simp)
theorem kd_cases {kd pc : Int} (h : stepB kd pc = true) : kd = 1 ∨ kd = 2 ∨ kd = 3 ∨ kd = 4 ∨ kd = 5 ∨ kd = 6 := by
  unfold stepB at h
  split at h
  · omega
  · simp only [Bool.and_eq_true, decide_eq_true_eq] at h
    omega
theorem stepPuzzle (b : Nat) (tot : Int) (A : Option Addr) (la : List Int) (c : Nat) (hand : Int) (B : Option Addr) (rj : List Int) (d : Nat) (sl : Bool) (kd pc : Int) (H : Hp) (nx : Nat) (hv : PzOk tot la hand rj sl) (hst : stepB kd pc = true) (hla : la.length + rj.length ≤ 1048576) (c0 : rd H b 0 = some (.int .i64 tot)) (c1 : rd H b 1 = some (.slice A la.length c)) (c2 : rd H b 2 = some (.int .i64 hand)) (c3 : rd H b 3 = some (.slice B rj.length d)) (c4 : rd H b 4 = some (.bool sl)) (hA : RdL H A la) (hRB : RdL H B rj) :
    AC Tryd.prog 38 #[.pointer (some ⟨b, 0, none⟩), .agg #[.int .i64 kd, .int .i64 pc]] H nx (StK H nx ⟨tot, la, hand, rj, sl⟩ kd pc) := by
  by_cases hop : sl = (kd == 6)
  rotate_left
  · refine AC_of x_impl_stepPuzzle rfl fun hB => ?_
    have hb0 := rd_lt hB c0
    have d0 : (sl == (kd == 6)) = false := by simpa using hop
    have hno : stOk ⟨tot, la, hand, rj, sl⟩ kd pc = false := by
      unfold stOk
      cases sl
      · have : kd = 6 := by simpa using hop
        subst this
        rfl
      · have : kd ≠ 6 := by simpa using hop
        simp [this]
    simp (disch := omega) only [bsW, WOp, WOq, WV, bo, eqN, gdc, gw, bnd, ↓reduceIte, Nat.reduceEqDiff, rsvs, rsv, oneOf, rdN, ne_eq, Nat.reduceAdd, Nat.reduceMul, Nat.reduceLT, reduceCtorEq, Value.cells, setN, Value.oneCell', Nat.reduceLeDiff, undef, fcT, c0, c1, c2, c3, c4, d0, Bool.not_false, c_impl_stepPuzzle]
    (repeat' (first | ((with_reducible refine gif_split (fun hs_ => ?_) (fun hs_ => ?_)) <;> (have hp_ := hs_; (try simp only [hpL, ne_eq] at hp_); (try simp (disch := omega) only [bsW, WOp, WOq, WV, bo, eqN, gdc, gw, bnd, ↓reduceIte, Nat.reduceEqDiff, rsvs, rsv, oneOf, rdN, ne_eq, Nat.reduceAdd, Nat.reduceMul, Nat.reduceLT, reduceCtorEq, Value.cells, setN, Value.oneCell', Nat.reduceLeDiff, undef, fcT, c0, c1, c2, c3, c4, d0, Bool.not_false, hs_]))) | ((first | (with_reducible refine newB_i (fun nb_ hb_ => ?_)) | (with_reducible refine RgE_i (fun (hBd_ : Bd _ _) => ?_))); (try simp (disch := omega) only [bsW, WOp, WOq, WV, bo, eqN, gdc, gw, bnd, ↓reduceIte, Nat.reduceEqDiff, rsvs, rsv, oneOf, rdN, ne_eq, Nat.reduceAdd, Nat.reduceMul, Nat.reduceLT, reduceCtorEq, Value.cells, setN, Value.oneCell', Nat.reduceLeDiff, undef, fcT, c0, c1, c2, c3, c4, d0, Bool.not_false])) | (with_reducible refine fun (hBd_ : Bd _ _) => ?_) | ((first | (with_reducible refine @And.intro (Sub _ _) _ ?_ ?_) | ((with_reducible refine @And.intro (Sub _ _ ∧ _) _ ?_ ?_); (with_reducible refine @And.intro (Sub _ _) _ ?_ ?_))); exact sbX) | ((with_reducible refine And.intro ?_ ?_); omega)))
    all_goals try (exfalso; omega)
    exact stK_no hno (by (repeat (first | assumption | exact Sub.refl _ | (refine sub_up (nx := nx) ?_ hB ?_; omega))))
  have d0 : (sl == (kd == 6)) = true := by simpa using hop
  rcases kd_cases hst with rfl | rfl | rfl | rfl | rfl | rfl
  · have hsl : sl = false := by simpa using hop
    subst hsl
    cases e1 : (hand == 0)
    · have hno : stOk ⟨tot, la, hand, rj, false⟩ 1 pc = false := by
        have : hand ≠ 0 := by simpa using e1
        simp [stOk, this]
      refine AC_of x_impl_stepPuzzle rfl fun hB => ?_
      have hb0 := rd_lt hB c0
      simp (disch := omega) only [bsW, WOp, WOq, WV, bo, eqN, gdc, gw, bnd, ↓reduceIte, Nat.reduceEqDiff, rsvs, rsv, oneOf, rdN, ne_eq, Nat.reduceAdd, Nat.reduceMul, Nat.reduceLT, reduceCtorEq, Value.cells, setN, Value.oneCell', Nat.reduceLeDiff, undef, fcT, c0, c1, c2, c3, c4, d0, Int.reduceBEq, Int.reduceBNe, Int.reduceLT, Int.reduceNeg, c_impl_stepPuzzle]
      (repeat' (first | ((with_reducible refine gif_split (fun hs_ => ?_) (fun hs_ => ?_)) <;> (have hp_ := hs_; (try simp only [hpL, ne_eq] at hp_); (try simp (disch := omega) only [bsW, WOp, WOq, WV, bo, eqN, gdc, gw, bnd, ↓reduceIte, Nat.reduceEqDiff, rsvs, rsv, oneOf, rdN, ne_eq, Nat.reduceAdd, Nat.reduceMul, Nat.reduceLT, reduceCtorEq, Value.cells, setN, Value.oneCell', Nat.reduceLeDiff, undef, fcT, c0, c1, c2, c3, c4, d0, Int.reduceBEq, Int.reduceBNe, Int.reduceLT, Int.reduceNeg, hs_]))) | ((first | (with_reducible refine newB_i (fun nb_ hb_ => ?_)) | (with_reducible refine RgE_i (fun (hBd_ : Bd _ _) => ?_))); (try simp (disch := omega) only [bsW, WOp, WOq, WV, bo, eqN, gdc, gw, bnd, ↓reduceIte, Nat.reduceEqDiff, rsvs, rsv, oneOf, rdN, ne_eq, Nat.reduceAdd, Nat.reduceMul, Nat.reduceLT, reduceCtorEq, Value.cells, setN, Value.oneCell', Nat.reduceLeDiff, undef, fcT, c0, c1, c2, c3, c4, d0, Int.reduceBEq, Int.reduceBNe, Int.reduceLT, Int.reduceNeg])) | (with_reducible refine fun (hBd_ : Bd _ _) => ?_) | ((first | (with_reducible refine @And.intro (Sub _ _) _ ?_ ?_) | ((with_reducible refine @And.intro (Sub _ _ ∧ _) _ ?_ ?_); (with_reducible refine @And.intro (Sub _ _) _ ?_ ?_))); exact sbX) | ((with_reducible refine And.intro ?_ ?_); omega)))
      all_goals try (exfalso; omega)
      rename_i bS hbS
      have hbR := hb_
      generalize nb_ = bR at *
      have hs0 : Sub H (upd (upd H bS (.rw [.int .i64 1, .int .i64 pc] 41)) bR (.rw [.int .i64 0, .slice none 0 0, .int .i64 0, .slice none 0 0, .bool false] 28)) := by (repeat (first | assumption | exact Sub.refl _ | (refine sub_up (nx := nx) ?_ hB ?_; omega)))
      refine (copyPuzzle b tot A la c hand B rj d false _ _ (by omega) (by omega) (rd_sub hs0 c0) (rd_sub hs0 c1) (rd_sub hs0 c2) (rd_sub hs0 c3) (rd_sub hs0 c4) (hA.sub hs0) (hRB.sub hs0)).monoC ?_
      rintro v1 H1 nx1 hB1 hx1 ⟨hO1, ht1⟩
      obtain ⟨u1, w1, rfl, hu1, hw1, hdis⟩ := hO1.ex
      obtain ⟨A1, k1, rfl, hk1, hR1⟩ := OwnR.rd hu1
      obtain ⟨A2, k2, rfl, hk2, hR2⟩ := OwnR.rd hw1
      have hs1 := hs0.trans ht1
      have y0 := rd_sub hs1 c0
      have y1 := rd_sub hs1 c1
      have y2 := rd_sub hs1 c2
      have y3 := rd_sub hs1 c3
      have y4 := rd_sub hs1 c4
      have fR := ht1 bR _ (upd_same _ _ _)
      have fS := ht1 bS _ (by rw [upd_ne (by omega)]; exact upd_same _ _ _)
      simp (disch := omega) only [bsW, WOp, WOq, WV, bo, eqN, gdc, gw, bnd, ↓reduceIte, Nat.reduceEqDiff, rsvs, rsv, oneOf, rdN, ne_eq, Nat.reduceAdd, Nat.reduceMul, Nat.reduceLT, reduceCtorEq, Value.cells, setN, Value.oneCell', Nat.reduceLeDiff, undef, fcT, rd_rw fS, fR, y0, y1, y2, y3, y4, Int.reduceBEq, Int.reduceBNe, Int.reduceLT, Int.reduceNeg, e1]
      (repeat' (first | ((with_reducible refine gif_split (fun hs_ => ?_) (fun hs_ => ?_)) <;> (have hp_ := hs_; (try simp only [hpL, ne_eq] at hp_); (try simp (disch := omega) only [bsW, WOp, WOq, WV, bo, eqN, gdc, gw, bnd, ↓reduceIte, Nat.reduceEqDiff, rsvs, rsv, oneOf, rdN, ne_eq, Nat.reduceAdd, Nat.reduceMul, Nat.reduceLT, reduceCtorEq, Value.cells, setN, Value.oneCell', Nat.reduceLeDiff, undef, fcT, rd_rw fS, fR, y0, y1, y2, y3, y4, Int.reduceBEq, Int.reduceBNe, Int.reduceLT, Int.reduceNeg, e1, hs_]))) | ((first | (with_reducible refine newB_i (fun nb_ hb_ => ?_)) | (with_reducible refine RgE_i (fun (hBd_ : Bd _ _) => ?_))); (try simp (disch := omega) only [bsW, WOp, WOq, WV, bo, eqN, gdc, gw, bnd, ↓reduceIte, Nat.reduceEqDiff, rsvs, rsv, oneOf, rdN, ne_eq, Nat.reduceAdd, Nat.reduceMul, Nat.reduceLT, reduceCtorEq, Value.cells, setN, Value.oneCell', Nat.reduceLeDiff, undef, fcT, rd_rw fS, fR, y0, y1, y2, y3, y4, Int.reduceBEq, Int.reduceBNe, Int.reduceLT, Int.reduceNeg, e1])) | (with_reducible refine fun (hBd_ : Bd _ _) => ?_) | ((first | (with_reducible refine @And.intro (Sub _ _) _ ?_ ?_) | ((with_reducible refine @And.intro (Sub _ _ ∧ _) _ ?_ ?_); (with_reducible refine @And.intro (Sub _ _) _ ?_ ?_))); exact sbX) | ((with_reducible refine And.intro ?_ ?_); omega)))
      all_goals try (exfalso; omega)
      exact stK_no hno (by (repeat (first | assumption | exact Sub.refl _ | (refine sub_up (nx := nx) ?_ hB ?_; omega))))
    · have h0 : hand = 0 := by simpa using e1
      refine AC_of x_impl_stepPuzzle rfl fun hB => ?_
      have hb0 := rd_lt hB c0
      simp (disch := omega) only [bsW, WOp, WOq, WV, bo, eqN, gdc, gw, bnd, ↓reduceIte, Nat.reduceEqDiff, rsvs, rsv, oneOf, rdN, ne_eq, Nat.reduceAdd, Nat.reduceMul, Nat.reduceLT, reduceCtorEq, Value.cells, setN, Value.oneCell', Nat.reduceLeDiff, undef, fcT, c0, c1, c2, c3, c4, d0, Int.reduceBEq, Int.reduceBNe, Int.reduceLT, Int.reduceNeg, c_impl_stepPuzzle]
      (repeat' (first | ((with_reducible refine gif_split (fun hs_ => ?_) (fun hs_ => ?_)) <;> (have hp_ := hs_; (try simp only [hpL, ne_eq] at hp_); (try simp (disch := omega) only [bsW, WOp, WOq, WV, bo, eqN, gdc, gw, bnd, ↓reduceIte, Nat.reduceEqDiff, rsvs, rsv, oneOf, rdN, ne_eq, Nat.reduceAdd, Nat.reduceMul, Nat.reduceLT, reduceCtorEq, Value.cells, setN, Value.oneCell', Nat.reduceLeDiff, undef, fcT, c0, c1, c2, c3, c4, d0, Int.reduceBEq, Int.reduceBNe, Int.reduceLT, Int.reduceNeg, hs_]))) | ((first | (with_reducible refine newB_i (fun nb_ hb_ => ?_)) | (with_reducible refine RgE_i (fun (hBd_ : Bd _ _) => ?_))); (try simp (disch := omega) only [bsW, WOp, WOq, WV, bo, eqN, gdc, gw, bnd, ↓reduceIte, Nat.reduceEqDiff, rsvs, rsv, oneOf, rdN, ne_eq, Nat.reduceAdd, Nat.reduceMul, Nat.reduceLT, reduceCtorEq, Value.cells, setN, Value.oneCell', Nat.reduceLeDiff, undef, fcT, c0, c1, c2, c3, c4, d0, Int.reduceBEq, Int.reduceBNe, Int.reduceLT, Int.reduceNeg])) | (with_reducible refine fun (hBd_ : Bd _ _) => ?_) | ((first | (with_reducible refine @And.intro (Sub _ _) _ ?_ ?_) | ((with_reducible refine @And.intro (Sub _ _ ∧ _) _ ?_ ?_); (with_reducible refine @And.intro (Sub _ _) _ ?_ ?_))); exact sbX) | ((with_reducible refine And.intro ?_ ?_); omega)))
      all_goals try (exfalso; omega)
      rename_i bS hbS
      have hbR := hb_
      generalize nb_ = bR at *
      have hs0 : Sub H (upd (upd H bS (.rw [.int .i64 1, .int .i64 pc] 41)) bR (.rw [.int .i64 0, .slice none 0 0, .int .i64 0, .slice none 0 0, .bool false] 28)) := by (repeat (first | assumption | exact Sub.refl _ | (refine sub_up (nx := nx) ?_ hB ?_; omega)))
      refine (copyPuzzle b tot A la c hand B rj d false _ _ (by omega) (by omega) (rd_sub hs0 c0) (rd_sub hs0 c1) (rd_sub hs0 c2) (rd_sub hs0 c3) (rd_sub hs0 c4) (hA.sub hs0) (hRB.sub hs0)).monoC ?_
      rintro v1 H1 nx1 hB1 hx1 ⟨hO1, ht1⟩
      obtain ⟨u1, w1, rfl, hu1, hw1, hdis⟩ := hO1.ex
      obtain ⟨A1, k1, rfl, hk1, hR1⟩ := OwnR.rd hu1
      obtain ⟨A2, k2, rfl, hk2, hR2⟩ := OwnR.rd hw1
      have hs1 := hs0.trans ht1
      have y0 := rd_sub hs1 c0
      have y1 := rd_sub hs1 c1
      have y2 := rd_sub hs1 c2
      have y3 := rd_sub hs1 c3
      have y4 := rd_sub hs1 c4
      have fR := ht1 bR _ (upd_same _ _ _)
      have fS := ht1 bS _ (by rw [upd_ne (by omega)]; exact upd_same _ _ _)
      have hu1 : OwnL H1 (bR + 1) nx1 la 3 (.slice A1 la.length k1) := hu1
      have hw1 : OwnL H1 (bR + 1) nx1 rj 3 (.slice A2 rj.length k2) := hw1
      have hk1 : la.length ≤ k1 := hk1
      have hk2 : rj.length ≤ k2 := hk2
      have hR2 : RdL H1 A2 rj := hR2
      simp (disch := omega) only [bsW, WOp, WOq, WV, bo, eqN, gdc, gw, bnd, ↓reduceIte, Nat.reduceEqDiff, rsvs, rsv, oneOf, rdN, ne_eq, Nat.reduceAdd, Nat.reduceMul, Nat.reduceLT, reduceCtorEq, Value.cells, setN, Value.oneCell', Nat.reduceLeDiff, undef, fcT, rd_rw fS, fR, y0, y1, y2, y3, y4, Int.reduceBEq, Int.reduceBNe, Int.reduceLT, Int.reduceNeg, e1]
      (repeat' (first | ((with_reducible refine gif_split (fun hs_ => ?_) (fun hs_ => ?_)) <;> (have hp_ := hs_; (try simp only [hpL, ne_eq] at hp_); (try simp (disch := omega) only [bsW, WOp, WOq, WV, bo, eqN, gdc, gw, bnd, ↓reduceIte, Nat.reduceEqDiff, rsvs, rsv, oneOf, rdN, ne_eq, Nat.reduceAdd, Nat.reduceMul, Nat.reduceLT, reduceCtorEq, Value.cells, setN, Value.oneCell', Nat.reduceLeDiff, undef, fcT, rd_rw fS, fR, y0, y1, y2, y3, y4, Int.reduceBEq, Int.reduceBNe, Int.reduceLT, Int.reduceNeg, e1, hs_]))) | ((first | (with_reducible refine newB_i (fun nb_ hb_ => ?_)) | (with_reducible refine RgE_i (fun (hBd_ : Bd _ _) => ?_))); (try simp (disch := omega) only [bsW, WOp, WOq, WV, bo, eqN, gdc, gw, bnd, ↓reduceIte, Nat.reduceEqDiff, rsvs, rsv, oneOf, rdN, ne_eq, Nat.reduceAdd, Nat.reduceMul, Nat.reduceLT, reduceCtorEq, Value.cells, setN, Value.oneCell', Nat.reduceLeDiff, undef, fcT, rd_rw fS, fR, y0, y1, y2, y3, y4, Int.reduceBEq, Int.reduceBNe, Int.reduceLT, Int.reduceNeg, e1])) | (with_reducible refine fun (hBd_ : Bd _ _) => ?_) | ((first | (with_reducible refine @And.intro (Sub _ _) _ ?_ ?_) | ((with_reducible refine @And.intro (Sub _ _ ∧ _) _ ?_ ?_); (with_reducible refine @And.intro (Sub _ _) _ ?_ ?_))); exact sbX) | ((with_reducible refine And.intro ?_ ?_); omega)))
      all_goals try (exfalso; omega)
      have ht2 : Sub H1 (upd H1 nb_ (.rw [.int .i64 tot, .slice A1 la.length k1, .int .i64 hand, .slice A2 rj.length k2, .bool false] 28)) := sub_up (nx := nx1) (by omega) hB1 (Sub.refl _)
      have hbO := hb_
      have fO : (upd H1 nb_ (.rw [.int .i64 tot, .slice A1 la.length k1, .int .i64 hand, .slice A2 rj.length k2, .bool false] 28)) nb_ = some (.rw [.int .i64 tot, .slice A1 la.length k1, .int .i64 hand, .slice A2 rj.length k2, .bool false] 28) := upd_same _ _ _
      have hB2 : Bd (upd H1 nb_ (.rw [.int .i64 tot, .slice A1 la.length k1, .int .i64 hand, .slice A2 rj.length k2, .bool false] 28)) (nb_ + 1) := Bd.up hB1 (by omega)
      generalize (upd H1 nb_ (.rw [.int .i64 tot, .slice A1 la.length k1, .int .i64 hand, .slice A2 rj.length k2, .bool false] 28)) = H2 at *
      generalize nb_ = bO at *
      replace fS := ht2 _ _ fS
      replace fR := ht2 _ _ fR
      replace y0 := rd_sub ht2 y0
      replace y1 := rd_sub ht2 y1
      replace y2 := rd_sub ht2 y2
      replace y3 := rd_sub ht2 y3
      replace y4 := rd_sub ht2 y4
      replace hu1 := OwnR.subI hu1 ht2
      replace hw1 := OwnR.subI hw1 ht2
      have hs2 := hs1.trans ht2
      refine (waiting b tot A la c hand B rj d false _ _ (by omega) (by omega) (by have := hv.t2; omega) y0 y1 y2 y3 (hA.sub hs2) (hRB.sub hs2)).monoC ?_
      rintro v3 H3 nx3 hB3 hx3 ⟨hO3, ht3⟩
      obtain ⟨A3, k3, rfl, _, hR3⟩ := OwnR.rd hO3
      replace hR3 : RdL H3 A3 (waitK la hand rj tot.toNat) := hR3
      have hwl := waitK_len la hand rj tot.toNat
      have ht20 := hv.t2
      replace fS := ht3 _ _ fS
      replace fR := ht3 _ _ fR
      replace fO := ht3 _ _ fO
      replace hu1 := OwnR.subI hu1 ht3
      replace hw1 := OwnR.subI hw1 ht3
      have hs3 := hs2.trans ht3
      cases e2 : decide (pc ∈ waitK la hand rj tot.toNat)
      · have hno : stOk ⟨tot, la, hand, rj, false⟩ 1 pc = false := by
          have e3 : decide (pc ∈ waitL tot la hand rj) = false := e2
          have e4 : stOk ⟨tot, la, hand, rj, false⟩ 1 pc = (decide (hand = 0) && decide (pc ∈ waitL tot la hand rj)) := rfl
          rw [e4, e3, Bool.and_false]
        simp (disch := omega) only [bsW, WOp, WOq, WV, bo, eqN, gdc, gw, bnd, ↓reduceIte, Nat.reduceEqDiff, rsvs, rsv, oneOf, rdN, ne_eq, Nat.reduceAdd, Nat.reduceMul, Nat.reduceLT, reduceCtorEq, Value.cells, setN, Value.oneCell', Nat.reduceLeDiff, undef, fcT, rd_rw fS, fR, fO, rd_rw fO, e2, Int.reduceBEq]
        (repeat' (first | ((with_reducible refine gif_split (fun hs_ => ?_) (fun hs_ => ?_)) <;> (have hp_ := hs_; (try simp only [hpL, ne_eq] at hp_); (try simp (disch := omega) only [bsW, WOp, WOq, WV, bo, eqN, gdc, gw, bnd, ↓reduceIte, Nat.reduceEqDiff, rsvs, rsv, oneOf, rdN, ne_eq, Nat.reduceAdd, Nat.reduceMul, Nat.reduceLT, reduceCtorEq, Value.cells, setN, Value.oneCell', Nat.reduceLeDiff, undef, fcT, rd_rw fS, fR, fO, rd_rw fO, e2, Int.reduceBEq, hs_]))) | ((first | (with_reducible refine newB_i (fun nb_ hb_ => ?_)) | ((with_reducible show QC _ _ _ _ _ _); (first | (refine QC_i (hasI A3 (waitK la hand rj tot.toNat) _ k3 pc _ _ rfl (by omega) hR3) ?_))) | ((with_reducible show AC _ _ _ _ _ _); (first | (refine PC.ac (hasI A3 (waitK la hand rj tot.toNat) _ k3 pc _ _ rfl (by omega) hR3) ?_))) | (with_reducible refine RgE_i (fun (hBd_ : Bd _ _) => ?_))); (try simp (disch := omega) only [bsW, WOp, WOq, WV, bo, eqN, gdc, gw, bnd, ↓reduceIte, Nat.reduceEqDiff, rsvs, rsv, oneOf, rdN, ne_eq, Nat.reduceAdd, Nat.reduceMul, Nat.reduceLT, reduceCtorEq, Value.cells, setN, Value.oneCell', Nat.reduceLeDiff, undef, fcT, rd_rw fS, fR, fO, rd_rw fO, e2, Int.reduceBEq])) | (with_reducible refine fun (hBd_ : Bd _ _) => ?_) | ((first | (with_reducible refine @And.intro (Sub _ _) _ ?_ ?_) | ((with_reducible refine @And.intro (Sub _ _ ∧ _) _ ?_ ?_); (with_reducible refine @And.intro (Sub _ _) _ ?_ ?_))); exact sbX) | ((with_reducible refine And.intro ?_ ?_); omega)))
        all_goals try (exfalso; omega)
        exact stK_no hno (by (repeat (first | assumption | exact Sub.refl _ | (refine sub_up (nx := nx) ?_ hB ?_; omega))))
      · have hyes : stOk ⟨tot, la, hand, rj, false⟩ 1 pc = true := by
          have e3 : decide (pc ∈ waitL tot la hand rj) = true := e2
          have e4 : stOk ⟨tot, la, hand, rj, false⟩ 1 pc = (decide (hand = 0) && decide (pc ∈ waitL tot la hand rj)) := rfl
          rw [e4, e3, h0]; rfl
        simp (disch := omega) only [bsW, WOp, WOq, WV, bo, eqN, gdc, gw, bnd, ↓reduceIte, Nat.reduceEqDiff, rsvs, rsv, oneOf, rdN, ne_eq, Nat.reduceAdd, Nat.reduceMul, Nat.reduceLT, reduceCtorEq, Value.cells, setN, Value.oneCell', Nat.reduceLeDiff, undef, fcT, rd_rw fS, fR, fO, rd_rw fO, e2, Int.reduceBEq]
        (repeat' (first | ((with_reducible refine gif_split (fun hs_ => ?_) (fun hs_ => ?_)) <;> (have hp_ := hs_; (try simp only [hpL, ne_eq] at hp_); (try simp (disch := omega) only [bsW, WOp, WOq, WV, bo, eqN, gdc, gw, bnd, ↓reduceIte, Nat.reduceEqDiff, rsvs, rsv, oneOf, rdN, ne_eq, Nat.reduceAdd, Nat.reduceMul, Nat.reduceLT, reduceCtorEq, Value.cells, setN, Value.oneCell', Nat.reduceLeDiff, undef, fcT, rd_rw fS, fR, fO, rd_rw fO, e2, Int.reduceBEq, hs_]))) | ((first | (with_reducible refine newB_i (fun nb_ hb_ => ?_)) | ((with_reducible show QC _ _ _ _ _ _); (first | (refine QC_i (hasI A3 (waitK la hand rj tot.toNat) _ k3 pc _ _ rfl (by omega) hR3) ?_))) | ((with_reducible show AC _ _ _ _ _ _); (first | (refine PC.ac (hasI A3 (waitK la hand rj tot.toNat) _ k3 pc _ _ rfl (by omega) hR3) ?_))) | (with_reducible refine RgE_i (fun (hBd_ : Bd _ _) => ?_))); (try simp (disch := omega) only [bsW, WOp, WOq, WV, bo, eqN, gdc, gw, bnd, ↓reduceIte, Nat.reduceEqDiff, rsvs, rsv, oneOf, rdN, ne_eq, Nat.reduceAdd, Nat.reduceMul, Nat.reduceLT, reduceCtorEq, Value.cells, setN, Value.oneCell', Nat.reduceLeDiff, undef, fcT, rd_rw fS, fR, fO, rd_rw fO, e2, Int.reduceBEq])) | (with_reducible refine fun (hBd_ : Bd _ _) => ?_) | ((first | (with_reducible refine @And.intro (Sub _ _) _ ?_ ?_) | ((with_reducible refine @And.intro (Sub _ _ ∧ _) _ ?_ ?_); (with_reducible refine @And.intro (Sub _ _) _ ?_ ?_))); exact sbX) | ((with_reducible refine And.intro ?_ ?_); omega)))
        all_goals try (exfalso; omega)
        exact stK_yes hyes rfl ⟨_, _, rfl, OwnR.lo (lo' := nx) (OwnR.keep hu1 (fun c hc => by have := OwnR.blk hu1 hc; repeat rw [upd_ne (by omega)]) (by omega)) (by omega), OwnR.lo (lo' := nx) (OwnR.keep hw1 (fun c hc => by have := OwnR.blk hw1 hc; repeat rw [upd_ne (by omega)]) (by omega)) (by omega), hdis⟩ (by (repeat (first | assumption | exact Sub.refl _ | (refine sub_up (nx := nx) ?_ hB ?_; omega))))
  · have hsl : sl = false := by simpa using hop
    subst hsl
    refine AC_of x_impl_stepPuzzle rfl fun hB => ?_
    have hb0 := rd_lt hB c0
    simp (disch := omega) only [bsW, WOp, WOq, WV, bo, eqN, gdc, gw, bnd, ↓reduceIte, Nat.reduceEqDiff, rsvs, rsv, oneOf, rdN, ne_eq, Nat.reduceAdd, Nat.reduceMul, Nat.reduceLT, reduceCtorEq, Value.cells, setN, Value.oneCell', Nat.reduceLeDiff, undef, fcT, c0, c1, c2, c3, c4, d0, Int.reduceBEq, Int.reduceBNe, Int.reduceLT, Int.reduceNeg, c_impl_stepPuzzle]
    (repeat' (first | ((with_reducible refine gif_split (fun hs_ => ?_) (fun hs_ => ?_)) <;> (have hp_ := hs_; (try simp only [hpL, ne_eq] at hp_); (try simp (disch := omega) only [bsW, WOp, WOq, WV, bo, eqN, gdc, gw, bnd, ↓reduceIte, Nat.reduceEqDiff, rsvs, rsv, oneOf, rdN, ne_eq, Nat.reduceAdd, Nat.reduceMul, Nat.reduceLT, reduceCtorEq, Value.cells, setN, Value.oneCell', Nat.reduceLeDiff, undef, fcT, c0, c1, c2, c3, c4, d0, Int.reduceBEq, Int.reduceBNe, Int.reduceLT, Int.reduceNeg, hs_]))) | ((first | (with_reducible refine newB_i (fun nb_ hb_ => ?_)) | (with_reducible refine RgE_i (fun (hBd_ : Bd _ _) => ?_))); (try simp (disch := omega) only [bsW, WOp, WOq, WV, bo, eqN, gdc, gw, bnd, ↓reduceIte, Nat.reduceEqDiff, rsvs, rsv, oneOf, rdN, ne_eq, Nat.reduceAdd, Nat.reduceMul, Nat.reduceLT, reduceCtorEq, Value.cells, setN, Value.oneCell', Nat.reduceLeDiff, undef, fcT, c0, c1, c2, c3, c4, d0, Int.reduceBEq, Int.reduceBNe, Int.reduceLT, Int.reduceNeg])) | (with_reducible refine fun (hBd_ : Bd _ _) => ?_) | ((first | (with_reducible refine @And.intro (Sub _ _) _ ?_ ?_) | ((with_reducible refine @And.intro (Sub _ _ ∧ _) _ ?_ ?_); (with_reducible refine @And.intro (Sub _ _) _ ?_ ?_))); exact sbX) | ((with_reducible refine And.intro ?_ ?_); omega)))
    all_goals try (exfalso; omega)
    rename_i bS hbS
    have hbR := hb_
    generalize nb_ = bR at *
    have hs0 : Sub H (upd (upd H bS (.rw [.int .i64 2, .int .i64 pc] 41)) bR (.rw [.int .i64 0, .slice none 0 0, .int .i64 0, .slice none 0 0, .bool false] 28)) := by (repeat (first | assumption | exact Sub.refl _ | (refine sub_up (nx := nx) ?_ hB ?_; omega)))
    refine (copyPuzzle b tot A la c hand B rj d false _ _ (by omega) (by omega) (rd_sub hs0 c0) (rd_sub hs0 c1) (rd_sub hs0 c2) (rd_sub hs0 c3) (rd_sub hs0 c4) (hA.sub hs0) (hRB.sub hs0)).monoC ?_
    rintro v1 H1 nx1 hB1 hx1 ⟨hO1, ht1⟩
    obtain ⟨u1, w1, rfl, hu1, hw1, hdis⟩ := hO1.ex
    obtain ⟨A1, k1, rfl, hk1, hR1⟩ := OwnR.rd hu1
    obtain ⟨A2, k2, rfl, hk2, hR2⟩ := OwnR.rd hw1
    have hs1 := hs0.trans ht1
    have y0 := rd_sub hs1 c0
    have y1 := rd_sub hs1 c1
    have y2 := rd_sub hs1 c2
    have y3 := rd_sub hs1 c3
    have y4 := rd_sub hs1 c4
    have fR := ht1 bR _ (upd_same _ _ _)
    have fS := ht1 bS _ (by rw [upd_ne (by omega)]; exact upd_same _ _ _)
    have hu1 : OwnL H1 (bR + 1) nx1 la 3 (.slice A1 la.length k1) := hu1
    have hw1 : OwnL H1 (bR + 1) nx1 rj 3 (.slice A2 rj.length k2) := hw1
    have hk1 : la.length ≤ k1 := hk1
    have hk2 : rj.length ≤ k2 := hk2
    have hR2 : RdL H1 A2 rj := hR2
    simp (disch := omega) only [bsW, WOp, WOq, WV, bo, eqN, gdc, gw, bnd, ↓reduceIte, Nat.reduceEqDiff, rsvs, rsv, oneOf, rdN, ne_eq, Nat.reduceAdd, Nat.reduceMul, Nat.reduceLT, reduceCtorEq, Value.cells, setN, Value.oneCell', Nat.reduceLeDiff, undef, fcT, rd_rw fS, fR, y0, y1, y2, y3, y4, Int.reduceBEq, Int.reduceBNe, Int.reduceLT, Int.reduceNeg]
    (repeat' (first | ((with_reducible refine gif_split (fun hs_ => ?_) (fun hs_ => ?_)) <;> (have hp_ := hs_; (try simp only [hpL, ne_eq] at hp_); (try simp (disch := omega) only [bsW, WOp, WOq, WV, bo, eqN, gdc, gw, bnd, ↓reduceIte, Nat.reduceEqDiff, rsvs, rsv, oneOf, rdN, ne_eq, Nat.reduceAdd, Nat.reduceMul, Nat.reduceLT, reduceCtorEq, Value.cells, setN, Value.oneCell', Nat.reduceLeDiff, undef, fcT, rd_rw fS, fR, y0, y1, y2, y3, y4, Int.reduceBEq, Int.reduceBNe, Int.reduceLT, Int.reduceNeg, hs_]))) | ((first | (with_reducible refine newB_i (fun nb_ hb_ => ?_)) | (with_reducible refine RgE_i (fun (hBd_ : Bd _ _) => ?_))); (try simp (disch := omega) only [bsW, WOp, WOq, WV, bo, eqN, gdc, gw, bnd, ↓reduceIte, Nat.reduceEqDiff, rsvs, rsv, oneOf, rdN, ne_eq, Nat.reduceAdd, Nat.reduceMul, Nat.reduceLT, reduceCtorEq, Value.cells, setN, Value.oneCell', Nat.reduceLeDiff, undef, fcT, rd_rw fS, fR, y0, y1, y2, y3, y4, Int.reduceBEq, Int.reduceBNe, Int.reduceLT, Int.reduceNeg])) | (with_reducible refine fun (hBd_ : Bd _ _) => ?_) | ((first | (with_reducible refine @And.intro (Sub _ _) _ ?_ ?_) | ((with_reducible refine @And.intro (Sub _ _ ∧ _) _ ?_ ?_); (with_reducible refine @And.intro (Sub _ _) _ ?_ ?_))); exact sbX) | ((with_reducible refine And.intro ?_ ?_); omega)))
    all_goals try (exfalso; omega)
    rename_i bO hbO
    refine app_oneL (lo := bR + 1) (x := hand) (by simp (disch := omega) only [bsW, WOp, WOq, WV, bo, eqN, gdc, gw, bnd, ↓reduceIte, Nat.reduceEqDiff, rsvs, rsv, oneOf, rdN, ne_eq, Nat.reduceAdd, Nat.reduceMul, Nat.reduceLT, reduceCtorEq, Value.cells, setN, Value.oneCell', Nat.reduceLeDiff, undef, fcT, rd_rw fS, fR, y0, y1, y2, y3, y4, Int.reduceBEq, Int.reduceBNe, Int.reduceLT, Int.reduceNeg]) (by simp (disch := omega) only [bsW, WOp, WOq, WV, bo, eqN, gdc, gw, bnd, ↓reduceIte, Nat.reduceEqDiff, rsvs, rsv, oneOf, rdN, ne_eq, Nat.reduceAdd, Nat.reduceMul, Nat.reduceLT, reduceCtorEq, Value.cells, setN, Value.oneCell', Nat.reduceLeDiff, undef, fcT, rd_rw fS, fR, y0, y1, y2, y3, y4, Int.reduceBEq, Int.reduceBNe, Int.reduceLT, Int.reduceNeg]) (by simp (disch := omega) only [bsW, WOp, WOq, WV, bo, eqN, gdc, gw, bnd, ↓reduceIte, Nat.reduceEqDiff, rsvs, rsv, oneOf, rdN, ne_eq, Nat.reduceAdd, Nat.reduceMul, Nat.reduceLT, reduceCtorEq, Value.cells, setN, Value.oneCell', Nat.reduceLeDiff, undef, fcT, rd_rw fS, fR, y0, y1, y2, y3, y4, Int.reduceBEq, Int.reduceBNe, Int.reduceLT, Int.reduceNeg]) (by simp (disch := omega) only [bsW, WOp, WOq, WV, bo, eqN, gdc, gw, bnd, ↓reduceIte, Nat.reduceEqDiff, rsvs, rsv, oneOf, rdN, ne_eq, Nat.reduceAdd, Nat.reduceMul, Nat.reduceLT, reduceCtorEq, Value.cells, setN, Value.oneCell', Nat.reduceLeDiff, undef, fcT, rd_rw fS, fR, y0, y1, y2, y3, y4, Int.reduceBEq, Int.reduceBNe, Int.reduceLT, Int.reduceNeg]) (OwnR.keep hu1 (fun c hc => by have := OwnR.blk hu1 hc; repeat rw [upd_ne (by omega)]) (by omega)) (upd_same _ _ _) (by omega) (by omega) ?_
    rintro v' b' o nx2 hb' hn2 hown' hO2
    obtain ⟨A3, k3, rfl, _, _⟩ := OwnR.rd hO2
    have hbb : (bR + 1 ≤ b' ∧ b' < nx1) ∨ nb_ + 1 ≤ b' := by
      rcases hb' with e | e
      · exact .inl (OwnR.blk hu1 e)
      · exact .inr e
    have z0 : rd (upd (upd (upd H1 bO (.rw [.int .i64 tot, .slice A1 la.length k1, .int .i64 hand, .slice A2 rj.length k2, .bool false] 28)) nb_ (.rw [.int .i64 hand] 3)) b' o) b 2 = some (.int .i64 hand) := by rw [rd_upd_ne (by omega), rd_upd_ne (by omega), rd_upd_ne (by omega)]; exact y2
    cases e1 : decide (0 < hand)
    · have hno : stOk ⟨tot, la, hand, rj, false⟩ 2 pc = false := e1
      simp (disch := omega) only [bsW, WOp, WOq, WV, bo, eqN, gdc, gw, bnd, ↓reduceIte, Nat.reduceEqDiff, rsvs, rsv, oneOf, rdN, ne_eq, Nat.reduceAdd, Nat.reduceMul, Nat.reduceLT, reduceCtorEq, Value.cells, setN, Value.oneCell', Nat.reduceLeDiff, undef, fcT, fR, y2, e1, Bool.not_false]
      (repeat' (first | ((with_reducible refine gif_split (fun hs_ => ?_) (fun hs_ => ?_)) <;> (have hp_ := hs_; (try simp only [hpL, ne_eq] at hp_); (try simp (disch := omega) only [bsW, WOp, WOq, WV, bo, eqN, gdc, gw, bnd, ↓reduceIte, Nat.reduceEqDiff, rsvs, rsv, oneOf, rdN, ne_eq, Nat.reduceAdd, Nat.reduceMul, Nat.reduceLT, reduceCtorEq, Value.cells, setN, Value.oneCell', Nat.reduceLeDiff, undef, fcT, fR, y2, e1, Bool.not_false, hs_]))) | ((first | (with_reducible refine newB_i (fun nb_ hb_ => ?_)) | (with_reducible refine RgE_i (fun (hBd_ : Bd _ _) => ?_))); (try simp (disch := omega) only [bsW, WOp, WOq, WV, bo, eqN, gdc, gw, bnd, ↓reduceIte, Nat.reduceEqDiff, rsvs, rsv, oneOf, rdN, ne_eq, Nat.reduceAdd, Nat.reduceMul, Nat.reduceLT, reduceCtorEq, Value.cells, setN, Value.oneCell', Nat.reduceLeDiff, undef, fcT, fR, y2, e1, Bool.not_false])) | (with_reducible refine fun (hBd_ : Bd _ _) => ?_) | ((first | (with_reducible refine @And.intro (Sub _ _) _ ?_ ?_) | ((with_reducible refine @And.intro (Sub _ _ ∧ _) _ ?_ ?_); (with_reducible refine @And.intro (Sub _ _) _ ?_ ?_))); exact sbX) | ((with_reducible refine And.intro ?_ ?_); omega)))
      all_goals try (exfalso; omega)
      exact stK_no hno (by (repeat (first | assumption | exact Sub.refl _ | (refine sub_up (nx := nx) ?_ hB ?_; omega))))
    · have hyes : stOk ⟨tot, la, hand, rj, false⟩ 2 pc = true := e1
      simp (disch := omega) only [bsW, WOp, WOq, WV, bo, eqN, gdc, gw, bnd, ↓reduceIte, Nat.reduceEqDiff, rsvs, rsv, oneOf, rdN, ne_eq, Nat.reduceAdd, Nat.reduceMul, Nat.reduceLT, reduceCtorEq, Value.cells, setN, Value.oneCell', Nat.reduceLeDiff, undef, fcT, fR, y2, e1, Bool.not_true]
      (repeat' (first | ((with_reducible refine gif_split (fun hs_ => ?_) (fun hs_ => ?_)) <;> (have hp_ := hs_; (try simp only [hpL, ne_eq] at hp_); (try simp (disch := omega) only [bsW, WOp, WOq, WV, bo, eqN, gdc, gw, bnd, ↓reduceIte, Nat.reduceEqDiff, rsvs, rsv, oneOf, rdN, ne_eq, Nat.reduceAdd, Nat.reduceMul, Nat.reduceLT, reduceCtorEq, Value.cells, setN, Value.oneCell', Nat.reduceLeDiff, undef, fcT, fR, y2, e1, Bool.not_true, hs_]))) | ((first | (with_reducible refine newB_i (fun nb_ hb_ => ?_)) | (with_reducible refine RgE_i (fun (hBd_ : Bd _ _) => ?_))); (try simp (disch := omega) only [bsW, WOp, WOq, WV, bo, eqN, gdc, gw, bnd, ↓reduceIte, Nat.reduceEqDiff, rsvs, rsv, oneOf, rdN, ne_eq, Nat.reduceAdd, Nat.reduceMul, Nat.reduceLT, reduceCtorEq, Value.cells, setN, Value.oneCell', Nat.reduceLeDiff, undef, fcT, fR, y2, e1, Bool.not_true])) | (with_reducible refine fun (hBd_ : Bd _ _) => ?_) | ((first | (with_reducible refine @And.intro (Sub _ _) _ ?_ ?_) | ((with_reducible refine @And.intro (Sub _ _ ∧ _) _ ?_ ?_); (with_reducible refine @And.intro (Sub _ _) _ ?_ ?_))); exact sbX) | ((with_reducible refine And.intro ?_ ?_); omega)))
      all_goals try (exfalso; omega)
      have hcb : ∀ c, some c = ownBlk (.slice A3 (la ++ [hand]).length k3) → c = b' := fun c hc => by simpa using hc.trans hown'.symm
      have hw1' : ∀ c, some c = ownBlk (.slice A2 rj.length k2) → c ≠ b' := fun c hc e => by
        subst e
        rcases hb' with e | e
        · exact hdis _ e hc
        · have := OwnR.blk hw1 hc; omega
      exact stK_yes hyes rfl ⟨_, _, rfl, OwnR.lo (lo' := nx) (OwnR.keep hO2 (fun c hc => by have := hcb c hc; subst this; repeat rw [upd_ne (by omega)]) (by omega)) (by omega), OwnR.lo (lo' := nx) (OwnR.keep hw1 (fun c hc => by have := OwnR.blk hw1 hc; have := hw1' c hc; repeat rw [upd_ne (by omega)]) (by omega)) (by omega), fun c h1 h2 => hw1' c h2 (hcb c h1)⟩ (by (repeat (first | assumption | exact Sub.refl _ | (refine sub_up (nx := nx) ?_ hB ?_; omega))))
  · have hsl : sl = false := by simpa using hop
    subst hsl
    have e4 : stOk ⟨tot, la, hand, rj, false⟩ 3 pc = (decide (hand = 0) && decide (la ≠ []) && decide (la.getD (la.length - 1) 0 = pc)) := rfl
    have hmx : (if (0 : Int) > (la.length : Int) - 1 then (0 : Int) else (la.length : Int) - 1) = ((la.length - 1 : Nat) : Int) := by split <;> omega
    cases e1 : (hand == 0)
    · have hno : stOk ⟨tot, la, hand, rj, false⟩ 3 pc = false := by
        have : hand ≠ 0 := by simpa using e1
        rw [e4]; simp [this]
      refine AC_of x_impl_stepPuzzle rfl fun hB => ?_
      have hb0 := rd_lt hB c0
      simp (disch := omega) only [bsW, WOp, WOq, WV, bo, eqN, gdc, gw, bnd, ↓reduceIte, Nat.reduceEqDiff, rsvs, rsv, oneOf, rdN, ne_eq, Nat.reduceAdd, Nat.reduceMul, Nat.reduceLT, reduceCtorEq, Value.cells, setN, Value.oneCell', Nat.reduceLeDiff, undef, fcT, c0, c1, c2, c3, c4, d0, Int.reduceBEq, Int.reduceBNe, Int.reduceLT, Int.reduceNeg, c_impl_stepPuzzle]
      (repeat' (first | ((with_reducible refine gif_split (fun hs_ => ?_) (fun hs_ => ?_)) <;> (have hp_ := hs_; (try simp only [hpL, ne_eq] at hp_); (try simp (disch := omega) only [bsW, WOp, WOq, WV, bo, eqN, gdc, gw, bnd, ↓reduceIte, Nat.reduceEqDiff, rsvs, rsv, oneOf, rdN, ne_eq, Nat.reduceAdd, Nat.reduceMul, Nat.reduceLT, reduceCtorEq, Value.cells, setN, Value.oneCell', Nat.reduceLeDiff, undef, fcT, c0, c1, c2, c3, c4, d0, Int.reduceBEq, Int.reduceBNe, Int.reduceLT, Int.reduceNeg, hs_]))) | ((first | (with_reducible refine newB_i (fun nb_ hb_ => ?_)) | (with_reducible refine RgE_i (fun (hBd_ : Bd _ _) => ?_))); (try simp (disch := omega) only [bsW, WOp, WOq, WV, bo, eqN, gdc, gw, bnd, ↓reduceIte, Nat.reduceEqDiff, rsvs, rsv, oneOf, rdN, ne_eq, Nat.reduceAdd, Nat.reduceMul, Nat.reduceLT, reduceCtorEq, Value.cells, setN, Value.oneCell', Nat.reduceLeDiff, undef, fcT, c0, c1, c2, c3, c4, d0, Int.reduceBEq, Int.reduceBNe, Int.reduceLT, Int.reduceNeg])) | (with_reducible refine fun (hBd_ : Bd _ _) => ?_) | ((first | (with_reducible refine @And.intro (Sub _ _) _ ?_ ?_) | ((with_reducible refine @And.intro (Sub _ _ ∧ _) _ ?_ ?_); (with_reducible refine @And.intro (Sub _ _) _ ?_ ?_))); exact sbX) | ((with_reducible refine And.intro ?_ ?_); omega)))
      all_goals try (exfalso; omega)
      rename_i bS hbS
      have hbR := hb_
      generalize nb_ = bR at *
      have hs0 : Sub H (upd (upd H bS (.rw [.int .i64 3, .int .i64 pc] 41)) bR (.rw [.int .i64 0, .slice none 0 0, .int .i64 0, .slice none 0 0, .bool false] 28)) := by (repeat (first | assumption | exact Sub.refl _ | (refine sub_up (nx := nx) ?_ hB ?_; omega)))
      refine (copyPuzzle b tot A la c hand B rj d false _ _ (by omega) (by omega) (rd_sub hs0 c0) (rd_sub hs0 c1) (rd_sub hs0 c2) (rd_sub hs0 c3) (rd_sub hs0 c4) (hA.sub hs0) (hRB.sub hs0)).monoC ?_
      rintro v1 H1 nx1 hB1 hx1 ⟨hO1, ht1⟩
      obtain ⟨u1, w1, rfl, hu1, hw1, hdis⟩ := hO1.ex
      obtain ⟨A1, k1, rfl, hk1, hR1⟩ := OwnR.rd hu1
      obtain ⟨A2, k2, rfl, hk2, hR2⟩ := OwnR.rd hw1
      have hs1 := hs0.trans ht1
      have y0 := rd_sub hs1 c0
      have y1 := rd_sub hs1 c1
      have y2 := rd_sub hs1 c2
      have y3 := rd_sub hs1 c3
      have y4 := rd_sub hs1 c4
      have fR := ht1 bR _ (upd_same _ _ _)
      have fS := ht1 bS _ (by rw [upd_ne (by omega)]; exact upd_same _ _ _)
      have hu1 : OwnL H1 (bR + 1) nx1 la 3 (.slice A1 la.length k1) := hu1
      have hw1 : OwnL H1 (bR + 1) nx1 rj 3 (.slice A2 rj.length k2) := hw1
      have hk1 : la.length ≤ k1 := hk1
      have hk2 : rj.length ≤ k2 := hk2
      have hR2 : RdL H1 A2 rj := hR2
      simp (disch := omega) only [bsW, WOp, WOq, WV, bo, eqN, gdc, gw, bnd, ↓reduceIte, Nat.reduceEqDiff, rsvs, rsv, oneOf, rdN, ne_eq, Nat.reduceAdd, Nat.reduceMul, Nat.reduceLT, reduceCtorEq, Value.cells, setN, Value.oneCell', Nat.reduceLeDiff, undef, fcT, rd_rw fS, fR, y0, y1, y2, y3, y4, Int.reduceBEq, Int.reduceBNe, Int.reduceLT, Int.reduceNeg, e1, hmx, cutA_zero, Int.toNat_natCast, Nat.sub_zero, Bool.not_false]
      (repeat' (first | ((with_reducible refine gif_split (fun hs_ => ?_) (fun hs_ => ?_)) <;> (have hp_ := hs_; (try simp only [hpL, ne_eq] at hp_); (try simp (disch := omega) only [bsW, WOp, WOq, WV, bo, eqN, gdc, gw, bnd, ↓reduceIte, Nat.reduceEqDiff, rsvs, rsv, oneOf, rdN, ne_eq, Nat.reduceAdd, Nat.reduceMul, Nat.reduceLT, reduceCtorEq, Value.cells, setN, Value.oneCell', Nat.reduceLeDiff, undef, fcT, rd_rw fS, fR, y0, y1, y2, y3, y4, Int.reduceBEq, Int.reduceBNe, Int.reduceLT, Int.reduceNeg, e1, hmx, cutA_zero, Int.toNat_natCast, Nat.sub_zero, Bool.not_false, hs_]))) | ((first | (with_reducible refine newB_i (fun nb_ hb_ => ?_)) | (with_reducible refine RgE_i (fun (hBd_ : Bd _ _) => ?_))); (try simp (disch := omega) only [bsW, WOp, WOq, WV, bo, eqN, gdc, gw, bnd, ↓reduceIte, Nat.reduceEqDiff, rsvs, rsv, oneOf, rdN, ne_eq, Nat.reduceAdd, Nat.reduceMul, Nat.reduceLT, reduceCtorEq, Value.cells, setN, Value.oneCell', Nat.reduceLeDiff, undef, fcT, rd_rw fS, fR, y0, y1, y2, y3, y4, Int.reduceBEq, Int.reduceBNe, Int.reduceLT, Int.reduceNeg, e1, hmx, cutA_zero, Int.toNat_natCast, Nat.sub_zero, Bool.not_false])) | (with_reducible refine fun (hBd_ : Bd _ _) => ?_) | ((first | (with_reducible refine @And.intro (Sub _ _) _ ?_ ?_) | ((with_reducible refine @And.intro (Sub _ _ ∧ _) _ ?_ ?_); (with_reducible refine @And.intro (Sub _ _) _ ?_ ?_))); exact sbX) | ((with_reducible refine And.intro ?_ ?_); omega)))
      all_goals try (exfalso; omega)
      exact stK_no hno (by (repeat (first | assumption | exact Sub.refl _ | (refine sub_up (nx := nx) ?_ hB ?_; omega))))
    · have h0 : hand = 0 := by simpa using e1
      by_cases hl0 : 0 < la.length
      rotate_left
      · have hl1 : la = [] := List.eq_nil_of_length_eq_zero (by omega)
        have hno : stOk ⟨tot, la, hand, rj, false⟩ 3 pc = false := by rw [e4, hl1]; simp
        have g1 : decide ((0 : Int) ≤ (la.length : Int) - 1) = false := by simp; omega
        refine AC_of x_impl_stepPuzzle rfl fun hB => ?_
        have hb0 := rd_lt hB c0
        simp (disch := omega) only [bsW, WOp, WOq, WV, bo, eqN, gdc, gw, bnd, ↓reduceIte, Nat.reduceEqDiff, rsvs, rsv, oneOf, rdN, ne_eq, Nat.reduceAdd, Nat.reduceMul, Nat.reduceLT, reduceCtorEq, Value.cells, setN, Value.oneCell', Nat.reduceLeDiff, undef, fcT, c0, c1, c2, c3, c4, d0, Int.reduceBEq, Int.reduceBNe, Int.reduceLT, Int.reduceNeg, c_impl_stepPuzzle]
        (repeat' (first | ((with_reducible refine gif_split (fun hs_ => ?_) (fun hs_ => ?_)) <;> (have hp_ := hs_; (try simp only [hpL, ne_eq] at hp_); (try simp (disch := omega) only [bsW, WOp, WOq, WV, bo, eqN, gdc, gw, bnd, ↓reduceIte, Nat.reduceEqDiff, rsvs, rsv, oneOf, rdN, ne_eq, Nat.reduceAdd, Nat.reduceMul, Nat.reduceLT, reduceCtorEq, Value.cells, setN, Value.oneCell', Nat.reduceLeDiff, undef, fcT, c0, c1, c2, c3, c4, d0, Int.reduceBEq, Int.reduceBNe, Int.reduceLT, Int.reduceNeg, hs_]))) | ((first | (with_reducible refine newB_i (fun nb_ hb_ => ?_)) | (with_reducible refine RgE_i (fun (hBd_ : Bd _ _) => ?_))); (try simp (disch := omega) only [bsW, WOp, WOq, WV, bo, eqN, gdc, gw, bnd, ↓reduceIte, Nat.reduceEqDiff, rsvs, rsv, oneOf, rdN, ne_eq, Nat.reduceAdd, Nat.reduceMul, Nat.reduceLT, reduceCtorEq, Value.cells, setN, Value.oneCell', Nat.reduceLeDiff, undef, fcT, c0, c1, c2, c3, c4, d0, Int.reduceBEq, Int.reduceBNe, Int.reduceLT, Int.reduceNeg])) | (with_reducible refine fun (hBd_ : Bd _ _) => ?_) | ((first | (with_reducible refine @And.intro (Sub _ _) _ ?_ ?_) | ((with_reducible refine @And.intro (Sub _ _ ∧ _) _ ?_ ?_); (with_reducible refine @And.intro (Sub _ _) _ ?_ ?_))); exact sbX) | ((with_reducible refine And.intro ?_ ?_); omega)))
        all_goals try (exfalso; omega)
        rename_i bS hbS
        have hbR := hb_
        generalize nb_ = bR at *
        have hs0 : Sub H (upd (upd H bS (.rw [.int .i64 3, .int .i64 pc] 41)) bR (.rw [.int .i64 0, .slice none 0 0, .int .i64 0, .slice none 0 0, .bool false] 28)) := by (repeat (first | assumption | exact Sub.refl _ | (refine sub_up (nx := nx) ?_ hB ?_; omega)))
        refine (copyPuzzle b tot A la c hand B rj d false _ _ (by omega) (by omega) (rd_sub hs0 c0) (rd_sub hs0 c1) (rd_sub hs0 c2) (rd_sub hs0 c3) (rd_sub hs0 c4) (hA.sub hs0) (hRB.sub hs0)).monoC ?_
        rintro v1 H1 nx1 hB1 hx1 ⟨hO1, ht1⟩
        obtain ⟨u1, w1, rfl, hu1, hw1, hdis⟩ := hO1.ex
        obtain ⟨A1, k1, rfl, hk1, hR1⟩ := OwnR.rd hu1
        obtain ⟨A2, k2, rfl, hk2, hR2⟩ := OwnR.rd hw1
        have hs1 := hs0.trans ht1
        have y0 := rd_sub hs1 c0
        have y1 := rd_sub hs1 c1
        have y2 := rd_sub hs1 c2
        have y3 := rd_sub hs1 c3
        have y4 := rd_sub hs1 c4
        have fR := ht1 bR _ (upd_same _ _ _)
        have fS := ht1 bS _ (by rw [upd_ne (by omega)]; exact upd_same _ _ _)
        have hu1 : OwnL H1 (bR + 1) nx1 la 3 (.slice A1 la.length k1) := hu1
        have hw1 : OwnL H1 (bR + 1) nx1 rj 3 (.slice A2 rj.length k2) := hw1
        have hk1 : la.length ≤ k1 := hk1
        have hk2 : rj.length ≤ k2 := hk2
        have hR2 : RdL H1 A2 rj := hR2
        simp (disch := omega) only [bsW, WOp, WOq, WV, bo, eqN, gdc, gw, bnd, ↓reduceIte, Nat.reduceEqDiff, rsvs, rsv, oneOf, rdN, ne_eq, Nat.reduceAdd, Nat.reduceMul, Nat.reduceLT, reduceCtorEq, Value.cells, setN, Value.oneCell', Nat.reduceLeDiff, undef, fcT, rd_rw fS, fR, y0, y1, y2, y3, y4, Int.reduceBEq, Int.reduceBNe, Int.reduceLT, Int.reduceNeg, e1, g1, hmx, cutA_zero, Int.toNat_natCast, Nat.sub_zero, Bool.not_false]
        (repeat' (first | ((with_reducible refine gif_split (fun hs_ => ?_) (fun hs_ => ?_)) <;> (have hp_ := hs_; (try simp only [hpL, ne_eq] at hp_); (try simp (disch := omega) only [bsW, WOp, WOq, WV, bo, eqN, gdc, gw, bnd, ↓reduceIte, Nat.reduceEqDiff, rsvs, rsv, oneOf, rdN, ne_eq, Nat.reduceAdd, Nat.reduceMul, Nat.reduceLT, reduceCtorEq, Value.cells, setN, Value.oneCell', Nat.reduceLeDiff, undef, fcT, rd_rw fS, fR, y0, y1, y2, y3, y4, Int.reduceBEq, Int.reduceBNe, Int.reduceLT, Int.reduceNeg, e1, g1, hmx, cutA_zero, Int.toNat_natCast, Nat.sub_zero, Bool.not_false, hs_]))) | ((first | (with_reducible refine newB_i (fun nb_ hb_ => ?_)) | (with_reducible refine RgE_i (fun (hBd_ : Bd _ _) => ?_))); (try simp (disch := omega) only [bsW, WOp, WOq, WV, bo, eqN, gdc, gw, bnd, ↓reduceIte, Nat.reduceEqDiff, rsvs, rsv, oneOf, rdN, ne_eq, Nat.reduceAdd, Nat.reduceMul, Nat.reduceLT, reduceCtorEq, Value.cells, setN, Value.oneCell', Nat.reduceLeDiff, undef, fcT, rd_rw fS, fR, y0, y1, y2, y3, y4, Int.reduceBEq, Int.reduceBNe, Int.reduceLT, Int.reduceNeg, e1, g1, hmx, cutA_zero, Int.toNat_natCast, Nat.sub_zero, Bool.not_false])) | (with_reducible refine fun (hBd_ : Bd _ _) => ?_) | ((first | (with_reducible refine @And.intro (Sub _ _) _ ?_ ?_) | ((with_reducible refine @And.intro (Sub _ _ ∧ _) _ ?_ ?_); (with_reducible refine @And.intro (Sub _ _) _ ?_ ?_))); exact sbX) | ((with_reducible refine And.intro ?_ ?_); omega)))
        all_goals try (exfalso; omega)
        exact stK_no hno (by (repeat (first | assumption | exact Sub.refl _ | (refine sub_up (nx := nx) ?_ hB ?_; omega))))
      · have g1 : decide ((0 : Int) ≤ (la.length : Int) - 1) = true := by simp; omega
        have ek : ((la.length : Int) - 1).toNat = la.length - 1 := by omega
        obtain ⟨bL, oL, rfl, cL⟩ := hA.at_ (show la.length - 1 < la.length by omega)
        cases e3 : (la.getD (la.length - 1) 0 == pc)
        · have hno : stOk ⟨tot, la, hand, rj, false⟩ 3 pc = false := by
            have : ¬ la.getD (la.length - 1) 0 = pc := by simpa using e3
            rw [e4, decide_eq_false this]; simp
          refine AC_of x_impl_stepPuzzle rfl fun hB => ?_
          have hb0 := rd_lt hB c0
          simp (disch := omega) only [bsW, WOp, WOq, WV, bo, eqN, gdc, gw, bnd, ↓reduceIte, Nat.reduceEqDiff, rsvs, rsv, oneOf, rdN, ne_eq, Nat.reduceAdd, Nat.reduceMul, Nat.reduceLT, reduceCtorEq, Value.cells, setN, Value.oneCell', Nat.reduceLeDiff, undef, fcT, c0, c1, c2, c3, c4, d0, Int.reduceBEq, Int.reduceBNe, Int.reduceLT, Int.reduceNeg, c_impl_stepPuzzle]
          (repeat' (first | ((with_reducible refine gif_split (fun hs_ => ?_) (fun hs_ => ?_)) <;> (have hp_ := hs_; (try simp only [hpL, ne_eq] at hp_); (try simp (disch := omega) only [bsW, WOp, WOq, WV, bo, eqN, gdc, gw, bnd, ↓reduceIte, Nat.reduceEqDiff, rsvs, rsv, oneOf, rdN, ne_eq, Nat.reduceAdd, Nat.reduceMul, Nat.reduceLT, reduceCtorEq, Value.cells, setN, Value.oneCell', Nat.reduceLeDiff, undef, fcT, c0, c1, c2, c3, c4, d0, Int.reduceBEq, Int.reduceBNe, Int.reduceLT, Int.reduceNeg, hs_]))) | ((first | (with_reducible refine newB_i (fun nb_ hb_ => ?_)) | (with_reducible refine RgE_i (fun (hBd_ : Bd _ _) => ?_))); (try simp (disch := omega) only [bsW, WOp, WOq, WV, bo, eqN, gdc, gw, bnd, ↓reduceIte, Nat.reduceEqDiff, rsvs, rsv, oneOf, rdN, ne_eq, Nat.reduceAdd, Nat.reduceMul, Nat.reduceLT, reduceCtorEq, Value.cells, setN, Value.oneCell', Nat.reduceLeDiff, undef, fcT, c0, c1, c2, c3, c4, d0, Int.reduceBEq, Int.reduceBNe, Int.reduceLT, Int.reduceNeg])) | (with_reducible refine fun (hBd_ : Bd _ _) => ?_) | ((first | (with_reducible refine @And.intro (Sub _ _) _ ?_ ?_) | ((with_reducible refine @And.intro (Sub _ _ ∧ _) _ ?_ ?_); (with_reducible refine @And.intro (Sub _ _) _ ?_ ?_))); exact sbX) | ((with_reducible refine And.intro ?_ ?_); omega)))
          all_goals try (exfalso; omega)
          rename_i bS hbS
          have hbR := hb_
          generalize nb_ = bR at *
          have hs0 : Sub H (upd (upd H bS (.rw [.int .i64 3, .int .i64 pc] 41)) bR (.rw [.int .i64 0, .slice none 0 0, .int .i64 0, .slice none 0 0, .bool false] 28)) := by (repeat (first | assumption | exact Sub.refl _ | (refine sub_up (nx := nx) ?_ hB ?_; omega)))
          refine (copyPuzzle b tot _ la c hand B rj d false _ _ (by omega) (by omega) (rd_sub hs0 c0) (rd_sub hs0 c1) (rd_sub hs0 c2) (rd_sub hs0 c3) (rd_sub hs0 c4) (hA.sub hs0) (hRB.sub hs0)).monoC ?_
          rintro v1 H1 nx1 hB1 hx1 ⟨hO1, ht1⟩
          obtain ⟨u1, w1, rfl, hu1, hw1, hdis⟩ := hO1.ex
          obtain ⟨A1, k1, rfl, hk1, hR1⟩ := OwnR.rd hu1
          obtain ⟨A2, k2, rfl, hk2, hR2⟩ := OwnR.rd hw1
          have hs1 := hs0.trans ht1
          have y0 := rd_sub hs1 c0
          have y1 := rd_sub hs1 c1
          have y2 := rd_sub hs1 c2
          have y3 := rd_sub hs1 c3
          have y4 := rd_sub hs1 c4
          have fR := ht1 bR _ (upd_same _ _ _)
          have fS := ht1 bS _ (by rw [upd_ne (by omega)]; exact upd_same _ _ _)
          have hu1 : OwnL H1 (bR + 1) nx1 la 3 (.slice A1 la.length k1) := hu1
          have hw1 : OwnL H1 (bR + 1) nx1 rj 3 (.slice A2 rj.length k2) := hw1
          have hk1 : la.length ≤ k1 := hk1
          have hk2 : rj.length ≤ k2 := hk2
          have hR2 : RdL H1 A2 rj := hR2
          have cL1 := rd_sub hs1 cL
          have hbL := rd_lt hB cL
          simp (disch := omega) only [bsW, WOp, WOq, WV, bo, eqN, gdc, gw, bnd, ↓reduceIte, Nat.reduceEqDiff, rsvs, rsv, oneOf, rdN, ne_eq, Nat.reduceAdd, Nat.reduceMul, Nat.reduceLT, reduceCtorEq, Value.cells, setN, Value.oneCell', Nat.reduceLeDiff, undef, fcT, rd_rw fS, fR, y0, y1, y2, y3, y4, Int.reduceBEq, Int.reduceBNe, Int.reduceLT, Int.reduceNeg, e1, g1, e3, ek, cL1, hmx, cutA_zero, Int.toNat_natCast, Nat.sub_zero, Nat.mul_one, Bool.not_false]
          (repeat' (first | ((with_reducible refine gif_split (fun hs_ => ?_) (fun hs_ => ?_)) <;> (have hp_ := hs_; (try simp only [hpL, ne_eq] at hp_); (try simp (disch := omega) only [bsW, WOp, WOq, WV, bo, eqN, gdc, gw, bnd, ↓reduceIte, Nat.reduceEqDiff, rsvs, rsv, oneOf, rdN, ne_eq, Nat.reduceAdd, Nat.reduceMul, Nat.reduceLT, reduceCtorEq, Value.cells, setN, Value.oneCell', Nat.reduceLeDiff, undef, fcT, rd_rw fS, fR, y0, y1, y2, y3, y4, Int.reduceBEq, Int.reduceBNe, Int.reduceLT, Int.reduceNeg, e1, g1, e3, ek, cL1, hmx, cutA_zero, Int.toNat_natCast, Nat.sub_zero, Nat.mul_one, Bool.not_false, hs_]))) | ((first | (with_reducible refine newB_i (fun nb_ hb_ => ?_)) | (with_reducible refine RgE_i (fun (hBd_ : Bd _ _) => ?_))); (try simp (disch := omega) only [bsW, WOp, WOq, WV, bo, eqN, gdc, gw, bnd, ↓reduceIte, Nat.reduceEqDiff, rsvs, rsv, oneOf, rdN, ne_eq, Nat.reduceAdd, Nat.reduceMul, Nat.reduceLT, reduceCtorEq, Value.cells, setN, Value.oneCell', Nat.reduceLeDiff, undef, fcT, rd_rw fS, fR, y0, y1, y2, y3, y4, Int.reduceBEq, Int.reduceBNe, Int.reduceLT, Int.reduceNeg, e1, g1, e3, ek, cL1, hmx, cutA_zero, Int.toNat_natCast, Nat.sub_zero, Nat.mul_one, Bool.not_false])) | (with_reducible refine fun (hBd_ : Bd _ _) => ?_) | ((first | (with_reducible refine @And.intro (Sub _ _) _ ?_ ?_) | ((with_reducible refine @And.intro (Sub _ _ ∧ _) _ ?_ ?_); (with_reducible refine @And.intro (Sub _ _) _ ?_ ?_))); exact sbX) | ((with_reducible refine And.intro ?_ ?_); omega)))
          all_goals try (exfalso; omega)
          exact stK_no hno (by (repeat (first | assumption | exact Sub.refl _ | (refine sub_up (nx := nx) ?_ hB ?_; omega))))
        · have hyes : stOk ⟨tot, la, hand, rj, false⟩ 3 pc = true := by
            have : la.getD (la.length - 1) 0 = pc := by simpa using e3
            have h2 : la ≠ [] := fun e => by rw [e] at hl0; simp at hl0
            rw [e4, decide_eq_true this, decide_eq_true h0, decide_eq_true h2]; rfl
          refine AC_of x_impl_stepPuzzle rfl fun hB => ?_
          have hb0 := rd_lt hB c0
          simp (disch := omega) only [bsW, WOp, WOq, WV, bo, eqN, gdc, gw, bnd, ↓reduceIte, Nat.reduceEqDiff, rsvs, rsv, oneOf, rdN, ne_eq, Nat.reduceAdd, Nat.reduceMul, Nat.reduceLT, reduceCtorEq, Value.cells, setN, Value.oneCell', Nat.reduceLeDiff, undef, fcT, c0, c1, c2, c3, c4, d0, Int.reduceBEq, Int.reduceBNe, Int.reduceLT, Int.reduceNeg, c_impl_stepPuzzle]
          (repeat' (first | ((with_reducible refine gif_split (fun hs_ => ?_) (fun hs_ => ?_)) <;> (have hp_ := hs_; (try simp only [hpL, ne_eq] at hp_); (try simp (disch := omega) only [bsW, WOp, WOq, WV, bo, eqN, gdc, gw, bnd, ↓reduceIte, Nat.reduceEqDiff, rsvs, rsv, oneOf, rdN, ne_eq, Nat.reduceAdd, Nat.reduceMul, Nat.reduceLT, reduceCtorEq, Value.cells, setN, Value.oneCell', Nat.reduceLeDiff, undef, fcT, c0, c1, c2, c3, c4, d0, Int.reduceBEq, Int.reduceBNe, Int.reduceLT, Int.reduceNeg, hs_]))) | ((first | (with_reducible refine newB_i (fun nb_ hb_ => ?_)) | (with_reducible refine RgE_i (fun (hBd_ : Bd _ _) => ?_))); (try simp (disch := omega) only [bsW, WOp, WOq, WV, bo, eqN, gdc, gw, bnd, ↓reduceIte, Nat.reduceEqDiff, rsvs, rsv, oneOf, rdN, ne_eq, Nat.reduceAdd, Nat.reduceMul, Nat.reduceLT, reduceCtorEq, Value.cells, setN, Value.oneCell', Nat.reduceLeDiff, undef, fcT, c0, c1, c2, c3, c4, d0, Int.reduceBEq, Int.reduceBNe, Int.reduceLT, Int.reduceNeg])) | (with_reducible refine fun (hBd_ : Bd _ _) => ?_) | ((first | (with_reducible refine @And.intro (Sub _ _) _ ?_ ?_) | ((with_reducible refine @And.intro (Sub _ _ ∧ _) _ ?_ ?_); (with_reducible refine @And.intro (Sub _ _) _ ?_ ?_))); exact sbX) | ((with_reducible refine And.intro ?_ ?_); omega)))
          all_goals try (exfalso; omega)
          rename_i bS hbS
          have hbR := hb_
          generalize nb_ = bR at *
          have hs0 : Sub H (upd (upd H bS (.rw [.int .i64 3, .int .i64 pc] 41)) bR (.rw [.int .i64 0, .slice none 0 0, .int .i64 0, .slice none 0 0, .bool false] 28)) := by (repeat (first | assumption | exact Sub.refl _ | (refine sub_up (nx := nx) ?_ hB ?_; omega)))
          refine (copyPuzzle b tot _ la c hand B rj d false _ _ (by omega) (by omega) (rd_sub hs0 c0) (rd_sub hs0 c1) (rd_sub hs0 c2) (rd_sub hs0 c3) (rd_sub hs0 c4) (hA.sub hs0) (hRB.sub hs0)).monoC ?_
          rintro v1 H1 nx1 hB1 hx1 ⟨hO1, ht1⟩
          obtain ⟨u1, w1, rfl, hu1, hw1, hdis⟩ := hO1.ex
          obtain ⟨A1, k1, rfl, hk1, hR1⟩ := OwnR.rd hu1
          obtain ⟨A2, k2, rfl, hk2, hR2⟩ := OwnR.rd hw1
          have hs1 := hs0.trans ht1
          have y0 := rd_sub hs1 c0
          have y1 := rd_sub hs1 c1
          have y2 := rd_sub hs1 c2
          have y3 := rd_sub hs1 c3
          have y4 := rd_sub hs1 c4
          have fR := ht1 bR _ (upd_same _ _ _)
          have fS := ht1 bS _ (by rw [upd_ne (by omega)]; exact upd_same _ _ _)
          have hu1 : OwnL H1 (bR + 1) nx1 la 3 (.slice A1 la.length k1) := hu1
          have hw1 : OwnL H1 (bR + 1) nx1 rj 3 (.slice A2 rj.length k2) := hw1
          have hk1 : la.length ≤ k1 := hk1
          have hk2 : rj.length ≤ k2 := hk2
          have hR2 : RdL H1 A2 rj := hR2
          have cL1 := rd_sub hs1 cL
          have hbL := rd_lt hB cL
          simp (disch := omega) only [bsW, WOp, WOq, WV, bo, eqN, gdc, gw, bnd, ↓reduceIte, Nat.reduceEqDiff, rsvs, rsv, oneOf, rdN, ne_eq, Nat.reduceAdd, Nat.reduceMul, Nat.reduceLT, reduceCtorEq, Value.cells, setN, Value.oneCell', Nat.reduceLeDiff, undef, fcT, rd_rw fS, fR, y0, y1, y2, y3, y4, Int.reduceBEq, Int.reduceBNe, Int.reduceLT, Int.reduceNeg, e1, g1, e3, ek, cL1, hmx, cutA_zero, Int.toNat_natCast, Nat.sub_zero, Nat.mul_one, Bool.not_true]
          (repeat' (first | ((with_reducible refine gif_split (fun hs_ => ?_) (fun hs_ => ?_)) <;> (have hp_ := hs_; (try simp only [hpL, ne_eq] at hp_); (try simp (disch := omega) only [bsW, WOp, WOq, WV, bo, eqN, gdc, gw, bnd, ↓reduceIte, Nat.reduceEqDiff, rsvs, rsv, oneOf, rdN, ne_eq, Nat.reduceAdd, Nat.reduceMul, Nat.reduceLT, reduceCtorEq, Value.cells, setN, Value.oneCell', Nat.reduceLeDiff, undef, fcT, rd_rw fS, fR, y0, y1, y2, y3, y4, Int.reduceBEq, Int.reduceBNe, Int.reduceLT, Int.reduceNeg, e1, g1, e3, ek, cL1, hmx, cutA_zero, Int.toNat_natCast, Nat.sub_zero, Nat.mul_one, Bool.not_true, hs_]))) | ((first | (with_reducible refine newB_i (fun nb_ hb_ => ?_)) | (with_reducible refine RgE_i (fun (hBd_ : Bd _ _) => ?_))); (try simp (disch := omega) only [bsW, WOp, WOq, WV, bo, eqN, gdc, gw, bnd, ↓reduceIte, Nat.reduceEqDiff, rsvs, rsv, oneOf, rdN, ne_eq, Nat.reduceAdd, Nat.reduceMul, Nat.reduceLT, reduceCtorEq, Value.cells, setN, Value.oneCell', Nat.reduceLeDiff, undef, fcT, rd_rw fS, fR, y0, y1, y2, y3, y4, Int.reduceBEq, Int.reduceBNe, Int.reduceLT, Int.reduceNeg, e1, g1, e3, ek, cL1, hmx, cutA_zero, Int.toNat_natCast, Nat.sub_zero, Nat.mul_one, Bool.not_true])) | (with_reducible refine fun (hBd_ : Bd _ _) => ?_) | ((first | (with_reducible refine @And.intro (Sub _ _) _ ?_ ?_) | ((with_reducible refine @And.intro (Sub _ _ ∧ _) _ ?_ ?_); (with_reducible refine @And.intro (Sub _ _) _ ?_ ?_))); exact sbX) | ((with_reducible refine And.intro ?_ ?_); omega)))
          all_goals try (exfalso; omega)
          have hu2 := OwnL.take hu1 (show la.length - 1 ≤ la.length by omega)
          have ebk : ∀ c, some c = ownBlk (.slice A1 (la.length - 1) k1) → some c = ownBlk (.slice A1 la.length k1) := fun c hc => by cases A1 <;> exact hc
          exact stK_yes hyes rfl ⟨_, _, rfl, OwnR.lo (lo' := nx) (OwnR.keep hu2 (fun c hc => by have := OwnR.blk hu2 hc; repeat rw [upd_ne (by omega)]) (by omega)) (by omega), OwnR.lo (lo' := nx) (OwnR.keep hw1 (fun c hc => by have := OwnR.blk hw1 hc; repeat rw [upd_ne (by omega)]) (by omega)) (by omega), fun c h1 h2 => hdis c (ebk c h1) h2⟩ (by (repeat (first | assumption | exact Sub.refl _ | (refine sub_up (nx := nx) ?_ hB ?_; omega))))
  · have hsl : sl = false := by simpa using hop
    subst hsl
    have hpl := plc_pos hand hv.asc
    have hpl1 : posL rj hand ≤ rj.length := hpl.1
    refine AC_of x_impl_stepPuzzle rfl fun hB => ?_
    have hb0 := rd_lt hB c0
    simp (disch := omega) only [bsW, WOp, WOq, WV, bo, eqN, gdc, gw, bnd, ↓reduceIte, Nat.reduceEqDiff, rsvs, rsv, oneOf, rdN, ne_eq, Nat.reduceAdd, Nat.reduceMul, Nat.reduceLT, reduceCtorEq, Value.cells, setN, Value.oneCell', Nat.reduceLeDiff, undef, fcT, c0, c1, c2, c3, c4, d0, Int.reduceBEq, Int.reduceBNe, Int.reduceLT, Int.reduceNeg, c_impl_stepPuzzle]
    (repeat' (first | ((with_reducible refine gif_split (fun hs_ => ?_) (fun hs_ => ?_)) <;> (have hp_ := hs_; (try simp only [hpL, ne_eq] at hp_); (try simp (disch := omega) only [bsW, WOp, WOq, WV, bo, eqN, gdc, gw, bnd, ↓reduceIte, Nat.reduceEqDiff, rsvs, rsv, oneOf, rdN, ne_eq, Nat.reduceAdd, Nat.reduceMul, Nat.reduceLT, reduceCtorEq, Value.cells, setN, Value.oneCell', Nat.reduceLeDiff, undef, fcT, c0, c1, c2, c3, c4, d0, Int.reduceBEq, Int.reduceBNe, Int.reduceLT, Int.reduceNeg, hs_]))) | ((first | (with_reducible refine newB_i (fun nb_ hb_ => ?_)) | (with_reducible refine RgE_i (fun (hBd_ : Bd _ _) => ?_))); (try simp (disch := omega) only [bsW, WOp, WOq, WV, bo, eqN, gdc, gw, bnd, ↓reduceIte, Nat.reduceEqDiff, rsvs, rsv, oneOf, rdN, ne_eq, Nat.reduceAdd, Nat.reduceMul, Nat.reduceLT, reduceCtorEq, Value.cells, setN, Value.oneCell', Nat.reduceLeDiff, undef, fcT, c0, c1, c2, c3, c4, d0, Int.reduceBEq, Int.reduceBNe, Int.reduceLT, Int.reduceNeg])) | (with_reducible refine fun (hBd_ : Bd _ _) => ?_) | ((first | (with_reducible refine @And.intro (Sub _ _) _ ?_ ?_) | ((with_reducible refine @And.intro (Sub _ _ ∧ _) _ ?_ ?_); (with_reducible refine @And.intro (Sub _ _) _ ?_ ?_))); exact sbX) | ((with_reducible refine And.intro ?_ ?_); omega)))
    all_goals try (exfalso; omega)
    rename_i bS hbS
    have hbR := hb_
    generalize nb_ = bR at *
    have hs0 : Sub H (upd (upd H bS (.rw [.int .i64 4, .int .i64 pc] 41)) bR (.rw [.int .i64 0, .slice none 0 0, .int .i64 0, .slice none 0 0, .bool false] 28)) := by (repeat (first | assumption | exact Sub.refl _ | (refine sub_up (nx := nx) ?_ hB ?_; omega)))
    refine (copyPuzzle b tot A la c hand B rj d false _ _ (by omega) (by omega) (rd_sub hs0 c0) (rd_sub hs0 c1) (rd_sub hs0 c2) (rd_sub hs0 c3) (rd_sub hs0 c4) (hA.sub hs0) (hRB.sub hs0)).monoC ?_
    rintro v1 H1 nx1 hB1 hx1 ⟨hO1, ht1⟩
    obtain ⟨u1, w1, rfl, hu1, hw1, hdis⟩ := hO1.ex
    obtain ⟨A1, k1, rfl, hk1, hR1⟩ := OwnR.rd hu1
    obtain ⟨A2, k2, rfl, hk2, hR2⟩ := OwnR.rd hw1
    have hs1 := hs0.trans ht1
    have y0 := rd_sub hs1 c0
    have y1 := rd_sub hs1 c1
    have y2 := rd_sub hs1 c2
    have y3 := rd_sub hs1 c3
    have y4 := rd_sub hs1 c4
    have fR := ht1 bR _ (upd_same _ _ _)
    have fS := ht1 bS _ (by rw [upd_ne (by omega)]; exact upd_same _ _ _)
    have hu1 : OwnL H1 (bR + 1) nx1 la 3 (.slice A1 la.length k1) := hu1
    have hw1 : OwnL H1 (bR + 1) nx1 rj 3 (.slice A2 rj.length k2) := hw1
    have hk1 : la.length ≤ k1 := hk1
    have hk2 : rj.length ≤ k2 := hk2
    have hR2 : RdL H1 A2 rj := hR2
    simp (disch := omega) only [bsW, WOp, WOq, WV, bo, eqN, gdc, gw, bnd, ↓reduceIte, Nat.reduceEqDiff, rsvs, rsv, oneOf, rdN, ne_eq, Nat.reduceAdd, Nat.reduceMul, Nat.reduceLT, reduceCtorEq, Value.cells, setN, Value.oneCell', Nat.reduceLeDiff, undef, fcT, rd_rw fS, fR, y0, y1, y2, y3, y4, Int.reduceBEq, Int.reduceBNe, Int.reduceLT, Int.reduceNeg]
    (repeat' (first | ((with_reducible refine gif_split (fun hs_ => ?_) (fun hs_ => ?_)) <;> (have hp_ := hs_; (try simp only [hpL, ne_eq] at hp_); (try simp (disch := omega) only [bsW, WOp, WOq, WV, bo, eqN, gdc, gw, bnd, ↓reduceIte, Nat.reduceEqDiff, rsvs, rsv, oneOf, rdN, ne_eq, Nat.reduceAdd, Nat.reduceMul, Nat.reduceLT, reduceCtorEq, Value.cells, setN, Value.oneCell', Nat.reduceLeDiff, undef, fcT, rd_rw fS, fR, y0, y1, y2, y3, y4, Int.reduceBEq, Int.reduceBNe, Int.reduceLT, Int.reduceNeg, hs_]))) | ((first | (with_reducible refine newB_i (fun nb_ hb_ => ?_)) | ((with_reducible show QC _ _ _ _ _ _); (first | (refine QC_i (binSearch A2 rj k2 hand _ _ (by omega) hv.asc (hR2.sub (sub_up (nx := nx1) (by omega) hB1 (Sub.refl _)))) ?_))) | ((with_reducible show AC _ _ _ _ _ _); (first | (refine PC.ac (binSearch A2 rj k2 hand _ _ (by omega) hv.asc (hR2.sub (sub_up (nx := nx1) (by omega) hB1 (Sub.refl _)))) ?_))) | (with_reducible refine RgE_i (fun (hBd_ : Bd _ _) => ?_))); (try simp (disch := omega) only [bsW, WOp, WOq, WV, bo, eqN, gdc, gw, bnd, ↓reduceIte, Nat.reduceEqDiff, rsvs, rsv, oneOf, rdN, ne_eq, Nat.reduceAdd, Nat.reduceMul, Nat.reduceLT, reduceCtorEq, Value.cells, setN, Value.oneCell', Nat.reduceLeDiff, undef, fcT, rd_rw fS, fR, y0, y1, y2, y3, y4, Int.reduceBEq, Int.reduceBNe, Int.reduceLT, Int.reduceNeg])) | (with_reducible refine fun (hBd_ : Bd _ _) => ?_) | ((first | (with_reducible refine @And.intro (Sub _ _) _ ?_ ?_) | ((with_reducible refine @And.intro (Sub _ _ ∧ _) _ ?_ ?_); (with_reducible refine @And.intro (Sub _ _) _ ?_ ?_))); exact sbX) | ((with_reducible refine And.intro ?_ ?_); omega)))
    all_goals try (exfalso; omega)
    rename_i bO hbO
    refine (insertI (.slice A2 rj.length k2) rj (posL rj hand) hand (bR + 1) nb_ 0 _ _ (by omega) (by omega) hpl1 (OwnR.keep hw1 (fun c hc => by have := OwnR.blk hw1 hc; repeat rw [upd_ne (by omega)]) (by omega)) (upd_same _ _ _) (fun e => by have := OwnR.blk hw1 e; omega) (by omega)).monoC ?_
    rintro v3 H3 nx3 hB3 hx3 ⟨hO3, hoth3, hat3⟩
    rw [← insA_plc hpl] at hO3
    have hsame : ∀ c, c < nx1 → some c ≠ ownBlk (.slice A2 rj.length k2) → H3 c = H1 c := fun c hc hn => by rw [hoth3 c (by omega) hn, upd_ne (by omega), upd_ne (by omega)]
    have hnA2 : ∀ c, c < bR + 1 → some c ≠ ownBlk (.slice A2 rj.length k2) := fun c hc e => by have := OwnR.blk hw1 e; omega
    have fO3 := (hoth3 bO (by omega) (fun e => by have := OwnR.blk hw1 e; omega)).trans ((upd_ne (by omega)).trans (upd_same _ _ _))
    have fR3 := (hsame bR (by omega) (hnA2 bR (by omega))).trans fR
    have z2 : rd H3 b 2 = some (.int .i64 hand) := by unfold rd; rw [hsame b (by omega) (hnA2 b (by omega))]; exact y2
    have hs3 : Sub H H3 := fun c o e => by have := hB c o e; rw [hsame c (by omega) (hnA2 c (by omega))]; exact hs1 c o e
    have hu3 : OwnL H3 (bR + 1) nx1 la 3 (.slice A1 la.length k1) := OwnR.keep hu1 (fun c hc => hsame c (OwnR.blk hu1 hc).2 (fun e => hdis c hc e)) (Nat.le_refl _)
    obtain ⟨A3, k3, rfl, _, _⟩ := OwnR.rd hO3
    have hcO : ∀ c, some c = ownBlk (.slice A3 (insA rj hand).length k3) → c ≠ bO ∧ c ≠ bR := fun c hc => by
      have h9 := OwnR.blk hO3 hc
      rcases hat3 c hc with e | e
      · have := OwnR.blk hw1 e; omega
      · omega
    cases e1 : decide (0 < hand)
    · have hno : stOk ⟨tot, la, hand, rj, false⟩ 4 pc = false := e1
      simp (disch := omega) only [bsW, WOp, WOq, WV, bo, eqN, gdc, gw, bnd, ↓reduceIte, Nat.reduceEqDiff, rsvs, rsv, oneOf, rdN, ne_eq, Nat.reduceAdd, Nat.reduceMul, Nat.reduceLT, reduceCtorEq, Value.cells, setN, Value.oneCell', Nat.reduceLeDiff, undef, fcT, fO3, rd_rw fO3, fR3, z2, e1, Bool.not_false]
      (repeat' (first | ((with_reducible refine gif_split (fun hs_ => ?_) (fun hs_ => ?_)) <;> (have hp_ := hs_; (try simp only [hpL, ne_eq] at hp_); (try simp (disch := omega) only [bsW, WOp, WOq, WV, bo, eqN, gdc, gw, bnd, ↓reduceIte, Nat.reduceEqDiff, rsvs, rsv, oneOf, rdN, ne_eq, Nat.reduceAdd, Nat.reduceMul, Nat.reduceLT, reduceCtorEq, Value.cells, setN, Value.oneCell', Nat.reduceLeDiff, undef, fcT, fO3, rd_rw fO3, fR3, z2, e1, Bool.not_false, hs_]))) | ((first | (with_reducible refine newB_i (fun nb_ hb_ => ?_)) | (with_reducible refine RgE_i (fun (hBd_ : Bd _ _) => ?_))); (try simp (disch := omega) only [bsW, WOp, WOq, WV, bo, eqN, gdc, gw, bnd, ↓reduceIte, Nat.reduceEqDiff, rsvs, rsv, oneOf, rdN, ne_eq, Nat.reduceAdd, Nat.reduceMul, Nat.reduceLT, reduceCtorEq, Value.cells, setN, Value.oneCell', Nat.reduceLeDiff, undef, fcT, fO3, rd_rw fO3, fR3, z2, e1, Bool.not_false])) | (with_reducible refine fun (hBd_ : Bd _ _) => ?_) | ((first | (with_reducible refine @And.intro (Sub _ _) _ ?_ ?_) | ((with_reducible refine @And.intro (Sub _ _ ∧ _) _ ?_ ?_); (with_reducible refine @And.intro (Sub _ _) _ ?_ ?_))); exact sbX) | ((with_reducible refine And.intro ?_ ?_); omega)))
      all_goals try (exfalso; omega)
      exact stK_no hno (by (repeat (first | assumption | exact Sub.refl _ | (refine sub_up (nx := nx) ?_ hB ?_; omega))))
    · have hyes : stOk ⟨tot, la, hand, rj, false⟩ 4 pc = true := e1
      simp (disch := omega) only [bsW, WOp, WOq, WV, bo, eqN, gdc, gw, bnd, ↓reduceIte, Nat.reduceEqDiff, rsvs, rsv, oneOf, rdN, ne_eq, Nat.reduceAdd, Nat.reduceMul, Nat.reduceLT, reduceCtorEq, Value.cells, setN, Value.oneCell', Nat.reduceLeDiff, undef, fcT, fO3, rd_rw fO3, fR3, z2, e1, Bool.not_true]
      (repeat' (first | ((with_reducible refine gif_split (fun hs_ => ?_) (fun hs_ => ?_)) <;> (have hp_ := hs_; (try simp only [hpL, ne_eq] at hp_); (try simp (disch := omega) only [bsW, WOp, WOq, WV, bo, eqN, gdc, gw, bnd, ↓reduceIte, Nat.reduceEqDiff, rsvs, rsv, oneOf, rdN, ne_eq, Nat.reduceAdd, Nat.reduceMul, Nat.reduceLT, reduceCtorEq, Value.cells, setN, Value.oneCell', Nat.reduceLeDiff, undef, fcT, fO3, rd_rw fO3, fR3, z2, e1, Bool.not_true, hs_]))) | ((first | (with_reducible refine newB_i (fun nb_ hb_ => ?_)) | (with_reducible refine RgE_i (fun (hBd_ : Bd _ _) => ?_))); (try simp (disch := omega) only [bsW, WOp, WOq, WV, bo, eqN, gdc, gw, bnd, ↓reduceIte, Nat.reduceEqDiff, rsvs, rsv, oneOf, rdN, ne_eq, Nat.reduceAdd, Nat.reduceMul, Nat.reduceLT, reduceCtorEq, Value.cells, setN, Value.oneCell', Nat.reduceLeDiff, undef, fcT, fO3, rd_rw fO3, fR3, z2, e1, Bool.not_true])) | (with_reducible refine fun (hBd_ : Bd _ _) => ?_) | ((first | (with_reducible refine @And.intro (Sub _ _) _ ?_ ?_) | ((with_reducible refine @And.intro (Sub _ _ ∧ _) _ ?_ ?_); (with_reducible refine @And.intro (Sub _ _) _ ?_ ?_))); exact sbX) | ((with_reducible refine And.intro ?_ ?_); omega)))
      all_goals try (exfalso; omega)
      exact stK_yes hyes rfl ⟨_, _, rfl, OwnR.lo (lo' := nx) (OwnR.keep hu3 (fun c hc => by have := OwnR.blk hu3 hc; repeat rw [upd_ne (by omega)]) (by omega)) (by omega), OwnR.lo (lo' := nx) (OwnR.keep hO3 (fun c hc => by have := hcO c hc; repeat rw [upd_ne (by omega)]) (by omega)) (by omega), fun c h1 h2 => by
        rcases hat3 c h2 with e | e
        · exact hdis c h1 e
        · have := OwnR.blk hu1 h1; omega⟩ (by (repeat (first | assumption | exact Sub.refl _ | (refine sub_up (nx := nx) ?_ hB ?_; omega))))
  · have hsl : sl = false := by simpa using hop
    subst hsl
    have e4 : stOk ⟨tot, la, hand, rj, false⟩ 5 pc = (decide (hand = 0) && decide (waitL tot la hand rj = [])) := rfl
    cases e1 : (hand == 0)
    · have hno : stOk ⟨tot, la, hand, rj, false⟩ 5 pc = false := by
        have : hand ≠ 0 := by simpa using e1
        rw [e4]; simp [this]
      refine AC_of x_impl_stepPuzzle rfl fun hB => ?_
      have hb0 := rd_lt hB c0
      simp (disch := omega) only [bsW, WOp, WOq, WV, bo, eqN, gdc, gw, bnd, ↓reduceIte, Nat.reduceEqDiff, rsvs, rsv, oneOf, rdN, ne_eq, Nat.reduceAdd, Nat.reduceMul, Nat.reduceLT, reduceCtorEq, Value.cells, setN, Value.oneCell', Nat.reduceLeDiff, undef, fcT, c0, c1, c2, c3, c4, d0, Int.reduceBEq, Int.reduceBNe, Int.reduceLT, Int.reduceNeg, c_impl_stepPuzzle]
      (repeat' (first | ((with_reducible refine gif_split (fun hs_ => ?_) (fun hs_ => ?_)) <;> (have hp_ := hs_; (try simp only [hpL, ne_eq] at hp_); (try simp (disch := omega) only [bsW, WOp, WOq, WV, bo, eqN, gdc, gw, bnd, ↓reduceIte, Nat.reduceEqDiff, rsvs, rsv, oneOf, rdN, ne_eq, Nat.reduceAdd, Nat.reduceMul, Nat.reduceLT, reduceCtorEq, Value.cells, setN, Value.oneCell', Nat.reduceLeDiff, undef, fcT, c0, c1, c2, c3, c4, d0, Int.reduceBEq, Int.reduceBNe, Int.reduceLT, Int.reduceNeg, hs_]))) | ((first | (with_reducible refine newB_i (fun nb_ hb_ => ?_)) | (with_reducible refine RgE_i (fun (hBd_ : Bd _ _) => ?_))); (try simp (disch := omega) only [bsW, WOp, WOq, WV, bo, eqN, gdc, gw, bnd, ↓reduceIte, Nat.reduceEqDiff, rsvs, rsv, oneOf, rdN, ne_eq, Nat.reduceAdd, Nat.reduceMul, Nat.reduceLT, reduceCtorEq, Value.cells, setN, Value.oneCell', Nat.reduceLeDiff, undef, fcT, c0, c1, c2, c3, c4, d0, Int.reduceBEq, Int.reduceBNe, Int.reduceLT, Int.reduceNeg])) | (with_reducible refine fun (hBd_ : Bd _ _) => ?_) | ((first | (with_reducible refine @And.intro (Sub _ _) _ ?_ ?_) | ((with_reducible refine @And.intro (Sub _ _ ∧ _) _ ?_ ?_); (with_reducible refine @And.intro (Sub _ _) _ ?_ ?_))); exact sbX) | ((with_reducible refine And.intro ?_ ?_); omega)))
      all_goals try (exfalso; omega)
      rename_i bS hbS
      have hbR := hb_
      generalize nb_ = bR at *
      have hs0 : Sub H (upd (upd H bS (.rw [.int .i64 5, .int .i64 pc] 41)) bR (.rw [.int .i64 0, .slice none 0 0, .int .i64 0, .slice none 0 0, .bool false] 28)) := by (repeat (first | assumption | exact Sub.refl _ | (refine sub_up (nx := nx) ?_ hB ?_; omega)))
      refine (copyPuzzle b tot A la c hand B rj d false _ _ (by omega) (by omega) (rd_sub hs0 c0) (rd_sub hs0 c1) (rd_sub hs0 c2) (rd_sub hs0 c3) (rd_sub hs0 c4) (hA.sub hs0) (hRB.sub hs0)).monoC ?_
      rintro v1 H1 nx1 hB1 hx1 ⟨hO1, ht1⟩
      obtain ⟨u1, w1, rfl, hu1, hw1, hdis⟩ := hO1.ex
      obtain ⟨A1, k1, rfl, hk1, hR1⟩ := OwnR.rd hu1
      obtain ⟨A2, k2, rfl, hk2, hR2⟩ := OwnR.rd hw1
      have hs1 := hs0.trans ht1
      have y0 := rd_sub hs1 c0
      have y1 := rd_sub hs1 c1
      have y2 := rd_sub hs1 c2
      have y3 := rd_sub hs1 c3
      have y4 := rd_sub hs1 c4
      have fR := ht1 bR _ (upd_same _ _ _)
      have fS := ht1 bS _ (by rw [upd_ne (by omega)]; exact upd_same _ _ _)
      have hu1 : OwnL H1 (bR + 1) nx1 la 3 (.slice A1 la.length k1) := hu1
      have hw1 : OwnL H1 (bR + 1) nx1 rj 3 (.slice A2 rj.length k2) := hw1
      have hk1 : la.length ≤ k1 := hk1
      have hk2 : rj.length ≤ k2 := hk2
      have hR2 : RdL H1 A2 rj := hR2
      simp (disch := omega) only [bsW, WOp, WOq, WV, bo, eqN, gdc, gw, bnd, ↓reduceIte, Nat.reduceEqDiff, rsvs, rsv, oneOf, rdN, ne_eq, Nat.reduceAdd, Nat.reduceMul, Nat.reduceLT, reduceCtorEq, Value.cells, setN, Value.oneCell', Nat.reduceLeDiff, undef, fcT, rd_rw fS, fR, y0, y1, y2, y3, y4, Int.reduceBEq, Int.reduceBNe, Int.reduceLT, Int.reduceNeg, e1, Bool.not_false]
      (repeat' (first | ((with_reducible refine gif_split (fun hs_ => ?_) (fun hs_ => ?_)) <;> (have hp_ := hs_; (try simp only [hpL, ne_eq] at hp_); (try simp (disch := omega) only [bsW, WOp, WOq, WV, bo, eqN, gdc, gw, bnd, ↓reduceIte, Nat.reduceEqDiff, rsvs, rsv, oneOf, rdN, ne_eq, Nat.reduceAdd, Nat.reduceMul, Nat.reduceLT, reduceCtorEq, Value.cells, setN, Value.oneCell', Nat.reduceLeDiff, undef, fcT, rd_rw fS, fR, y0, y1, y2, y3, y4, Int.reduceBEq, Int.reduceBNe, Int.reduceLT, Int.reduceNeg, e1, Bool.not_false, hs_]))) | ((first | (with_reducible refine newB_i (fun nb_ hb_ => ?_)) | (with_reducible refine RgE_i (fun (hBd_ : Bd _ _) => ?_))); (try simp (disch := omega) only [bsW, WOp, WOq, WV, bo, eqN, gdc, gw, bnd, ↓reduceIte, Nat.reduceEqDiff, rsvs, rsv, oneOf, rdN, ne_eq, Nat.reduceAdd, Nat.reduceMul, Nat.reduceLT, reduceCtorEq, Value.cells, setN, Value.oneCell', Nat.reduceLeDiff, undef, fcT, rd_rw fS, fR, y0, y1, y2, y3, y4, Int.reduceBEq, Int.reduceBNe, Int.reduceLT, Int.reduceNeg, e1, Bool.not_false])) | (with_reducible refine fun (hBd_ : Bd _ _) => ?_) | ((first | (with_reducible refine @And.intro (Sub _ _) _ ?_ ?_) | ((with_reducible refine @And.intro (Sub _ _ ∧ _) _ ?_ ?_); (with_reducible refine @And.intro (Sub _ _) _ ?_ ?_))); exact sbX) | ((with_reducible refine And.intro ?_ ?_); omega)))
      all_goals try (exfalso; omega)
      exact stK_no hno (by (repeat (first | assumption | exact Sub.refl _ | (refine sub_up (nx := nx) ?_ hB ?_; omega))))
    · have h0 : hand = 0 := by simpa using e1
      refine AC_of x_impl_stepPuzzle rfl fun hB => ?_
      have hb0 := rd_lt hB c0
      simp (disch := omega) only [bsW, WOp, WOq, WV, bo, eqN, gdc, gw, bnd, ↓reduceIte, Nat.reduceEqDiff, rsvs, rsv, oneOf, rdN, ne_eq, Nat.reduceAdd, Nat.reduceMul, Nat.reduceLT, reduceCtorEq, Value.cells, setN, Value.oneCell', Nat.reduceLeDiff, undef, fcT, c0, c1, c2, c3, c4, d0, Int.reduceBEq, Int.reduceBNe, Int.reduceLT, Int.reduceNeg, c_impl_stepPuzzle]
      (repeat' (first | ((with_reducible refine gif_split (fun hs_ => ?_) (fun hs_ => ?_)) <;> (have hp_ := hs_; (try simp only [hpL, ne_eq] at hp_); (try simp (disch := omega) only [bsW, WOp, WOq, WV, bo, eqN, gdc, gw, bnd, ↓reduceIte, Nat.reduceEqDiff, rsvs, rsv, oneOf, rdN, ne_eq, Nat.reduceAdd, Nat.reduceMul, Nat.reduceLT, reduceCtorEq, Value.cells, setN, Value.oneCell', Nat.reduceLeDiff, undef, fcT, c0, c1, c2, c3, c4, d0, Int.reduceBEq, Int.reduceBNe, Int.reduceLT, Int.reduceNeg, hs_]))) | ((first | (with_reducible refine newB_i (fun nb_ hb_ => ?_)) | (with_reducible refine RgE_i (fun (hBd_ : Bd _ _) => ?_))); (try simp (disch := omega) only [bsW, WOp, WOq, WV, bo, eqN, gdc, gw, bnd, ↓reduceIte, Nat.reduceEqDiff, rsvs, rsv, oneOf, rdN, ne_eq, Nat.reduceAdd, Nat.reduceMul, Nat.reduceLT, reduceCtorEq, Value.cells, setN, Value.oneCell', Nat.reduceLeDiff, undef, fcT, c0, c1, c2, c3, c4, d0, Int.reduceBEq, Int.reduceBNe, Int.reduceLT, Int.reduceNeg])) | (with_reducible refine fun (hBd_ : Bd _ _) => ?_) | ((first | (with_reducible refine @And.intro (Sub _ _) _ ?_ ?_) | ((with_reducible refine @And.intro (Sub _ _ ∧ _) _ ?_ ?_); (with_reducible refine @And.intro (Sub _ _) _ ?_ ?_))); exact sbX) | ((with_reducible refine And.intro ?_ ?_); omega)))
      all_goals try (exfalso; omega)
      rename_i bS hbS
      have hbR := hb_
      generalize nb_ = bR at *
      have hs0 : Sub H (upd (upd H bS (.rw [.int .i64 5, .int .i64 pc] 41)) bR (.rw [.int .i64 0, .slice none 0 0, .int .i64 0, .slice none 0 0, .bool false] 28)) := by (repeat (first | assumption | exact Sub.refl _ | (refine sub_up (nx := nx) ?_ hB ?_; omega)))
      refine (copyPuzzle b tot A la c hand B rj d false _ _ (by omega) (by omega) (rd_sub hs0 c0) (rd_sub hs0 c1) (rd_sub hs0 c2) (rd_sub hs0 c3) (rd_sub hs0 c4) (hA.sub hs0) (hRB.sub hs0)).monoC ?_
      rintro v1 H1 nx1 hB1 hx1 ⟨hO1, ht1⟩
      obtain ⟨u1, w1, rfl, hu1, hw1, hdis⟩ := hO1.ex
      obtain ⟨A1, k1, rfl, hk1, hR1⟩ := OwnR.rd hu1
      obtain ⟨A2, k2, rfl, hk2, hR2⟩ := OwnR.rd hw1
      have hs1 := hs0.trans ht1
      have y0 := rd_sub hs1 c0
      have y1 := rd_sub hs1 c1
      have y2 := rd_sub hs1 c2
      have y3 := rd_sub hs1 c3
      have y4 := rd_sub hs1 c4
      have fR := ht1 bR _ (upd_same _ _ _)
      have fS := ht1 bS _ (by rw [upd_ne (by omega)]; exact upd_same _ _ _)
      have hu1 : OwnL H1 (bR + 1) nx1 la 3 (.slice A1 la.length k1) := hu1
      have hw1 : OwnL H1 (bR + 1) nx1 rj 3 (.slice A2 rj.length k2) := hw1
      have hk1 : la.length ≤ k1 := hk1
      have hk2 : rj.length ≤ k2 := hk2
      have hR2 : RdL H1 A2 rj := hR2
      simp (disch := omega) only [bsW, WOp, WOq, WV, bo, eqN, gdc, gw, bnd, ↓reduceIte, Nat.reduceEqDiff, rsvs, rsv, oneOf, rdN, ne_eq, Nat.reduceAdd, Nat.reduceMul, Nat.reduceLT, reduceCtorEq, Value.cells, setN, Value.oneCell', Nat.reduceLeDiff, undef, fcT, rd_rw fS, fR, y0, y1, y2, y3, y4, Int.reduceBEq, Int.reduceBNe, Int.reduceLT, Int.reduceNeg, e1]
      (repeat' (first | ((with_reducible refine gif_split (fun hs_ => ?_) (fun hs_ => ?_)) <;> (have hp_ := hs_; (try simp only [hpL, ne_eq] at hp_); (try simp (disch := omega) only [bsW, WOp, WOq, WV, bo, eqN, gdc, gw, bnd, ↓reduceIte, Nat.reduceEqDiff, rsvs, rsv, oneOf, rdN, ne_eq, Nat.reduceAdd, Nat.reduceMul, Nat.reduceLT, reduceCtorEq, Value.cells, setN, Value.oneCell', Nat.reduceLeDiff, undef, fcT, rd_rw fS, fR, y0, y1, y2, y3, y4, Int.reduceBEq, Int.reduceBNe, Int.reduceLT, Int.reduceNeg, e1, hs_]))) | ((first | (with_reducible refine newB_i (fun nb_ hb_ => ?_)) | (with_reducible refine RgE_i (fun (hBd_ : Bd _ _) => ?_))); (try simp (disch := omega) only [bsW, WOp, WOq, WV, bo, eqN, gdc, gw, bnd, ↓reduceIte, Nat.reduceEqDiff, rsvs, rsv, oneOf, rdN, ne_eq, Nat.reduceAdd, Nat.reduceMul, Nat.reduceLT, reduceCtorEq, Value.cells, setN, Value.oneCell', Nat.reduceLeDiff, undef, fcT, rd_rw fS, fR, y0, y1, y2, y3, y4, Int.reduceBEq, Int.reduceBNe, Int.reduceLT, Int.reduceNeg, e1])) | (with_reducible refine fun (hBd_ : Bd _ _) => ?_) | ((first | (with_reducible refine @And.intro (Sub _ _) _ ?_ ?_) | ((with_reducible refine @And.intro (Sub _ _ ∧ _) _ ?_ ?_); (with_reducible refine @And.intro (Sub _ _) _ ?_ ?_))); exact sbX) | ((with_reducible refine And.intro ?_ ?_); omega)))
      all_goals try (exfalso; omega)
      have ht2 : Sub H1 (upd H1 nb_ (.rw [.int .i64 tot, .slice A1 la.length k1, .int .i64 hand, .slice A2 rj.length k2, .bool false] 28)) := sub_up (nx := nx1) (by omega) hB1 (Sub.refl _)
      have hbO := hb_
      have fO : (upd H1 nb_ (.rw [.int .i64 tot, .slice A1 la.length k1, .int .i64 hand, .slice A2 rj.length k2, .bool false] 28)) nb_ = some (.rw [.int .i64 tot, .slice A1 la.length k1, .int .i64 hand, .slice A2 rj.length k2, .bool false] 28) := upd_same _ _ _
      have hB2 : Bd (upd H1 nb_ (.rw [.int .i64 tot, .slice A1 la.length k1, .int .i64 hand, .slice A2 rj.length k2, .bool false] 28)) (nb_ + 1) := Bd.up hB1 (by omega)
      generalize (upd H1 nb_ (.rw [.int .i64 tot, .slice A1 la.length k1, .int .i64 hand, .slice A2 rj.length k2, .bool false] 28)) = H2 at *
      generalize nb_ = bO at *
      replace fS := ht2 _ _ fS
      replace fR := ht2 _ _ fR
      replace y0 := rd_sub ht2 y0
      replace y1 := rd_sub ht2 y1
      replace y2 := rd_sub ht2 y2
      replace y3 := rd_sub ht2 y3
      replace y4 := rd_sub ht2 y4
      replace hu1 := OwnR.subI hu1 ht2
      replace hw1 := OwnR.subI hw1 ht2
      have hs2 := hs1.trans ht2
      refine (waiting b tot A la c hand B rj d false _ _ (by omega) (by omega) (by have := hv.t2; omega) y0 y1 y2 y3 (hA.sub hs2) (hRB.sub hs2)).monoC ?_
      rintro v3 H3 nx3 hB3 hx3 ⟨hO3, ht3⟩
      obtain ⟨A3, k3, rfl, _, hR3⟩ := OwnR.rd hO3
      replace fS := ht3 _ _ fS
      replace fR := ht3 _ _ fR
      replace fO := ht3 _ _ fO
      replace hu1 := OwnR.subI hu1 ht3
      replace hw1 := OwnR.subI hw1 ht3
      have hs3 := hs2.trans ht3
      cases e2 : (((waitK la hand rj tot.toNat).length : Int) == 0)
      · have hno : stOk ⟨tot, la, hand, rj, false⟩ 5 pc = false := by
          have e3 : waitL tot la hand rj ≠ [] := fun e => by
            have : waitK la hand rj tot.toNat = [] := e
            rw [this] at e2; simp at e2
          rw [e4, decide_eq_false e3, Bool.and_false]
        simp (disch := omega) only [bsW, WOp, WOq, WV, bo, eqN, gdc, gw, bnd, ↓reduceIte, Nat.reduceEqDiff, rsvs, rsv, oneOf, rdN, ne_eq, Nat.reduceAdd, Nat.reduceMul, Nat.reduceLT, reduceCtorEq, Value.cells, setN, Value.oneCell', Nat.reduceLeDiff, undef, fcT, rd_rw fS, fR, fO, rd_rw fO, e2, Int.reduceBEq]
        (repeat' (first | ((with_reducible refine gif_split (fun hs_ => ?_) (fun hs_ => ?_)) <;> (have hp_ := hs_; (try simp only [hpL, ne_eq] at hp_); (try simp (disch := omega) only [bsW, WOp, WOq, WV, bo, eqN, gdc, gw, bnd, ↓reduceIte, Nat.reduceEqDiff, rsvs, rsv, oneOf, rdN, ne_eq, Nat.reduceAdd, Nat.reduceMul, Nat.reduceLT, reduceCtorEq, Value.cells, setN, Value.oneCell', Nat.reduceLeDiff, undef, fcT, rd_rw fS, fR, fO, rd_rw fO, e2, Int.reduceBEq, hs_]))) | ((first | (with_reducible refine newB_i (fun nb_ hb_ => ?_)) | (with_reducible refine RgE_i (fun (hBd_ : Bd _ _) => ?_))); (try simp (disch := omega) only [bsW, WOp, WOq, WV, bo, eqN, gdc, gw, bnd, ↓reduceIte, Nat.reduceEqDiff, rsvs, rsv, oneOf, rdN, ne_eq, Nat.reduceAdd, Nat.reduceMul, Nat.reduceLT, reduceCtorEq, Value.cells, setN, Value.oneCell', Nat.reduceLeDiff, undef, fcT, rd_rw fS, fR, fO, rd_rw fO, e2, Int.reduceBEq])) | (with_reducible refine fun (hBd_ : Bd _ _) => ?_) | ((first | (with_reducible refine @And.intro (Sub _ _) _ ?_ ?_) | ((with_reducible refine @And.intro (Sub _ _ ∧ _) _ ?_ ?_); (with_reducible refine @And.intro (Sub _ _) _ ?_ ?_))); exact sbX) | ((with_reducible refine And.intro ?_ ?_); omega)))
        all_goals try (exfalso; omega)
        exact stK_no hno (by (repeat (first | assumption | exact Sub.refl _ | (refine sub_up (nx := nx) ?_ hB ?_; omega))))
      · have hyes : stOk ⟨tot, la, hand, rj, false⟩ 5 pc = true := by
          have e3 : waitL tot la hand rj = [] := by
            have : (waitK la hand rj tot.toNat).length = 0 := by have e5 : ((waitK la hand rj tot.toNat).length : Int) = 0 := by simpa using e2
                                                                 omega
            exact List.eq_nil_of_length_eq_zero this
          rw [e4, decide_eq_true e3, decide_eq_true h0]; rfl
        simp (disch := omega) only [bsW, WOp, WOq, WV, bo, eqN, gdc, gw, bnd, ↓reduceIte, Nat.reduceEqDiff, rsvs, rsv, oneOf, rdN, ne_eq, Nat.reduceAdd, Nat.reduceMul, Nat.reduceLT, reduceCtorEq, Value.cells, setN, Value.oneCell', Nat.reduceLeDiff, undef, fcT, rd_rw fS, fR, fO, rd_rw fO, e2, Int.reduceBEq]
        (repeat' (first | ((with_reducible refine gif_split (fun hs_ => ?_) (fun hs_ => ?_)) <;> (have hp_ := hs_; (try simp only [hpL, ne_eq] at hp_); (try simp (disch := omega) only [bsW, WOp, WOq, WV, bo, eqN, gdc, gw, bnd, ↓reduceIte, Nat.reduceEqDiff, rsvs, rsv, oneOf, rdN, ne_eq, Nat.reduceAdd, Nat.reduceMul, Nat.reduceLT, reduceCtorEq, Value.cells, setN, Value.oneCell', Nat.reduceLeDiff, undef, fcT, rd_rw fS, fR, fO, rd_rw fO, e2, Int.reduceBEq, hs_]))) | ((first | (with_reducible refine newB_i (fun nb_ hb_ => ?_)) | (with_reducible refine RgE_i (fun (hBd_ : Bd _ _) => ?_))); (try simp (disch := omega) only [bsW, WOp, WOq, WV, bo, eqN, gdc, gw, bnd, ↓reduceIte, Nat.reduceEqDiff, rsvs, rsv, oneOf, rdN, ne_eq, Nat.reduceAdd, Nat.reduceMul, Nat.reduceLT, reduceCtorEq, Value.cells, setN, Value.oneCell', Nat.reduceLeDiff, undef, fcT, rd_rw fS, fR, fO, rd_rw fO, e2, Int.reduceBEq])) | (with_reducible refine fun (hBd_ : Bd _ _) => ?_) | ((first | (with_reducible refine @And.intro (Sub _ _) _ ?_ ?_) | ((with_reducible refine @And.intro (Sub _ _ ∧ _) _ ?_ ?_); (with_reducible refine @And.intro (Sub _ _) _ ?_ ?_))); exact sbX) | ((with_reducible refine And.intro ?_ ?_); omega)))
        all_goals try (exfalso; omega)
        exact stK_yes hyes rfl ⟨_, _, rfl, OwnR.lo (lo' := nx) (OwnR.keep hu1 (fun c hc => by have := OwnR.blk hu1 hc; repeat rw [upd_ne (by omega)]) (by omega)) (by omega), OwnR.lo (lo' := nx) (OwnR.keep hw1 (fun c hc => by have := OwnR.blk hw1 hc; repeat rw [upd_ne (by omega)]) (by omega)) (by omega), hdis⟩ (by (repeat (first | assumption | exact Sub.refl _ | (refine sub_up (nx := nx) ?_ hB ?_; omega))))
  · have hsl : sl = true := by simpa using hop
    subst hsl
    have hyes : stOk ⟨tot, la, hand, rj, true⟩ 6 pc = true := rfl
    refine AC_of x_impl_stepPuzzle rfl fun hB => ?_
    have hb0 := rd_lt hB c0
    simp (disch := omega) only [bsW, WOp, WOq, WV, bo, eqN, gdc, gw, bnd, ↓reduceIte, Nat.reduceEqDiff, rsvs, rsv, oneOf, rdN, ne_eq, Nat.reduceAdd, Nat.reduceMul, Nat.reduceLT, reduceCtorEq, Value.cells, setN, Value.oneCell', Nat.reduceLeDiff, undef, fcT, c0, c1, c2, c3, c4, d0, Int.reduceBEq, Int.reduceBNe, Int.reduceLT, Int.reduceNeg, c_impl_stepPuzzle]
    (repeat' (first | ((with_reducible refine gif_split (fun hs_ => ?_) (fun hs_ => ?_)) <;> (have hp_ := hs_; (try simp only [hpL, ne_eq] at hp_); (try simp (disch := omega) only [bsW, WOp, WOq, WV, bo, eqN, gdc, gw, bnd, ↓reduceIte, Nat.reduceEqDiff, rsvs, rsv, oneOf, rdN, ne_eq, Nat.reduceAdd, Nat.reduceMul, Nat.reduceLT, reduceCtorEq, Value.cells, setN, Value.oneCell', Nat.reduceLeDiff, undef, fcT, c0, c1, c2, c3, c4, d0, Int.reduceBEq, Int.reduceBNe, Int.reduceLT, Int.reduceNeg, hs_]))) | ((first | (with_reducible refine newB_i (fun nb_ hb_ => ?_)) | (with_reducible refine RgE_i (fun (hBd_ : Bd _ _) => ?_))); (try simp (disch := omega) only [bsW, WOp, WOq, WV, bo, eqN, gdc, gw, bnd, ↓reduceIte, Nat.reduceEqDiff, rsvs, rsv, oneOf, rdN, ne_eq, Nat.reduceAdd, Nat.reduceMul, Nat.reduceLT, reduceCtorEq, Value.cells, setN, Value.oneCell', Nat.reduceLeDiff, undef, fcT, c0, c1, c2, c3, c4, d0, Int.reduceBEq, Int.reduceBNe, Int.reduceLT, Int.reduceNeg])) | (with_reducible refine fun (hBd_ : Bd _ _) => ?_) | ((first | (with_reducible refine @And.intro (Sub _ _) _ ?_ ?_) | ((with_reducible refine @And.intro (Sub _ _ ∧ _) _ ?_ ?_); (with_reducible refine @And.intro (Sub _ _) _ ?_ ?_))); exact sbX) | ((with_reducible refine And.intro ?_ ?_); omega)))
    all_goals try (exfalso; omega)
    rename_i bS hbS
    have hbR := hb_
    generalize nb_ = bR at *
    have hs0 : Sub H (upd (upd H bS (.rw [.int .i64 6, .int .i64 pc] 41)) bR (.rw [.int .i64 0, .slice none 0 0, .int .i64 0, .slice none 0 0, .bool false] 28)) := by (repeat (first | assumption | exact Sub.refl _ | (refine sub_up (nx := nx) ?_ hB ?_; omega)))
    refine (copyPuzzle b tot A la c hand B rj d true _ _ (by omega) (by omega) (rd_sub hs0 c0) (rd_sub hs0 c1) (rd_sub hs0 c2) (rd_sub hs0 c3) (rd_sub hs0 c4) (hA.sub hs0) (hRB.sub hs0)).monoC ?_
    rintro v1 H1 nx1 hB1 hx1 ⟨hO1, ht1⟩
    obtain ⟨u1, w1, rfl, hu1, hw1, hdis⟩ := hO1.ex
    obtain ⟨A1, k1, rfl, hk1, hR1⟩ := OwnR.rd hu1
    obtain ⟨A2, k2, rfl, hk2, hR2⟩ := OwnR.rd hw1
    have hs1 := hs0.trans ht1
    have y0 := rd_sub hs1 c0
    have y1 := rd_sub hs1 c1
    have y2 := rd_sub hs1 c2
    have y3 := rd_sub hs1 c3
    have y4 := rd_sub hs1 c4
    have fR := ht1 bR _ (upd_same _ _ _)
    have fS := ht1 bS _ (by rw [upd_ne (by omega)]; exact upd_same _ _ _)
    have hu1 : OwnL H1 (bR + 1) nx1 la 3 (.slice A1 la.length k1) := hu1
    have hw1 : OwnL H1 (bR + 1) nx1 rj 3 (.slice A2 rj.length k2) := hw1
    have hk1 : la.length ≤ k1 := hk1
    have hk2 : rj.length ≤ k2 := hk2
    have hR2 : RdL H1 A2 rj := hR2
    simp (disch := omega) only [bsW, WOp, WOq, WV, bo, eqN, gdc, gw, bnd, ↓reduceIte, Nat.reduceEqDiff, rsvs, rsv, oneOf, rdN, ne_eq, Nat.reduceAdd, Nat.reduceMul, Nat.reduceLT, reduceCtorEq, Value.cells, setN, Value.oneCell', Nat.reduceLeDiff, undef, fcT, rd_rw fS, fR, y0, y1, y2, y3, y4, Int.reduceBEq, Int.reduceBNe, Int.reduceLT, Int.reduceNeg]
    (repeat' (first | ((with_reducible refine gif_split (fun hs_ => ?_) (fun hs_ => ?_)) <;> (have hp_ := hs_; (try simp only [hpL, ne_eq] at hp_); (try simp (disch := omega) only [bsW, WOp, WOq, WV, bo, eqN, gdc, gw, bnd, ↓reduceIte, Nat.reduceEqDiff, rsvs, rsv, oneOf, rdN, ne_eq, Nat.reduceAdd, Nat.reduceMul, Nat.reduceLT, reduceCtorEq, Value.cells, setN, Value.oneCell', Nat.reduceLeDiff, undef, fcT, rd_rw fS, fR, y0, y1, y2, y3, y4, Int.reduceBEq, Int.reduceBNe, Int.reduceLT, Int.reduceNeg, hs_]))) | ((first | (with_reducible refine newB_i (fun nb_ hb_ => ?_)) | (with_reducible refine RgE_i (fun (hBd_ : Bd _ _) => ?_))); (try simp (disch := omega) only [bsW, WOp, WOq, WV, bo, eqN, gdc, gw, bnd, ↓reduceIte, Nat.reduceEqDiff, rsvs, rsv, oneOf, rdN, ne_eq, Nat.reduceAdd, Nat.reduceMul, Nat.reduceLT, reduceCtorEq, Value.cells, setN, Value.oneCell', Nat.reduceLeDiff, undef, fcT, rd_rw fS, fR, y0, y1, y2, y3, y4, Int.reduceBEq, Int.reduceBNe, Int.reduceLT, Int.reduceNeg])) | (with_reducible refine fun (hBd_ : Bd _ _) => ?_) | ((first | (with_reducible refine @And.intro (Sub _ _) _ ?_ ?_) | ((with_reducible refine @And.intro (Sub _ _ ∧ _) _ ?_ ?_); (with_reducible refine @And.intro (Sub _ _) _ ?_ ?_))); exact sbX) | ((with_reducible refine And.intro ?_ ?_); omega)))
    all_goals try (exfalso; omega)
    exact stK_yes hyes rfl ⟨_, _, rfl, OwnR.lo (lo' := nx) (OwnR.keep hu1 (fun c hc => by have := OwnR.blk hu1 hc; repeat rw [upd_ne (by omega)]) (by omega)) (by omega), OwnR.lo (lo' := nx) (OwnR.keep hw1 (fun c hc => by have := OwnR.blk hw1 hc; repeat rw [upd_ne (by omega)]) (by omega)) (by omega), hdis⟩ (by (repeat (first | assumption | exact Sub.refl _ | (refine sub_up (nx := nx) ?_ hB ?_; omega))))
end Go.Proofs.YtbhabpenlaklcaaDoor
