/- The helpers of the laws at steps. -/
import Derived.Test.YtbhabpenlaklcaaS21
set_option linter.unusedVariables false
set_option linter.unusedSimpArgs false
set_option maxRecDepth 100000
set_option maxHeartbeats 1000000
namespace Go.Proofs.Ytbhabpenlaklcaa
open Go Go.RowKit Go.Proofs

theorem szPuzzleStep (A : Option Addr) (n c : Nat) (left : Int) (H : Hp) (nx : Nat) (hn : n ≤ 17592186044416) (hl : -1 ≤ left ∧ left ≤ 1048576) :
    PC Try.prog 32 #[.slice A n c, .int .i64 left] H nx (.int .i64 (if left - n < 0 then -1 else left - n)) := by
  refine AC_of x_laws_szPuzzleStepS rfl fun hB => ?_
  simp (disch := omega) only [bsW, WOp, WOq, WV, bo, gdc, gw, bnd, ↓reduceIte, Nat.reduceEqDiff, rsvs, rsv, oneOf, rdN, ne_eq, Nat.reduceAdd, Nat.reduceMul, Nat.reduceLT, reduceCtorEq, Value.cells, setN, Value.oneCell', Nat.reduceLeDiff, undef, fcT, c_laws_szPuzzleStepS]
  (repeat' (first | ((refine gif_split (fun hs_ => ?_) (fun hs_ => ?_)) <;> (have hp_ := hs_; (try simp only [decide_eq_true_eq, decide_eq_false_iff_not, beq_iff_eq, bne_iff_ne, beq_eq_false_iff_ne, Bool.not_eq_true, Bool.and_eq_true, Bool.or_eq_true, Bool.and_eq_false_iff, Bool.or_eq_false_iff, bne_eq_false_iff_eq, ne_eq] at hp_); (try simp (disch := omega) only [bsW, WOp, WOq, WV, bo, gdc, gw, bnd, ↓reduceIte, Nat.reduceEqDiff, rsvs, rsv, oneOf, rdN, ne_eq, Nat.reduceAdd, Nat.reduceMul, Nat.reduceLT, reduceCtorEq, Value.cells, setN, Value.oneCell', Nat.reduceLeDiff, undef, fcT, hs_]))) | ((refine newB_i (fun nb_ hb_ => ?_)); (try simp (disch := omega) only [bsW, WOp, WOq, WV, bo, gdc, gw, bnd, ↓reduceIte, Nat.reduceEqDiff, rsvs, rsv, oneOf, rdN, ne_eq, Nat.reduceAdd, Nat.reduceMul, Nat.reduceLT, reduceCtorEq, Value.cells, setN, Value.oneCell', Nat.reduceLeDiff, undef, fcT])) | (refine fun (hBd_ : Bd _ _) => ?_) | (refine And.intro (show Sub _ _ by first | exact Sub.refl _ | exact sub_del _ _ | exact sub_del_upd (Sub.refl _) | exact sub_del_upd (by with_reducible assumption) | with_reducible assumption | exact Sub.trans (sub_del _ _) (by with_reducible assumption) | exact sub_new (by with_reducible assumption) (by with_reducible assumption)) ?_) | (refine And.intro (And.intro (show Sub _ _ by first | exact Sub.refl _ | exact sub_del _ _ | exact sub_del_upd (Sub.refl _) | exact sub_del_upd (by with_reducible assumption) | with_reducible assumption | exact Sub.trans (sub_del _ _) (by with_reducible assumption) | exact sub_new (by with_reducible assumption) (by with_reducible assumption)) ?_) ?_) | (refine And.intro ?_ ?_; omega)))
  · exact Is_e (by rw [if_pos (by omega)]) (Sub.refl H)
  · exact Is_e (by rw [if_neg (by omega)]) (Sub.refl H)

theorem toPuzzleStep (x0 x1 : Int) (H : Hp) (nx : Nat) :
    PC Try.prog 30 #[.agg #[.int .i64 x0, .int .i64 x1]] H nx (.agg #[.int .i64 x0, .int .i64 x1]) := by
  refine AC_of x_laws_toPuzzleStep rfl fun hB => ?_
  simp (disch := omega) only [bsW, WOp, WOq, WV, bo, gdc, gw, bnd, ↓reduceIte, Nat.reduceEqDiff, rsvs, rsv, oneOf, rdN, ne_eq, Nat.reduceAdd, Nat.reduceMul, Nat.reduceLT, reduceCtorEq, Value.cells, setN, Value.oneCell', Nat.reduceLeDiff, undef, fcT, c_laws_toPuzzleStep]
  (repeat' (first | ((refine gif_split (fun hs_ => ?_) (fun hs_ => ?_)) <;> (have hp_ := hs_; (try simp only [decide_eq_true_eq, decide_eq_false_iff_not, beq_iff_eq, bne_iff_ne, beq_eq_false_iff_ne, Bool.not_eq_true, Bool.and_eq_true, Bool.or_eq_true, Bool.and_eq_false_iff, Bool.or_eq_false_iff, bne_eq_false_iff_eq, ne_eq] at hp_); (try simp (disch := omega) only [bsW, WOp, WOq, WV, bo, gdc, gw, bnd, ↓reduceIte, Nat.reduceEqDiff, rsvs, rsv, oneOf, rdN, ne_eq, Nat.reduceAdd, Nat.reduceMul, Nat.reduceLT, reduceCtorEq, Value.cells, setN, Value.oneCell', Nat.reduceLeDiff, undef, fcT, hs_]))) | ((refine newB_i (fun nb_ hb_ => ?_)); (try simp (disch := omega) only [bsW, WOp, WOq, WV, bo, gdc, gw, bnd, ↓reduceIte, Nat.reduceEqDiff, rsvs, rsv, oneOf, rdN, ne_eq, Nat.reduceAdd, Nat.reduceMul, Nat.reduceLT, reduceCtorEq, Value.cells, setN, Value.oneCell', Nat.reduceLeDiff, undef, fcT])) | (refine fun (hBd_ : Bd _ _) => ?_) | (refine And.intro (show Sub _ _ by first | exact Sub.refl _ | exact sub_del _ _ | exact sub_del_upd (Sub.refl _) | exact sub_del_upd (by with_reducible assumption) | with_reducible assumption | exact Sub.trans (sub_del _ _) (by with_reducible assumption) | exact sub_new (by with_reducible assumption) (by with_reducible assumption)) ?_) | (refine And.intro (And.intro (show Sub _ _ by first | exact Sub.refl _ | exact sub_del _ _ | exact sub_del_upd (Sub.refl _) | exact sub_del_upd (by with_reducible assumption) | with_reducible assumption | exact Sub.trans (sub_del _ _) (by with_reducible assumption) | exact sub_new (by with_reducible assumption) (by with_reducible assumption)) ?_) ?_) | (refine And.intro ?_ ?_; omega)))
  exact Is_e rfl (by (repeat (first | assumption | exact Sub.refl _ | (refine sub_up (nx := nx) ?_ hB ?_; omega))))

theorem eqPuzzleStep (x0 x1 : Int) (H : Hp) (nx : Nat) :
    PC Try.prog 58 #[.agg #[.int .i64 x0, .int .i64 x1], .agg #[.int .i64 x0, .int .i64 x1]] H nx (.bool true) := by
  refine AC_of x_laws_eqPuzzleStep rfl fun hB => ?_
  simp (disch := omega) only [bsW, WOp, WOq, WV, bo, gdc, gw, bnd, ↓reduceIte, Nat.reduceEqDiff, rsvs, rsv, oneOf, rdN, ne_eq, Nat.reduceAdd, Nat.reduceMul, Nat.reduceLT, reduceCtorEq, Value.cells, setN, Value.oneCell', Nat.reduceLeDiff, undef, fcT, c_laws_eqPuzzleStep]
  (repeat' (first | ((refine gif_split (fun hs_ => ?_) (fun hs_ => ?_)) <;> (have hp_ := hs_; (try simp only [decide_eq_true_eq, decide_eq_false_iff_not, beq_iff_eq, bne_iff_ne, beq_eq_false_iff_ne, Bool.not_eq_true, Bool.and_eq_true, Bool.or_eq_true, Bool.and_eq_false_iff, Bool.or_eq_false_iff, bne_eq_false_iff_eq, ne_eq] at hp_); (try simp (disch := omega) only [bsW, WOp, WOq, WV, bo, gdc, gw, bnd, ↓reduceIte, Nat.reduceEqDiff, rsvs, rsv, oneOf, rdN, ne_eq, Nat.reduceAdd, Nat.reduceMul, Nat.reduceLT, reduceCtorEq, Value.cells, setN, Value.oneCell', Nat.reduceLeDiff, undef, fcT, hs_]))) | ((refine newB_i (fun nb_ hb_ => ?_)); (try simp (disch := omega) only [bsW, WOp, WOq, WV, bo, gdc, gw, bnd, ↓reduceIte, Nat.reduceEqDiff, rsvs, rsv, oneOf, rdN, ne_eq, Nat.reduceAdd, Nat.reduceMul, Nat.reduceLT, reduceCtorEq, Value.cells, setN, Value.oneCell', Nat.reduceLeDiff, undef, fcT])) | (refine fun (hBd_ : Bd _ _) => ?_) | (refine And.intro (show Sub _ _ by first | exact Sub.refl _ | exact sub_del _ _ | exact sub_del_upd (Sub.refl _) | exact sub_del_upd (by with_reducible assumption) | with_reducible assumption | exact Sub.trans (sub_del _ _) (by with_reducible assumption) | exact sub_new (by with_reducible assumption) (by with_reducible assumption)) ?_) | (refine And.intro (And.intro (show Sub _ _ by first | exact Sub.refl _ | exact sub_del _ _ | exact sub_del_upd (Sub.refl _) | exact sub_del_upd (by with_reducible assumption) | with_reducible assumption | exact Sub.trans (sub_del _ _) (by with_reducible assumption) | exact sub_new (by with_reducible assumption) (by with_reducible assumption)) ?_) ?_) | (refine And.intro ?_ ?_; omega)))
  exact Is_e rfl (by (repeat (first | assumption | exact Sub.refl _ | (refine sub_up (nx := nx) ?_ hB ?_; omega))))

theorem eqPuzzleStepS (A B : Option Addr) (n c d : Nat) (f : Nat → Nat → Int) (H : Hp) (nx : Nat) (hn : n ≤ 17592186044416) (h : Rd H A n 2 f) (h' : Rd H B n 2 f) :
    PC Try.prog 36 #[.slice A n c, .slice B n d] H nx (.bool true) := by
  refine AC_of x_laws_eqPuzzleStepS rfl fun hB => ?_
  simp (disch := omega) only [bsW, WOp, WOq, WV, bo, gdc, gw, bnd, ↓reduceIte, Nat.reduceEqDiff, rsvs, rsv, oneOf, rdN, ne_eq, Nat.reduceAdd, Nat.reduceMul, Nat.reduceLT, reduceCtorEq, Value.cells, setN, Value.oneCell', Nat.reduceLeDiff, undef, fcT, c_laws_eqPuzzleStepS]
  refine LpE_rule (fun m fr H' nx' => ∃ k : Nat, m = n - k + 1 ∧ k ≤ n ∧ fr 0 = .slice A n c ∧ fr 1 = .slice B n d ∧ fr 5 = .int .i64 k ∧ Sub H H' ∧ nx ≤ nx') ?_ ?_ (n + 1) ?_
  · rintro m K hK fr H' nx' ⟨k, hm, hk, f0, f1, f5, hs, hx⟩
    simp (disch := omega) only [bsW, WOp, WOq, WV, bo, gdc, gw, bnd, ↓reduceIte, Nat.reduceEqDiff, rsvs, rsv, oneOf, rdN, ne_eq, Nat.reduceAdd, Nat.reduceMul, Nat.reduceLT, reduceCtorEq, Value.cells, setN, Value.oneCell', Nat.reduceLeDiff, undef, fcT, f0, f1, f5]
    refine gif_split (fun b1 => ?_) (fun b1 => ?_)
    · have hlt : k < n := by simpa using b1
      obtain ⟨b, off, rfl, hc⟩ := h.at_ (by omega)
      obtain ⟨b', off', rfl, hc'⟩ := h'.at_ (by omega)
      have c0 := rd_sub hs (hc k 0 hlt (by omega))
      have c1 := rd_sub hs (hc k 1 hlt (by omega))
      have d0 := rd_sub hs (hc' k 0 hlt (by omega))
      have d1 := rd_sub hs (hc' k 1 hlt (by omega))
      simp only [Nat.add_zero] at c0 d0
      simp (disch := omega) only [bsW, WOp, WOq, WV, bo, gdc, gw, bnd, ↓reduceIte, Nat.reduceEqDiff, rsvs, rsv, oneOf, rdN, ne_eq, Nat.reduceAdd, Nat.reduceMul, Nat.reduceLT, reduceCtorEq, Value.cells, setN, Value.oneCell', Nat.reduceLeDiff, undef, fcT, f0, f1, f5, c0, c1, d0, d1, b1]
      (repeat' (first | ((refine gif_split (fun hs_ => ?_) (fun hs_ => ?_)) <;> (have hp_ := hs_; (try simp only [decide_eq_true_eq, decide_eq_false_iff_not, beq_iff_eq, bne_iff_ne, beq_eq_false_iff_ne, Bool.not_eq_true, Bool.and_eq_true, Bool.or_eq_true, Bool.and_eq_false_iff, Bool.or_eq_false_iff, bne_eq_false_iff_eq, ne_eq] at hp_); (try simp (disch := omega) only [bsW, WOp, WOq, WV, bo, gdc, gw, bnd, ↓reduceIte, Nat.reduceEqDiff, rsvs, rsv, oneOf, rdN, ne_eq, Nat.reduceAdd, Nat.reduceMul, Nat.reduceLT, reduceCtorEq, Value.cells, setN, Value.oneCell', Nat.reduceLeDiff, undef, fcT, f0, f1, f5, c0, c1, d0, d1, hs_]))) | ((refine newB_i (fun nb_ hb_ => ?_)); (try simp (disch := omega) only [bsW, WOp, WOq, WV, bo, gdc, gw, bnd, ↓reduceIte, Nat.reduceEqDiff, rsvs, rsv, oneOf, rdN, ne_eq, Nat.reduceAdd, Nat.reduceMul, Nat.reduceLT, reduceCtorEq, Value.cells, setN, Value.oneCell', Nat.reduceLeDiff, undef, fcT, f0, f1, f5, c0, c1, d0, d1])) | ((first | (refine QC_i (eqPuzzleStep _ _ _ _) ?_) | (refine PC.ac (eqPuzzleStep _ _ _ _) ?_)); (try simp (disch := omega) only [bsW, WOp, WOq, WV, bo, gdc, gw, bnd, ↓reduceIte, Nat.reduceEqDiff, rsvs, rsv, oneOf, rdN, ne_eq, Nat.reduceAdd, Nat.reduceMul, Nat.reduceLT, reduceCtorEq, Value.cells, setN, Value.oneCell', Nat.reduceLeDiff, undef, fcT, f0, f1, f5, c0, c1, d0, d1])) | (refine fun (hBd_ : Bd _ _) => ?_) | (refine And.intro (show Sub _ _ by first | exact Sub.refl _ | exact sub_del _ _ | exact sub_del_upd (Sub.refl _) | exact sub_del_upd (by with_reducible assumption) | with_reducible assumption | exact Sub.trans (sub_del _ _) (by with_reducible assumption) | exact sub_new (by with_reducible assumption) (by with_reducible assumption)) ?_) | (refine And.intro (And.intro (show Sub _ _ by first | exact Sub.refl _ | exact sub_del _ _ | exact sub_del_upd (Sub.refl _) | exact sub_del_upd (by with_reducible assumption) | with_reducible assumption | exact Sub.trans (sub_del _ _) (by with_reducible assumption) | exact sub_new (by with_reducible assumption) (by with_reducible assumption)) ?_) ?_) | (refine And.intro ?_ ?_; omega)))
      refine hK _ _ _ ?_
      refine ⟨k + 1, by omega, by omega, by simp (disch := omega) only [bsW, WOp, WOq, WV, bo, gdc, gw, bnd, ↓reduceIte, Nat.reduceEqDiff, rsvs, rsv, oneOf, rdN, ne_eq, Nat.reduceAdd, Nat.reduceMul, Nat.reduceLT, reduceCtorEq, Value.cells, setN, Value.oneCell', Nat.reduceLeDiff, undef, fcT, f0, f1, f5, c0, c1, d0, d1], by simp (disch := omega) only [bsW, WOp, WOq, WV, bo, gdc, gw, bnd, ↓reduceIte, Nat.reduceEqDiff, rsvs, rsv, oneOf, rdN, ne_eq, Nat.reduceAdd, Nat.reduceMul, Nat.reduceLT, reduceCtorEq, Value.cells, setN, Value.oneCell', Nat.reduceLeDiff, undef, fcT, f0, f1, f5, c0, c1, d0, d1], by simp (disch := omega) only [bsW, WOp, WOq, WV, bo, gdc, gw, bnd, ↓reduceIte, Nat.reduceEqDiff, rsvs, rsv, oneOf, rdN, ne_eq, Nat.reduceAdd, Nat.reduceMul, Nat.reduceLT, reduceCtorEq, Value.cells, setN, Value.oneCell', Nat.reduceLeDiff, undef, fcT, f0, f1, f5, c0, c1, d0, d1, Int.natCast_add, Int.natCast_one], hs, by omega⟩
    · simp (disch := omega) only [bsW, WOp, WOq, WV, bo, gdc, gw, bnd, ↓reduceIte, Nat.reduceEqDiff, rsvs, rsv, oneOf, rdN, ne_eq, Nat.reduceAdd, Nat.reduceMul, Nat.reduceLT, reduceCtorEq, Value.cells, setN, Value.oneCell', Nat.reduceLeDiff, undef, fcT, f0, f1, f5, b1]
      exact Is_i hs
  · rintro fr H' nx' ⟨k, hm, _⟩; omega
  · exact ⟨0, by omega, by omega, by simp (disch := omega) only [bsW, WOp, WOq, WV, bo, gdc, gw, bnd, ↓reduceIte, Nat.reduceEqDiff, rsvs, rsv, oneOf, rdN, ne_eq, Nat.reduceAdd, Nat.reduceMul, Nat.reduceLT, reduceCtorEq, Value.cells, setN, Value.oneCell', Nat.reduceLeDiff, undef, fcT], by simp (disch := omega) only [bsW, WOp, WOq, WV, bo, gdc, gw, bnd, ↓reduceIte, Nat.reduceEqDiff, rsvs, rsv, oneOf, rdN, ne_eq, Nat.reduceAdd, Nat.reduceMul, Nat.reduceLT, reduceCtorEq, Value.cells, setN, Value.oneCell', Nat.reduceLeDiff, undef, fcT], by simp (disch := omega) only [bsW, WOp, WOq, WV, bo, gdc, gw, bnd, ↓reduceIte, Nat.reduceEqDiff, rsvs, rsv, oneOf, rdN, ne_eq, Nat.reduceAdd, Nat.reduceMul, Nat.reduceLT, reduceCtorEq, Value.cells, setN, Value.oneCell', Nat.reduceLeDiff, undef, fcT, Int.natCast_zero], Sub.refl _, by omega⟩

theorem toPuzzleStepS (A : Option Addr) (n c : Nat) (f : Nat → Nat → Int) (H : Hp) (nx : Nat) (hn : n ≤ 1048576) (h : Rd H A n 2 f) :
    AC Try.prog 34 #[.slice A n c] H nx (NewS H nx n 2 f 46) := by
  refine AC_of x_laws_toPuzzleStepS rfl fun hB => ?_
  simp (disch := omega) only [bsW, WOp, WOq, WV, bo, gdc, gw, bnd, ↓reduceIte, Nat.reduceEqDiff, rsvs, rsv, oneOf, rdN, ne_eq, Nat.reduceAdd, Nat.reduceMul, Nat.reduceLT, reduceCtorEq, Value.cells, setN, Value.oneCell', Nat.reduceLeDiff, undef, fcT, c_laws_toPuzzleStepS]
  refine ⟨by omega, newB_i fun nb hnb => ?_⟩
  rw [mkRow_flat #[.int .i64 0, .int .i64 0] n 2 (by omega) rfl]
  simp (disch := omega) only [bsW, WOp, WOq, WV, bo, gdc, gw, bnd, ↓reduceIte, Nat.reduceEqDiff, rsvs, rsv, oneOf, rdN, ne_eq, Nat.reduceAdd, Nat.reduceMul, Nat.reduceLT, reduceCtorEq, Value.cells, setN, Value.oneCell', Nat.reduceLeDiff, undef, fcT]
  refine LpE_rule (fun m fr H' nx' => ∃ k : Nat, m = n - k + 1 ∧ k ≤ n ∧ fr 0 = .slice A n c ∧ fr 3 = .slice (some ⟨nb, 0, none⟩) n n ∧ fr 4 = .int .i64 k ∧ Sub H H' ∧ nb + 1 ≤ nx' ∧
    H' nb = some (.rw (flat n 2 (fun a b => if a < k then f a b else 0)) 46)) ?_ ?_ (n + 1) ?_
  · rintro m K hK fr H' nx' ⟨k, hm, hk, f0, f3, f4, hs, hx, hb⟩
    simp (disch := omega) only [bsW, WOp, WOq, WV, bo, gdc, gw, bnd, ↓reduceIte, Nat.reduceEqDiff, rsvs, rsv, oneOf, rdN, ne_eq, Nat.reduceAdd, Nat.reduceMul, Nat.reduceLT, reduceCtorEq, Value.cells, setN, Value.oneCell', Nat.reduceLeDiff, undef, fcT, f0, f3, f4]
    refine gif_split (fun b1 => ?_) (fun b1 => ?_)
    · have hlt : k < n := by simpa using b1
      obtain ⟨b, off, rfl, hc⟩ := h.at_ (by omega)
      have c0 := rd_sub hs (hc k 0 hlt (by omega))
      have c1 := rd_sub hs (hc k 1 hlt (by omega))
      simp only [Nat.add_zero] at c0
      simp (disch := omega) only [bsW, WOp, WOq, WV, bo, gdc, gw, bnd, ↓reduceIte, Nat.reduceEqDiff, rsvs, rsv, oneOf, rdN, ne_eq, Nat.reduceAdd, Nat.reduceMul, Nat.reduceLT, reduceCtorEq, Value.cells, setN, Value.oneCell', Nat.reduceLeDiff, undef, fcT, f0, f3, f4, c0, c1, hb, flat_length, b1]
      (repeat' (first | ((refine gif_split (fun hs_ => ?_) (fun hs_ => ?_)) <;> (have hp_ := hs_; (try simp only [decide_eq_true_eq, decide_eq_false_iff_not, beq_iff_eq, bne_iff_ne, beq_eq_false_iff_ne, Bool.not_eq_true, Bool.and_eq_true, Bool.or_eq_true, Bool.and_eq_false_iff, Bool.or_eq_false_iff, bne_eq_false_iff_eq, ne_eq] at hp_); (try simp (disch := omega) only [bsW, WOp, WOq, WV, bo, gdc, gw, bnd, ↓reduceIte, Nat.reduceEqDiff, rsvs, rsv, oneOf, rdN, ne_eq, Nat.reduceAdd, Nat.reduceMul, Nat.reduceLT, reduceCtorEq, Value.cells, setN, Value.oneCell', Nat.reduceLeDiff, undef, fcT, f0, f3, f4, c0, c1, hb, flat_length, hs_]))) | ((refine newB_i (fun nb_ hb_ => ?_)); (try simp (disch := omega) only [bsW, WOp, WOq, WV, bo, gdc, gw, bnd, ↓reduceIte, Nat.reduceEqDiff, rsvs, rsv, oneOf, rdN, ne_eq, Nat.reduceAdd, Nat.reduceMul, Nat.reduceLT, reduceCtorEq, Value.cells, setN, Value.oneCell', Nat.reduceLeDiff, undef, fcT, f0, f3, f4, c0, c1, hb, flat_length])) | ((first | (refine QC_i (toPuzzleStep _ _ _ _) ?_) | (refine PC.ac (toPuzzleStep _ _ _ _) ?_)); (try simp (disch := omega) only [bsW, WOp, WOq, WV, bo, gdc, gw, bnd, ↓reduceIte, Nat.reduceEqDiff, rsvs, rsv, oneOf, rdN, ne_eq, Nat.reduceAdd, Nat.reduceMul, Nat.reduceLT, reduceCtorEq, Value.cells, setN, Value.oneCell', Nat.reduceLeDiff, undef, fcT, f0, f3, f4, c0, c1, hb, flat_length])) | (refine fun (hBd_ : Bd _ _) => ?_) | (refine And.intro (show Sub _ _ by first | exact Sub.refl _ | exact sub_del _ _ | exact sub_del_upd (Sub.refl _) | exact sub_del_upd (by with_reducible assumption) | with_reducible assumption | exact Sub.trans (sub_del _ _) (by with_reducible assumption) | exact sub_new (by with_reducible assumption) (by with_reducible assumption)) ?_) | (refine And.intro (And.intro (show Sub _ _ by first | exact Sub.refl _ | exact sub_del _ _ | exact sub_del_upd (Sub.refl _) | exact sub_del_upd (by with_reducible assumption) | with_reducible assumption | exact Sub.trans (sub_del _ _) (by with_reducible assumption) | exact sub_new (by with_reducible assumption) (by with_reducible assumption)) ?_) ?_) | (refine And.intro ?_ ?_; omega)))
      refine hK _ _ _ ?_
      refine ⟨k + 1, by omega, by omega, by simp (disch := omega) only [bsW, WOp, WOq, WV, bo, gdc, gw, bnd, ↓reduceIte, Nat.reduceEqDiff, rsvs, rsv, oneOf, rdN, ne_eq, Nat.reduceAdd, Nat.reduceMul, Nat.reduceLT, reduceCtorEq, Value.cells, setN, Value.oneCell', Nat.reduceLeDiff, undef, fcT, f0, f3, f4, c0, c1, hb, flat_length], by simp (disch := omega) only [bsW, WOp, WOq, WV, bo, gdc, gw, bnd, ↓reduceIte, Nat.reduceEqDiff, rsvs, rsv, oneOf, rdN, ne_eq, Nat.reduceAdd, Nat.reduceMul, Nat.reduceLT, reduceCtorEq, Value.cells, setN, Value.oneCell', Nat.reduceLeDiff, undef, fcT, f0, f3, f4, c0, c1, hb, flat_length], by simp (disch := omega) only [bsW, WOp, WOq, WV, bo, gdc, gw, bnd, ↓reduceIte, Nat.reduceEqDiff, rsvs, rsv, oneOf, rdN, ne_eq, Nat.reduceAdd, Nat.reduceMul, Nat.reduceLT, reduceCtorEq, Value.cells, setN, Value.oneCell', Nat.reduceLeDiff, undef, fcT, f0, f3, f4, c0, c1, hb, flat_length, Int.natCast_add, Int.natCast_one], sub_upd_old hs (none_of_bd hB hnb), by omega, ?_⟩
      rw [upd_same]
      (try simp only [setN, Nat.add_zero])
      rw [flat_set0 hlt (by omega), flat_set hlt (by omega)]
      congr 2
      refine flat_congr fun i j hi hj => ?_
      have hj' : j = 0 ∨ j = 1 := by omega
      by_cases hik : i = k
      · subst hik
        rcases hj' with rfl | rfl <;> simp
      · have e1 : (i < k + 1) = (i < k) := by simp; omega
        simp [hik, e1]
    · simp (disch := omega) only [bsW, WOp, WOq, WV, bo, gdc, gw, bnd, ↓reduceIte, Nat.reduceEqDiff, rsvs, rsv, oneOf, rdN, ne_eq, Nat.reduceAdd, Nat.reduceMul, Nat.reduceLT, reduceCtorEq, Value.cells, setN, Value.oneCell', Nat.reduceLeDiff, undef, fcT, f0, f3, f4, b1]
      have hkn : k = n := by simp at b1; omega
      subst hkn
      refine ⟨⟨nb, rfl, hnb, hx, ?_⟩, hs⟩
      rw [hb]
      congr 2
      exact flat_congr fun i j hi hj => by rw [if_pos hi]
  · rintro fr H' nx' ⟨k, hm, _⟩; omega
  · refine ⟨0, by omega, by omega, by simp (disch := omega) only [bsW, WOp, WOq, WV, bo, gdc, gw, bnd, ↓reduceIte, Nat.reduceEqDiff, rsvs, rsv, oneOf, rdN, ne_eq, Nat.reduceAdd, Nat.reduceMul, Nat.reduceLT, reduceCtorEq, Value.cells, setN, Value.oneCell', Nat.reduceLeDiff, undef, fcT], by simp (disch := omega) only [bsW, WOp, WOq, WV, bo, gdc, gw, bnd, ↓reduceIte, Nat.reduceEqDiff, rsvs, rsv, oneOf, rdN, ne_eq, Nat.reduceAdd, Nat.reduceMul, Nat.reduceLT, reduceCtorEq, Value.cells, setN, Value.oneCell', Nat.reduceLeDiff, undef, fcT], by simp (disch := omega) only [bsW, WOp, WOq, WV, bo, gdc, gw, bnd, ↓reduceIte, Nat.reduceEqDiff, rsvs, rsv, oneOf, rdN, ne_eq, Nat.reduceAdd, Nat.reduceMul, Nat.reduceLT, reduceCtorEq, Value.cells, setN, Value.oneCell', Nat.reduceLeDiff, undef, fcT, Int.natCast_zero], ?_, by omega, ?_⟩
    · exact sub_upd_old (Sub.refl _) (none_of_bd hB hnb)
    · rw [upd_same]; congr 2

theorem markPuzzleStepS (v : Value) (n : Nat) (f : Nat → Nat → Int) (t : Int) (lo : Nat) (H : Hp) (nx : Nat) (hn : n ≤ 1048576) (ht : 0 ≤ t ∧ t ≤ 1099511627776) (ho : OwnR H lo nx n 2 f 46 v) :
    AC Try.prog 37 #[v, .int .i64 t] H nx (Marked H lo n 2 t 46 v) := by
  rcases ho.ex with ⟨rfl, rfl⟩ | ⟨b, cap, sp, rfl, hb1, hb2, hb3, hb4⟩
  · refine AC_of x_laws_markPuzzleStepS rfl fun hB => ?_
    simp (disch := omega) only [bsW, WOp, WOq, WV, bo, gdc, gw, bnd, ↓reduceIte, Nat.reduceEqDiff, rsvs, rsv, oneOf, rdN, ne_eq, Nat.reduceAdd, Nat.reduceMul, Nat.reduceLT, reduceCtorEq, Value.cells, setN, Value.oneCell', Nat.reduceLeDiff, undef, fcT, c_laws_markPuzzleStepS]
    refine LpE_rule (fun m fr H' nx' => m = 1 ∧ fr 0 = .slice none 0 0 ∧ fr 1 = .int .i64 t ∧ fr 5 = .int .i64 0 ∧ H' = H ∧ nx' = nx) ?_ ?_ 1 ?_
    · rintro m K hK fr H' nx' ⟨hm, f0, f1, f5, rfl, rfl⟩
      simp (disch := omega) only [bsW, WOp, WOq, WV, bo, gdc, gw, bnd, ↓reduceIte, Nat.reduceEqDiff, rsvs, rsv, oneOf, rdN, ne_eq, Nat.reduceAdd, Nat.reduceMul, Nat.reduceLT, reduceCtorEq, Value.cells, setN, Value.oneCell', Nat.reduceLeDiff, undef, fcT, f0, f1, f5]
      (repeat' (first | ((refine gif_split (fun hs_ => ?_) (fun hs_ => ?_)) <;> (have hp_ := hs_; (try simp only [decide_eq_true_eq, decide_eq_false_iff_not, beq_iff_eq, bne_iff_ne, beq_eq_false_iff_ne, Bool.not_eq_true, Bool.and_eq_true, Bool.or_eq_true, Bool.and_eq_false_iff, Bool.or_eq_false_iff, bne_eq_false_iff_eq, ne_eq] at hp_); (try simp (disch := omega) only [bsW, WOp, WOq, WV, bo, gdc, gw, bnd, ↓reduceIte, Nat.reduceEqDiff, rsvs, rsv, oneOf, rdN, ne_eq, Nat.reduceAdd, Nat.reduceMul, Nat.reduceLT, reduceCtorEq, Value.cells, setN, Value.oneCell', Nat.reduceLeDiff, undef, fcT, f0, f1, f5, hs_]))) | ((refine newB_i (fun nb_ hb_ => ?_)); (try simp (disch := omega) only [bsW, WOp, WOq, WV, bo, gdc, gw, bnd, ↓reduceIte, Nat.reduceEqDiff, rsvs, rsv, oneOf, rdN, ne_eq, Nat.reduceAdd, Nat.reduceMul, Nat.reduceLT, reduceCtorEq, Value.cells, setN, Value.oneCell', Nat.reduceLeDiff, undef, fcT, f0, f1, f5])) | (refine fun (hBd_ : Bd _ _) => ?_) | (refine And.intro (show Sub _ _ by first | exact Sub.refl _ | exact sub_del _ _ | exact sub_del_upd (Sub.refl _) | exact sub_del_upd (by with_reducible assumption) | with_reducible assumption | exact Sub.trans (sub_del _ _) (by with_reducible assumption) | exact sub_new (by with_reducible assumption) (by with_reducible assumption)) ?_) | (refine And.intro (And.intro (show Sub _ _ by first | exact Sub.refl _ | exact sub_del _ _ | exact sub_del_upd (Sub.refl _) | exact sub_del_upd (by with_reducible assumption) | with_reducible assumption | exact Sub.trans (sub_del _ _) (by with_reducible assumption) | exact sub_new (by with_reducible assumption) (by with_reducible assumption)) ?_) ?_) | (refine And.intro ?_ ?_; omega)))
      · exfalso; omega
      · exact ⟨vi (by omega), .nil, fun c _ => rfl⟩
    · rintro fr H' nx' ⟨hm, _⟩; omega
    · exact ⟨rfl, by simp (disch := omega) only [bsW, WOp, WOq, WV, bo, gdc, gw, bnd, ↓reduceIte, Nat.reduceEqDiff, rsvs, rsv, oneOf, rdN, ne_eq, Nat.reduceAdd, Nat.reduceMul, Nat.reduceLT, reduceCtorEq, Value.cells, setN, Value.oneCell', Nat.reduceLeDiff, undef, fcT], by simp (disch := omega) only [bsW, WOp, WOq, WV, bo, gdc, gw, bnd, ↓reduceIte, Nat.reduceEqDiff, rsvs, rsv, oneOf, rdN, ne_eq, Nat.reduceAdd, Nat.reduceMul, Nat.reduceLT, reduceCtorEq, Value.cells, setN, Value.oneCell', Nat.reduceLeDiff, undef, fcT], by simp (disch := omega) only [bsW, WOp, WOq, WV, bo, gdc, gw, bnd, ↓reduceIte, Nat.reduceEqDiff, rsvs, rsv, oneOf, rdN, ne_eq, Nat.reduceAdd, Nat.reduceMul, Nat.reduceLT, reduceCtorEq, Value.cells, setN, Value.oneCell', Nat.reduceLeDiff, undef, fcT], rfl, rfl⟩
  · refine AC_of x_laws_markPuzzleStepS rfl fun hB => ?_
    simp (disch := omega) only [bsW, WOp, WOq, WV, bo, gdc, gw, bnd, ↓reduceIte, Nat.reduceEqDiff, rsvs, rsv, oneOf, rdN, ne_eq, Nat.reduceAdd, Nat.reduceMul, Nat.reduceLT, reduceCtorEq, Value.cells, setN, Value.oneCell', Nat.reduceLeDiff, undef, fcT, c_laws_markPuzzleStepS]
    refine LpE_rule (fun m fr H' nx' => ∃ k : Nat, m = n - k + 1 ∧ k ≤ n ∧ fr 0 = .slice (some ⟨b, 0, none⟩) n cap ∧ fr 1 = .int .i64 (t + k * 2) ∧ fr 5 = .int .i64 k ∧ nx ≤ nx' ∧ (∀ c, c ≠ b → H' c = H c) ∧
      H' b = some (.rw (flat n 2 (fun i j => if i < k then mks t 2 i j else f i j) ++ sp) 46)) ?_ ?_ (n + 1) ?_
    · rintro m K hK fr H' nx' ⟨k, hm, hk, f0, f1, f5, hx, hoth, hb⟩
      simp (disch := omega) only [bsW, WOp, WOq, WV, bo, gdc, gw, bnd, ↓reduceIte, Nat.reduceEqDiff, rsvs, rsv, oneOf, rdN, ne_eq, Nat.reduceAdd, Nat.reduceMul, Nat.reduceLT, reduceCtorEq, Value.cells, setN, Value.oneCell', Nat.reduceLeDiff, undef, fcT, f0, f1, f5]
      refine gif_split (fun b1 => ?_) (fun b1 => ?_)
      · have hlt : k < n := by simpa using b1
        simp (disch := omega) only [bsW, WOp, WOq, WV, bo, gdc, gw, bnd, ↓reduceIte, Nat.reduceEqDiff, rsvs, rsv, oneOf, rdN, ne_eq, Nat.reduceAdd, Nat.reduceMul, Nat.reduceLT, reduceCtorEq, Value.cells, setN, Value.oneCell', Nat.reduceLeDiff, undef, fcT, f0, f1, f5, hb, List.length_append, flat_length, List.length_set, b1]
        (repeat' (first | ((refine gif_split (fun hs_ => ?_) (fun hs_ => ?_)) <;> (have hp_ := hs_; (try simp only [decide_eq_true_eq, decide_eq_false_iff_not, beq_iff_eq, bne_iff_ne, beq_eq_false_iff_ne, Bool.not_eq_true, Bool.and_eq_true, Bool.or_eq_true, Bool.and_eq_false_iff, Bool.or_eq_false_iff, bne_eq_false_iff_eq, ne_eq] at hp_); (try simp (disch := omega) only [bsW, WOp, WOq, WV, bo, gdc, gw, bnd, ↓reduceIte, Nat.reduceEqDiff, rsvs, rsv, oneOf, rdN, ne_eq, Nat.reduceAdd, Nat.reduceMul, Nat.reduceLT, reduceCtorEq, Value.cells, setN, Value.oneCell', Nat.reduceLeDiff, undef, fcT, f0, f1, f5, hb, List.length_append, flat_length, List.length_set, hs_]))) | ((refine newB_i (fun nb_ hb_ => ?_)); (try simp (disch := omega) only [bsW, WOp, WOq, WV, bo, gdc, gw, bnd, ↓reduceIte, Nat.reduceEqDiff, rsvs, rsv, oneOf, rdN, ne_eq, Nat.reduceAdd, Nat.reduceMul, Nat.reduceLT, reduceCtorEq, Value.cells, setN, Value.oneCell', Nat.reduceLeDiff, undef, fcT, f0, f1, f5, hb, List.length_append, flat_length, List.length_set])) | (refine fun (hBd_ : Bd _ _) => ?_) | (refine And.intro (show Sub _ _ by first | exact Sub.refl _ | exact sub_del _ _ | exact sub_del_upd (Sub.refl _) | exact sub_del_upd (by with_reducible assumption) | with_reducible assumption | exact Sub.trans (sub_del _ _) (by with_reducible assumption) | exact sub_new (by with_reducible assumption) (by with_reducible assumption)) ?_) | (refine And.intro (And.intro (show Sub _ _ by first | exact Sub.refl _ | exact sub_del _ _ | exact sub_del_upd (Sub.refl _) | exact sub_del_upd (by with_reducible assumption) | with_reducible assumption | exact Sub.trans (sub_del _ _) (by with_reducible assumption) | exact sub_new (by with_reducible assumption) (by with_reducible assumption)) ?_) ?_) | (refine And.intro ?_ ?_; omega)))
        refine hK _ _ _ ?_
        refine ⟨k + 1, by omega, by omega, by simp (disch := omega) only [bsW, WOp, WOq, WV, bo, gdc, gw, bnd, ↓reduceIte, Nat.reduceEqDiff, rsvs, rsv, oneOf, rdN, ne_eq, Nat.reduceAdd, Nat.reduceMul, Nat.reduceLT, reduceCtorEq, Value.cells, setN, Value.oneCell', Nat.reduceLeDiff, undef, fcT, f0, f1, f5, hb, List.length_append, flat_length, List.length_set], ?_, by simp (disch := omega) only [bsW, WOp, WOq, WV, bo, gdc, gw, bnd, ↓reduceIte, Nat.reduceEqDiff, rsvs, rsv, oneOf, rdN, ne_eq, Nat.reduceAdd, Nat.reduceMul, Nat.reduceLT, reduceCtorEq, Value.cells, setN, Value.oneCell', Nat.reduceLeDiff, undef, fcT, f0, f1, f5, hb, List.length_append, flat_length, List.length_set, Int.natCast_add, Int.natCast_one], by omega, fun c hc => ?_, ?_⟩
        · simp (disch := omega) only [bsW, WOp, WOq, WV, bo, gdc, gw, bnd, ↓reduceIte, Nat.reduceEqDiff, rsvs, rsv, oneOf, rdN, ne_eq, Nat.reduceAdd, Nat.reduceMul, Nat.reduceLT, reduceCtorEq, Value.cells, setN, Value.oneCell', Nat.reduceLeDiff, undef, fcT, f0, f1, f5, hb, List.length_append, flat_length, List.length_set]
          exact vi (by omega)
        · rw [upd_ne hc]; exact hoth c hc
        rw [upd_same]
        (try simp only [setN, Nat.add_zero])
        rw [flat_set0_sp hlt (by omega), flat_set_sp hlt (by omega)]
        congr 3
        refine flat_congr fun i j hi hj => ?_
        have hj' : j = 0 ∨ j = 1 := by omega
        by_cases hik : i = k
        · subst hik
          rcases hj' with rfl | rfl <;> simp [set2, mks] <;> omega
        · have e1 : (i < k + 1) = (i < k) := by simp; omega
          simp [set2, hik, e1]
      · simp (disch := omega) only [bsW, WOp, WOq, WV, bo, gdc, gw, bnd, ↓reduceIte, Nat.reduceEqDiff, rsvs, rsv, oneOf, rdN, ne_eq, Nat.reduceAdd, Nat.reduceMul, Nat.reduceLT, reduceCtorEq, Value.cells, setN, Value.oneCell', Nat.reduceLeDiff, undef, fcT, f0, f1, f5, b1]
        have hkn : k = n := by simp at b1; omega
        subst hkn
        refine ⟨vi (by omega), ⟨.inr ⟨b, cap, sp, rfl, hb1, by omega, ?_, hb4⟩⟩, fun c hc => hoth c (fun e => hc (by rw [e]; rfl))⟩
        rw [hb]
        congr 3
        exact flat_congr fun i j hi hj => by rw [if_pos hi]
    · rintro fr H' nx' ⟨k, hm, _⟩; omega
    · refine ⟨0, by omega, by omega, by simp (disch := omega) only [bsW, WOp, WOq, WV, bo, gdc, gw, bnd, ↓reduceIte, Nat.reduceEqDiff, rsvs, rsv, oneOf, rdN, ne_eq, Nat.reduceAdd, Nat.reduceMul, Nat.reduceLT, reduceCtorEq, Value.cells, setN, Value.oneCell', Nat.reduceLeDiff, undef, fcT], ?_, by simp (disch := omega) only [bsW, WOp, WOq, WV, bo, gdc, gw, bnd, ↓reduceIte, Nat.reduceEqDiff, rsvs, rsv, oneOf, rdN, ne_eq, Nat.reduceAdd, Nat.reduceMul, Nat.reduceLT, reduceCtorEq, Value.cells, setN, Value.oneCell', Nat.reduceLeDiff, undef, fcT, Int.natCast_zero], by omega, fun c _ => rfl, ?_⟩
      · simp (disch := omega) only [bsW, WOp, WOq, WV, bo, gdc, gw, bnd, ↓reduceIte, Nat.reduceEqDiff, rsvs, rsv, oneOf, rdN, ne_eq, Nat.reduceAdd, Nat.reduceMul, Nat.reduceLT, reduceCtorEq, Value.cells, setN, Value.oneCell', Nat.reduceLeDiff, undef, fcT]
        exact vi (by omega)
      · rw [hb3]; congr 3

theorem eqPuzzleStepO (v w : Value) (n : Nat) (f : Nat → Nat → Int) (lo nx' lo2 nx2 ty2 : Nat) (H : Hp) (nx : Nat) (hn : n ≤ 1048576) (h : OwnR H lo nx' n 2 f 46 v) (h2 : OwnR H lo2 nx2 n 2 f ty2 w) :
    PC Try.prog 36 #[v, w] H nx (.bool true) := by
  obtain ⟨A, c, rfl, _, hR⟩ := h.rd
  obtain ⟨A2, c2, rfl, _, hR2⟩ := h2.rd
  exact eqPuzzleStepS A A2 n c c2 f H nx (by omega) hR hR2

theorem markPuzzleStepI (v : Value) (n : Nat) (f : Nat → Nat → Int) (t : Int) (lo hi : Nat) (H : Hp) (nx : Nat) (hn : n ≤ 1048576) (ht : 0 ≤ t ∧ t ≤ 1099511627776) (ho : OwnR H lo hi n 2 f 46 v) (hhi : hi ≤ nx) :
    AC Try.prog 37 #[v, .int .i64 t] H nx (MarkI (fun H' => OwnR H' lo hi n 2 (mks t 2) 46 v) H lo hi nx (.int .i64 (t + n * 2))) :=
  (markPuzzleStepS v n f t lo H nx hn ht (ho.sub (Sub.refl _) hhi)).mono2 fun r H' nx' hx h => markI_of ho hhi h
theorem toPuzzleStepI (A : Option Addr) (n c : Nat) (f : Nat → Nat → Int) (H : Hp) (nx : Nat) (hn : n ≤ 1048576) (h : Rd H A n 2 f) :
    AC Try.prog 34 #[.slice A n c] H nx (NewI (fun hi v H' => OwnR H' nx hi n 2 f 46 v) H) :=
  (toPuzzleStepS A n c f H nx hn h).mono2 fun v H' nx' hx h => ⟨(h.r (by unfold maxLen; omega)).own, h.s⟩
end Go.Proofs.Ytbhabpenlaklcaa
