/- Puzzles: what the program and the reference answer. -/
import Derived.Test.YtbhabpenlaklcaaDoorQ4
import Derived.Test.YtbhabpenlaklcaaDoorQ5
set_option linter.unusedVariables false
set_option linter.unusedSimpArgs false
set_option maxRecDepth 100000
set_option maxHeartbeats 1000000
namespace Go.Proofs.YtbhabpenlaklcaaDoor
open Go Go.RowKit Go.Proofs

theorem tupE {a b : Int} {c d : Bool} (h : a = b) (h2 : c = d) : Value.tuple #[.int .i64 a, .bool c] = .tuple #[.int .i64 b, .bool d] := by rw [h, h2]
def RowFlagL (H : Hp) (nx : Nat) (l : List Int) (ty : TypeId) (ok : Bool) (v : Value) (H' : Hp) (nx' : Nat) : Prop := ∃ w, v = .tuple #[w, .bool ok] ∧ NewL H nx l ty w H' nx'
noncomputable def undoB (tot : Int) (la : List Int) (hand : Int) (rj : List Int) (sl : Bool) (x : Int) : Bool := pzB tot la hand rj sl && decide (0 ≤ idxOf (fun j => la.getD j 0 == x) la.length)
noncomputable def undoI (tot : Int) (la : List Int) (hand : Int) (rj : List Int) (sl : Bool) (x : Int) : Int := if undoB tot la hand rj sl x = true then (la.length : Int) - 1 - idxOf (fun j => la.getD j 0 == x) la.length else 0
noncomputable def sealI (tot : Int) (la : List Int) (hand : Int) (rj : List Int) (sl : Bool) : Int := if pzB tot la hand rj sl = true ∧ sl = false then 1 + 2 * ((waitK la hand rj tot.toNat).length : Int) + (if 0 < hand then 1 else 0) else 0
noncomputable def pwL (tot : Int) (la : List Int) (hand : Int) (rj : List Int) (sl : Bool) : List Int := if pzB tot la hand rj sl = true then waitK la hand rj tot.toNat else []
theorem pwL_len (tot : Int) (la : List Int) (hand : Int) (rj : List Int) (sl : Bool) : (pwL tot la hand rj sl).length ≤ 20 := by
  unfold pwL
  split
  · rename_i h
    have h1 := pzB_iff.1 h
    have := waitK_len la hand rj tot.toNat
    have := h1.t2
    omega
  · simp

theorem IsPuzzle (tot : Int) (A : Option Addr) (la : List Int) (c : Nat) (hand : Int) (B : Option Addr) (rj : List Int) (d : Nat) (sl : Bool) (H : Hp) (nx : Nat) (hla : la.length + rj.length ≤ 1048576) (hc : la.length ≤ c) (hA : RdL H A la) (hRB : RdL H B rj) : PC Tryd.prog 23 #[.agg #[.int .i64 tot, .slice A la.length c, .int .i64 hand, .slice B rj.length d, .bool sl]] H nx (.bool (pzB tot la hand rj sl)) := by
  refine AC_of x_impl_IsPuzzle rfl fun hB => ?_
  simp (disch := omega) only [bsW, WOp, WOq, WV, bo, eqN, gdc, gw, bnd, ↓reduceIte, Nat.reduceEqDiff, rsvs, rsv, oneOf, rdN, ne_eq, Nat.reduceAdd, Nat.reduceMul, Nat.reduceLT, reduceCtorEq, Value.cells, setN, Value.oneCell', Nat.reduceLeDiff, undef, fcT, c_impl_IsPuzzle]
  refine newB_i (fun nb_ hb_ => ?_)
  simp (disch := omega) only [bsW, WOp, WOq, WV, bo, eqN, gdc, gw, bnd, ↓reduceIte, Nat.reduceEqDiff, rsvs, rsv, oneOf, rdN, ne_eq, Nat.reduceAdd, Nat.reduceMul, Nat.reduceLT, reduceCtorEq, Value.cells, setN, Value.oneCell', Nat.reduceLeDiff, undef, fcT]
  have hs0 : Sub H (upd H nb_ (.rw [.int .i64 tot, .slice A la.length c, .int .i64 hand, .slice B rj.length d, .bool sl] 28)) := sub_up (nx := nx) (by omega) hB (Sub.refl _)
  have hBA : Bd (upd H nb_ (.rw [.int .i64 tot, .slice A la.length c, .int .i64 hand, .slice B rj.length d, .bool sl] 28)) (nb_ + 1) := Bd.up hB (by omega)
  have c0 : rd (upd H nb_ (.rw [.int .i64 tot, .slice A la.length c, .int .i64 hand, .slice B rj.length d, .bool sl] 28)) nb_ 0 = some (.int .i64 tot) := by rw [rd_upd_same]; rfl
  have c1 : rd (upd H nb_ (.rw [.int .i64 tot, .slice A la.length c, .int .i64 hand, .slice B rj.length d, .bool sl] 28)) nb_ 1 = some (.slice A la.length c) := by rw [rd_upd_same]; rfl
  have c2 : rd (upd H nb_ (.rw [.int .i64 tot, .slice A la.length c, .int .i64 hand, .slice B rj.length d, .bool sl] 28)) nb_ 2 = some (.int .i64 hand) := by rw [rd_upd_same]; rfl
  have c3 : rd (upd H nb_ (.rw [.int .i64 tot, .slice A la.length c, .int .i64 hand, .slice B rj.length d, .bool sl] 28)) nb_ 3 = some (.slice B rj.length d) := by rw [rd_upd_same]; rfl
  have c4 : rd (upd H nb_ (.rw [.int .i64 tot, .slice A la.length c, .int .i64 hand, .slice B rj.length d, .bool sl] 28)) nb_ 4 = some (.bool sl) := by rw [rd_upd_same]; rfl
  replace hA := hA.sub hs0
  replace hRB := hRB.sub hs0
  have hbA := hb_
  generalize (upd H nb_ (.rw [.int .i64 tot, .slice A la.length c, .int .i64 hand, .slice B rj.length d, .bool sl] 28)) = H0 at *
  generalize nb_ = bA at *
  (try (simp (disch := omega) only [bsW, WOp, WOq, WV, bo, eqN, gdc, gw, bnd, ↓reduceIte, Nat.reduceEqDiff, rsvs, rsv, oneOf, rdN, ne_eq, Nat.reduceAdd, Nat.reduceMul, Nat.reduceLT, reduceCtorEq, Value.cells, setN, Value.oneCell', Nat.reduceLeDiff, undef, fcT, c0, c1, c2, c3, c4]))
  (repeat' (first | ((with_reducible refine gif_split (fun hs_ => ?_) (fun hs_ => ?_)) <;> (have hp_ := hs_; (try simp only [hpL, ne_eq] at hp_); (try simp (disch := omega) only [bsW, WOp, WOq, WV, bo, eqN, gdc, gw, bnd, ↓reduceIte, Nat.reduceEqDiff, rsvs, rsv, oneOf, rdN, ne_eq, Nat.reduceAdd, Nat.reduceMul, Nat.reduceLT, reduceCtorEq, Value.cells, setN, Value.oneCell', Nat.reduceLeDiff, undef, fcT, c0, c1, c2, c3, c4, hs_]))) | ((first | (with_reducible refine newB_i (fun nb_ hb_ => ?_)) | ((with_reducible show QC _ _ _ _ _ _); (first | (refine QC_i (isPuzzle bA tot A la c hand B rj d sl _ _ hla c0 c1 c2 c3 c4 hA hRB) ?_))) | ((with_reducible show AC _ _ _ _ _ _); (first | (refine PC.ac (isPuzzle bA tot A la c hand B rj d sl _ _ hla c0 c1 c2 c3 c4 hA hRB) ?_))) | (with_reducible refine RgE_i (fun (hBd_ : Bd _ _) => ?_))); (try simp (disch := omega) only [bsW, WOp, WOq, WV, bo, eqN, gdc, gw, bnd, ↓reduceIte, Nat.reduceEqDiff, rsvs, rsv, oneOf, rdN, ne_eq, Nat.reduceAdd, Nat.reduceMul, Nat.reduceLT, reduceCtorEq, Value.cells, setN, Value.oneCell', Nat.reduceLeDiff, undef, fcT, c0, c1, c2, c3, c4])) | (with_reducible refine fun (hBd_ : Bd _ _) => ?_) | ((first | (with_reducible refine @And.intro (Sub _ _) _ ?_ ?_) | ((with_reducible refine @And.intro (Sub _ _ ∧ _) _ ?_ ?_); (with_reducible refine @And.intro (Sub _ _) _ ?_ ?_))); exact sbX) | ((with_reducible refine And.intro ?_ ?_); omega)))
  all_goals try (exfalso; omega)
  exact Is_e rfl hs0
theorem UndoSteps (tot : Int) (A : Option Addr) (la : List Int) (c : Nat) (hand : Int) (B : Option Addr) (rj : List Int) (d : Nat) (sl : Bool) (x : Int) (H : Hp) (nx : Nat) (hla : la.length + rj.length ≤ 1048576) (hc : la.length ≤ c) (hA : RdL H A la) (hRB : RdL H B rj) : PC Tryd.prog 19 #[.agg #[.int .i64 tot, .slice A la.length c, .int .i64 hand, .slice B rj.length d, .bool sl], .int .i64 x] H nx (.tuple #[.int .i64 (undoI tot la hand rj sl x), .bool (undoB tot la hand rj sl x)]) := by
  refine AC_of x_impl_UndoSteps rfl fun hB => ?_
  simp (disch := omega) only [bsW, WOp, WOq, WV, bo, eqN, gdc, gw, bnd, ↓reduceIte, Nat.reduceEqDiff, rsvs, rsv, oneOf, rdN, ne_eq, Nat.reduceAdd, Nat.reduceMul, Nat.reduceLT, reduceCtorEq, Value.cells, setN, Value.oneCell', Nat.reduceLeDiff, undef, fcT, c_impl_UndoSteps]
  refine newB_i (fun nb_ hb_ => ?_)
  simp (disch := omega) only [bsW, WOp, WOq, WV, bo, eqN, gdc, gw, bnd, ↓reduceIte, Nat.reduceEqDiff, rsvs, rsv, oneOf, rdN, ne_eq, Nat.reduceAdd, Nat.reduceMul, Nat.reduceLT, reduceCtorEq, Value.cells, setN, Value.oneCell', Nat.reduceLeDiff, undef, fcT]
  have hs0 : Sub H (upd H nb_ (.rw [.int .i64 tot, .slice A la.length c, .int .i64 hand, .slice B rj.length d, .bool sl] 28)) := sub_up (nx := nx) (by omega) hB (Sub.refl _)
  have hBA : Bd (upd H nb_ (.rw [.int .i64 tot, .slice A la.length c, .int .i64 hand, .slice B rj.length d, .bool sl] 28)) (nb_ + 1) := Bd.up hB (by omega)
  have c0 : rd (upd H nb_ (.rw [.int .i64 tot, .slice A la.length c, .int .i64 hand, .slice B rj.length d, .bool sl] 28)) nb_ 0 = some (.int .i64 tot) := by rw [rd_upd_same]; rfl
  have c1 : rd (upd H nb_ (.rw [.int .i64 tot, .slice A la.length c, .int .i64 hand, .slice B rj.length d, .bool sl] 28)) nb_ 1 = some (.slice A la.length c) := by rw [rd_upd_same]; rfl
  have c2 : rd (upd H nb_ (.rw [.int .i64 tot, .slice A la.length c, .int .i64 hand, .slice B rj.length d, .bool sl] 28)) nb_ 2 = some (.int .i64 hand) := by rw [rd_upd_same]; rfl
  have c3 : rd (upd H nb_ (.rw [.int .i64 tot, .slice A la.length c, .int .i64 hand, .slice B rj.length d, .bool sl] 28)) nb_ 3 = some (.slice B rj.length d) := by rw [rd_upd_same]; rfl
  have c4 : rd (upd H nb_ (.rw [.int .i64 tot, .slice A la.length c, .int .i64 hand, .slice B rj.length d, .bool sl] 28)) nb_ 4 = some (.bool sl) := by rw [rd_upd_same]; rfl
  replace hA := hA.sub hs0
  replace hRB := hRB.sub hs0
  have hbA := hb_
  generalize (upd H nb_ (.rw [.int .i64 tot, .slice A la.length c, .int .i64 hand, .slice B rj.length d, .bool sl] 28)) = H0 at *
  generalize nb_ = bA at *
  cases hv : pzB tot la hand rj sl
  · (try (simp (disch := omega) only [bsW, WOp, WOq, WV, bo, eqN, gdc, gw, bnd, ↓reduceIte, Nat.reduceEqDiff, rsvs, rsv, oneOf, rdN, ne_eq, Nat.reduceAdd, Nat.reduceMul, Nat.reduceLT, reduceCtorEq, Value.cells, setN, Value.oneCell', Nat.reduceLeDiff, undef, fcT, c0, c1, c2, c3, c4, hv, Bool.not_false]))
    (repeat' (first | ((with_reducible refine gif_split (fun hs_ => ?_) (fun hs_ => ?_)) <;> (have hp_ := hs_; (try simp only [hpL, ne_eq] at hp_); (try simp (disch := omega) only [bsW, WOp, WOq, WV, bo, eqN, gdc, gw, bnd, ↓reduceIte, Nat.reduceEqDiff, rsvs, rsv, oneOf, rdN, ne_eq, Nat.reduceAdd, Nat.reduceMul, Nat.reduceLT, reduceCtorEq, Value.cells, setN, Value.oneCell', Nat.reduceLeDiff, undef, fcT, c0, c1, c2, c3, c4, hv, Bool.not_false, hs_]))) | ((first | (with_reducible refine newB_i (fun nb_ hb_ => ?_)) | ((with_reducible show QC _ _ _ _ _ _); (first | (refine QC_i (isPuzzle bA tot A la c hand B rj d sl _ _ hla c0 c1 c2 c3 c4 hA hRB) ?_))) | ((with_reducible show AC _ _ _ _ _ _); (first | (refine PC.ac (isPuzzle bA tot A la c hand B rj d sl _ _ hla c0 c1 c2 c3 c4 hA hRB) ?_))) | (with_reducible refine RgE_i (fun (hBd_ : Bd _ _) => ?_))); (try simp (disch := omega) only [bsW, WOp, WOq, WV, bo, eqN, gdc, gw, bnd, ↓reduceIte, Nat.reduceEqDiff, rsvs, rsv, oneOf, rdN, ne_eq, Nat.reduceAdd, Nat.reduceMul, Nat.reduceLT, reduceCtorEq, Value.cells, setN, Value.oneCell', Nat.reduceLeDiff, undef, fcT, c0, c1, c2, c3, c4, hv, Bool.not_false])) | (with_reducible refine fun (hBd_ : Bd _ _) => ?_) | ((first | (with_reducible refine @And.intro (Sub _ _) _ ?_ ?_) | ((with_reducible refine @And.intro (Sub _ _ ∧ _) _ ?_ ?_); (with_reducible refine @And.intro (Sub _ _) _ ?_ ?_))); exact sbX) | ((with_reducible refine And.intro ?_ ?_); omega)))
    all_goals try (exfalso; omega)
    exact Is_e (by simp [undoI, undoB, hv]) hs0
  · have hq := idxOf_cases (fun j => la.getD j 0 == x) la.length
    have hb1 : -1 ≤ idxOf (fun j => la.getD j 0 == x) la.length ∧ idxOf (fun j => la.getD j 0 == x) la.length < (la.length : Int) := by
      rcases hq with ⟨e, _⟩ | ⟨k, e, hk, _⟩ <;> omega
    generalize hi : idxOf (fun j => la.getD j 0 == x) la.length = ix at *
    (try (simp (disch := omega) only [bsW, WOp, WOq, WV, bo, eqN, gdc, gw, bnd, ↓reduceIte, Nat.reduceEqDiff, rsvs, rsv, oneOf, rdN, ne_eq, Nat.reduceAdd, Nat.reduceMul, Nat.reduceLT, reduceCtorEq, Value.cells, setN, Value.oneCell', Nat.reduceLeDiff, undef, fcT, c0, c1, c2, c3, c4, hv, hi, Bool.not_true]))
    (repeat' (first | ((with_reducible refine gif_split (fun hs_ => ?_) (fun hs_ => ?_)) <;> (have hp_ := hs_; (try simp only [hpL, ne_eq] at hp_); (try simp (disch := omega) only [bsW, WOp, WOq, WV, bo, eqN, gdc, gw, bnd, ↓reduceIte, Nat.reduceEqDiff, rsvs, rsv, oneOf, rdN, ne_eq, Nat.reduceAdd, Nat.reduceMul, Nat.reduceLT, reduceCtorEq, Value.cells, setN, Value.oneCell', Nat.reduceLeDiff, undef, fcT, c0, c1, c2, c3, c4, hv, hi, Bool.not_true, hs_]))) | ((first | (with_reducible refine newB_i (fun nb_ hb_ => ?_)) | ((with_reducible show QC _ _ _ _ _ _); (first | (refine QC_i (isPuzzle bA tot A la c hand B rj d sl _ _ hla c0 c1 c2 c3 c4 hA hRB) ?_) | (refine QC_i (idxI A la la.length c x _ _ rfl (by omega) hA) ?_))) | ((with_reducible show AC _ _ _ _ _ _); (first | (refine PC.ac (isPuzzle bA tot A la c hand B rj d sl _ _ hla c0 c1 c2 c3 c4 hA hRB) ?_) | (refine PC.ac (idxI A la la.length c x _ _ rfl (by omega) hA) ?_))) | (with_reducible refine RgE_i (fun (hBd_ : Bd _ _) => ?_))); (try simp (disch := omega) only [bsW, WOp, WOq, WV, bo, eqN, gdc, gw, bnd, ↓reduceIte, Nat.reduceEqDiff, rsvs, rsv, oneOf, rdN, ne_eq, Nat.reduceAdd, Nat.reduceMul, Nat.reduceLT, reduceCtorEq, Value.cells, setN, Value.oneCell', Nat.reduceLeDiff, undef, fcT, c0, c1, c2, c3, c4, hv, hi, Bool.not_true])) | (with_reducible refine fun (hBd_ : Bd _ _) => ?_) | ((first | (with_reducible refine @And.intro (Sub _ _) _ ?_ ?_) | ((with_reducible refine @And.intro (Sub _ _ ∧ _) _ ?_ ?_); (with_reducible refine @And.intro (Sub _ _) _ ?_ ?_))); exact sbX) | ((with_reducible refine And.intro ?_ ?_); omega)))
    all_goals try (exfalso; omega)
    · exact Is_e (by simp only [undoI, undoB, hv, hi]; rw [if_neg (by first | (simp; done) | (simp; omega)), decide_eq_false (by omega)]; rfl) hs0
    · exact Is_e (by simp only [undoI, undoB, hv, hi]; rw [if_pos (by first | (simp; done) | (simp; omega)), decide_eq_true (by omega)]; rfl) hs0
theorem sUndoSteps (tot : Int) (A : Option Addr) (la : List Int) (c : Nat) (hand : Int) (B : Option Addr) (rj : List Int) (d : Nat) (sl : Bool) (x : Int) (H : Hp) (nx : Nat) (hla : la.length + rj.length ≤ 1048576) (hc : la.length ≤ c) (hA : RdL H A la) (hRB : RdL H B rj) : PC Tryd.prog 20 #[.agg #[.int .i64 tot, .slice A la.length c, .int .i64 hand, .slice B rj.length d, .bool sl], .int .i64 x] H nx (.tuple #[.int .i64 (undoI tot la hand rj sl x), .bool (undoB tot la hand rj sl x)]) := by
  refine AC_of x_spec_UndoSteps rfl fun hB => ?_
  simp (disch := omega) only [bsW, WOp, WOq, WV, bo, eqN, gdc, gw, bnd, ↓reduceIte, Nat.reduceEqDiff, rsvs, rsv, oneOf, rdN, ne_eq, Nat.reduceAdd, Nat.reduceMul, Nat.reduceLT, reduceCtorEq, Value.cells, setN, Value.oneCell', Nat.reduceLeDiff, undef, fcT, c_spec_UndoSteps]
  refine newB_i (fun nb_ hb_ => ?_)
  simp (disch := omega) only [bsW, WOp, WOq, WV, bo, eqN, gdc, gw, bnd, ↓reduceIte, Nat.reduceEqDiff, rsvs, rsv, oneOf, rdN, ne_eq, Nat.reduceAdd, Nat.reduceMul, Nat.reduceLT, reduceCtorEq, Value.cells, setN, Value.oneCell', Nat.reduceLeDiff, undef, fcT]
  have hs0 : Sub H (upd H nb_ (.rw [.int .i64 tot, .slice A la.length c, .int .i64 hand, .slice B rj.length d, .bool sl] 28)) := sub_up (nx := nx) (by omega) hB (Sub.refl _)
  have hBA : Bd (upd H nb_ (.rw [.int .i64 tot, .slice A la.length c, .int .i64 hand, .slice B rj.length d, .bool sl] 28)) (nb_ + 1) := Bd.up hB (by omega)
  have c0 : rd (upd H nb_ (.rw [.int .i64 tot, .slice A la.length c, .int .i64 hand, .slice B rj.length d, .bool sl] 28)) nb_ 0 = some (.int .i64 tot) := by rw [rd_upd_same]; rfl
  have c1 : rd (upd H nb_ (.rw [.int .i64 tot, .slice A la.length c, .int .i64 hand, .slice B rj.length d, .bool sl] 28)) nb_ 1 = some (.slice A la.length c) := by rw [rd_upd_same]; rfl
  have c2 : rd (upd H nb_ (.rw [.int .i64 tot, .slice A la.length c, .int .i64 hand, .slice B rj.length d, .bool sl] 28)) nb_ 2 = some (.int .i64 hand) := by rw [rd_upd_same]; rfl
  have c3 : rd (upd H nb_ (.rw [.int .i64 tot, .slice A la.length c, .int .i64 hand, .slice B rj.length d, .bool sl] 28)) nb_ 3 = some (.slice B rj.length d) := by rw [rd_upd_same]; rfl
  have c4 : rd (upd H nb_ (.rw [.int .i64 tot, .slice A la.length c, .int .i64 hand, .slice B rj.length d, .bool sl] 28)) nb_ 4 = some (.bool sl) := by rw [rd_upd_same]; rfl
  replace hA := hA.sub hs0
  replace hRB := hRB.sub hs0
  have hbA := hb_
  generalize (upd H nb_ (.rw [.int .i64 tot, .slice A la.length c, .int .i64 hand, .slice B rj.length d, .bool sl] 28)) = H0 at *
  generalize nb_ = bA at *
  cases hv : pzB tot la hand rj sl
  · (try (simp (disch := omega) only [bsW, WOp, WOq, WV, bo, eqN, gdc, gw, bnd, ↓reduceIte, Nat.reduceEqDiff, rsvs, rsv, oneOf, rdN, ne_eq, Nat.reduceAdd, Nat.reduceMul, Nat.reduceLT, reduceCtorEq, Value.cells, setN, Value.oneCell', Nat.reduceLeDiff, undef, fcT, c0, c1, c2, c3, c4, hv, Bool.not_false]))
    (repeat' (first | ((with_reducible refine gif_split (fun hs_ => ?_) (fun hs_ => ?_)) <;> (have hp_ := hs_; (try simp only [hpL, ne_eq] at hp_); (try simp (disch := omega) only [bsW, WOp, WOq, WV, bo, eqN, gdc, gw, bnd, ↓reduceIte, Nat.reduceEqDiff, rsvs, rsv, oneOf, rdN, ne_eq, Nat.reduceAdd, Nat.reduceMul, Nat.reduceLT, reduceCtorEq, Value.cells, setN, Value.oneCell', Nat.reduceLeDiff, undef, fcT, c0, c1, c2, c3, c4, hv, Bool.not_false, hs_]))) | ((first | (with_reducible refine newB_i (fun nb_ hb_ => ?_)) | ((with_reducible show QC _ _ _ _ _ _); (first | (refine QC_i (l21Good tot A la c hand B rj d sl _ _ hla hc hA hRB) ?_))) | ((with_reducible show AC _ _ _ _ _ _); (first | (refine PC.ac (l21Good tot A la c hand B rj d sl _ _ hla hc hA hRB) ?_))) | (with_reducible refine RgE_i (fun (hBd_ : Bd _ _) => ?_))); (try simp (disch := omega) only [bsW, WOp, WOq, WV, bo, eqN, gdc, gw, bnd, ↓reduceIte, Nat.reduceEqDiff, rsvs, rsv, oneOf, rdN, ne_eq, Nat.reduceAdd, Nat.reduceMul, Nat.reduceLT, reduceCtorEq, Value.cells, setN, Value.oneCell', Nat.reduceLeDiff, undef, fcT, c0, c1, c2, c3, c4, hv, Bool.not_false])) | (with_reducible refine fun (hBd_ : Bd _ _) => ?_) | ((first | (with_reducible refine @And.intro (Sub _ _) _ ?_ ?_) | ((with_reducible refine @And.intro (Sub _ _ ∧ _) _ ?_ ?_); (with_reducible refine @And.intro (Sub _ _) _ ?_ ?_))); exact sbX) | ((with_reducible refine And.intro ?_ ?_); omega)))
    all_goals try (exfalso; omega)
    exact Is_e (by simp [undoI, undoB, hv]) hs0
  · (try (simp (disch := omega) only [bsW, WOp, WOq, WV, bo, eqN, gdc, gw, bnd, ↓reduceIte, Nat.reduceEqDiff, rsvs, rsv, oneOf, rdN, ne_eq, Nat.reduceAdd, Nat.reduceMul, Nat.reduceLT, reduceCtorEq, Value.cells, setN, Value.oneCell', Nat.reduceLeDiff, undef, fcT, c0, c1, c2, c3, c4, hv, Bool.not_true]))
    (repeat' (first | ((with_reducible refine gif_split (fun hs_ => ?_) (fun hs_ => ?_)) <;> (have hp_ := hs_; (try simp only [hpL, ne_eq] at hp_); (try simp (disch := omega) only [bsW, WOp, WOq, WV, bo, eqN, gdc, gw, bnd, ↓reduceIte, Nat.reduceEqDiff, rsvs, rsv, oneOf, rdN, ne_eq, Nat.reduceAdd, Nat.reduceMul, Nat.reduceLT, reduceCtorEq, Value.cells, setN, Value.oneCell', Nat.reduceLeDiff, undef, fcT, c0, c1, c2, c3, c4, hv, Bool.not_true, hs_]))) | ((first | (with_reducible refine newB_i (fun nb_ hb_ => ?_)) | ((with_reducible show QC _ _ _ _ _ _); (first | (refine QC_i (l21Good tot A la c hand B rj d sl _ _ hla hc hA hRB) ?_))) | ((with_reducible show AC _ _ _ _ _ _); (first | (refine PC.ac (l21Good tot A la c hand B rj d sl _ _ hla hc hA hRB) ?_))) | (with_reducible refine RgE_i (fun (hBd_ : Bd _ _) => ?_))); (try simp (disch := omega) only [bsW, WOp, WOq, WV, bo, eqN, gdc, gw, bnd, ↓reduceIte, Nat.reduceEqDiff, rsvs, rsv, oneOf, rdN, ne_eq, Nat.reduceAdd, Nat.reduceMul, Nat.reduceLT, reduceCtorEq, Value.cells, setN, Value.oneCell', Nat.reduceLeDiff, undef, fcT, c0, c1, c2, c3, c4, hv, Bool.not_true])) | (with_reducible refine fun (hBd_ : Bd _ _) => ?_) | ((first | (with_reducible refine @And.intro (Sub _ _) _ ?_ ?_) | ((with_reducible refine @And.intro (Sub _ _ ∧ _) _ ?_ ?_); (with_reducible refine @And.intro (Sub _ _) _ ?_ ?_))); exact sbX) | ((with_reducible refine And.intro ?_ ?_); omega)))
    all_goals try (exfalso; omega)
    refine LpB_rule (fun mm fr H' nx' => ∃ k : Nat, mm = la.length - k + 1 ∧ k ≤ la.length ∧ fr 1 = .int .i64 x ∧ fr 2 = .pointer (some ⟨bA, 0, none⟩) ∧ fr 6 = .int .i64 k ∧ Sub H0 H' ∧ bA + 1 ≤ nx' ∧ ∀ i, i < k → (la.getD i 0 == x) = false) ?_ ?_ (la.length + 1) ?_
    · rintro mm K hK fr H' nx' hB' ⟨k, hmm, hk, f1, f2, f6, hs, hx, hall⟩
      replace c1 := rd_sub hs c1
      simp (disch := omega) only [bsW, WOp, WOq, WV, bo, eqN, gdc, gw, bnd, ↓reduceIte, Nat.reduceEqDiff, rsvs, rsv, oneOf, rdN, ne_eq, Nat.reduceAdd, Nat.reduceMul, Nat.reduceLT, reduceCtorEq, Value.cells, setN, Value.oneCell', Nat.reduceLeDiff, undef, fcT, f1, f2, f6, c1]
      refine gif_split (fun b1 => ?_) (fun b1 => ?_)
      · have hlt : k < la.length := by simpa using b1
        obtain ⟨b3, off3, rfl, c5⟩ := (hA.sub hs).at_ hlt
        simp (disch := omega) only [bsW, WOp, WOq, WV, bo, eqN, gdc, gw, bnd, ↓reduceIte, Nat.reduceEqDiff, rsvs, rsv, oneOf, rdN, ne_eq, Nat.reduceAdd, Nat.reduceMul, Nat.reduceLT, reduceCtorEq, Value.cells, setN, Value.oneCell', Nat.reduceLeDiff, undef, fcT, f1, f2, f6, c1, c5, Nat.mul_one, b1]
        (repeat' (first | ((with_reducible refine gif_split (fun hs_ => ?_) (fun hs_ => ?_)) <;> (have hp_ := hs_; (try simp only [hpL, ne_eq] at hp_); (try simp (disch := omega) only [bsW, WOp, WOq, WV, bo, eqN, gdc, gw, bnd, ↓reduceIte, Nat.reduceEqDiff, rsvs, rsv, oneOf, rdN, ne_eq, Nat.reduceAdd, Nat.reduceMul, Nat.reduceLT, reduceCtorEq, Value.cells, setN, Value.oneCell', Nat.reduceLeDiff, undef, fcT, f1, f2, f6, c1, c5, Nat.mul_one, hs_]))) | ((first | (with_reducible refine newB_i (fun nb_ hb_ => ?_)) | (with_reducible refine RgE_i (fun (hBd_ : Bd _ _) => ?_))); (try simp (disch := omega) only [bsW, WOp, WOq, WV, bo, eqN, gdc, gw, bnd, ↓reduceIte, Nat.reduceEqDiff, rsvs, rsv, oneOf, rdN, ne_eq, Nat.reduceAdd, Nat.reduceMul, Nat.reduceLT, reduceCtorEq, Value.cells, setN, Value.oneCell', Nat.reduceLeDiff, undef, fcT, f1, f2, f6, c1, c5, Nat.mul_one])) | (with_reducible refine fun (hBd_ : Bd _ _) => ?_) | ((first | (with_reducible refine @And.intro (Sub _ _) _ ?_ ?_) | ((with_reducible refine @And.intro (Sub _ _ ∧ _) _ ?_ ?_); (with_reducible refine @And.intro (Sub _ _) _ ?_ ?_))); exact sbX) | ((with_reducible refine And.intro ?_ ?_); omega)))
        · have e1 : idxOf (fun j => la.getD j 0 == x) la.length = k := idxOf_hit hlt (by simp only [beq_iff_eq]; omega) hall
          exact Is_e (by simp only [undoI, undoB, hv, e1]; rw [if_pos (by first | (simp; done) | (simp; omega)), decide_eq_true (by omega)]; try rfl) (hs0.trans hs)
        · refine hK _ _ _ ?_
          refine ⟨k + 1, by omega, by omega, by simp (disch := omega) only [bsW, ↓reduceIte, Nat.reduceEqDiff, ne_eq, reduceCtorEq, fcT, f1, f2, f6, c1, c5, Nat.mul_one], by simp (disch := omega) only [bsW, ↓reduceIte, Nat.reduceEqDiff, ne_eq, reduceCtorEq, fcT, f1, f2, f6, c1, c5, Nat.mul_one], by simp (disch := omega) only [bsW, ↓reduceIte, Nat.reduceEqDiff, ne_eq, reduceCtorEq, fcT, f1, f2, f6, c1, c5, Nat.mul_one, Int.natCast_add, Int.natCast_one], hs, by omega, ?_⟩
          intro i hi
          rcases Nat.lt_succ_iff_lt_or_eq.1 hi with hi | rfl
          · exact hall i hi
          · simp only [beq_eq_false_iff_ne]; omega
      · have hkn : k = la.length := by simp at b1; omega
        subst hkn
        simp (disch := omega) only [bsW, WOp, WOq, WV, bo, eqN, gdc, gw, bnd, ↓reduceIte, Nat.reduceEqDiff, rsvs, rsv, oneOf, rdN, ne_eq, Nat.reduceAdd, Nat.reduceMul, Nat.reduceLT, reduceCtorEq, Value.cells, setN, Value.oneCell', Nat.reduceLeDiff, undef, fcT, f1, f2, f6, c1, b1]
        have e1 : idxOf (fun j => la.getD j 0 == x) la.length = -1 := idxOf_none hall
        exact Is_e (by simp only [undoI, undoB, hv, e1]; rfl) (hs0.trans hs)
    · rintro fr H' nx' ⟨k, hmm, _⟩; omega
    · exact ⟨0, by omega, by omega, by simp (disch := omega) only [bsW, ↓reduceIte, Nat.reduceEqDiff, ne_eq, reduceCtorEq, fcT], by simp (disch := omega) only [bsW, ↓reduceIte, Nat.reduceEqDiff, ne_eq, reduceCtorEq, fcT], by simp (disch := omega) only [bsW, ↓reduceIte, Nat.reduceEqDiff, ne_eq, reduceCtorEq, fcT, Int.natCast_zero], Sub.refl _, by omega, by intro i hi; omega⟩

theorem StepsToSeal (tot : Int) (A : Option Addr) (la : List Int) (c : Nat) (hand : Int) (B : Option Addr) (rj : List Int) (d : Nat) (sl : Bool) (H : Hp) (nx : Nat) (hla : la.length + rj.length ≤ 1048576) (hc : la.length ≤ c) (hA : RdL H A la) (hRB : RdL H B rj) : PC Tryd.prog 12 #[.agg #[.int .i64 tot, .slice A la.length c, .int .i64 hand, .slice B rj.length d, .bool sl]] H nx (.tuple #[.int .i64 (sealI tot la hand rj sl), .bool (pzB tot la hand rj sl)]) := by
  refine AC_of x_impl_StepsToSeal rfl fun hB => ?_
  simp (disch := omega) only [bsW, WOp, WOq, WV, bo, eqN, gdc, gw, bnd, ↓reduceIte, Nat.reduceEqDiff, rsvs, rsv, oneOf, rdN, ne_eq, Nat.reduceAdd, Nat.reduceMul, Nat.reduceLT, reduceCtorEq, Value.cells, setN, Value.oneCell', Nat.reduceLeDiff, undef, fcT, c_impl_StepsToSeal]
  refine newB_i (fun nb_ hb_ => ?_)
  simp (disch := omega) only [bsW, WOp, WOq, WV, bo, eqN, gdc, gw, bnd, ↓reduceIte, Nat.reduceEqDiff, rsvs, rsv, oneOf, rdN, ne_eq, Nat.reduceAdd, Nat.reduceMul, Nat.reduceLT, reduceCtorEq, Value.cells, setN, Value.oneCell', Nat.reduceLeDiff, undef, fcT]
  have hs0 : Sub H (upd H nb_ (.rw [.int .i64 tot, .slice A la.length c, .int .i64 hand, .slice B rj.length d, .bool sl] 28)) := sub_up (nx := nx) (by omega) hB (Sub.refl _)
  have hBA : Bd (upd H nb_ (.rw [.int .i64 tot, .slice A la.length c, .int .i64 hand, .slice B rj.length d, .bool sl] 28)) (nb_ + 1) := Bd.up hB (by omega)
  have c0 : rd (upd H nb_ (.rw [.int .i64 tot, .slice A la.length c, .int .i64 hand, .slice B rj.length d, .bool sl] 28)) nb_ 0 = some (.int .i64 tot) := by rw [rd_upd_same]; rfl
  have c1 : rd (upd H nb_ (.rw [.int .i64 tot, .slice A la.length c, .int .i64 hand, .slice B rj.length d, .bool sl] 28)) nb_ 1 = some (.slice A la.length c) := by rw [rd_upd_same]; rfl
  have c2 : rd (upd H nb_ (.rw [.int .i64 tot, .slice A la.length c, .int .i64 hand, .slice B rj.length d, .bool sl] 28)) nb_ 2 = some (.int .i64 hand) := by rw [rd_upd_same]; rfl
  have c3 : rd (upd H nb_ (.rw [.int .i64 tot, .slice A la.length c, .int .i64 hand, .slice B rj.length d, .bool sl] 28)) nb_ 3 = some (.slice B rj.length d) := by rw [rd_upd_same]; rfl
  have c4 : rd (upd H nb_ (.rw [.int .i64 tot, .slice A la.length c, .int .i64 hand, .slice B rj.length d, .bool sl] 28)) nb_ 4 = some (.bool sl) := by rw [rd_upd_same]; rfl
  replace hA := hA.sub hs0
  replace hRB := hRB.sub hs0
  have hbA := hb_
  generalize (upd H nb_ (.rw [.int .i64 tot, .slice A la.length c, .int .i64 hand, .slice B rj.length d, .bool sl] 28)) = H0 at *
  generalize nb_ = bA at *
  cases hv : pzB tot la hand rj sl
  · (try (simp (disch := omega) only [bsW, WOp, WOq, WV, bo, eqN, gdc, gw, bnd, ↓reduceIte, Nat.reduceEqDiff, rsvs, rsv, oneOf, rdN, ne_eq, Nat.reduceAdd, Nat.reduceMul, Nat.reduceLT, reduceCtorEq, Value.cells, setN, Value.oneCell', Nat.reduceLeDiff, undef, fcT, c0, c1, c2, c3, c4, hv, Bool.not_false]))
    (repeat' (first | ((with_reducible refine gif_split (fun hs_ => ?_) (fun hs_ => ?_)) <;> (have hp_ := hs_; (try simp only [hpL, ne_eq] at hp_); (try simp (disch := omega) only [bsW, WOp, WOq, WV, bo, eqN, gdc, gw, bnd, ↓reduceIte, Nat.reduceEqDiff, rsvs, rsv, oneOf, rdN, ne_eq, Nat.reduceAdd, Nat.reduceMul, Nat.reduceLT, reduceCtorEq, Value.cells, setN, Value.oneCell', Nat.reduceLeDiff, undef, fcT, c0, c1, c2, c3, c4, hv, Bool.not_false, hs_]))) | ((first | (with_reducible refine newB_i (fun nb_ hb_ => ?_)) | ((with_reducible show QC _ _ _ _ _ _); (first | (refine QC_i (isPuzzle bA tot A la c hand B rj d _ _ _ hla c0 c1 c2 c3 c4 hA hRB) ?_))) | ((with_reducible show AC _ _ _ _ _ _); (first | (refine PC.ac (isPuzzle bA tot A la c hand B rj d _ _ _ hla c0 c1 c2 c3 c4 hA hRB) ?_))) | (with_reducible refine RgE_i (fun (hBd_ : Bd _ _) => ?_))); (try simp (disch := omega) only [bsW, WOp, WOq, WV, bo, eqN, gdc, gw, bnd, ↓reduceIte, Nat.reduceEqDiff, rsvs, rsv, oneOf, rdN, ne_eq, Nat.reduceAdd, Nat.reduceMul, Nat.reduceLT, reduceCtorEq, Value.cells, setN, Value.oneCell', Nat.reduceLeDiff, undef, fcT, c0, c1, c2, c3, c4, hv, Bool.not_false])) | (with_reducible refine fun (hBd_ : Bd _ _) => ?_) | ((first | (with_reducible refine @And.intro (Sub _ _) _ ?_ ?_) | ((with_reducible refine @And.intro (Sub _ _ ∧ _) _ ?_ ?_); (with_reducible refine @And.intro (Sub _ _) _ ?_ ?_))); exact sbX) | ((with_reducible refine And.intro ?_ ?_); omega)))
    all_goals try (exfalso; omega)
    exact Is_e (by simp [sealI, hv]) hs0
  · have hq := pzB_iff.1 hv
    have hw := waitK_len la hand rj tot.toNat
    have h20 := hq.t2
    cases sl
    rotate_left
    · (try (simp (disch := omega) only [bsW, WOp, WOq, WV, bo, eqN, gdc, gw, bnd, ↓reduceIte, Nat.reduceEqDiff, rsvs, rsv, oneOf, rdN, ne_eq, Nat.reduceAdd, Nat.reduceMul, Nat.reduceLT, reduceCtorEq, Value.cells, setN, Value.oneCell', Nat.reduceLeDiff, undef, fcT, c0, c1, c2, c3, c4, hv, Bool.not_true]))
      (repeat' (first | ((with_reducible refine gif_split (fun hs_ => ?_) (fun hs_ => ?_)) <;> (have hp_ := hs_; (try simp only [hpL, ne_eq] at hp_); (try simp (disch := omega) only [bsW, WOp, WOq, WV, bo, eqN, gdc, gw, bnd, ↓reduceIte, Nat.reduceEqDiff, rsvs, rsv, oneOf, rdN, ne_eq, Nat.reduceAdd, Nat.reduceMul, Nat.reduceLT, reduceCtorEq, Value.cells, setN, Value.oneCell', Nat.reduceLeDiff, undef, fcT, c0, c1, c2, c3, c4, hv, Bool.not_true, hs_]))) | ((first | (with_reducible refine newB_i (fun nb_ hb_ => ?_)) | ((with_reducible show QC _ _ _ _ _ _); (first | (refine QC_i (isPuzzle bA tot A la c hand B rj d _ _ _ hla c0 c1 c2 c3 c4 hA hRB) ?_))) | ((with_reducible show AC _ _ _ _ _ _); (first | (refine PC.ac (isPuzzle bA tot A la c hand B rj d _ _ _ hla c0 c1 c2 c3 c4 hA hRB) ?_))) | (with_reducible refine RgE_i (fun (hBd_ : Bd _ _) => ?_))); (try simp (disch := omega) only [bsW, WOp, WOq, WV, bo, eqN, gdc, gw, bnd, ↓reduceIte, Nat.reduceEqDiff, rsvs, rsv, oneOf, rdN, ne_eq, Nat.reduceAdd, Nat.reduceMul, Nat.reduceLT, reduceCtorEq, Value.cells, setN, Value.oneCell', Nat.reduceLeDiff, undef, fcT, c0, c1, c2, c3, c4, hv, Bool.not_true])) | (with_reducible refine fun (hBd_ : Bd _ _) => ?_) | ((first | (with_reducible refine @And.intro (Sub _ _) _ ?_ ?_) | ((with_reducible refine @And.intro (Sub _ _ ∧ _) _ ?_ ?_); (with_reducible refine @And.intro (Sub _ _) _ ?_ ?_))); exact sbX) | ((with_reducible refine And.intro ?_ ?_); omega)))
      all_goals try (exfalso; omega)
      exact Is_e (by simp [sealI, hv]) hs0
    · have eS : sealI tot la hand rj false = 1 + 2 * ((waitK la hand rj tot.toNat).length : Int) + (if 0 < hand then 1 else 0) := if_pos ⟨hv, rfl⟩
      (try (simp (disch := omega) only [bsW, WOp, WOq, WV, bo, eqN, gdc, gw, bnd, ↓reduceIte, Nat.reduceEqDiff, rsvs, rsv, oneOf, rdN, ne_eq, Nat.reduceAdd, Nat.reduceMul, Nat.reduceLT, reduceCtorEq, Value.cells, setN, Value.oneCell', Nat.reduceLeDiff, undef, fcT, c0, c1, c2, c3, c4, hv, Bool.not_true]))
      (repeat' (first | ((with_reducible refine gif_split (fun hs_ => ?_) (fun hs_ => ?_)) <;> (have hp_ := hs_; (try simp only [hpL, ne_eq] at hp_); (try simp (disch := omega) only [bsW, WOp, WOq, WV, bo, eqN, gdc, gw, bnd, ↓reduceIte, Nat.reduceEqDiff, rsvs, rsv, oneOf, rdN, ne_eq, Nat.reduceAdd, Nat.reduceMul, Nat.reduceLT, reduceCtorEq, Value.cells, setN, Value.oneCell', Nat.reduceLeDiff, undef, fcT, c0, c1, c2, c3, c4, hv, Bool.not_true, hs_]))) | ((first | (with_reducible refine newB_i (fun nb_ hb_ => ?_)) | ((with_reducible show QC _ _ _ _ _ _); (first | (refine QC_i (isPuzzle bA tot A la c hand B rj d _ _ _ hla c0 c1 c2 c3 c4 hA hRB) ?_))) | ((with_reducible show AC _ _ _ _ _ _); (first | (refine PC.ac (isPuzzle bA tot A la c hand B rj d _ _ _ hla c0 c1 c2 c3 c4 hA hRB) ?_))) | (with_reducible refine RgE_i (fun (hBd_ : Bd _ _) => ?_))); (try simp (disch := omega) only [bsW, WOp, WOq, WV, bo, eqN, gdc, gw, bnd, ↓reduceIte, Nat.reduceEqDiff, rsvs, rsv, oneOf, rdN, ne_eq, Nat.reduceAdd, Nat.reduceMul, Nat.reduceLT, reduceCtorEq, Value.cells, setN, Value.oneCell', Nat.reduceLeDiff, undef, fcT, c0, c1, c2, c3, c4, hv, Bool.not_true])) | (with_reducible refine fun (hBd_ : Bd _ _) => ?_) | ((first | (with_reducible refine @And.intro (Sub _ _) _ ?_ ?_) | ((with_reducible refine @And.intro (Sub _ _ ∧ _) _ ?_ ?_); (with_reducible refine @And.intro (Sub _ _) _ ?_ ?_))); exact sbX) | ((with_reducible refine And.intro ?_ ?_); omega)))
      all_goals try (exfalso; omega)
      refine (waiting bA tot A la c hand B rj d false _ _ (by omega) (by omega) (by omega) c0 c1 c2 c3 hA hRB).monoC ?_
      rintro v9 H9 nx9 hB9 hx9 ⟨hO9, hs9⟩
      obtain ⟨A9, c9', rfl, hc9, hR9⟩ := OwnR.rd hO9
      replace c2 := rd_sub hs9 c2
      simp (disch := omega) only [bsW, WOp, WOq, WV, bo, eqN, gdc, gw, bnd, ↓reduceIte, Nat.reduceEqDiff, rsvs, rsv, oneOf, rdN, ne_eq, Nat.reduceAdd, Nat.reduceMul, Nat.reduceLT, reduceCtorEq, Value.cells, setN, Value.oneCell', Nat.reduceLeDiff, undef, fcT, c2]
      (repeat' (first | ((with_reducible refine gif_split (fun hs_ => ?_) (fun hs_ => ?_)) <;> (have hp_ := hs_; (try simp only [hpL, ne_eq] at hp_); (try simp (disch := omega) only [bsW, WOp, WOq, WV, bo, eqN, gdc, gw, bnd, ↓reduceIte, Nat.reduceEqDiff, rsvs, rsv, oneOf, rdN, ne_eq, Nat.reduceAdd, Nat.reduceMul, Nat.reduceLT, reduceCtorEq, Value.cells, setN, Value.oneCell', Nat.reduceLeDiff, undef, fcT, c2, hs_]))) | ((first | (with_reducible refine newB_i (fun nb_ hb_ => ?_)) | (with_reducible refine RgE_i (fun (hBd_ : Bd _ _) => ?_))); (try simp (disch := omega) only [bsW, WOp, WOq, WV, bo, eqN, gdc, gw, bnd, ↓reduceIte, Nat.reduceEqDiff, rsvs, rsv, oneOf, rdN, ne_eq, Nat.reduceAdd, Nat.reduceMul, Nat.reduceLT, reduceCtorEq, Value.cells, setN, Value.oneCell', Nat.reduceLeDiff, undef, fcT, c2])) | (with_reducible refine fun (hBd_ : Bd _ _) => ?_) | ((first | (with_reducible refine @And.intro (Sub _ _) _ ?_ ?_) | ((with_reducible refine @And.intro (Sub _ _ ∧ _) _ ?_ ?_); (with_reducible refine @And.intro (Sub _ _) _ ?_ ?_))); exact sbX) | ((with_reducible refine And.intro ?_ ?_); omega)))
      all_goals try (exfalso; omega)
      · exact Is_e (tupE (by rw [eS, if_pos (by assumption)]; try omega) (by first | rfl | exact hv.symm)) (hs0.trans hs9)
      · exact Is_e (tupE (by rw [eS, if_neg (by assumption)]; try omega) (by first | rfl | exact hv.symm)) (hs0.trans hs9)

theorem sStepsToSeal (tot : Int) (A : Option Addr) (la : List Int) (c : Nat) (hand : Int) (B : Option Addr) (rj : List Int) (d : Nat) (sl : Bool) (H : Hp) (nx : Nat) (hla : la.length + rj.length ≤ 1048576) (hc : la.length ≤ c) (hA : RdL H A la) (hRB : RdL H B rj) : PC Tryd.prog 13 #[.agg #[.int .i64 tot, .slice A la.length c, .int .i64 hand, .slice B rj.length d, .bool sl]] H nx (.tuple #[.int .i64 (sealI tot la hand rj sl), .bool (pzB tot la hand rj sl)]) := by
  refine AC_of x_spec_StepsToSeal rfl fun hB => ?_
  simp (disch := omega) only [bsW, WOp, WOq, WV, bo, eqN, gdc, gw, bnd, ↓reduceIte, Nat.reduceEqDiff, rsvs, rsv, oneOf, rdN, ne_eq, Nat.reduceAdd, Nat.reduceMul, Nat.reduceLT, reduceCtorEq, Value.cells, setN, Value.oneCell', Nat.reduceLeDiff, undef, fcT, c_spec_StepsToSeal]
  refine newB_i (fun nb_ hb_ => ?_)
  simp (disch := omega) only [bsW, WOp, WOq, WV, bo, eqN, gdc, gw, bnd, ↓reduceIte, Nat.reduceEqDiff, rsvs, rsv, oneOf, rdN, ne_eq, Nat.reduceAdd, Nat.reduceMul, Nat.reduceLT, reduceCtorEq, Value.cells, setN, Value.oneCell', Nat.reduceLeDiff, undef, fcT]
  have hs0 : Sub H (upd H nb_ (.rw [.int .i64 tot, .slice A la.length c, .int .i64 hand, .slice B rj.length d, .bool sl] 28)) := sub_up (nx := nx) (by omega) hB (Sub.refl _)
  have hBA : Bd (upd H nb_ (.rw [.int .i64 tot, .slice A la.length c, .int .i64 hand, .slice B rj.length d, .bool sl] 28)) (nb_ + 1) := Bd.up hB (by omega)
  have c0 : rd (upd H nb_ (.rw [.int .i64 tot, .slice A la.length c, .int .i64 hand, .slice B rj.length d, .bool sl] 28)) nb_ 0 = some (.int .i64 tot) := by rw [rd_upd_same]; rfl
  have c1 : rd (upd H nb_ (.rw [.int .i64 tot, .slice A la.length c, .int .i64 hand, .slice B rj.length d, .bool sl] 28)) nb_ 1 = some (.slice A la.length c) := by rw [rd_upd_same]; rfl
  have c2 : rd (upd H nb_ (.rw [.int .i64 tot, .slice A la.length c, .int .i64 hand, .slice B rj.length d, .bool sl] 28)) nb_ 2 = some (.int .i64 hand) := by rw [rd_upd_same]; rfl
  have c3 : rd (upd H nb_ (.rw [.int .i64 tot, .slice A la.length c, .int .i64 hand, .slice B rj.length d, .bool sl] 28)) nb_ 3 = some (.slice B rj.length d) := by rw [rd_upd_same]; rfl
  have c4 : rd (upd H nb_ (.rw [.int .i64 tot, .slice A la.length c, .int .i64 hand, .slice B rj.length d, .bool sl] 28)) nb_ 4 = some (.bool sl) := by rw [rd_upd_same]; rfl
  replace hA := hA.sub hs0
  replace hRB := hRB.sub hs0
  have hbA := hb_
  generalize (upd H nb_ (.rw [.int .i64 tot, .slice A la.length c, .int .i64 hand, .slice B rj.length d, .bool sl] 28)) = H0 at *
  generalize nb_ = bA at *
  cases hv : pzB tot la hand rj sl
  · (try (simp (disch := omega) only [bsW, WOp, WOq, WV, bo, eqN, gdc, gw, bnd, ↓reduceIte, Nat.reduceEqDiff, rsvs, rsv, oneOf, rdN, ne_eq, Nat.reduceAdd, Nat.reduceMul, Nat.reduceLT, reduceCtorEq, Value.cells, setN, Value.oneCell', Nat.reduceLeDiff, undef, fcT, c0, c1, c2, c3, c4, hv, Bool.not_false]))
    (repeat' (first | ((with_reducible refine gif_split (fun hs_ => ?_) (fun hs_ => ?_)) <;> (have hp_ := hs_; (try simp only [hpL, ne_eq] at hp_); (try simp (disch := omega) only [bsW, WOp, WOq, WV, bo, eqN, gdc, gw, bnd, ↓reduceIte, Nat.reduceEqDiff, rsvs, rsv, oneOf, rdN, ne_eq, Nat.reduceAdd, Nat.reduceMul, Nat.reduceLT, reduceCtorEq, Value.cells, setN, Value.oneCell', Nat.reduceLeDiff, undef, fcT, c0, c1, c2, c3, c4, hv, Bool.not_false, hs_]))) | ((first | (with_reducible refine newB_i (fun nb_ hb_ => ?_)) | ((with_reducible show QC _ _ _ _ _ _); (first | (refine QC_i (l21Good tot A la c hand B rj d _ _ _ hla hc hA hRB) ?_))) | ((with_reducible show AC _ _ _ _ _ _); (first | (refine PC.ac (l21Good tot A la c hand B rj d _ _ _ hla hc hA hRB) ?_))) | (with_reducible refine RgE_i (fun (hBd_ : Bd _ _) => ?_))); (try simp (disch := omega) only [bsW, WOp, WOq, WV, bo, eqN, gdc, gw, bnd, ↓reduceIte, Nat.reduceEqDiff, rsvs, rsv, oneOf, rdN, ne_eq, Nat.reduceAdd, Nat.reduceMul, Nat.reduceLT, reduceCtorEq, Value.cells, setN, Value.oneCell', Nat.reduceLeDiff, undef, fcT, c0, c1, c2, c3, c4, hv, Bool.not_false])) | (with_reducible refine fun (hBd_ : Bd _ _) => ?_) | ((first | (with_reducible refine @And.intro (Sub _ _) _ ?_ ?_) | ((with_reducible refine @And.intro (Sub _ _ ∧ _) _ ?_ ?_); (with_reducible refine @And.intro (Sub _ _) _ ?_ ?_))); exact sbX) | ((with_reducible refine And.intro ?_ ?_); omega)))
    all_goals try (exfalso; omega)
    exact Is_e (by simp [sealI, hv]) hs0
  · have hq := pzB_iff.1 hv
    have hw := waitK_len la hand rj tot.toNat
    have h20 := hq.t2
    cases sl
    rotate_left
    · (try (simp (disch := omega) only [bsW, WOp, WOq, WV, bo, eqN, gdc, gw, bnd, ↓reduceIte, Nat.reduceEqDiff, rsvs, rsv, oneOf, rdN, ne_eq, Nat.reduceAdd, Nat.reduceMul, Nat.reduceLT, reduceCtorEq, Value.cells, setN, Value.oneCell', Nat.reduceLeDiff, undef, fcT, c0, c1, c2, c3, c4, hv, Bool.not_true]))
      (repeat' (first | ((with_reducible refine gif_split (fun hs_ => ?_) (fun hs_ => ?_)) <;> (have hp_ := hs_; (try simp only [hpL, ne_eq] at hp_); (try simp (disch := omega) only [bsW, WOp, WOq, WV, bo, eqN, gdc, gw, bnd, ↓reduceIte, Nat.reduceEqDiff, rsvs, rsv, oneOf, rdN, ne_eq, Nat.reduceAdd, Nat.reduceMul, Nat.reduceLT, reduceCtorEq, Value.cells, setN, Value.oneCell', Nat.reduceLeDiff, undef, fcT, c0, c1, c2, c3, c4, hv, Bool.not_true, hs_]))) | ((first | (with_reducible refine newB_i (fun nb_ hb_ => ?_)) | ((with_reducible show QC _ _ _ _ _ _); (first | (refine QC_i (l21Good tot A la c hand B rj d _ _ _ hla hc hA hRB) ?_))) | ((with_reducible show AC _ _ _ _ _ _); (first | (refine PC.ac (l21Good tot A la c hand B rj d _ _ _ hla hc hA hRB) ?_))) | (with_reducible refine RgE_i (fun (hBd_ : Bd _ _) => ?_))); (try simp (disch := omega) only [bsW, WOp, WOq, WV, bo, eqN, gdc, gw, bnd, ↓reduceIte, Nat.reduceEqDiff, rsvs, rsv, oneOf, rdN, ne_eq, Nat.reduceAdd, Nat.reduceMul, Nat.reduceLT, reduceCtorEq, Value.cells, setN, Value.oneCell', Nat.reduceLeDiff, undef, fcT, c0, c1, c2, c3, c4, hv, Bool.not_true])) | (with_reducible refine fun (hBd_ : Bd _ _) => ?_) | ((first | (with_reducible refine @And.intro (Sub _ _) _ ?_ ?_) | ((with_reducible refine @And.intro (Sub _ _ ∧ _) _ ?_ ?_); (with_reducible refine @And.intro (Sub _ _) _ ?_ ?_))); exact sbX) | ((with_reducible refine And.intro ?_ ?_); omega)))
      all_goals try (exfalso; omega)
      exact Is_e (by simp [sealI, hv]) hs0
    · have eS : sealI tot la hand rj false = 1 + 2 * ((waitK la hand rj tot.toNat).length : Int) + (if 0 < hand then 1 else 0) := if_pos ⟨hv, rfl⟩
      (try (simp (disch := omega) only [bsW, WOp, WOq, WV, bo, eqN, gdc, gw, bnd, ↓reduceIte, Nat.reduceEqDiff, rsvs, rsv, oneOf, rdN, ne_eq, Nat.reduceAdd, Nat.reduceMul, Nat.reduceLT, reduceCtorEq, Value.cells, setN, Value.oneCell', Nat.reduceLeDiff, undef, fcT, c0, c1, c2, c3, c4, hv, Bool.not_true]))
      (repeat' (first | ((with_reducible refine gif_split (fun hs_ => ?_) (fun hs_ => ?_)) <;> (have hp_ := hs_; (try simp only [hpL, ne_eq] at hp_); (try simp (disch := omega) only [bsW, WOp, WOq, WV, bo, eqN, gdc, gw, bnd, ↓reduceIte, Nat.reduceEqDiff, rsvs, rsv, oneOf, rdN, ne_eq, Nat.reduceAdd, Nat.reduceMul, Nat.reduceLT, reduceCtorEq, Value.cells, setN, Value.oneCell', Nat.reduceLeDiff, undef, fcT, c0, c1, c2, c3, c4, hv, Bool.not_true, hs_]))) | ((first | (with_reducible refine newB_i (fun nb_ hb_ => ?_)) | ((with_reducible show QC _ _ _ _ _ _); (first | (refine QC_i (l21Good tot A la c hand B rj d _ _ _ hla hc hA hRB) ?_))) | ((with_reducible show AC _ _ _ _ _ _); (first | (refine PC.ac (l21Good tot A la c hand B rj d _ _ _ hla hc hA hRB) ?_))) | (with_reducible refine RgE_i (fun (hBd_ : Bd _ _) => ?_))); (try simp (disch := omega) only [bsW, WOp, WOq, WV, bo, eqN, gdc, gw, bnd, ↓reduceIte, Nat.reduceEqDiff, rsvs, rsv, oneOf, rdN, ne_eq, Nat.reduceAdd, Nat.reduceMul, Nat.reduceLT, reduceCtorEq, Value.cells, setN, Value.oneCell', Nat.reduceLeDiff, undef, fcT, c0, c1, c2, c3, c4, hv, Bool.not_true])) | (with_reducible refine fun (hBd_ : Bd _ _) => ?_) | ((first | (with_reducible refine @And.intro (Sub _ _) _ ?_ ?_) | ((with_reducible refine @And.intro (Sub _ _ ∧ _) _ ?_ ?_); (with_reducible refine @And.intro (Sub _ _) _ ?_ ?_))); exact sbX) | ((with_reducible refine And.intro ?_ ?_); omega)))
      all_goals try (exfalso; omega)
      refine (l21Waiting tot A la c hand B rj d false _ _ (by omega) (by omega) (by omega) hA hRB).monoC ?_
      rintro v9 H9 nx9 hB9 hx9 ⟨hO9, hs9⟩
      obtain ⟨A9, c9', rfl, hc9, hR9⟩ := OwnR.rd hO9
      replace c2 := rd_sub hs9 c2
      simp (disch := omega) only [bsW, WOp, WOq, WV, bo, eqN, gdc, gw, bnd, ↓reduceIte, Nat.reduceEqDiff, rsvs, rsv, oneOf, rdN, ne_eq, Nat.reduceAdd, Nat.reduceMul, Nat.reduceLT, reduceCtorEq, Value.cells, setN, Value.oneCell', Nat.reduceLeDiff, undef, fcT, c2]
      (repeat' (first | ((with_reducible refine gif_split (fun hs_ => ?_) (fun hs_ => ?_)) <;> (have hp_ := hs_; (try simp only [hpL, ne_eq] at hp_); (try simp (disch := omega) only [bsW, WOp, WOq, WV, bo, eqN, gdc, gw, bnd, ↓reduceIte, Nat.reduceEqDiff, rsvs, rsv, oneOf, rdN, ne_eq, Nat.reduceAdd, Nat.reduceMul, Nat.reduceLT, reduceCtorEq, Value.cells, setN, Value.oneCell', Nat.reduceLeDiff, undef, fcT, c2, hs_]))) | ((first | (with_reducible refine newB_i (fun nb_ hb_ => ?_)) | (with_reducible refine RgE_i (fun (hBd_ : Bd _ _) => ?_))); (try simp (disch := omega) only [bsW, WOp, WOq, WV, bo, eqN, gdc, gw, bnd, ↓reduceIte, Nat.reduceEqDiff, rsvs, rsv, oneOf, rdN, ne_eq, Nat.reduceAdd, Nat.reduceMul, Nat.reduceLT, reduceCtorEq, Value.cells, setN, Value.oneCell', Nat.reduceLeDiff, undef, fcT, c2])) | (with_reducible refine fun (hBd_ : Bd _ _) => ?_) | ((first | (with_reducible refine @And.intro (Sub _ _) _ ?_ ?_) | ((with_reducible refine @And.intro (Sub _ _ ∧ _) _ ?_ ?_); (with_reducible refine @And.intro (Sub _ _) _ ?_ ?_))); exact sbX) | ((with_reducible refine And.intro ?_ ?_); omega)))
      all_goals try (exfalso; omega)
      · exact Is_e (tupE (by rw [eS, if_pos (by assumption)]; try omega) (by first | rfl | exact hv.symm)) (hs0.trans hs9)
      · exact Is_e (tupE (by rw [eS, if_neg (by assumption)]; try omega) (by first | rfl | exact hv.symm)) (hs0.trans hs9)

theorem PiecesWaiting (tot : Int) (A : Option Addr) (la : List Int) (c : Nat) (hand : Int) (B : Option Addr) (rj : List Int) (d : Nat) (sl : Bool) (H : Hp) (nx : Nat) (hla : la.length + rj.length ≤ 1048576) (hc : la.length ≤ c) (hA : RdL H A la) (hRB : RdL H B rj) : AC Tryd.prog 14 #[.agg #[.int .i64 tot, .slice A la.length c, .int .i64 hand, .slice B rj.length d, .bool sl]] H nx (RowFlagL H nx (pwL tot la hand rj sl) 3 (pzB tot la hand rj sl)) := by
  refine AC_of x_impl_PiecesWaiting rfl fun hB => ?_
  simp (disch := omega) only [bsW, WOp, WOq, WV, bo, eqN, gdc, gw, bnd, ↓reduceIte, Nat.reduceEqDiff, rsvs, rsv, oneOf, rdN, ne_eq, Nat.reduceAdd, Nat.reduceMul, Nat.reduceLT, reduceCtorEq, Value.cells, setN, Value.oneCell', Nat.reduceLeDiff, undef, fcT, c_impl_PiecesWaiting]
  refine newB_i (fun nb_ hb_ => ?_)
  simp (disch := omega) only [bsW, WOp, WOq, WV, bo, eqN, gdc, gw, bnd, ↓reduceIte, Nat.reduceEqDiff, rsvs, rsv, oneOf, rdN, ne_eq, Nat.reduceAdd, Nat.reduceMul, Nat.reduceLT, reduceCtorEq, Value.cells, setN, Value.oneCell', Nat.reduceLeDiff, undef, fcT]
  have hs0 : Sub H (upd H nb_ (.rw [.int .i64 tot, .slice A la.length c, .int .i64 hand, .slice B rj.length d, .bool sl] 28)) := sub_up (nx := nx) (by omega) hB (Sub.refl _)
  have hBA : Bd (upd H nb_ (.rw [.int .i64 tot, .slice A la.length c, .int .i64 hand, .slice B rj.length d, .bool sl] 28)) (nb_ + 1) := Bd.up hB (by omega)
  have c0 : rd (upd H nb_ (.rw [.int .i64 tot, .slice A la.length c, .int .i64 hand, .slice B rj.length d, .bool sl] 28)) nb_ 0 = some (.int .i64 tot) := by rw [rd_upd_same]; rfl
  have c1 : rd (upd H nb_ (.rw [.int .i64 tot, .slice A la.length c, .int .i64 hand, .slice B rj.length d, .bool sl] 28)) nb_ 1 = some (.slice A la.length c) := by rw [rd_upd_same]; rfl
  have c2 : rd (upd H nb_ (.rw [.int .i64 tot, .slice A la.length c, .int .i64 hand, .slice B rj.length d, .bool sl] 28)) nb_ 2 = some (.int .i64 hand) := by rw [rd_upd_same]; rfl
  have c3 : rd (upd H nb_ (.rw [.int .i64 tot, .slice A la.length c, .int .i64 hand, .slice B rj.length d, .bool sl] 28)) nb_ 3 = some (.slice B rj.length d) := by rw [rd_upd_same]; rfl
  have c4 : rd (upd H nb_ (.rw [.int .i64 tot, .slice A la.length c, .int .i64 hand, .slice B rj.length d, .bool sl] 28)) nb_ 4 = some (.bool sl) := by rw [rd_upd_same]; rfl
  replace hA := hA.sub hs0
  replace hRB := hRB.sub hs0
  have hbA := hb_
  generalize (upd H nb_ (.rw [.int .i64 tot, .slice A la.length c, .int .i64 hand, .slice B rj.length d, .bool sl] 28)) = H0 at *
  generalize nb_ = bA at *
  cases hv : pzB tot la hand rj sl
  · have e : pwL tot la hand rj sl = [] := by simp [pwL, hv]
    rw [e]
    (try (simp (disch := omega) only [bsW, WOp, WOq, WV, bo, eqN, gdc, gw, bnd, ↓reduceIte, Nat.reduceEqDiff, rsvs, rsv, oneOf, rdN, ne_eq, Nat.reduceAdd, Nat.reduceMul, Nat.reduceLT, reduceCtorEq, Value.cells, setN, Value.oneCell', Nat.reduceLeDiff, undef, fcT, c0, c1, c2, c3, c4, hv, Bool.not_false]))
    (repeat' (first | ((with_reducible refine gif_split (fun hs_ => ?_) (fun hs_ => ?_)) <;> (have hp_ := hs_; (try simp only [hpL, ne_eq] at hp_); (try simp (disch := omega) only [bsW, WOp, WOq, WV, bo, eqN, gdc, gw, bnd, ↓reduceIte, Nat.reduceEqDiff, rsvs, rsv, oneOf, rdN, ne_eq, Nat.reduceAdd, Nat.reduceMul, Nat.reduceLT, reduceCtorEq, Value.cells, setN, Value.oneCell', Nat.reduceLeDiff, undef, fcT, c0, c1, c2, c3, c4, hv, Bool.not_false, hs_]))) | ((first | (with_reducible refine newB_i (fun nb_ hb_ => ?_)) | ((with_reducible show QC _ _ _ _ _ _); (first | (refine QC_i (isPuzzle bA tot A la c hand B rj d sl _ _ hla c0 c1 c2 c3 c4 hA hRB) ?_))) | ((with_reducible show AC _ _ _ _ _ _); (first | (refine PC.ac (isPuzzle bA tot A la c hand B rj d sl _ _ hla c0 c1 c2 c3 c4 hA hRB) ?_))) | (with_reducible refine RgE_i (fun (hBd_ : Bd _ _) => ?_))); (try simp (disch := omega) only [bsW, WOp, WOq, WV, bo, eqN, gdc, gw, bnd, ↓reduceIte, Nat.reduceEqDiff, rsvs, rsv, oneOf, rdN, ne_eq, Nat.reduceAdd, Nat.reduceMul, Nat.reduceLT, reduceCtorEq, Value.cells, setN, Value.oneCell', Nat.reduceLeDiff, undef, fcT, c0, c1, c2, c3, c4, hv, Bool.not_false])) | (with_reducible refine fun (hBd_ : Bd _ _) => ?_) | ((first | (with_reducible refine @And.intro (Sub _ _) _ ?_ ?_) | ((with_reducible refine @And.intro (Sub _ _ ∧ _) _ ?_ ?_); (with_reducible refine @And.intro (Sub _ _) _ ?_ ?_))); exact sbX) | ((with_reducible refine And.intro ?_ ?_); omega)))
    all_goals try (exfalso; omega)
    exact ⟨_, rfl, .nil, hs0⟩
  · have hq := pzB_iff.1 hv
    have h20 := hq.t2
    have e : pwL tot la hand rj sl = waitK la hand rj tot.toNat := by simp [pwL, hv]
    rw [e]
    (try (simp (disch := omega) only [bsW, WOp, WOq, WV, bo, eqN, gdc, gw, bnd, ↓reduceIte, Nat.reduceEqDiff, rsvs, rsv, oneOf, rdN, ne_eq, Nat.reduceAdd, Nat.reduceMul, Nat.reduceLT, reduceCtorEq, Value.cells, setN, Value.oneCell', Nat.reduceLeDiff, undef, fcT, c0, c1, c2, c3, c4, hv, Bool.not_true]))
    (repeat' (first | ((with_reducible refine gif_split (fun hs_ => ?_) (fun hs_ => ?_)) <;> (have hp_ := hs_; (try simp only [hpL, ne_eq] at hp_); (try simp (disch := omega) only [bsW, WOp, WOq, WV, bo, eqN, gdc, gw, bnd, ↓reduceIte, Nat.reduceEqDiff, rsvs, rsv, oneOf, rdN, ne_eq, Nat.reduceAdd, Nat.reduceMul, Nat.reduceLT, reduceCtorEq, Value.cells, setN, Value.oneCell', Nat.reduceLeDiff, undef, fcT, c0, c1, c2, c3, c4, hv, Bool.not_true, hs_]))) | ((first | (with_reducible refine newB_i (fun nb_ hb_ => ?_)) | ((with_reducible show QC _ _ _ _ _ _); (first | (refine QC_i (isPuzzle bA tot A la c hand B rj d sl _ _ hla c0 c1 c2 c3 c4 hA hRB) ?_))) | ((with_reducible show AC _ _ _ _ _ _); (first | (refine PC.ac (isPuzzle bA tot A la c hand B rj d sl _ _ hla c0 c1 c2 c3 c4 hA hRB) ?_))) | (with_reducible refine RgE_i (fun (hBd_ : Bd _ _) => ?_))); (try simp (disch := omega) only [bsW, WOp, WOq, WV, bo, eqN, gdc, gw, bnd, ↓reduceIte, Nat.reduceEqDiff, rsvs, rsv, oneOf, rdN, ne_eq, Nat.reduceAdd, Nat.reduceMul, Nat.reduceLT, reduceCtorEq, Value.cells, setN, Value.oneCell', Nat.reduceLeDiff, undef, fcT, c0, c1, c2, c3, c4, hv, Bool.not_true])) | (with_reducible refine fun (hBd_ : Bd _ _) => ?_) | ((first | (with_reducible refine @And.intro (Sub _ _) _ ?_ ?_) | ((with_reducible refine @And.intro (Sub _ _ ∧ _) _ ?_ ?_); (with_reducible refine @And.intro (Sub _ _) _ ?_ ?_))); exact sbX) | ((with_reducible refine And.intro ?_ ?_); omega)))
    all_goals try (exfalso; omega)
    refine (waiting bA tot A la c hand B rj d sl _ _ (by omega) (by omega) (by omega) c0 c1 c2 c3 hA hRB).monoC ?_
    rintro v9 H9 nx9 hB9 hx9 ⟨hO9, hs9⟩
    simp (disch := omega) only [bsW, WOp, WOq, WV, bo, eqN, gdc, gw, bnd, ↓reduceIte, Nat.reduceEqDiff, rsvs, rsv, oneOf, rdN, ne_eq, Nat.reduceAdd, Nat.reduceMul, Nat.reduceLT, reduceCtorEq, Value.cells, setN, Value.oneCell', Nat.reduceLeDiff, undef, fcT]
    exact ⟨_, rfl, OwnR.lo hO9 (by omega), hs0.trans hs9⟩

theorem sPiecesWaiting (tot : Int) (A : Option Addr) (la : List Int) (c : Nat) (hand : Int) (B : Option Addr) (rj : List Int) (d : Nat) (sl : Bool) (H : Hp) (nx : Nat) (hla : la.length + rj.length ≤ 1048576) (hc : la.length ≤ c) (hA : RdL H A la) (hRB : RdL H B rj) : AC Tryd.prog 15 #[.agg #[.int .i64 tot, .slice A la.length c, .int .i64 hand, .slice B rj.length d, .bool sl]] H nx (RowFlagL H nx (pwL tot la hand rj sl) 3 (pzB tot la hand rj sl)) := by
  refine AC_of x_spec_PiecesWaiting rfl fun hB => ?_
  simp (disch := omega) only [bsW, WOp, WOq, WV, bo, eqN, gdc, gw, bnd, ↓reduceIte, Nat.reduceEqDiff, rsvs, rsv, oneOf, rdN, ne_eq, Nat.reduceAdd, Nat.reduceMul, Nat.reduceLT, reduceCtorEq, Value.cells, setN, Value.oneCell', Nat.reduceLeDiff, undef, fcT, c_spec_PiecesWaiting]
  refine newB_i (fun nb_ hb_ => ?_)
  simp (disch := omega) only [bsW, WOp, WOq, WV, bo, eqN, gdc, gw, bnd, ↓reduceIte, Nat.reduceEqDiff, rsvs, rsv, oneOf, rdN, ne_eq, Nat.reduceAdd, Nat.reduceMul, Nat.reduceLT, reduceCtorEq, Value.cells, setN, Value.oneCell', Nat.reduceLeDiff, undef, fcT]
  have hs0 : Sub H (upd H nb_ (.rw [.int .i64 tot, .slice A la.length c, .int .i64 hand, .slice B rj.length d, .bool sl] 28)) := sub_up (nx := nx) (by omega) hB (Sub.refl _)
  have hBA : Bd (upd H nb_ (.rw [.int .i64 tot, .slice A la.length c, .int .i64 hand, .slice B rj.length d, .bool sl] 28)) (nb_ + 1) := Bd.up hB (by omega)
  have c0 : rd (upd H nb_ (.rw [.int .i64 tot, .slice A la.length c, .int .i64 hand, .slice B rj.length d, .bool sl] 28)) nb_ 0 = some (.int .i64 tot) := by rw [rd_upd_same]; rfl
  have c1 : rd (upd H nb_ (.rw [.int .i64 tot, .slice A la.length c, .int .i64 hand, .slice B rj.length d, .bool sl] 28)) nb_ 1 = some (.slice A la.length c) := by rw [rd_upd_same]; rfl
  have c2 : rd (upd H nb_ (.rw [.int .i64 tot, .slice A la.length c, .int .i64 hand, .slice B rj.length d, .bool sl] 28)) nb_ 2 = some (.int .i64 hand) := by rw [rd_upd_same]; rfl
  have c3 : rd (upd H nb_ (.rw [.int .i64 tot, .slice A la.length c, .int .i64 hand, .slice B rj.length d, .bool sl] 28)) nb_ 3 = some (.slice B rj.length d) := by rw [rd_upd_same]; rfl
  have c4 : rd (upd H nb_ (.rw [.int .i64 tot, .slice A la.length c, .int .i64 hand, .slice B rj.length d, .bool sl] 28)) nb_ 4 = some (.bool sl) := by rw [rd_upd_same]; rfl
  replace hA := hA.sub hs0
  replace hRB := hRB.sub hs0
  have hbA := hb_
  generalize (upd H nb_ (.rw [.int .i64 tot, .slice A la.length c, .int .i64 hand, .slice B rj.length d, .bool sl] 28)) = H0 at *
  generalize nb_ = bA at *
  cases hv : pzB tot la hand rj sl
  · have e : pwL tot la hand rj sl = [] := by simp [pwL, hv]
    rw [e]
    (try (simp (disch := omega) only [bsW, WOp, WOq, WV, bo, eqN, gdc, gw, bnd, ↓reduceIte, Nat.reduceEqDiff, rsvs, rsv, oneOf, rdN, ne_eq, Nat.reduceAdd, Nat.reduceMul, Nat.reduceLT, reduceCtorEq, Value.cells, setN, Value.oneCell', Nat.reduceLeDiff, undef, fcT, c0, c1, c2, c3, c4, hv, Bool.not_false]))
    (repeat' (first | ((with_reducible refine gif_split (fun hs_ => ?_) (fun hs_ => ?_)) <;> (have hp_ := hs_; (try simp only [hpL, ne_eq] at hp_); (try simp (disch := omega) only [bsW, WOp, WOq, WV, bo, eqN, gdc, gw, bnd, ↓reduceIte, Nat.reduceEqDiff, rsvs, rsv, oneOf, rdN, ne_eq, Nat.reduceAdd, Nat.reduceMul, Nat.reduceLT, reduceCtorEq, Value.cells, setN, Value.oneCell', Nat.reduceLeDiff, undef, fcT, c0, c1, c2, c3, c4, hv, Bool.not_false, hs_]))) | ((first | (with_reducible refine newB_i (fun nb_ hb_ => ?_)) | ((with_reducible show QC _ _ _ _ _ _); (first | (refine QC_i (l21Good tot A la c hand B rj d sl _ _ hla hc hA hRB) ?_))) | ((with_reducible show AC _ _ _ _ _ _); (first | (refine PC.ac (l21Good tot A la c hand B rj d sl _ _ hla hc hA hRB) ?_))) | (with_reducible refine RgE_i (fun (hBd_ : Bd _ _) => ?_))); (try simp (disch := omega) only [bsW, WOp, WOq, WV, bo, eqN, gdc, gw, bnd, ↓reduceIte, Nat.reduceEqDiff, rsvs, rsv, oneOf, rdN, ne_eq, Nat.reduceAdd, Nat.reduceMul, Nat.reduceLT, reduceCtorEq, Value.cells, setN, Value.oneCell', Nat.reduceLeDiff, undef, fcT, c0, c1, c2, c3, c4, hv, Bool.not_false])) | (with_reducible refine fun (hBd_ : Bd _ _) => ?_) | ((first | (with_reducible refine @And.intro (Sub _ _) _ ?_ ?_) | ((with_reducible refine @And.intro (Sub _ _ ∧ _) _ ?_ ?_); (with_reducible refine @And.intro (Sub _ _) _ ?_ ?_))); exact sbX) | ((with_reducible refine And.intro ?_ ?_); omega)))
    all_goals try (exfalso; omega)
    exact ⟨_, rfl, .empty (by omega) (by omega) (upd_same _ _ _), sub_up (nx := nx) (by omega) hB hs0⟩
  · have hq := pzB_iff.1 hv
    have h20 := hq.t2
    have e : pwL tot la hand rj sl = waitK la hand rj tot.toNat := by simp [pwL, hv]
    rw [e]
    (try (simp (disch := omega) only [bsW, WOp, WOq, WV, bo, eqN, gdc, gw, bnd, ↓reduceIte, Nat.reduceEqDiff, rsvs, rsv, oneOf, rdN, ne_eq, Nat.reduceAdd, Nat.reduceMul, Nat.reduceLT, reduceCtorEq, Value.cells, setN, Value.oneCell', Nat.reduceLeDiff, undef, fcT, c0, c1, c2, c3, c4, hv, Bool.not_true]))
    (repeat' (first | ((with_reducible refine gif_split (fun hs_ => ?_) (fun hs_ => ?_)) <;> (have hp_ := hs_; (try simp only [hpL, ne_eq] at hp_); (try simp (disch := omega) only [bsW, WOp, WOq, WV, bo, eqN, gdc, gw, bnd, ↓reduceIte, Nat.reduceEqDiff, rsvs, rsv, oneOf, rdN, ne_eq, Nat.reduceAdd, Nat.reduceMul, Nat.reduceLT, reduceCtorEq, Value.cells, setN, Value.oneCell', Nat.reduceLeDiff, undef, fcT, c0, c1, c2, c3, c4, hv, Bool.not_true, hs_]))) | ((first | (with_reducible refine newB_i (fun nb_ hb_ => ?_)) | ((with_reducible show QC _ _ _ _ _ _); (first | (refine QC_i (l21Good tot A la c hand B rj d sl _ _ hla hc hA hRB) ?_))) | ((with_reducible show AC _ _ _ _ _ _); (first | (refine PC.ac (l21Good tot A la c hand B rj d sl _ _ hla hc hA hRB) ?_))) | (with_reducible refine RgE_i (fun (hBd_ : Bd _ _) => ?_))); (try simp (disch := omega) only [bsW, WOp, WOq, WV, bo, eqN, gdc, gw, bnd, ↓reduceIte, Nat.reduceEqDiff, rsvs, rsv, oneOf, rdN, ne_eq, Nat.reduceAdd, Nat.reduceMul, Nat.reduceLT, reduceCtorEq, Value.cells, setN, Value.oneCell', Nat.reduceLeDiff, undef, fcT, c0, c1, c2, c3, c4, hv, Bool.not_true])) | (with_reducible refine fun (hBd_ : Bd _ _) => ?_) | ((first | (with_reducible refine @And.intro (Sub _ _) _ ?_ ?_) | ((with_reducible refine @And.intro (Sub _ _ ∧ _) _ ?_ ?_); (with_reducible refine @And.intro (Sub _ _) _ ?_ ?_))); exact sbX) | ((with_reducible refine And.intro ?_ ?_); omega)))
    all_goals try (exfalso; omega)
    refine (l21Waiting tot A la c hand B rj d sl _ _ (by omega) (by omega) (by omega) hA hRB).monoC ?_
    rintro v9 H9 nx9 hB9 hx9 ⟨hO9, hs9⟩
    simp (disch := omega) only [bsW, WOp, WOq, WV, bo, eqN, gdc, gw, bnd, ↓reduceIte, Nat.reduceEqDiff, rsvs, rsv, oneOf, rdN, ne_eq, Nat.reduceAdd, Nat.reduceMul, Nat.reduceLT, reduceCtorEq, Value.cells, setN, Value.oneCell', Nat.reduceLeDiff, undef, fcT]
    exact ⟨_, rfl, OwnR.lo hO9 (by omega), hs0.trans hs9⟩
end Go.Proofs.YtbhabpenlaklcaaDoor
