/- Puzzles: a new one. -/
import Derived.Test.YtbhabpenlaklcaaQ7
set_option linter.unusedVariables false
set_option linter.unusedSimpArgs false
set_option maxRecDepth 100000
set_option maxHeartbeats 1000000
namespace Go.Proofs.Ytbhabpenlaklcaa
open Go Go.RowKit Go.Proofs

def FlagP (H : Hp) (nx : Nat) (tot : Int) (la : List Int) (hand : Int) (rj : List Int) (sl ok : Bool) (v : Value) (H' : Hp) (nx' : Nat) : Prop := ∃ w, v = .tuple #[w, .bool ok] ∧ NewI (fun hi v H' => OwnP H' nx hi tot la hand rj sl v) H w H' nx'
theorem ownP_nil (H : Hp) (lo hi : Nat) (tot hand : Int) (sl : Bool) : OwnP H lo hi tot [] hand [] sl (.agg #[.int .i64 tot, .slice none 0 0, .int .i64 hand, .slice none 0 0, .bool sl]) :=
  ⟨_, _, rfl, .nil, .nil, fun b h => by cases h⟩

theorem NewPuzzle (x : Int) (H : Hp) (nx : Nat) : AC Try.prog 12 #[.int .i64 x] H nx (FlagP H nx (if inR x 1 20 = true then x else 0) [] 0 [] false (inR x 1 20)) := by
  refine AC_of x_impl_NewPuzzle rfl fun hB => ?_
  cases hv : inR x 1 20
  all_goals
    simp (disch := omega) only [bsW, WOp, WOq, WV, bo, eqN, gdc, gw, bnd, ↓reduceIte, Nat.reduceEqDiff, rsvs, rsv, oneOf, rdN, ne_eq, Nat.reduceAdd, Nat.reduceMul, Nat.reduceLT, reduceCtorEq, Value.cells, setN, Value.oneCell', Nat.reduceLeDiff, undef, fcT, hv, Bool.not_true, Bool.not_false, c_impl_NewPuzzle]
    (repeat' (first | ((with_reducible refine gif_split (fun hs_ => ?_) (fun hs_ => ?_)) <;> (have hp_ := hs_; (try simp only [hpL, ne_eq] at hp_); (try simp (disch := omega) only [bsW, WOp, WOq, WV, bo, eqN, gdc, gw, bnd, ↓reduceIte, Nat.reduceEqDiff, rsvs, rsv, oneOf, rdN, ne_eq, Nat.reduceAdd, Nat.reduceMul, Nat.reduceLT, reduceCtorEq, Value.cells, setN, Value.oneCell', Nat.reduceLeDiff, undef, fcT, hv, Bool.not_true, Bool.not_false, hs_]))) | ((first | (with_reducible refine newB_i (fun nb_ hb_ => ?_)) | ((with_reducible show QC _ _ _ _ _ _); (first | (refine QC_i (inRange _ _ _ _ _) ?_))) | ((with_reducible show AC _ _ _ _ _ _); (first | (refine PC.ac (inRange _ _ _ _ _) ?_))) | (with_reducible refine RgE_i (fun (hBd_ : Bd _ _) => ?_))); (try simp (disch := omega) only [bsW, WOp, WOq, WV, bo, eqN, gdc, gw, bnd, ↓reduceIte, Nat.reduceEqDiff, rsvs, rsv, oneOf, rdN, ne_eq, Nat.reduceAdd, Nat.reduceMul, Nat.reduceLT, reduceCtorEq, Value.cells, setN, Value.oneCell', Nat.reduceLeDiff, undef, fcT, hv, Bool.not_true, Bool.not_false])) | (with_reducible refine fun (hBd_ : Bd _ _) => ?_) | ((first | (with_reducible refine @And.intro (Sub _ _) _ ?_ ?_) | ((with_reducible refine @And.intro (Sub _ _ ∧ _) _ ?_ ?_); (with_reducible refine @And.intro (Sub _ _) _ ?_ ?_))); exact sbX) | ((with_reducible refine And.intro ?_ ?_); omega)))
    all_goals try (exfalso; omega)
    exact ⟨_, rfl, ownP_nil _ _ _ _ _ _, by (repeat (first | assumption | exact Sub.refl _ | (refine sub_up (nx := nx) ?_ hB ?_; omega)))⟩

theorem sNewPuzzle (x : Int) (H : Hp) (nx : Nat) : AC Try.prog 11 #[.int .i64 x] H nx (FlagP H nx (if inR x 1 20 = true then x else 0) [] 0 [] false (inR x 1 20)) := by
  refine AC_of x_spec_NewPuzzle rfl fun hB => ?_
  cases hv : inR x 1 20
  all_goals
    simp (disch := omega) only [bsW, WOp, WOq, WV, bo, eqN, gdc, gw, bnd, ↓reduceIte, Nat.reduceEqDiff, rsvs, rsv, oneOf, rdN, ne_eq, Nat.reduceAdd, Nat.reduceMul, Nat.reduceLT, reduceCtorEq, Value.cells, setN, Value.oneCell', Nat.reduceLeDiff, undef, fcT, hv, Bool.not_true, Bool.not_false, c_spec_NewPuzzle]
    (repeat' (first | ((with_reducible refine gif_split (fun hs_ => ?_) (fun hs_ => ?_)) <;> (have hp_ := hs_; (try simp only [hpL, ne_eq] at hp_); (try simp (disch := omega) only [bsW, WOp, WOq, WV, bo, eqN, gdc, gw, bnd, ↓reduceIte, Nat.reduceEqDiff, rsvs, rsv, oneOf, rdN, ne_eq, Nat.reduceAdd, Nat.reduceMul, Nat.reduceLT, reduceCtorEq, Value.cells, setN, Value.oneCell', Nat.reduceLeDiff, undef, fcT, hv, Bool.not_true, Bool.not_false, hs_]))) | ((first | (with_reducible refine newB_i (fun nb_ hb_ => ?_)) | ((with_reducible show QC _ _ _ _ _ _); (first | (refine QC_i (l1In _ _ _ _ _) ?_))) | ((with_reducible show AC _ _ _ _ _ _); (first | (refine PC.ac (l1In _ _ _ _ _) ?_))) | (with_reducible refine RgE_i (fun (hBd_ : Bd _ _) => ?_))); (try simp (disch := omega) only [bsW, WOp, WOq, WV, bo, eqN, gdc, gw, bnd, ↓reduceIte, Nat.reduceEqDiff, rsvs, rsv, oneOf, rdN, ne_eq, Nat.reduceAdd, Nat.reduceMul, Nat.reduceLT, reduceCtorEq, Value.cells, setN, Value.oneCell', Nat.reduceLeDiff, undef, fcT, hv, Bool.not_true, Bool.not_false])) | (with_reducible refine fun (hBd_ : Bd _ _) => ?_) | ((first | (with_reducible refine @And.intro (Sub _ _) _ ?_ ?_) | ((with_reducible refine @And.intro (Sub _ _ ∧ _) _ ?_ ?_); (with_reducible refine @And.intro (Sub _ _) _ ?_ ?_))); exact sbX) | ((with_reducible refine And.intro ?_ ?_); omega)))
    all_goals try (exfalso; omega)
    exact ⟨_, rfl, ownP_nil _ _ _ _ _ _, by (repeat (first | assumption | exact Sub.refl _ | (refine sub_up (nx := nx) ?_ hB ?_; omega)))⟩
end Go.Proofs.Ytbhabpenlaklcaa
