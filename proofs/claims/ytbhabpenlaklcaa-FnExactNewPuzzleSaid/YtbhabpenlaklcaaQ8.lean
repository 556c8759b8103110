/- Puzzles: a new one. -/
import Derived.Test.YtbhabpenlaklcaaQ7
set_option linter.unusedVariables false
set_option linter.unusedSimpArgs false
set_option maxRecDepth 100000
set_option maxHeartbeats 1000000
namespace Go.Proofs.Ytbhabpenlaklcaa
open Go Go.RowKit Go.Proofs

theorem bl_of {P : Program} {t : TypeId} {fields : Array Field} {zs : List Value} {ps : List (Nat × Nat)} (hz : qZero P t = some (.agg zs.toArray)) (ha : qAgg P t = some true) (hu : P.underlying t = some (.struct fields)) (hall : (fields.all fun f => (qSize P f.type).isSome) = true)
    (hm : (fields.map fun f => (f.offset, (qSize P f.type).getD 0)).toList = ps) (fr : Fr) (H : Hp) (parts : Array (Nat × Operand)) (K : Value → Prop) : WV P fr H (.build t parts) K =
    (match Instr.fill (fun (i : Nat) => ps[i]?) zs.toArray (parts.map fun (i, x) => (i, ev fr x)).toList with
     | some cells => K (.agg cells)
     | none => False) := by
  have e : (fun (i : Nat) => (fields.map fun f => (f.offset, (qSize P f.type).getD 0))[i]?) = fun (i : Nat) => ps[i]? := by
    funext i
    rw [← hm]
    simp
  simp only [WV, hz, ha, hu]
  rw [e]
  simp only [hall, true_and]
  rfl
theorem blPz (fr : Fr) (H : Hp) (parts : Array (Nat × Operand)) (K : Value → Prop) : WV Try.prog fr H (.build 24 parts) K =
    (match Instr.fill (fun (i : Nat) => ([(0, 1), (1, 1), (2, 1), (3, 1), (4, 1)] : List (Nat × Nat))[i]?) [Value.int .i64 0, .slice none 0 0, .int .i64 0, .slice none 0 0, .bool false].toArray (parts.map fun (i, x) => (i, ev fr x)).toList with
     | some cells => K (.agg cells)
     | none => False) :=
  bl_of (by kernel_rfl) qa24 Try.underlying24 (by kernel_rfl) (by kernel_rfl) fr H parts K
def FlagP (H : Hp) (nx : Nat) (tot : Int) (la : List Int) (hand : Int) (rj : List Int) (sl ok : Bool) (v : Value) (H' : Hp) (nx' : Nat) : Prop := ∃ w, v = .tuple #[w, .bool ok] ∧ NewI (fun hi v H' => OwnP H' nx hi tot la hand rj sl v) H w H' nx'
theorem ownP_nil (H : Hp) (lo hi : Nat) (tot hand : Int) (sl : Bool) : OwnP H lo hi tot [] hand [] sl (.agg #[.int .i64 tot, .slice none 0 0, .int .i64 hand, .slice none 0 0, .bool sl]) :=
  ⟨_, _, rfl, .nil, .nil, fun b h => by cases h⟩

theorem NewPuzzle (x : Int) (H : Hp) (nx : Nat) : AC Try.prog 12 #[.int .i64 x] H nx (FlagP H nx (if inR x 1 20 = true then x else 0) [] 0 [] false (inR x 1 20)) := by
  refine AC_of x_impl_NewPuzzle rfl fun hB => ?_
  cases hv : inR x 1 20
  all_goals
    simp (disch := omega) only [bsW, WOp, WOq, WV, bo, gdc, gw, bnd, ↓reduceIte, Nat.reduceEqDiff, rsvs, rsv, oneOf, rdN, ne_eq, Nat.reduceAdd, Nat.reduceMul, Nat.reduceLT, reduceCtorEq, Value.cells, setN, Value.oneCell', Nat.reduceLeDiff, undef, fcT, hv, Bool.not_true, Bool.not_false, ↓blPz, c_impl_NewPuzzle]
    (repeat' (first | ((refine gif_split (fun hs_ => ?_) (fun hs_ => ?_)) <;> (have hp_ := hs_; (try simp only [decide_eq_true_eq, decide_eq_false_iff_not, beq_iff_eq, bne_iff_ne, beq_eq_false_iff_ne, Bool.not_eq_true, Bool.and_eq_true, Bool.or_eq_true, Bool.and_eq_false_iff, Bool.or_eq_false_iff, bne_eq_false_iff_eq, ne_eq] at hp_); (try simp (disch := omega) only [bsW, WOp, WOq, WV, bo, gdc, gw, bnd, ↓reduceIte, Nat.reduceEqDiff, rsvs, rsv, oneOf, rdN, ne_eq, Nat.reduceAdd, Nat.reduceMul, Nat.reduceLT, reduceCtorEq, Value.cells, setN, Value.oneCell', Nat.reduceLeDiff, undef, fcT, hv, Bool.not_true, Bool.not_false, ↓blPz, hs_]))) | ((refine newB_i (fun nb_ hb_ => ?_)); (try simp (disch := omega) only [bsW, WOp, WOq, WV, bo, gdc, gw, bnd, ↓reduceIte, Nat.reduceEqDiff, rsvs, rsv, oneOf, rdN, ne_eq, Nat.reduceAdd, Nat.reduceMul, Nat.reduceLT, reduceCtorEq, Value.cells, setN, Value.oneCell', Nat.reduceLeDiff, undef, fcT, hv, Bool.not_true, Bool.not_false, ↓blPz])) | ((first | (refine QC_i (inRange _ _ _ _ _) ?_) | (refine PC.ac (inRange _ _ _ _ _) ?_)); (try simp (disch := omega) only [bsW, WOp, WOq, WV, bo, gdc, gw, bnd, ↓reduceIte, Nat.reduceEqDiff, rsvs, rsv, oneOf, rdN, ne_eq, Nat.reduceAdd, Nat.reduceMul, Nat.reduceLT, reduceCtorEq, Value.cells, setN, Value.oneCell', Nat.reduceLeDiff, undef, fcT, hv, Bool.not_true, Bool.not_false, ↓blPz])) | (refine fun (hBd_ : Bd _ _) => ?_) | (refine And.intro (Sub.refl _) ?_) | (refine And.intro (sub_new (by assumption) (by assumption)) ?_) | (refine And.intro (And.intro (Sub.refl _) ?_) ?_) | (refine And.intro ?_ ?_; omega)))
    all_goals try (exfalso; omega)
    exact ⟨_, rfl, ownP_nil _ _ _ _ _ _, by (repeat (first | assumption | exact Sub.refl _ | (refine sub_up (nx := nx) ?_ hB ?_; omega)))⟩

theorem sNewPuzzle (x : Int) (H : Hp) (nx : Nat) : AC Try.prog 11 #[.int .i64 x] H nx (FlagP H nx (if inR x 1 20 = true then x else 0) [] 0 [] false (inR x 1 20)) := by
  refine AC_of x_spec_NewPuzzle rfl fun hB => ?_
  cases hv : inR x 1 20
  all_goals
    simp (disch := omega) only [bsW, WOp, WOq, WV, bo, gdc, gw, bnd, ↓reduceIte, Nat.reduceEqDiff, rsvs, rsv, oneOf, rdN, ne_eq, Nat.reduceAdd, Nat.reduceMul, Nat.reduceLT, reduceCtorEq, Value.cells, setN, Value.oneCell', Nat.reduceLeDiff, undef, fcT, hv, Bool.not_true, Bool.not_false, ↓blPz, c_spec_NewPuzzle]
    (repeat' (first | ((refine gif_split (fun hs_ => ?_) (fun hs_ => ?_)) <;> (have hp_ := hs_; (try simp only [decide_eq_true_eq, decide_eq_false_iff_not, beq_iff_eq, bne_iff_ne, beq_eq_false_iff_ne, Bool.not_eq_true, Bool.and_eq_true, Bool.or_eq_true, Bool.and_eq_false_iff, Bool.or_eq_false_iff, bne_eq_false_iff_eq, ne_eq] at hp_); (try simp (disch := omega) only [bsW, WOp, WOq, WV, bo, gdc, gw, bnd, ↓reduceIte, Nat.reduceEqDiff, rsvs, rsv, oneOf, rdN, ne_eq, Nat.reduceAdd, Nat.reduceMul, Nat.reduceLT, reduceCtorEq, Value.cells, setN, Value.oneCell', Nat.reduceLeDiff, undef, fcT, hv, Bool.not_true, Bool.not_false, ↓blPz, hs_]))) | ((refine newB_i (fun nb_ hb_ => ?_)); (try simp (disch := omega) only [bsW, WOp, WOq, WV, bo, gdc, gw, bnd, ↓reduceIte, Nat.reduceEqDiff, rsvs, rsv, oneOf, rdN, ne_eq, Nat.reduceAdd, Nat.reduceMul, Nat.reduceLT, reduceCtorEq, Value.cells, setN, Value.oneCell', Nat.reduceLeDiff, undef, fcT, hv, Bool.not_true, Bool.not_false, ↓blPz])) | ((first | (refine QC_i (l1In _ _ _ _ _) ?_) | (refine PC.ac (l1In _ _ _ _ _) ?_)); (try simp (disch := omega) only [bsW, WOp, WOq, WV, bo, gdc, gw, bnd, ↓reduceIte, Nat.reduceEqDiff, rsvs, rsv, oneOf, rdN, ne_eq, Nat.reduceAdd, Nat.reduceMul, Nat.reduceLT, reduceCtorEq, Value.cells, setN, Value.oneCell', Nat.reduceLeDiff, undef, fcT, hv, Bool.not_true, Bool.not_false, ↓blPz])) | (refine fun (hBd_ : Bd _ _) => ?_) | (refine And.intro (Sub.refl _) ?_) | (refine And.intro (sub_new (by assumption) (by assumption)) ?_) | (refine And.intro (And.intro (Sub.refl _) ?_) ?_) | (refine And.intro ?_ ?_; omega)))
    all_goals try (exfalso; omega)
    exact ⟨_, rfl, ownP_nil _ _ _ _ _ _, by (repeat (first | assumption | exact Sub.refl _ | (refine sub_up (nx := nx) ?_ hB ?_; omega)))⟩
end Go.Proofs.Ytbhabpenlaklcaa
