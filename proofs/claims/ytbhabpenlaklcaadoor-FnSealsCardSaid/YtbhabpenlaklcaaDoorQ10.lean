/- Puzzles: the search of a place. -/
import Derived.Test.YtbhabpenlaklcaaDoorQ9
import Derived.Test.YtbhabpenlaklcaaDoorP21b
set_option linter.unusedVariables false
set_option linter.unusedSimpArgs false
set_option maxRecDepth 100000
set_option maxHeartbeats 1000000
namespace Go.Proofs.YtbhabpenlaklcaaDoor
open Go Go.RowKit Go.Proofs

theorem lessI (x y : Int) (H : Hp) (nx : Nat) : PC Tryd.prog 62 #[.int .i64 x, .int .i64 y] H nx (.bool (decide (x < y))) := by
  have nan : ∀ (z : Int) (H : Hp) (nx : Nat), PC Tryd.prog 76 #[.int .i64 z] H nx (.bool false) := fun z H nx => by
    refine AC_of x_cmp_isNaN_int rfl fun hB => ?_
    simp (disch := omega) only [bsW, WOp, WOq, WV, bo, eqN, gdc, gw, bnd, ↓reduceIte, Nat.reduceEqDiff, rsvs, rsv, oneOf, rdN, ne_eq, Nat.reduceAdd, Nat.reduceMul, Nat.reduceLT, reduceCtorEq, Value.cells, setN, Value.oneCell', Nat.reduceLeDiff, undef, fcT, bne_self_eq_false, c_cmp_isNaN_int]
    exact Is_i (Sub.refl _)
  refine AC_of x_cmp_Less_int rfl fun hB => ?_
  simp (disch := omega) only [bsW, WOp, WOq, WV, bo, eqN, gdc, gw, bnd, ↓reduceIte, Nat.reduceEqDiff, rsvs, rsv, oneOf, rdN, ne_eq, Nat.reduceAdd, Nat.reduceMul, Nat.reduceLT, reduceCtorEq, Value.cells, setN, Value.oneCell', Nat.reduceLeDiff, undef, fcT, Bool.not_false, Bool.not_true, c_cmp_Less_int]
  (repeat' (first | ((with_reducible refine gif_split (fun hs_ => ?_) (fun hs_ => ?_)) <;> (have hp_ := hs_; (try simp only [hpL, ne_eq] at hp_); (try simp (disch := omega) only [bsW, WOp, WOq, WV, bo, eqN, gdc, gw, bnd, ↓reduceIte, Nat.reduceEqDiff, rsvs, rsv, oneOf, rdN, ne_eq, Nat.reduceAdd, Nat.reduceMul, Nat.reduceLT, reduceCtorEq, Value.cells, setN, Value.oneCell', Nat.reduceLeDiff, undef, fcT, Bool.not_false, Bool.not_true, hs_]))) | ((first | (with_reducible refine newB_i (fun nb_ hb_ => ?_)) | ((with_reducible show QC _ _ _ _ _ _); (first | (refine QC_i (nan _ _ _) ?_))) | ((with_reducible show AC _ _ _ _ _ _); (first | (refine PC.ac (nan _ _ _) ?_))) | (with_reducible refine RgE_i (fun (hBd_ : Bd _ _) => ?_))); (try simp (disch := omega) only [bsW, WOp, WOq, WV, bo, eqN, gdc, gw, bnd, ↓reduceIte, Nat.reduceEqDiff, rsvs, rsv, oneOf, rdN, ne_eq, Nat.reduceAdd, Nat.reduceMul, Nat.reduceLT, reduceCtorEq, Value.cells, setN, Value.oneCell', Nat.reduceLeDiff, undef, fcT, Bool.not_false, Bool.not_true])) | (with_reducible refine fun (hBd_ : Bd _ _) => ?_) | ((first | (with_reducible refine @And.intro (Sub _ _) _ ?_ ?_) | ((with_reducible refine @And.intro (Sub _ _ ∧ _) _ ?_ ?_); (with_reducible refine @And.intro (Sub _ _) _ ?_ ?_))); exact sbX) | ((with_reducible refine And.intro ?_ ?_); omega)))
  all_goals exact Is_e (by simp_all) (Sub.refl _)
theorem snan (z : Int) (H : Hp) (nx : Nat) : PC Tryd.prog 63 #[.int .i64 z] H nx (.bool false) := by
  refine AC_of x_slices_isNaN_int rfl fun hB => ?_
  simp (disch := omega) only [bsW, WOp, WOq, WV, bo, eqN, gdc, gw, bnd, ↓reduceIte, Nat.reduceEqDiff, rsvs, rsv, oneOf, rdN, ne_eq, Nat.reduceAdd, Nat.reduceMul, Nat.reduceLT, reduceCtorEq, Value.cells, setN, Value.oneCell', Nat.reduceLeDiff, undef, fcT, bne_self_eq_false, c_slices_isNaN_int]
  exact Is_i (Sub.refl _)
theorem mid_bits (i j : Nat) (h : i + j ≤ 2097152) : IntKind.i64.wrap ((IntKind.u64.wrap ((i : Int) + (j : Int))).fdiv (2 ^ min (Int.toNat 1) IntKind.u64.bits)) = (((i + j) / 2 : Nat) : Int) := by
  have h1 : IntKind.u64.wrap ((i : Int) + (j : Int)) = ((i + j : Nat) : Int) := by
    have hb : IntKind.u64.bits = 64 := rfl
    have hs : IntKind.u64.signed = false := rfl
    have hp : (2 : Int) ^ 64 = 18446744073709551616 := by decide
    simp only [IntKind.wrap, hb, hs, Bool.false_and, Bool.false_eq_true, if_false, hp]
    omega
  have h2 : (2 : Int) ^ min (Int.toNat 1) IntKind.u64.bits = 2 := by decide
  rw [h1, h2, Int.fdiv_eq_ediv_of_nonneg _ (by omega), IntKind.wrap_i64]
  omega
theorem ascL_le {l : List Int} (h : ascL l) {i j : Nat} (hij : i < j) (hj : j < l.length) : l.getD i 0 < l.getD j 0 := by
  have := ascL_pair.1 h
  rw [List.pairwise_iff_getElem] at this
  have := this i j (by omega) hj hij
  rw [List.getD_eq_getElem?_getD, List.getD_eq_getElem?_getD, List.getElem?_eq_getElem hj, List.getElem?_eq_getElem (show i < l.length by omega)]
  simpa using this
def posL (l : List Int) (x : Int) : Nat := (l.takeWhile (fun y => decide (y < x))).length
theorem posL_plc {l : List Int} {x : Int} {k : Nat} (h : plc l x k) : posL l x = k := by
  unfold posL
  rw [(plc_take h).1, List.length_take]
  exact Nat.min_eq_left h.1
def fndB (l : List Int) (x : Int) : Bool := decide (posL l x < l.length) && (l.getD (posL l x) 0 == x)
theorem binSearch (A : Option Addr) (l : List Int) (c : Nat) (x : Int) (H : Hp) (nx : Nat) (hn : l.length ≤ 1048576) (ha : ascL l) (h : RdL H A l) :
    PC Tryd.prog 54 #[.slice A l.length c, .int .i64 x] H nx (.tuple #[.int .i64 (posL l x : Nat), .bool (fndB l x)]) := by
  refine AC_of x_slices_BinarySearch_int rfl fun hB => ?_
  simp (disch := omega) only [bsW, WOp, WOq, WV, bo, eqN, gdc, gw, bnd, ↓reduceIte, Nat.reduceEqDiff, rsvs, rsv, oneOf, rdN, ne_eq, Nat.reduceAdd, Nat.reduceMul, Nat.reduceLT, reduceCtorEq, Value.cells, setN, Value.oneCell', Nat.reduceLeDiff, undef, fcT, c_slices_BinarySearch_int]
  refine LpB_rule (fun mm fr H' nx' => ∃ i j : Nat, j - i + 1 ≤ mm ∧ i ≤ j ∧ j ≤ l.length ∧ fr 0 = .slice A l.length c ∧ fr 1 = .int .i64 x ∧ fr 6 = .int .i64 l.length ∧ fr 7 = .int .i64 i ∧ fr 8 = .int .i64 j ∧ Sub H H' ∧ nx ≤ nx' ∧ (∀ p, p < i → l.getD p 0 < x) ∧ (∀ p, j ≤ p → p < l.length → x ≤ l.getD p 0)) ?_ ?_ (l.length + 1) ?_
  · rintro mm K hK fr H' nx' hB' ⟨i, j, hmm, hij, hj, f0, f1, f6, f7, f8, hs, hx, hlo, hhi⟩
    simp (disch := omega) only [bsW, WOp, WOq, WV, bo, eqN, gdc, gw, bnd, ↓reduceIte, Nat.reduceEqDiff, rsvs, rsv, oneOf, rdN, ne_eq, Nat.reduceAdd, Nat.reduceMul, Nat.reduceLT, reduceCtorEq, Value.cells, setN, Value.oneCell', Nat.reduceLeDiff, undef, fcT, f0, f1, f6, f7, f8]
    refine gif_split (fun b1 => ?_) (fun b1 => ?_)
    · have hlt : i < j := by simpa using b1
      have hm1 : (i + j) / 2 < j := by omega
      have hm2 : i ≤ (i + j) / 2 := by omega
      obtain ⟨b, off, rfl, c0⟩ := (h.sub hs).at_ (show (i + j) / 2 < l.length by omega)
      have hmid := mid_bits i j (by omega)
      simp (disch := omega) only [bsW, WOp, WOq, WV, bo, eqN, gdc, gw, bnd, ↓reduceIte, Nat.reduceEqDiff, rsvs, rsv, oneOf, rdN, ne_eq, Nat.reduceAdd, Nat.reduceMul, Nat.reduceLT, reduceCtorEq, Value.cells, setN, Value.oneCell', Nat.reduceLeDiff, undef, fcT, f0, f1, f6, f7, f8, hmid, c0, Nat.mul_one, Int.toNat_natCast, b1]
      (repeat' (first | ((with_reducible refine gif_split (fun hs_ => ?_) (fun hs_ => ?_)) <;> (have hp_ := hs_; (try simp only [hpL, ne_eq] at hp_); (try simp (disch := omega) only [bsW, WOp, WOq, WV, bo, eqN, gdc, gw, bnd, ↓reduceIte, Nat.reduceEqDiff, rsvs, rsv, oneOf, rdN, ne_eq, Nat.reduceAdd, Nat.reduceMul, Nat.reduceLT, reduceCtorEq, Value.cells, setN, Value.oneCell', Nat.reduceLeDiff, undef, fcT, f0, f1, f6, f7, f8, hmid, c0, Nat.mul_one, Int.toNat_natCast, hs_]))) | ((first | (with_reducible refine newB_i (fun nb_ hb_ => ?_)) | ((with_reducible show QC _ _ _ _ _ _); (first | (refine QC_i (lessI _ _ _ _) ?_))) | ((with_reducible show AC _ _ _ _ _ _); (first | (refine PC.ac (lessI _ _ _ _) ?_))) | (with_reducible refine RgE_i (fun (hBd_ : Bd _ _) => ?_))); (try simp (disch := omega) only [bsW, WOp, WOq, WV, bo, eqN, gdc, gw, bnd, ↓reduceIte, Nat.reduceEqDiff, rsvs, rsv, oneOf, rdN, ne_eq, Nat.reduceAdd, Nat.reduceMul, Nat.reduceLT, reduceCtorEq, Value.cells, setN, Value.oneCell', Nat.reduceLeDiff, undef, fcT, f0, f1, f6, f7, f8, hmid, c0, Nat.mul_one, Int.toNat_natCast])) | (with_reducible refine fun (hBd_ : Bd _ _) => ?_) | ((first | (with_reducible refine @And.intro (Sub _ _) _ ?_ ?_) | ((with_reducible refine @And.intro (Sub _ _ ∧ _) _ ?_ ?_); (with_reducible refine @And.intro (Sub _ _) _ ?_ ?_))); exact sbX) | ((with_reducible refine And.intro ?_ ?_); omega)))
      all_goals try (exfalso; omega)
      · refine hK _ _ _ ?_
        refine ⟨(i + j) / 2 + 1, j, by omega, by omega, hj, by simp (disch := omega) only [bsW, ↓reduceIte, Nat.reduceEqDiff, ne_eq, reduceCtorEq, fcT, f0, f1, f6, f7, f8, hmid, c0, Nat.mul_one, Int.toNat_natCast], by simp (disch := omega) only [bsW, ↓reduceIte, Nat.reduceEqDiff, ne_eq, reduceCtorEq, fcT, f0, f1, f6, f7, f8, hmid, c0, Nat.mul_one, Int.toNat_natCast], by simp (disch := omega) only [bsW, ↓reduceIte, Nat.reduceEqDiff, ne_eq, reduceCtorEq, fcT, f0, f1, f6, f7, f8, hmid, c0, Nat.mul_one, Int.toNat_natCast], by simp (disch := omega) only [bsW, ↓reduceIte, Nat.reduceEqDiff, ne_eq, reduceCtorEq, fcT, f0, f1, f6, f7, f8, hmid, c0, Nat.mul_one, Int.toNat_natCast, Int.natCast_add, Int.natCast_one], by simp (disch := omega) only [bsW, ↓reduceIte, Nat.reduceEqDiff, ne_eq, reduceCtorEq, fcT, f0, f1, f6, f7, f8, hmid, c0, Nat.mul_one, Int.toNat_natCast], hs, by omega, fun p hp => ?_, hhi⟩
        rcases Nat.lt_succ_iff_lt_or_eq.1 hp with hp | rfl
        · have := ascL_le ha hp (by omega); omega
        · omega
      · refine hK _ _ _ ?_
        refine ⟨i, (i + j) / 2, by omega, by omega, by omega, by simp (disch := omega) only [bsW, ↓reduceIte, Nat.reduceEqDiff, ne_eq, reduceCtorEq, fcT, f0, f1, f6, f7, f8, hmid, c0, Nat.mul_one, Int.toNat_natCast], by simp (disch := omega) only [bsW, ↓reduceIte, Nat.reduceEqDiff, ne_eq, reduceCtorEq, fcT, f0, f1, f6, f7, f8, hmid, c0, Nat.mul_one, Int.toNat_natCast], by simp (disch := omega) only [bsW, ↓reduceIte, Nat.reduceEqDiff, ne_eq, reduceCtorEq, fcT, f0, f1, f6, f7, f8, hmid, c0, Nat.mul_one, Int.toNat_natCast], by simp (disch := omega) only [bsW, ↓reduceIte, Nat.reduceEqDiff, ne_eq, reduceCtorEq, fcT, f0, f1, f6, f7, f8, hmid, c0, Nat.mul_one, Int.toNat_natCast], by simp (disch := omega) only [bsW, ↓reduceIte, Nat.reduceEqDiff, ne_eq, reduceCtorEq, fcT, f0, f1, f6, f7, f8, hmid, c0, Nat.mul_one, Int.toNat_natCast], hs, by omega, hlo, fun p hp hp2 => ?_⟩
        rcases Nat.eq_or_lt_of_le hp with rfl | hp
        · omega
        · have := ascL_le ha hp hp2; omega
    · have hij2 : i = j := by simp at b1; omega
      subst hij2
      have hpl : plc l x i := ⟨hj, hlo, fun h => hhi i (Nat.le_refl _) h⟩
      by_cases hlt : i < l.length
      · obtain ⟨b, off, rfl, c0⟩ := (h.sub hs).at_ hlt
        simp (disch := omega) only [bsW, WOp, WOq, WV, bo, eqN, gdc, gw, bnd, ↓reduceIte, Nat.reduceEqDiff, rsvs, rsv, oneOf, rdN, ne_eq, Nat.reduceAdd, Nat.reduceMul, Nat.reduceLT, reduceCtorEq, Value.cells, setN, Value.oneCell', Nat.reduceLeDiff, undef, fcT, f0, f1, f6, f7, f8, c0, Nat.mul_one, Int.toNat_natCast, b1]
        (repeat' (first | ((with_reducible refine gif_split (fun hs_ => ?_) (fun hs_ => ?_)) <;> (have hp_ := hs_; (try simp only [hpL, ne_eq] at hp_); (try simp (disch := omega) only [bsW, WOp, WOq, WV, bo, eqN, gdc, gw, bnd, ↓reduceIte, Nat.reduceEqDiff, rsvs, rsv, oneOf, rdN, ne_eq, Nat.reduceAdd, Nat.reduceMul, Nat.reduceLT, reduceCtorEq, Value.cells, setN, Value.oneCell', Nat.reduceLeDiff, undef, fcT, f0, f1, f6, f7, f8, c0, Nat.mul_one, Int.toNat_natCast, hs_]))) | ((first | (with_reducible refine newB_i (fun nb_ hb_ => ?_)) | ((with_reducible show QC _ _ _ _ _ _); (first | (refine QC_i (snan _ _ _) ?_))) | ((with_reducible show AC _ _ _ _ _ _); (first | (refine PC.ac (snan _ _ _) ?_))) | (with_reducible refine RgE_i (fun (hBd_ : Bd _ _) => ?_))); (try simp (disch := omega) only [bsW, WOp, WOq, WV, bo, eqN, gdc, gw, bnd, ↓reduceIte, Nat.reduceEqDiff, rsvs, rsv, oneOf, rdN, ne_eq, Nat.reduceAdd, Nat.reduceMul, Nat.reduceLT, reduceCtorEq, Value.cells, setN, Value.oneCell', Nat.reduceLeDiff, undef, fcT, f0, f1, f6, f7, f8, c0, Nat.mul_one, Int.toNat_natCast])) | (with_reducible refine fun (hBd_ : Bd _ _) => ?_) | ((first | (with_reducible refine @And.intro (Sub _ _) _ ?_ ?_) | ((with_reducible refine @And.intro (Sub _ _ ∧ _) _ ?_ ?_); (with_reducible refine @And.intro (Sub _ _) _ ?_ ?_))); exact sbX) | ((with_reducible refine And.intro ?_ ?_); omega)))
        all_goals try (exfalso; omega)
        all_goals
          refine Is_e ?_ hs
          have hq : fndB l x = (l.getD i 0 == x) := by unfold fndB; rw [posL_plc hpl, decide_eq_true hlt, Bool.true_and]
          rw [posL_plc hpl, hq]
          simp_all
      · simp (disch := omega) only [bsW, WOp, WOq, WV, bo, eqN, gdc, gw, bnd, ↓reduceIte, Nat.reduceEqDiff, rsvs, rsv, oneOf, rdN, ne_eq, Nat.reduceAdd, Nat.reduceMul, Nat.reduceLT, reduceCtorEq, Value.cells, setN, Value.oneCell', Nat.reduceLeDiff, undef, fcT, f0, f1, f6, f7, f8, b1]
        (repeat' (first | ((with_reducible refine gif_split (fun hs_ => ?_) (fun hs_ => ?_)) <;> (have hp_ := hs_; (try simp only [hpL, ne_eq] at hp_); (try simp (disch := omega) only [bsW, WOp, WOq, WV, bo, eqN, gdc, gw, bnd, ↓reduceIte, Nat.reduceEqDiff, rsvs, rsv, oneOf, rdN, ne_eq, Nat.reduceAdd, Nat.reduceMul, Nat.reduceLT, reduceCtorEq, Value.cells, setN, Value.oneCell', Nat.reduceLeDiff, undef, fcT, f0, f1, f6, f7, f8, hs_]))) | ((first | (with_reducible refine newB_i (fun nb_ hb_ => ?_)) | (with_reducible refine RgE_i (fun (hBd_ : Bd _ _) => ?_))); (try simp (disch := omega) only [bsW, WOp, WOq, WV, bo, eqN, gdc, gw, bnd, ↓reduceIte, Nat.reduceEqDiff, rsvs, rsv, oneOf, rdN, ne_eq, Nat.reduceAdd, Nat.reduceMul, Nat.reduceLT, reduceCtorEq, Value.cells, setN, Value.oneCell', Nat.reduceLeDiff, undef, fcT, f0, f1, f6, f7, f8])) | (with_reducible refine fun (hBd_ : Bd _ _) => ?_) | ((first | (with_reducible refine @And.intro (Sub _ _) _ ?_ ?_) | ((with_reducible refine @And.intro (Sub _ _ ∧ _) _ ?_ ?_); (with_reducible refine @And.intro (Sub _ _) _ ?_ ?_))); exact sbX) | ((with_reducible refine And.intro ?_ ?_); omega)))
        all_goals try (exfalso; omega)
        all_goals
          refine Is_e ?_ hs
          have hq : fndB l x = false := by unfold fndB; rw [posL_plc hpl, decide_eq_false hlt, Bool.false_and]
          rw [posL_plc hpl, hq]
  · rintro fr H' nx' ⟨i, j, hmm, _⟩; omega
  · exact ⟨0, l.length, by omega, by omega, by omega, by simp (disch := omega) only [bsW, ↓reduceIte, Nat.reduceEqDiff, ne_eq, reduceCtorEq, fcT], by simp (disch := omega) only [bsW, ↓reduceIte, Nat.reduceEqDiff, ne_eq, reduceCtorEq, fcT], by simp (disch := omega) only [bsW, ↓reduceIte, Nat.reduceEqDiff, ne_eq, reduceCtorEq, fcT], by simp (disch := omega) only [bsW, ↓reduceIte, Nat.reduceEqDiff, ne_eq, reduceCtorEq, fcT, Int.natCast_zero], by simp (disch := omega) only [bsW, ↓reduceIte, Nat.reduceEqDiff, ne_eq, reduceCtorEq, fcT], Sub.refl _, by omega, fun p hp => by omega, fun p h1 h2 => by omega⟩
end Go.Proofs.YtbhabpenlaklcaaDoor
