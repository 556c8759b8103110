/- The law FnCircles: the call gives true; the card. -/
import Derived.Test.YtnaldmmdhpobgaaDoorVD3
import Derived.Test.YtnaldmmdhpobgaaDoorVD4
import Derived.Test.YtnaldmmdhpobgaaDoorXC
import Derived.Test.YtnaldmmdhpobgaaDoorE7v
import Derived.Test.YtnaldmmdhpobgaaDoorRows
import Derived.Test.YtnaldmmdhpobgaaDoorCards
import Derived.Test.YtnaldmmdhpobgaaDoorTie
set_option linter.unusedVariables false
set_option linter.unusedSimpArgs false
set_option maxRecDepth 100000
set_option maxHeartbeats 8000000
namespace Go.Proofs.YtnaldmmdhpobgaaDoor
open Go Go.RowKit Go.Proofs Go.ChangeShapes Go.WideShapes Go.ChangeAt
theorem lawFnCircles (A : Option Addr) (n c : Nat) (H : Hp) (nx : Nat) (gT : Nat) (tyT : TypeId) (hgT : gT = 0) (hT_ : H gT = some (.rw powCells tyT)) (hn : n ≤ 9223372036854775807) (hU : RdU H A n) :
    PC Tryd.prog 4 #[.slice A n c] H nx (.bool true) := by
  refine AC_of x_laws_FnCircles rfl fun hB => ?_
  simp (disch := omega) only [bsW, WOp, WOq, WV, bo, eqN, gdc, gw, bnd, ↓reduceIte, Nat.reduceEqDiff, rsvs, rsv, oneOf, rdN, ne_eq, Nat.reduceAdd, Nat.reduceMul, Nat.reduceLT, reduceCtorEq, Value.cells, setN, Value.oneCell', Nat.reduceLeDiff, undef, fcT, c_laws_FnCircles]
  (repeat' (first | ((with_reducible refine gif_split (fun hs_ => ?_) (fun hs_ => ?_)) <;> (have hp_ := hs_; (try simp only [hpL, ne_eq] at hp_); (try simp (disch := omega) only [bsW, WOp, WOq, WV, bo, eqN, gdc, gw, bnd, ↓reduceIte, Nat.reduceEqDiff, rsvs, rsv, oneOf, rdN, ne_eq, Nat.reduceAdd, Nat.reduceMul, Nat.reduceLT, reduceCtorEq, Value.cells, setN, Value.oneCell', Nat.reduceLeDiff, undef, fcT, hs_]))) | ((first | (with_reducible refine newB_i (fun nb_ hb_ => ?_)) | ((with_reducible show QC _ _ _ _ _ _); (first | (refine QC_i (vBig A n c _ _ hn) ?_))) | ((with_reducible show AC _ _ _ _ _ _); (first | (refine PC.ac (vBig A n c _ _ hn) ?_))) | (with_reducible refine RgE_i (fun (hBd_ : Bd _ _) => ?_))); (try simp (disch := omega) only [bsW, WOp, WOq, WV, bo, eqN, gdc, gw, bnd, ↓reduceIte, Nat.reduceEqDiff, rsvs, rsv, oneOf, rdN, ne_eq, Nat.reduceAdd, Nat.reduceMul, Nat.reduceLT, reduceCtorEq, Value.cells, setN, Value.oneCell', Nat.reduceLeDiff, undef, fcT])) | (with_reducible refine fun (hBd_ : Bd _ _) => ?_) | ((first | (with_reducible refine @And.intro (Sub _ _) _ ?_ ?_) | ((with_reducible refine @And.intro (Sub _ _ ∧ _) _ ?_ ?_); (with_reducible refine @And.intro (Sub _ _) _ ?_ ?_))); exact sbX) | ((with_reducible refine And.intro ?_ ?_); omega)))
  · exact Is_i (Sub.refl H)
  refine (DrawCirclesOf A n c H nx hn hU).monoC ?_
  rintro v1 H1 nx1 hB1 hx1 ⟨hs1, N, Aw, m, cw, f, x, rfl, hN, hm, hR⟩
  (try (simp (disch := omega) only [bsW, WOp, WOq, WV, bo, eqN, gdc, gw, bnd, ↓reduceIte, Nat.reduceEqDiff, rsvs, rsv, oneOf, rdN, ne_eq, Nat.reduceAdd, Nat.reduceMul, Nat.reduceLT, reduceCtorEq, Value.cells, setN, Value.oneCell', Nat.reduceLeDiff, undef, fcT]))
  (repeat' (first | ((with_reducible refine gif_split (fun hs_ => ?_) (fun hs_ => ?_)) <;> (have hp_ := hs_; (try simp only [hpL, ne_eq] at hp_); (try simp (disch := omega) only [bsW, WOp, WOq, WV, bo, eqN, gdc, gw, bnd, ↓reduceIte, Nat.reduceEqDiff, rsvs, rsv, oneOf, rdN, ne_eq, Nat.reduceAdd, Nat.reduceMul, Nat.reduceLT, reduceCtorEq, Value.cells, setN, Value.oneCell', Nat.reduceLeDiff, undef, fcT, hs_]))) | ((first | (with_reducible refine newB_i (fun nb_ hb_ => ?_)) | (with_reducible refine RgE_i (fun (hBd_ : Bd _ _) => ?_))); (try simp (disch := omega) only [bsW, WOp, WOq, WV, bo, eqN, gdc, gw, bnd, ↓reduceIte, Nat.reduceEqDiff, rsvs, rsv, oneOf, rdN, ne_eq, Nat.reduceAdd, Nat.reduceMul, Nat.reduceLT, reduceCtorEq, Value.cells, setN, Value.oneCell', Nat.reduceLeDiff, undef, fcT])) | (with_reducible refine fun (hBd_ : Bd _ _) => ?_) | ((first | (with_reducible refine @And.intro (Sub _ _) _ ?_ ?_) | ((with_reducible refine @And.intro (Sub _ _ ∧ _) _ ?_ ?_); (with_reducible refine @And.intro (Sub _ _) _ ?_ ?_))); exact sbX) | ((with_reducible refine And.intro ?_ ?_); omega)))
  refine (CirclesOf N x Aw m cw f H1 nx1 (by omega) (by omega) hR).monoC ?_
  rintro v2 H2 nx2 hB2 hx2 ⟨w2, rfl, ⟨hO2, ht2⟩⟩
  have hcl := coL_len N m f x
  have hcr := coL_rows N m f x
  obtain ⟨A5, c5, rfl, hc5, hR5⟩ := hO2.rd
  (try (simp (disch := omega) only [bsW, WOp, WOq, WV, bo, eqN, gdc, gw, bnd, ↓reduceIte, Nat.reduceEqDiff, rsvs, rsv, oneOf, rdN, ne_eq, Nat.reduceAdd, Nat.reduceMul, Nat.reduceLT, reduceCtorEq, Value.cells, setN, Value.oneCell', Nat.reduceLeDiff, undef, fcT]))
  (repeat' (first | ((with_reducible refine gif_split (fun hs_ => ?_) (fun hs_ => ?_)) <;> (have hp_ := hs_; (try simp only [hpL, ne_eq] at hp_); (try simp (disch := omega) only [bsW, WOp, WOq, WV, bo, eqN, gdc, gw, bnd, ↓reduceIte, Nat.reduceEqDiff, rsvs, rsv, oneOf, rdN, ne_eq, Nat.reduceAdd, Nat.reduceMul, Nat.reduceLT, reduceCtorEq, Value.cells, setN, Value.oneCell', Nat.reduceLeDiff, undef, fcT, hs_]))) | ((first | (with_reducible refine newB_i (fun nb_ hb_ => ?_)) | (with_reducible refine RgE_i (fun (hBd_ : Bd _ _) => ?_))); (try simp (disch := omega) only [bsW, WOp, WOq, WV, bo, eqN, gdc, gw, bnd, ↓reduceIte, Nat.reduceEqDiff, rsvs, rsv, oneOf, rdN, ne_eq, Nat.reduceAdd, Nat.reduceMul, Nat.reduceLT, reduceCtorEq, Value.cells, setN, Value.oneCell', Nat.reduceLeDiff, undef, fcT])) | (with_reducible refine fun (hBd_ : Bd _ _) => ?_) | ((first | (with_reducible refine @And.intro (Sub _ _) _ ?_ ?_) | ((with_reducible refine @And.intro (Sub _ _ ∧ _) _ ?_ ?_); (with_reducible refine @And.intro (Sub _ _) _ ?_ ?_))); exact sbX) | ((with_reducible refine And.intro ?_ ?_); omega)))
  refine (sCirclesOf N x Aw m cw f H2 nx2 (by omega) (by omega) (hR.sub ht2)).monoC ?_
  rintro v3 H3 nx3 hB3 hx3 ⟨w3, rfl, ⟨hO3, ht3⟩⟩
  obtain ⟨A6, c6, rfl, hc6, hR6⟩ := hO3.rd
  have hR5' := hR5.sub ht3
  have hs3 := hs1.trans (ht2.trans ht3)
  have hR3 := hR.sub (ht2.trans ht3)
  have hca := fun i hi => coL_all (N := N) (m := m) (f := f) (x := x) (i := i) hi
  generalize coL N m f x = ls at *
  generalize coB N m f x = ob at *
  (try (simp (disch := omega) only [bsW, WOp, WOq, WV, bo, eqN, gdc, gw, bnd, ↓reduceIte, Nat.reduceEqDiff, rsvs, rsv, oneOf, rdN, ne_eq, Nat.reduceAdd, Nat.reduceMul, Nat.reduceLT, reduceCtorEq, Value.cells, setN, Value.oneCell', Nat.reduceLeDiff, undef, fcT]))
  (repeat' (first | ((with_reducible refine gif_split (fun hs_ => ?_) (fun hs_ => ?_)) <;> (have hp_ := hs_; (try simp only [hpL, ne_eq] at hp_); (try simp (disch := omega) only [bsW, WOp, WOq, WV, bo, eqN, gdc, gw, bnd, ↓reduceIte, Nat.reduceEqDiff, rsvs, rsv, oneOf, rdN, ne_eq, Nat.reduceAdd, Nat.reduceMul, Nat.reduceLT, reduceCtorEq, Value.cells, setN, Value.oneCell', Nat.reduceLeDiff, undef, fcT, hs_]))) | ((first | (with_reducible refine newB_i (fun nb_ hb_ => ?_)) | ((with_reducible show QC _ _ _ _ _ _); (first | (refine QC_i (vGrid A5 A6 c5 c6 ls H3 nx3 (by omega) (fun i hi => by have := hcr i hi; omega) hR5' hR6) ?_) | (refine QC_i (AreWishes N Aw m cw f H3 nx3 (by omega) (by omega) hR3) ?_) | (refine QC_i (sAreWishes N Aw m cw f H3 nx3 (by omega) (by omega) hR3) ?_))) | ((with_reducible show AC _ _ _ _ _ _); (first | (refine PC.ac (vGrid A5 A6 c5 c6 ls H3 nx3 (by omega) (fun i hi => by have := hcr i hi; omega) hR5' hR6) ?_) | (refine PC.ac (AreWishes N Aw m cw f H3 nx3 (by omega) (by omega) hR3) ?_) | (refine PC.ac (sAreWishes N Aw m cw f H3 nx3 (by omega) (by omega) hR3) ?_))) | (with_reducible refine RgE_i (fun (hBd_ : Bd _ _) => ?_))); (try simp (disch := omega) only [bsW, WOp, WOq, WV, bo, eqN, gdc, gw, bnd, ↓reduceIte, Nat.reduceEqDiff, rsvs, rsv, oneOf, rdN, ne_eq, Nat.reduceAdd, Nat.reduceMul, Nat.reduceLT, reduceCtorEq, Value.cells, setN, Value.oneCell', Nat.reduceLeDiff, undef, fcT])) | (with_reducible refine fun (hBd_ : Bd _ _) => ?_) | ((first | (with_reducible refine @And.intro (Sub _ _) _ ?_ ?_) | ((with_reducible refine @And.intro (Sub _ _ ∧ _) _ ?_ ?_); (with_reducible refine @And.intro (Sub _ _) _ ?_ ?_))); exact sbX) | ((with_reducible refine And.intro ?_ ?_); omega)))
  refine LpB_rule (fun mm fr H' nx' => ∃ i : Nat, mm = ls.length - i + 1 ∧ i ≤ ls.length ∧ fr 0 = .slice A n c ∧ fr 3 = .int .i64 N ∧ fr 4 = .slice Aw m cw ∧ fr 6 = .slice A5 ls.length c5 ∧ fr 10 = .int .i64 i ∧ H' = H3 ∧ nx' = nx3) ?_ ?_ (ls.length + 1) ?_
  · rintro mm K hK fr H' nx' hB' ⟨i, hmm, hi, f0, f3, f4, f6, f10, rfl, rfl⟩
    by_cases hin : i < ls.length ∧ i < 20
    · obtain ⟨hil, hi20⟩ := hin
      have d1 : decide ((i : Int) < (ls.length : Int)) = true := decide_eq_true (by omega)
      have d2 : decide ((i : Int) < 20) = true := decide_eq_true (by omega)
      obtain ⟨hwb, hcr1⟩ := hca i hil
      have hok := wssB_iff.1 hwb
      obtain ⟨ba, oa, Qa, da, eA, ca0, hda, hRa0⟩ := hR5'.at_ hil
      subst eA
      have h8 := hcr i hil
      have hI := IsCircle N Aw Qa m cw f (rowOf ls i) (rowOf ls i).length da H' nx' (by omega) (by omega) rfl (by omega) hda hR3 hRa0
      have hG := GainOf N Aw Qa m cw f (rowOf ls i).length da (rowL (rowOf ls i)) H' nx' (by omega) (by omega) (by omega) hda hR3 hRa0
      have hge := sumV_ge hok hcr1
      have eI : vIsC N m f (rowOf ls i) = .tuple #[.bool true, .bool true] := by unfold vIsC; rw [hwb, crB_yes hcr1]; rfl
      have eG : vGain N m f (lst (rowOf ls i).length (rowL (rowOf ls i))) = .tuple #[.int .i64 (sumV N m f (rowOf ls i).length (rowL (rowOf ls i))), .bool true] := by
        rw [lst_rowL]
        unfold vGain
        rw [if_pos hwb, crB_yes hcr1]
      rw [eI] at hI
      rw [eG] at hG
      have d3 : decide (sumV N m f (rowOf ls i).length (rowL (rowOf ls i)) < ((rowOf ls i).length : Int)) = false := decide_eq_false (by omega)
      (try (simp (disch := omega) only [bsW, WOp, WOq, WV, bo, eqN, gdc, gw, bnd, ↓reduceIte, Nat.reduceEqDiff, rsvs, rsv, oneOf, rdN, ne_eq, Nat.reduceAdd, Nat.reduceMul, Nat.reduceLT, reduceCtorEq, Value.cells, setN, Value.oneCell', Nat.reduceLeDiff, undef, fcT, f0, f3, f4, f6, f10, d1, d2, d3, ca0, Nat.mul_one]))
      (repeat' (first | ((with_reducible refine gif_split (fun hs_ => ?_) (fun hs_ => ?_)) <;> (have hp_ := hs_; (try simp only [hpL, ne_eq] at hp_); (try simp (disch := omega) only [bsW, WOp, WOq, WV, bo, eqN, gdc, gw, bnd, ↓reduceIte, Nat.reduceEqDiff, rsvs, rsv, oneOf, rdN, ne_eq, Nat.reduceAdd, Nat.reduceMul, Nat.reduceLT, reduceCtorEq, Value.cells, setN, Value.oneCell', Nat.reduceLeDiff, undef, fcT, f0, f3, f4, f6, f10, d1, d2, d3, ca0, Nat.mul_one, hs_]))) | ((first | (with_reducible refine newB_i (fun nb_ hb_ => ?_)) | ((with_reducible show QC _ _ _ _ _ _); (first | (refine QC_i (hI) ?_) | (refine QC_i (hG) ?_))) | ((with_reducible show AC _ _ _ _ _ _); (first | (refine PC.ac (hI) ?_) | (refine PC.ac (hG) ?_))) | (with_reducible refine RgE_i (fun (hBd_ : Bd _ _) => ?_))); (try simp (disch := omega) only [bsW, WOp, WOq, WV, bo, eqN, gdc, gw, bnd, ↓reduceIte, Nat.reduceEqDiff, rsvs, rsv, oneOf, rdN, ne_eq, Nat.reduceAdd, Nat.reduceMul, Nat.reduceLT, reduceCtorEq, Value.cells, setN, Value.oneCell', Nat.reduceLeDiff, undef, fcT, f0, f3, f4, f6, f10, d1, d2, d3, ca0, Nat.mul_one])) | (with_reducible refine fun (hBd_ : Bd _ _) => ?_) | ((first | (with_reducible refine @And.intro (Sub _ _) _ ?_ ?_) | ((with_reducible refine @And.intro (Sub _ _ ∧ _) _ ?_ ?_); (with_reducible refine @And.intro (Sub _ _) _ ?_ ?_))); exact sbX) | ((with_reducible refine And.intro ?_ ?_); omega)))
      exact hK _ _ _ ⟨i + 1, by omega, by omega, by simp (disch := omega) only [bsW, ↓reduceIte, Nat.reduceEqDiff, ne_eq, reduceCtorEq, fcT, f0, f3, f4, f6, f10, d1, d2, d3, ca0, Nat.mul_one], by simp (disch := omega) only [bsW, ↓reduceIte, Nat.reduceEqDiff, ne_eq, reduceCtorEq, fcT, f0, f3, f4, f6, f10, d1, d2, d3, ca0, Nat.mul_one], by simp (disch := omega) only [bsW, ↓reduceIte, Nat.reduceEqDiff, ne_eq, reduceCtorEq, fcT, f0, f3, f4, f6, f10, d1, d2, d3, ca0, Nat.mul_one], by simp (disch := omega) only [bsW, ↓reduceIte, Nat.reduceEqDiff, ne_eq, reduceCtorEq, fcT, f0, f3, f4, f6, f10, d1, d2, d3, ca0, Nat.mul_one], by simp (disch := omega) only [bsW, ↓reduceIte, Nat.reduceEqDiff, ne_eq, reduceCtorEq, fcT, f0, f3, f4, f6, f10, d1, d2, d3, ca0, Nat.mul_one, Int.natCast_add, Int.natCast_one], rfl, rfl⟩
    have hex : (decide ((i : Int) < (ls.length : Int)) = false) ∨ (decide ((i : Int) < (ls.length : Int)) = true ∧ decide ((i : Int) < 20) = false) := by
      by_cases h1 : i < ls.length
      · exact .inr ⟨decide_eq_true (by omega), decide_eq_false (by omega)⟩
      · exact .inl (decide_eq_false (by omega))
    obtain ⟨q1, q2, q3⟩ := three_all N m f
    have hl1 := shV_len N m f
    have hl2 := bsV_len N m f
    have hl3 := laV_len N m f
    rcases hex with d1 | ⟨d1, d2⟩
    case' inl =>
      (try (simp (disch := omega) only [bsW, WOp, WOq, WV, bo, eqN, gdc, gw, bnd, ↓reduceIte, Nat.reduceEqDiff, rsvs, rsv, oneOf, rdN, ne_eq, Nat.reduceAdd, Nat.reduceMul, Nat.reduceLT, reduceCtorEq, Value.cells, setN, Value.oneCell', Nat.reduceLeDiff, undef, fcT, f0, f3, f4, f6, f10, d1]))
      (repeat' (first | ((with_reducible refine gif_split (fun hs_ => ?_) (fun hs_ => ?_)) <;> (have hp_ := hs_; (try simp only [hpL, ne_eq] at hp_); (try simp (disch := omega) only [bsW, WOp, WOq, WV, bo, eqN, gdc, gw, bnd, ↓reduceIte, Nat.reduceEqDiff, rsvs, rsv, oneOf, rdN, ne_eq, Nat.reduceAdd, Nat.reduceMul, Nat.reduceLT, reduceCtorEq, Value.cells, setN, Value.oneCell', Nat.reduceLeDiff, undef, fcT, f0, f3, f4, f6, f10, d1, hs_]))) | ((first | (with_reducible refine newB_i (fun nb_ hb_ => ?_)) | (with_reducible refine RgE_i (fun (hBd_ : Bd _ _) => ?_))); (try simp (disch := omega) only [bsW, WOp, WOq, WV, bo, eqN, gdc, gw, bnd, ↓reduceIte, Nat.reduceEqDiff, rsvs, rsv, oneOf, rdN, ne_eq, Nat.reduceAdd, Nat.reduceMul, Nat.reduceLT, reduceCtorEq, Value.cells, setN, Value.oneCell', Nat.reduceLeDiff, undef, fcT, f0, f3, f4, f6, f10, d1])) | (with_reducible refine fun (hBd_ : Bd _ _) => ?_) | ((first | (with_reducible refine @And.intro (Sub _ _) _ ?_ ?_) | ((with_reducible refine @And.intro (Sub _ _ ∧ _) _ ?_ ?_); (with_reducible refine @And.intro (Sub _ _) _ ?_ ?_))); exact sbX) | ((with_reducible refine And.intro ?_ ?_); omega)))
    case' inr =>
      (try (simp (disch := omega) only [bsW, WOp, WOq, WV, bo, eqN, gdc, gw, bnd, ↓reduceIte, Nat.reduceEqDiff, rsvs, rsv, oneOf, rdN, ne_eq, Nat.reduceAdd, Nat.reduceMul, Nat.reduceLT, reduceCtorEq, Value.cells, setN, Value.oneCell', Nat.reduceLeDiff, undef, fcT, f0, f3, f4, f6, f10, d1, d2]))
      (repeat' (first | ((with_reducible refine gif_split (fun hs_ => ?_) (fun hs_ => ?_)) <;> (have hp_ := hs_; (try simp only [hpL, ne_eq] at hp_); (try simp (disch := omega) only [bsW, WOp, WOq, WV, bo, eqN, gdc, gw, bnd, ↓reduceIte, Nat.reduceEqDiff, rsvs, rsv, oneOf, rdN, ne_eq, Nat.reduceAdd, Nat.reduceMul, Nat.reduceLT, reduceCtorEq, Value.cells, setN, Value.oneCell', Nat.reduceLeDiff, undef, fcT, f0, f3, f4, f6, f10, d1, d2, hs_]))) | ((first | (with_reducible refine newB_i (fun nb_ hb_ => ?_)) | (with_reducible refine RgE_i (fun (hBd_ : Bd _ _) => ?_))); (try simp (disch := omega) only [bsW, WOp, WOq, WV, bo, eqN, gdc, gw, bnd, ↓reduceIte, Nat.reduceEqDiff, rsvs, rsv, oneOf, rdN, ne_eq, Nat.reduceAdd, Nat.reduceMul, Nat.reduceLT, reduceCtorEq, Value.cells, setN, Value.oneCell', Nat.reduceLeDiff, undef, fcT, f0, f3, f4, f6, f10, d1, d2])) | (with_reducible refine fun (hBd_ : Bd _ _) => ?_) | ((first | (with_reducible refine @And.intro (Sub _ _) _ ?_ ?_) | ((with_reducible refine @And.intro (Sub _ _ ∧ _) _ ?_ ?_); (with_reducible refine @And.intro (Sub _ _) _ ?_ ?_))); exact sbX) | ((with_reducible refine And.intro ?_ ?_); omega)))
    all_goals
      refine (ShortestCircle N Aw m cw f H' nx' (by omega) (by omega) hR3).monoC ?_
      rintro v4 H4 nx4 hB4 hx4 ⟨w4, rfl, hO4, ht4⟩
      obtain ⟨A4, c4, rfl, hc4, hR4⟩ := OwnR.rd hO4
      (try (simp (disch := omega) only [bsW, WOp, WOq, WV, bo, eqN, gdc, gw, bnd, ↓reduceIte, Nat.reduceEqDiff, rsvs, rsv, oneOf, rdN, ne_eq, Nat.reduceAdd, Nat.reduceMul, Nat.reduceLT, reduceCtorEq, Value.cells, setN, Value.oneCell', Nat.reduceLeDiff, undef, fcT, f0, f3, f4, f6, f10]))
      (repeat' (first | ((with_reducible refine gif_split (fun hs_ => ?_) (fun hs_ => ?_)) <;> (have hp_ := hs_; (try simp only [hpL, ne_eq] at hp_); (try simp (disch := omega) only [bsW, WOp, WOq, WV, bo, eqN, gdc, gw, bnd, ↓reduceIte, Nat.reduceEqDiff, rsvs, rsv, oneOf, rdN, ne_eq, Nat.reduceAdd, Nat.reduceMul, Nat.reduceLT, reduceCtorEq, Value.cells, setN, Value.oneCell', Nat.reduceLeDiff, undef, fcT, f0, f3, f4, f6, f10, hs_]))) | ((first | (with_reducible refine newB_i (fun nb_ hb_ => ?_)) | (with_reducible refine RgE_i (fun (hBd_ : Bd _ _) => ?_))); (try simp (disch := omega) only [bsW, WOp, WOq, WV, bo, eqN, gdc, gw, bnd, ↓reduceIte, Nat.reduceEqDiff, rsvs, rsv, oneOf, rdN, ne_eq, Nat.reduceAdd, Nat.reduceMul, Nat.reduceLT, reduceCtorEq, Value.cells, setN, Value.oneCell', Nat.reduceLeDiff, undef, fcT, f0, f3, f4, f6, f10])) | (with_reducible refine fun (hBd_ : Bd _ _) => ?_) | ((first | (with_reducible refine @And.intro (Sub _ _) _ ?_ ?_) | ((with_reducible refine @And.intro (Sub _ _ ∧ _) _ ?_ ?_); (with_reducible refine @And.intro (Sub _ _) _ ?_ ?_))); exact sbX) | ((with_reducible refine And.intro ?_ ?_); omega)))
      refine (sShortestCircle N Aw m cw f H4 nx4 (by omega) (by omega) (hR3.sub ht4)).monoC ?_
      rintro v7 H7 nx7 hB7 hx7 ⟨w7, rfl, hO7, ht7⟩
      obtain ⟨A7, c7, rfl, hc7, hR7⟩ := OwnR.rd hO7
      have hs7 := hs3.trans (ht4.trans ht7)
      have hw7 := hR3.sub (ht4.trans ht7)
      (try (simp (disch := omega) only [bsW, WOp, WOq, WV, bo, eqN, gdc, gw, bnd, ↓reduceIte, Nat.reduceEqDiff, rsvs, rsv, oneOf, rdN, ne_eq, Nat.reduceAdd, Nat.reduceMul, Nat.reduceLT, reduceCtorEq, Value.cells, setN, Value.oneCell', Nat.reduceLeDiff, undef, fcT, f0, f3, f4, f6, f10]))
      (repeat' (first | ((with_reducible refine gif_split (fun hs_ => ?_) (fun hs_ => ?_)) <;> (have hp_ := hs_; (try simp only [hpL, ne_eq] at hp_); (try simp (disch := omega) only [bsW, WOp, WOq, WV, bo, eqN, gdc, gw, bnd, ↓reduceIte, Nat.reduceEqDiff, rsvs, rsv, oneOf, rdN, ne_eq, Nat.reduceAdd, Nat.reduceMul, Nat.reduceLT, reduceCtorEq, Value.cells, setN, Value.oneCell', Nat.reduceLeDiff, undef, fcT, f0, f3, f4, f6, f10, hs_]))) | ((first | (with_reducible refine newB_i (fun nb_ hb_ => ?_)) | ((with_reducible show QC _ _ _ _ _ _); (first | (refine QC_i (vInts A4 A7 (shV N m f).length c4 c7 (rowL (shV N m f)) H7 nx7 (by omega) (hR4.sub ht7) hR7) ?_))) | ((with_reducible show AC _ _ _ _ _ _); (first | (refine PC.ac (vInts A4 A7 (shV N m f).length c4 c7 (rowL (shV N m f)) H7 nx7 (by omega) (hR4.sub ht7) hR7) ?_))) | (with_reducible refine RgE_i (fun (hBd_ : Bd _ _) => ?_))); (try simp (disch := omega) only [bsW, WOp, WOq, WV, bo, eqN, gdc, gw, bnd, ↓reduceIte, Nat.reduceEqDiff, rsvs, rsv, oneOf, rdN, ne_eq, Nat.reduceAdd, Nat.reduceMul, Nat.reduceLT, reduceCtorEq, Value.cells, setN, Value.oneCell', Nat.reduceLeDiff, undef, fcT, f0, f3, f4, f6, f10])) | (with_reducible refine fun (hBd_ : Bd _ _) => ?_) | ((first | (with_reducible refine @And.intro (Sub _ _) _ ?_ ?_) | ((with_reducible refine @And.intro (Sub _ _ ∧ _) _ ?_ ?_); (with_reducible refine @And.intro (Sub _ _) _ ?_ ?_))); exact sbX) | ((with_reducible refine And.intro ?_ ?_); omega)))
      refine (BestCircle N Aw m cw f H7 nx7 (by omega) (by omega) hw7).monoC ?_
      rintro v8 H8 nx8 hB8 hx8 ⟨w8, rfl, hO8, ht8⟩
      obtain ⟨A8, c8, rfl, hc8, hR8⟩ := OwnR.rd hO8
      (try (simp (disch := omega) only [bsW, WOp, WOq, WV, bo, eqN, gdc, gw, bnd, ↓reduceIte, Nat.reduceEqDiff, rsvs, rsv, oneOf, rdN, ne_eq, Nat.reduceAdd, Nat.reduceMul, Nat.reduceLT, reduceCtorEq, Value.cells, setN, Value.oneCell', Nat.reduceLeDiff, undef, fcT, f0, f3, f4, f6, f10]))
      (repeat' (first | ((with_reducible refine gif_split (fun hs_ => ?_) (fun hs_ => ?_)) <;> (have hp_ := hs_; (try simp only [hpL, ne_eq] at hp_); (try simp (disch := omega) only [bsW, WOp, WOq, WV, bo, eqN, gdc, gw, bnd, ↓reduceIte, Nat.reduceEqDiff, rsvs, rsv, oneOf, rdN, ne_eq, Nat.reduceAdd, Nat.reduceMul, Nat.reduceLT, reduceCtorEq, Value.cells, setN, Value.oneCell', Nat.reduceLeDiff, undef, fcT, f0, f3, f4, f6, f10, hs_]))) | ((first | (with_reducible refine newB_i (fun nb_ hb_ => ?_)) | (with_reducible refine RgE_i (fun (hBd_ : Bd _ _) => ?_))); (try simp (disch := omega) only [bsW, WOp, WOq, WV, bo, eqN, gdc, gw, bnd, ↓reduceIte, Nat.reduceEqDiff, rsvs, rsv, oneOf, rdN, ne_eq, Nat.reduceAdd, Nat.reduceMul, Nat.reduceLT, reduceCtorEq, Value.cells, setN, Value.oneCell', Nat.reduceLeDiff, undef, fcT, f0, f3, f4, f6, f10])) | (with_reducible refine fun (hBd_ : Bd _ _) => ?_) | ((first | (with_reducible refine @And.intro (Sub _ _) _ ?_ ?_) | ((with_reducible refine @And.intro (Sub _ _ ∧ _) _ ?_ ?_); (with_reducible refine @And.intro (Sub _ _) _ ?_ ?_))); exact sbX) | ((with_reducible refine And.intro ?_ ?_); omega)))
      refine (sBestCircle N Aw m cw f H8 nx8 (by omega) (by omega) (hw7.sub ht8)).monoC ?_
      rintro v9 H9 nx9 hB9 hx9 ⟨w9, rfl, hO9, ht9⟩
      obtain ⟨A9, c9, rfl, hc9, hR9⟩ := OwnR.rd hO9
      have hs9 := hs7.trans (ht8.trans ht9)
      have hw9 := hw7.sub (ht8.trans ht9)
      rw [q1]
      cases hsb : shB N m f
      all_goals
        (try (simp (disch := omega) only [bsW, WOp, WOq, WV, bo, eqN, gdc, gw, bnd, ↓reduceIte, Nat.reduceEqDiff, rsvs, rsv, oneOf, rdN, ne_eq, Nat.reduceAdd, Nat.reduceMul, Nat.reduceLT, reduceCtorEq, Value.cells, setN, Value.oneCell', Nat.reduceLeDiff, undef, fcT, f0, f3, f4, f6, f10, hsb, q1, q2]))
        (repeat' (first | ((with_reducible refine gif_split (fun hs_ => ?_) (fun hs_ => ?_)) <;> (have hp_ := hs_; (try simp only [hpL, ne_eq] at hp_); (try simp (disch := omega) only [bsW, WOp, WOq, WV, bo, eqN, gdc, gw, bnd, ↓reduceIte, Nat.reduceEqDiff, rsvs, rsv, oneOf, rdN, ne_eq, Nat.reduceAdd, Nat.reduceMul, Nat.reduceLT, reduceCtorEq, Value.cells, setN, Value.oneCell', Nat.reduceLeDiff, undef, fcT, f0, f3, f4, f6, f10, hsb, q1, q2, hs_]))) | ((first | (with_reducible refine newB_i (fun nb_ hb_ => ?_)) | ((with_reducible show QC _ _ _ _ _ _); (first | (refine QC_i (vInts A8 A9 (bsV N m f).1.length c8 c9 (rowL (bsV N m f).1) H9 nx9 (by omega) (hR8.sub ht9) hR9) ?_))) | ((with_reducible show AC _ _ _ _ _ _); (first | (refine PC.ac (vInts A8 A9 (bsV N m f).1.length c8 c9 (rowL (bsV N m f).1) H9 nx9 (by omega) (hR8.sub ht9) hR9) ?_))) | (with_reducible refine RgE_i (fun (hBd_ : Bd _ _) => ?_))); (try simp (disch := omega) only [bsW, WOp, WOq, WV, bo, eqN, gdc, gw, bnd, ↓reduceIte, Nat.reduceEqDiff, rsvs, rsv, oneOf, rdN, ne_eq, Nat.reduceAdd, Nat.reduceMul, Nat.reduceLT, reduceCtorEq, Value.cells, setN, Value.oneCell', Nat.reduceLeDiff, undef, fcT, f0, f3, f4, f6, f10, hsb, q1, q2])) | (with_reducible refine fun (hBd_ : Bd _ _) => ?_) | ((first | (with_reducible refine @And.intro (Sub _ _) _ ?_ ?_) | ((with_reducible refine @And.intro (Sub _ _ ∧ _) _ ?_ ?_); (with_reducible refine @And.intro (Sub _ _) _ ?_ ?_))); exact sbX) | ((with_reducible refine And.intro ?_ ?_); omega)))
        refine (LeftAlone N Aw m cw f H9 nx9 (by omega) (by omega) hw9).monoC ?_
        rintro va Ha nxa hBa hxa ⟨wa, rfl, hOa, hta⟩
        obtain ⟨Aa, ca, rfl, hca', hRa⟩ := OwnR.rd hOa
        (try (simp (disch := omega) only [bsW, WOp, WOq, WV, bo, eqN, gdc, gw, bnd, ↓reduceIte, Nat.reduceEqDiff, rsvs, rsv, oneOf, rdN, ne_eq, Nat.reduceAdd, Nat.reduceMul, Nat.reduceLT, reduceCtorEq, Value.cells, setN, Value.oneCell', Nat.reduceLeDiff, undef, fcT, f0, f3, f4, f6, f10]))
        (repeat' (first | ((with_reducible refine gif_split (fun hs_ => ?_) (fun hs_ => ?_)) <;> (have hp_ := hs_; (try simp only [hpL, ne_eq] at hp_); (try simp (disch := omega) only [bsW, WOp, WOq, WV, bo, eqN, gdc, gw, bnd, ↓reduceIte, Nat.reduceEqDiff, rsvs, rsv, oneOf, rdN, ne_eq, Nat.reduceAdd, Nat.reduceMul, Nat.reduceLT, reduceCtorEq, Value.cells, setN, Value.oneCell', Nat.reduceLeDiff, undef, fcT, f0, f3, f4, f6, f10, hs_]))) | ((first | (with_reducible refine newB_i (fun nb_ hb_ => ?_)) | (with_reducible refine RgE_i (fun (hBd_ : Bd _ _) => ?_))); (try simp (disch := omega) only [bsW, WOp, WOq, WV, bo, eqN, gdc, gw, bnd, ↓reduceIte, Nat.reduceEqDiff, rsvs, rsv, oneOf, rdN, ne_eq, Nat.reduceAdd, Nat.reduceMul, Nat.reduceLT, reduceCtorEq, Value.cells, setN, Value.oneCell', Nat.reduceLeDiff, undef, fcT, f0, f3, f4, f6, f10])) | (with_reducible refine fun (hBd_ : Bd _ _) => ?_) | ((first | (with_reducible refine @And.intro (Sub _ _) _ ?_ ?_) | ((with_reducible refine @And.intro (Sub _ _ ∧ _) _ ?_ ?_); (with_reducible refine @And.intro (Sub _ _) _ ?_ ?_))); exact sbX) | ((with_reducible refine And.intro ?_ ?_); omega)))
        refine (sLeftAlone N Aw m cw f Ha nxa (by omega) (by omega) (hw9.sub hta)).monoC ?_
        rintro vb Hb nxb hBb hxb ⟨wb, rfl, hOb, htb⟩
        obtain ⟨Ab, cb, rfl, hcb', hRb⟩ := OwnR.rd hOb
        have hsb' := hs9.trans (hta.trans htb)
        have hRb8 : RdL Hb A8 (bsV N m f).1 := Rd.sub hR8 (ht9.trans (hta.trans htb))
        have hRba : RdL Hb Aa (laV N m f) := Rd.sub hRa htb
        (try (simp (disch := omega) only [bsW, WOp, WOq, WV, bo, eqN, gdc, gw, bnd, ↓reduceIte, Nat.reduceEqDiff, rsvs, rsv, oneOf, rdN, ne_eq, Nat.reduceAdd, Nat.reduceMul, Nat.reduceLT, reduceCtorEq, Value.cells, setN, Value.oneCell', Nat.reduceLeDiff, undef, fcT, f0, f3, f4, f6, f10]))
        (repeat' (first | ((with_reducible refine gif_split (fun hs_ => ?_) (fun hs_ => ?_)) <;> (have hp_ := hs_; (try simp only [hpL, ne_eq] at hp_); (try simp (disch := omega) only [bsW, WOp, WOq, WV, bo, eqN, gdc, gw, bnd, ↓reduceIte, Nat.reduceEqDiff, rsvs, rsv, oneOf, rdN, ne_eq, Nat.reduceAdd, Nat.reduceMul, Nat.reduceLT, reduceCtorEq, Value.cells, setN, Value.oneCell', Nat.reduceLeDiff, undef, fcT, f0, f3, f4, f6, f10, hs_]))) | ((first | (with_reducible refine newB_i (fun nb_ hb_ => ?_)) | ((with_reducible show QC _ _ _ _ _ _); (first | (refine QC_i (vInts Aa Ab (laV N m f).length ca cb (rowL (laV N m f)) Hb nxb (by omega) (hRa.sub htb) hRb) ?_))) | ((with_reducible show AC _ _ _ _ _ _); (first | (refine PC.ac (vInts Aa Ab (laV N m f).length ca cb (rowL (laV N m f)) Hb nxb (by omega) (hRa.sub htb) hRb) ?_))) | (with_reducible refine RgE_i (fun (hBd_ : Bd _ _) => ?_))); (try simp (disch := omega) only [bsW, WOp, WOq, WV, bo, eqN, gdc, gw, bnd, ↓reduceIte, Nat.reduceEqDiff, rsvs, rsv, oneOf, rdN, ne_eq, Nat.reduceAdd, Nat.reduceMul, Nat.reduceLT, reduceCtorEq, Value.cells, setN, Value.oneCell', Nat.reduceLeDiff, undef, fcT, f0, f3, f4, f6, f10])) | (with_reducible refine fun (hBd_ : Bd _ _) => ?_) | ((first | (with_reducible refine @And.intro (Sub _ _) _ ?_ ?_) | ((with_reducible refine @And.intro (Sub _ _ ∧ _) _ ?_ ?_); (with_reducible refine @And.intro (Sub _ _) _ ?_ ?_))); exact sbX) | ((with_reducible refine And.intro ?_ ?_); omega)))
        refine LpB_rule (fun mm fr H' nx' => ∃ i : Nat, mm = (bsV N m f).1.length - i + 1 ∧ i ≤ (bsV N m f).1.length ∧ fr 0 = .slice A n c ∧ fr 19 = .slice A8 (bsV N m f).1.length c8 ∧ fr 25 = .slice Aa (laV N m f).length ca ∧ fr 29 = .int .i64 i ∧ H' = Hb ∧ nx' = nxb) ?_ ?_ ((bsV N m f).1.length + 1) ?_
        · rintro m2 K2 hK2 fr2 H2 nx2 hB2 ⟨j, hm2, hj, g0, g19, g25, g29, rfl, rfl⟩
          by_cases hjl : j < (bsV N m f).1.length
          · have d5 : decide ((j : Int) < ((bsV N m f).1.length : Int)) = true := decide_eq_true (by omega)
            obtain ⟨bq, oq, rfl, cq0⟩ := RdL.at_ hRb8 hjl
            have d6 := q3 j hjl
            (try (simp (disch := omega) only [bsW, WOp, WOq, WV, bo, eqN, gdc, gw, bnd, ↓reduceIte, Nat.reduceEqDiff, rsvs, rsv, oneOf, rdN, ne_eq, Nat.reduceAdd, Nat.reduceMul, Nat.reduceLT, reduceCtorEq, Value.cells, setN, Value.oneCell', Nat.reduceLeDiff, undef, fcT, g0, g19, g25, g29, d5, cq0, Nat.mul_one, d6]))
            (repeat' (first | ((with_reducible refine gif_split (fun hs_ => ?_) (fun hs_ => ?_)) <;> (have hp_ := hs_; (try simp only [hpL, ne_eq] at hp_); (try simp (disch := omega) only [bsW, WOp, WOq, WV, bo, eqN, gdc, gw, bnd, ↓reduceIte, Nat.reduceEqDiff, rsvs, rsv, oneOf, rdN, ne_eq, Nat.reduceAdd, Nat.reduceMul, Nat.reduceLT, reduceCtorEq, Value.cells, setN, Value.oneCell', Nat.reduceLeDiff, undef, fcT, g0, g19, g25, g29, d5, cq0, Nat.mul_one, d6, hs_]))) | ((first | (with_reducible refine newB_i (fun nb_ hb_ => ?_)) | ((with_reducible show QC _ _ _ _ _ _); (first | (refine QC_i (vHas Aa (laV N m f) _ ca _ _ _ rfl (by omega) hRba) ?_))) | ((with_reducible show AC _ _ _ _ _ _); (first | (refine PC.ac (vHas Aa (laV N m f) _ ca _ _ _ rfl (by omega) hRba) ?_))) | (with_reducible refine RgE_i (fun (hBd_ : Bd _ _) => ?_))); (try simp (disch := omega) only [bsW, WOp, WOq, WV, bo, eqN, gdc, gw, bnd, ↓reduceIte, Nat.reduceEqDiff, rsvs, rsv, oneOf, rdN, ne_eq, Nat.reduceAdd, Nat.reduceMul, Nat.reduceLT, reduceCtorEq, Value.cells, setN, Value.oneCell', Nat.reduceLeDiff, undef, fcT, g0, g19, g25, g29, d5, cq0, Nat.mul_one, d6])) | (with_reducible refine fun (hBd_ : Bd _ _) => ?_) | ((first | (with_reducible refine @And.intro (Sub _ _) _ ?_ ?_) | ((with_reducible refine @And.intro (Sub _ _ ∧ _) _ ?_ ?_); (with_reducible refine @And.intro (Sub _ _) _ ?_ ?_))); exact sbX) | ((with_reducible refine And.intro ?_ ?_); omega)))
            exact hK2 _ _ _ ⟨j + 1, by omega, by omega, by simp (disch := omega) only [bsW, ↓reduceIte, Nat.reduceEqDiff, ne_eq, reduceCtorEq, fcT, g0, g19, g25, g29, d5, cq0, Nat.mul_one, d6], by simp (disch := omega) only [bsW, ↓reduceIte, Nat.reduceEqDiff, ne_eq, reduceCtorEq, fcT, g0, g19, g25, g29, d5, cq0, Nat.mul_one, d6], by simp (disch := omega) only [bsW, ↓reduceIte, Nat.reduceEqDiff, ne_eq, reduceCtorEq, fcT, g0, g19, g25, g29, d5, cq0, Nat.mul_one, d6], by simp (disch := omega) only [bsW, ↓reduceIte, Nat.reduceEqDiff, ne_eq, reduceCtorEq, fcT, g0, g19, g25, g29, d5, cq0, Nat.mul_one, d6, Int.natCast_add, Int.natCast_one], rfl, rfl⟩
          · have d5 : decide ((j : Int) < ((bsV N m f).1.length : Int)) = false := decide_eq_false (by omega)
            (try (simp (disch := omega) only [bsW, WOp, WOq, WV, bo, eqN, gdc, gw, bnd, ↓reduceIte, Nat.reduceEqDiff, rsvs, rsv, oneOf, rdN, ne_eq, Nat.reduceAdd, Nat.reduceMul, Nat.reduceLT, reduceCtorEq, Value.cells, setN, Value.oneCell', Nat.reduceLeDiff, undef, fcT, g0, g19, g25, g29, d5]))
            (repeat' (first | ((with_reducible refine gif_split (fun hs_ => ?_) (fun hs_ => ?_)) <;> (have hp_ := hs_; (try simp only [hpL, ne_eq] at hp_); (try simp (disch := omega) only [bsW, WOp, WOq, WV, bo, eqN, gdc, gw, bnd, ↓reduceIte, Nat.reduceEqDiff, rsvs, rsv, oneOf, rdN, ne_eq, Nat.reduceAdd, Nat.reduceMul, Nat.reduceLT, reduceCtorEq, Value.cells, setN, Value.oneCell', Nat.reduceLeDiff, undef, fcT, g0, g19, g25, g29, d5, hs_]))) | ((first | (with_reducible refine newB_i (fun nb_ hb_ => ?_)) | (with_reducible refine RgE_i (fun (hBd_ : Bd _ _) => ?_))); (try simp (disch := omega) only [bsW, WOp, WOq, WV, bo, eqN, gdc, gw, bnd, ↓reduceIte, Nat.reduceEqDiff, rsvs, rsv, oneOf, rdN, ne_eq, Nat.reduceAdd, Nat.reduceMul, Nat.reduceLT, reduceCtorEq, Value.cells, setN, Value.oneCell', Nat.reduceLeDiff, undef, fcT, g0, g19, g25, g29, d5])) | (with_reducible refine fun (hBd_ : Bd _ _) => ?_) | ((first | (with_reducible refine @And.intro (Sub _ _) _ ?_ ?_) | ((with_reducible refine @And.intro (Sub _ _ ∧ _) _ ?_ ?_); (with_reducible refine @And.intro (Sub _ _) _ ?_ ?_))); exact sbX) | ((with_reducible refine And.intro ?_ ?_); omega)))
            refine (DrawIsCircle A n c H2 nx2 hn (hU.sub hsb')).monoC ?_
            rintro vd Hd nxd hBd hxd ⟨htd, Nd, Ad, md, cd, fd, ld, Ld, kd, rfl, hNd, hmd, hld, hkd, hRd, hRld⟩
            have hI := IsCircle Nd Ad Ld md cd fd ld ld.length kd Hd nxd (by omega) (by omega) rfl (by omega) hkd hRd hRld
            have hS := sIsCircle Nd Ad Ld md cd fd ld ld.length kd Hd nxd (by omega) (by omega) rfl (by omega) hRd hRld
            have hG := GainOf Nd Ad Ld md cd fd ld.length kd (rowL ld) Hd nxd (by omega) (by omega) (by omega) hkd hRd hRld
            have hT := sGainOf Nd Ad Ld md cd fd ld.length kd (rowL ld) Hd nxd (by omega) (by omega) (by omega) hRd hRld
            rw [lst_rowL] at hG hT
            obtain ⟨xg, eg⟩ := vGain_flag Nd md fd ld
            rw [eg] at hG hT
            unfold vIsC at hI hS
            generalize (wssB Nd md fd && crB Nd md fd ld.length (rowL ld)) = fl at *
            generalize wssB Nd md fd = fw at *
            (try (simp (disch := omega) only [bsW, WOp, WOq, WV, bo, eqN, gdc, gw, bnd, ↓reduceIte, Nat.reduceEqDiff, rsvs, rsv, oneOf, rdN, ne_eq, Nat.reduceAdd, Nat.reduceMul, Nat.reduceLT, reduceCtorEq, Value.cells, setN, Value.oneCell', Nat.reduceLeDiff, undef, fcT, g0]))
            (repeat' (first | ((with_reducible refine gif_split (fun hs_ => ?_) (fun hs_ => ?_)) <;> (have hp_ := hs_; (try simp only [hpL, ne_eq] at hp_); (try simp (disch := omega) only [bsW, WOp, WOq, WV, bo, eqN, gdc, gw, bnd, ↓reduceIte, Nat.reduceEqDiff, rsvs, rsv, oneOf, rdN, ne_eq, Nat.reduceAdd, Nat.reduceMul, Nat.reduceLT, reduceCtorEq, Value.cells, setN, Value.oneCell', Nat.reduceLeDiff, undef, fcT, g0, hs_]))) | ((first | (with_reducible refine newB_i (fun nb_ hb_ => ?_)) | ((with_reducible show QC _ _ _ _ _ _); (first | (refine QC_i (hI) ?_) | (refine QC_i (hS) ?_) | (refine QC_i (hG) ?_) | (refine QC_i (hT) ?_))) | ((with_reducible show AC _ _ _ _ _ _); (first | (refine PC.ac (hI) ?_) | (refine PC.ac (hS) ?_) | (refine PC.ac (hG) ?_) | (refine PC.ac (hT) ?_))) | (with_reducible refine RgE_i (fun (hBd_ : Bd _ _) => ?_))); (try simp (disch := omega) only [bsW, WOp, WOq, WV, bo, eqN, gdc, gw, bnd, ↓reduceIte, Nat.reduceEqDiff, rsvs, rsv, oneOf, rdN, ne_eq, Nat.reduceAdd, Nat.reduceMul, Nat.reduceLT, reduceCtorEq, Value.cells, setN, Value.oneCell', Nat.reduceLeDiff, undef, fcT, g0])) | (with_reducible refine fun (hBd_ : Bd _ _) => ?_) | ((first | (with_reducible refine @And.intro (Sub _ _) _ ?_ ?_) | ((with_reducible refine @And.intro (Sub _ _ ∧ _) _ ?_ ?_); (with_reducible refine @And.intro (Sub _ _) _ ?_ ?_))); exact sbX) | ((with_reducible refine And.intro ?_ ?_); omega)))
            refine (DrawCircleText A n c Hd nxd hn (hU.sub (hsb'.trans htd))).monoC ?_
            rintro ve He nxe hBe hxe ⟨hte, le, Le, ke, rfl, hle, hke, hRe⟩
            have hse := (hsb'.trans htd).trans hte
            obtain ⟨se, be, hv⟩ : ∃ se be, vCircleText le = .tuple #[.string se, .bool be] := by unfold vCircleText; split <;> exact ⟨_, _, rfl⟩
            have hC := CircleText gT tyT Le le le.length ke He nxe hgT (hse _ _ hT_) rfl (by omega) hke hRe
            have hD := sCircleText Le le le.length ke He nxe rfl (by omega) hRe
            rw [hv] at hC hD
            (try (simp (disch := omega) only [bsW, WOp, WOq, WV, bo, eqN, gdc, gw, bnd, ↓reduceIte, Nat.reduceEqDiff, rsvs, rsv, oneOf, rdN, ne_eq, Nat.reduceAdd, Nat.reduceMul, Nat.reduceLT, reduceCtorEq, Value.cells, setN, Value.oneCell', Nat.reduceLeDiff, undef, fcT, g0]))
            (repeat' (first | ((with_reducible refine gif_split (fun hs_ => ?_) (fun hs_ => ?_)) <;> (have hp_ := hs_; (try simp only [hpL, ne_eq] at hp_); (try simp (disch := omega) only [bsW, WOp, WOq, WV, bo, eqN, gdc, gw, bnd, ↓reduceIte, Nat.reduceEqDiff, rsvs, rsv, oneOf, rdN, ne_eq, Nat.reduceAdd, Nat.reduceMul, Nat.reduceLT, reduceCtorEq, Value.cells, setN, Value.oneCell', Nat.reduceLeDiff, undef, fcT, g0, hs_]))) | ((first | (with_reducible refine newB_i (fun nb_ hb_ => ?_)) | ((with_reducible show QC _ _ _ _ _ _); (first | (refine QC_i (hC) ?_) | (refine QC_i (hD) ?_))) | ((with_reducible show AC _ _ _ _ _ _); (first | (refine PC.ac (hC) ?_) | (refine PC.ac (hD) ?_))) | (with_reducible refine RgE_i (fun (hBd_ : Bd _ _) => ?_))); (try simp (disch := omega) only [bsW, WOp, WOq, WV, bo, eqN, gdc, gw, bnd, ↓reduceIte, Nat.reduceEqDiff, rsvs, rsv, oneOf, rdN, ne_eq, Nat.reduceAdd, Nat.reduceMul, Nat.reduceLT, reduceCtorEq, Value.cells, setN, Value.oneCell', Nat.reduceLeDiff, undef, fcT, g0])) | (with_reducible refine fun (hBd_ : Bd _ _) => ?_) | ((first | (with_reducible refine @And.intro (Sub _ _) _ ?_ ?_) | ((with_reducible refine @And.intro (Sub _ _ ∧ _) _ ?_ ?_); (with_reducible refine @And.intro (Sub _ _) _ ?_ ?_))); exact sbX) | ((with_reducible refine And.intro ?_ ?_); omega)))
            exact Is_i hse
        · rintro fr2 H2 nx2 ⟨j, hm2, _⟩; omega
        · exact ⟨0, by omega, by omega, by simp (disch := omega) only [bsW, ↓reduceIte, Nat.reduceEqDiff, ne_eq, reduceCtorEq, fcT, f0, f3, f4, f6, f10], by (simp (disch := omega) only [bsW, ↓reduceIte, Nat.reduceEqDiff, ne_eq, reduceCtorEq, fcT, f0, f3, f4, f6, f10]) <;> rfl, by (simp (disch := omega) only [bsW, ↓reduceIte, Nat.reduceEqDiff, ne_eq, reduceCtorEq, fcT, f0, f3, f4, f6, f10]) <;> rfl, by simp (disch := omega) only [bsW, ↓reduceIte, Nat.reduceEqDiff, ne_eq, reduceCtorEq, fcT, f0, f3, f4, f6, f10, Int.natCast_zero], rfl, rfl⟩
  · rintro fr H' nx' ⟨i, hmm, _⟩; omega
  · exact ⟨0, by omega, by omega, by simp (disch := omega) only [bsW, ↓reduceIte, Nat.reduceEqDiff, ne_eq, reduceCtorEq, fcT], by simp (disch := omega) only [bsW, ↓reduceIte, Nat.reduceEqDiff, ne_eq, reduceCtorEq, fcT], by simp (disch := omega) only [bsW, ↓reduceIte, Nat.reduceEqDiff, ne_eq, reduceCtorEq, fcT], by (simp (disch := omega) only [bsW, ↓reduceIte, Nat.reduceEqDiff, ne_eq, reduceCtorEq, fcT]) <;> rfl, by simp (disch := omega) only [bsW, ↓reduceIte, Nat.reduceEqDiff, ne_eq, reduceCtorEq, fcT, Int.natCast_zero], rfl, rfl⟩
theorem RdU.tr {H H' : Hp} {A : Option Addr} {n : Nat} (h : RdU H A n) (hrd : ∀ (b off : Nat) (v : Value), rd H b off = some v → rd H' b off = some v) : RdU H' A n :=
  ⟨fun hn => by
    obtain ⟨b, off, e, hc⟩ := h.at_ hn
    exact ⟨b, off, e, fun i hi => by
      obtain ⟨x, h1, h2⟩ := hc i hi
      exact ⟨x, hrd _ _ _ h1, h2⟩⟩⟩
theorem fnCircles_mem : ((("internal/strconv.uint64pow10", Lib.tabData .u64 Lib.pow10Tab) : String × DataW Unit)) ∈ Rows.fnCirclesRow.laid := (List.Mem.tail _ (List.Mem.tail _ (List.Mem.head _)))
theorem FnCircles_pc {H : Type} (enc : TypeId × Value → H) : LaidPC enc Tryd.prog 4 Tryd.f4.params.toList 0 powCells := by
  intro W base args Hp0 tyT hBd hrd hT ha
  have hr : ArgsOK enc Tryd.prog W base Tryd.f4.params.toList args.toList := ha
  rw [Tryd.params4] at hr
  obtain ⟨u0, l0, e0, a0, hr⟩ := hr
  obtain ⟨A0, n0, c0, rfl, hz0, _, hR0⟩ := arg_bytes Tryd.underlying28 Tryd.underlying5 (by kernel_rfl) a0
  have hr : l0 = [] := hr
  have ea : args = #[.slice A0 n0 c0] := by
    apply Array.ext'
    rw [e0, hr]
  subst ea
  have hby0 : Tryd.prog.bytesOf 5 = 1 := by kernel_rfl
  rw [hby0] at hz0
  simp only [reachBytes] at hz0
  exact lawFnCircles A0 n0 c0 _ _ _ tyT rfl hT (by omega) (hR0.tr hrd)
theorem FnCircles_lifted (os : Os) (started : os.Started) (H : Type) (enc : TypeId × Value → H) :
    ReturnsInHanded {} Tryd.checked os 4 .any (fun w args => (Rows.fnCirclesSpec.pre enc Tryd.prog Tryd.f4 Rows.fnCirclesRow.domain false w args ∧ laidMetH Tryd.prog Rows.fnCirclesRow.laid w) ∧ sizedMet enc Tryd.prog Tryd.f4 (OpenSpec.ofChange Rows.fnCirclesSpec) false w args) (Rows.fnCirclesSpec.post enc Tryd.prog Tryd.f4 false true false false) := by
  refine law_lifted_laid (C := Tryd.checked) (tb := 4) (laid := Rows.fnCirclesRow.laid) (g := 0) (cs := powCells) x_laws_FnCircles.call (by kernel_rfl) started (by kernel_rfl) (by kernel_rfl) Tryd.func4 rfl (by kernel_rfl) (by kernel_rfl) (by kernel_rfl) ?_
    (ChangeSpec.witness_shaped (enc := enc) (C := Tryd.checked) (os := os) (X := fun w _ => laidMetH Tryd.prog Rows.fnCirclesRow.laid w) false (World.laidAll Tryd.prog os Rows.fnCirclesRow.laid) #[.slice none 0 0] 8 (World.laidAll_os _ _ _)
      (World.shaped_of_ZipB (by kernel_rfl) (by kernel_rfl)) (by kernel_rfl) (by kernel_rfl) (by kernel_rfl)
      (by rw [MakeChecks.laidMetH_plain _ _ _ (by kernel_rfl)]; exact laidMet_laidAll _ (by kernel_rfl) (by kernel_rfl))) ?_ (FnCircles_pc enc)
  · intro ds hd
    match ds, hd with
    | [d0], _ => rfl
  · intro W h
    rw [MakeChecks.laidMetH_plain _ _ _ (by kernel_rfl)] at h
    exact tab_heap (zs := Lib.pow10Tab) (by kernel_rfl) (by kernel_rfl) Tryd.underlying103 Tryd.underlying54 (by kernel_rfl) (by kernel_rfl) (by decide) fnCircles_mem h
theorem FnCircles_bare : Rows.FnCirclesSaid :=
  OpenClaim.holds_of_wide 4 Tryd.f4 rfl rfl rfl rfl rfl rfl rfl ⟨rfl, rfl, rfl, rfl, rfl⟩ rfl rfl rfl rfl rfl (by kernel_rfl) Tryd.func4 (by kernel_rfl)
    (of_decide_eq_true (by kernel_rfl)) (by unfold Func.isWrapper; first | (rw [if_pos (by decide +kernel)]; kernel_rfl) | (rw [if_neg (by decide +kernel)]; exact ⟨rfl, rfl⟩))
    (fun os started H enc _ => FnCircles_lifted os started H enc)
theorem FnCirclesCardSaid_holds : Rows.FnCirclesCardSaid :=
  Claim7.holds_tied_plain_at .later [] [.data, .data, .data] true (true, "4689b70bd4136b23b114abaac7a61f819bf1caa0c84fcb9081cdaf4ba4fd517f") false FnCircles_bare (fun _ h => by cases h) (by kernel_rfl) (fun _ h => by cases h) fnCircles_row_tie rfl ⟨rfl, rfl⟩ (by kernel_rfl) rfl
    (fun f fn hf hfn => by
      obtain rfl : f = 4 := Option.some.inj ((show Tryd.prog.funcNamed Rows.fnCirclesRow.func = some 4 by kernel_rfl).symm.trans hf) |>.symm
      obtain rfl : fn = Tryd.f4 := (Option.some.inj (Tryd.func4.symm.trans hfn)).symm
      exact ⟨by kernel_rfl, fun j t ht => by
        rw [Tryd.params4] at ht
        have hm : t ∈ [28] := by simpa using Array.mem_of_getElem? ht
        have hall : ([28].all fun u => !Tryd.prog.wantsStandIn u) = true := by kernel_rfl
        exact (show Tryd.prog.wantsStandIn t = false by simpa using List.all_eq_true.1 hall t hm)⟩)
    (by kernel_rfl)
end Go.Proofs.YtnaldmmdhpobgaaDoor
