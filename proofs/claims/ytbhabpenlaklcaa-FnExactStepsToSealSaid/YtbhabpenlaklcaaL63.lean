/- The law StepsToSeal: the call gives true. -/
import Derived.Test.YtbhabpenlaklcaaQ7
import Derived.Test.YtbhabpenlaklcaaE21
import Derived.Test.YtbhabpenlaklcaaRows
set_option linter.unusedVariables false
set_option linter.unusedSimpArgs false
set_option maxRecDepth 100000
set_option maxHeartbeats 1000000
namespace Go.Proofs.Ytbhabpenlaklcaa
open Go Go.RowKit Go.Proofs
theorem lawStepsToSeal (H : Hp) (nx : Nat) (tot0 hand0 : Int) (A0 B0 : Option Addr) (la0 rj0 : List Int) (c0 d0 : Nat) (sl0 : Bool) (hc0 : la0.length ≤ c0) (hn0 : la0.length ≤ 9223372036854775807) (hm0 : rj0.length ≤ 9223372036854775807) (hA0 : RdL H A0 la0) (hB0 : RdL H B0 rj0) :
    PC Try.prog 6 #[.agg #[.int .i64 tot0, .slice A0 la0.length c0, .int .i64 hand0, .slice B0 rj0.length d0, .bool sl0]] H nx (.bool true) := by
  refine AC_of x_laws_FnExactStepsToSeal rfl fun hB => ?_
  simp (disch := omega) only [bsW, WOp, WOq, WV, bo, gdc, gw, bnd, ↓reduceIte, Nat.reduceEqDiff, rsvs, rsv, oneOf, rdN, ne_eq, Nat.reduceAdd, Nat.reduceMul, Nat.reduceLT, reduceCtorEq, Value.cells, setN, Value.oneCell', Nat.reduceLeDiff, undef, fcT, c_laws_FnExactStepsToSeal]
  (repeat' (first | ((refine gif_split (fun hs_ => ?_) (fun hs_ => ?_)) <;> (have hp_ := hs_; (try simp only [decide_eq_true_eq, decide_eq_false_iff_not, beq_iff_eq, bne_iff_ne, beq_eq_false_iff_ne, Bool.not_eq_true, Bool.and_eq_true, Bool.or_eq_true, Bool.and_eq_false_iff, Bool.or_eq_false_iff, bne_eq_false_iff_eq, ne_eq] at hp_); (try simp (disch := omega) only [bsW, WOp, WOq, WV, bo, gdc, gw, bnd, ↓reduceIte, Nat.reduceEqDiff, rsvs, rsv, oneOf, rdN, ne_eq, Nat.reduceAdd, Nat.reduceMul, Nat.reduceLT, reduceCtorEq, Value.cells, setN, Value.oneCell', Nat.reduceLeDiff, undef, fcT, hs_]))) | ((refine newB_i (fun nb_ hb_ => ?_)); (try simp (disch := omega) only [bsW, WOp, WOq, WV, bo, gdc, gw, bnd, ↓reduceIte, Nat.reduceEqDiff, rsvs, rsv, oneOf, rdN, ne_eq, Nat.reduceAdd, Nat.reduceMul, Nat.reduceLT, reduceCtorEq, Value.cells, setN, Value.oneCell', Nat.reduceLeDiff, undef, fcT])) | ((first | (refine QC_i (szPuzzle tot0 A0 la0.length c0 hand0 B0 rj0.length d0 sl0 _ _ hn0 hm0) ?_) | (refine PC.ac (szPuzzle tot0 A0 la0.length c0 hand0 B0 rj0.length d0 sl0 _ _ hn0 hm0) ?_)); (try simp (disch := omega) only [bsW, WOp, WOq, WV, bo, gdc, gw, bnd, ↓reduceIte, Nat.reduceEqDiff, rsvs, rsv, oneOf, rdN, ne_eq, Nat.reduceAdd, Nat.reduceMul, Nat.reduceLT, reduceCtorEq, Value.cells, setN, Value.oneCell', Nat.reduceLeDiff, undef, fcT])) | (refine fun (hBd_ : Bd _ _) => ?_) | (refine And.intro (Sub.refl _) ?_) | (refine And.intro (sub_new (by assumption) (by assumption)) ?_) | (refine And.intro (And.intro (Sub.refl _) ?_) ?_) | (refine And.intro ?_ ?_; omega)))
  · exact Is_i (by (repeat (first | assumption | exact Sub.refl _ | (refine sub_up (nx := nx) ?_ hB ?_; omega))))
  · have hb0' := szP_ok2 (by with_reducible assumption)
    have hs0 : Sub H H := Sub.refl H
    have hta1 : Sub H (upd H nb_ (.rw [.int .i64 tot0, .slice A0 la0.length c0, .int .i64 hand0, .slice B0 rj0.length d0, .bool sl0] 30)) := sub_up (nx := nx) (by omega) hB (Sub.refl _)
    have za1 : (upd H nb_ (.rw [.int .i64 tot0, .slice A0 la0.length c0, .int .i64 hand0, .slice B0 rj0.length d0, .bool sl0] 30)) nb_ = some (.rw [.int .i64 tot0, .slice A0 la0.length c0, .int .i64 hand0, .slice B0 rj0.length d0, .bool sl0] 30) := upd_same _ _ _
    have hBa1 : Bd (upd H nb_ (.rw [.int .i64 tot0, .slice A0 la0.length c0, .int .i64 hand0, .slice B0 rj0.length d0, .bool sl0] 30)) (nb_ + 1) := Bd.up hB (by omega)
    have hba1 := hb_
    generalize (upd H nb_ (.rw [.int .i64 tot0, .slice A0 la0.length c0, .int .i64 hand0, .slice B0 rj0.length d0, .bool sl0] 30)) = Ha1 at *
    generalize nb_ = bA0 at *
    have hsa1 := hs0.trans hta1
    (try (simp (disch := omega) only [bsW, WOp, WOq, WV, bo, gdc, gw, bnd, ↓reduceIte, Nat.reduceEqDiff, rsvs, rsv, oneOf, rdN, ne_eq, Nat.reduceAdd, Nat.reduceMul, Nat.reduceLT, reduceCtorEq, Value.cells, setN, Value.oneCell', Nat.reduceLeDiff, undef, fcT, rd_rw za1]))
    (repeat' (first | ((refine gif_split (fun hs_ => ?_) (fun hs_ => ?_)) <;> (have hp_ := hs_; (try simp only [decide_eq_true_eq, decide_eq_false_iff_not, beq_iff_eq, bne_iff_ne, beq_eq_false_iff_ne, Bool.not_eq_true, Bool.and_eq_true, Bool.or_eq_true, Bool.and_eq_false_iff, Bool.or_eq_false_iff, bne_eq_false_iff_eq, ne_eq] at hp_); (try simp (disch := omega) only [bsW, WOp, WOq, WV, bo, gdc, gw, bnd, ↓reduceIte, Nat.reduceEqDiff, rsvs, rsv, oneOf, rdN, ne_eq, Nat.reduceAdd, Nat.reduceMul, Nat.reduceLT, reduceCtorEq, Value.cells, setN, Value.oneCell', Nat.reduceLeDiff, undef, fcT, rd_rw za1, hs_]))) | ((refine newB_i (fun nb_ hb_ => ?_)); (try simp (disch := omega) only [bsW, WOp, WOq, WV, bo, gdc, gw, bnd, ↓reduceIte, Nat.reduceEqDiff, rsvs, rsv, oneOf, rdN, ne_eq, Nat.reduceAdd, Nat.reduceMul, Nat.reduceLT, reduceCtorEq, Value.cells, setN, Value.oneCell', Nat.reduceLeDiff, undef, fcT, rd_rw za1])) | (refine fun (hBd_ : Bd _ _) => ?_) | (refine And.intro (Sub.refl _) ?_) | (refine And.intro (sub_new (by assumption) (by assumption)) ?_) | (refine And.intro (And.intro (Sub.refl _) ?_) ?_) | (refine And.intro ?_ ?_; omega)))
    all_goals try (exfalso; omega)
    refine AC.monoC (toPuzzle tot0 A0 la0 c0 hand0 B0 rj0 d0 sl0 _ _ (by omega) (by omega) (hA0.sub hsa1) (hB0.sub hsa1)) ?_
    rintro v1 H1 nx1 hB1 hx1 ⟨hO1, ht1⟩
    have hs1 := hsa1.trans ht1
    replace za1 := ht1 _ _ za1
    obtain ⟨A_1, c_1, B_1, d_1, rfl, hc_1, hd_1, _, _⟩ := hO1.rd
    (try (simp (disch := omega) only [bsW, WOp, WOq, WV, bo, gdc, gw, bnd, ↓reduceIte, Nat.reduceEqDiff, rsvs, rsv, oneOf, rdN, ne_eq, Nat.reduceAdd, Nat.reduceMul, Nat.reduceLT, reduceCtorEq, Value.cells, setN, Value.oneCell', Nat.reduceLeDiff, undef, fcT, rd_rw za1]))
    (repeat' (first | ((refine gif_split (fun hs_ => ?_) (fun hs_ => ?_)) <;> (have hp_ := hs_; (try simp only [decide_eq_true_eq, decide_eq_false_iff_not, beq_iff_eq, bne_iff_ne, beq_eq_false_iff_ne, Bool.not_eq_true, Bool.and_eq_true, Bool.or_eq_true, Bool.and_eq_false_iff, Bool.or_eq_false_iff, bne_eq_false_iff_eq, ne_eq] at hp_); (try simp (disch := omega) only [bsW, WOp, WOq, WV, bo, gdc, gw, bnd, ↓reduceIte, Nat.reduceEqDiff, rsvs, rsv, oneOf, rdN, ne_eq, Nat.reduceAdd, Nat.reduceMul, Nat.reduceLT, reduceCtorEq, Value.cells, setN, Value.oneCell', Nat.reduceLeDiff, undef, fcT, rd_rw za1, hs_]))) | ((refine newB_i (fun nb_ hb_ => ?_)); (try simp (disch := omega) only [bsW, WOp, WOq, WV, bo, gdc, gw, bnd, ↓reduceIte, Nat.reduceEqDiff, rsvs, rsv, oneOf, rdN, ne_eq, Nat.reduceAdd, Nat.reduceMul, Nat.reduceLT, reduceCtorEq, Value.cells, setN, Value.oneCell', Nat.reduceLeDiff, undef, fcT, rd_rw za1])) | (refine fun (hBd_ : Bd _ _) => ?_) | (refine And.intro (Sub.refl _) ?_) | (refine And.intro (sub_new (by assumption) (by assumption)) ?_) | (refine And.intro (And.intro (Sub.refl _) ?_) ?_) | (refine And.intro ?_ ?_; omega)))
    all_goals try (exfalso; omega)
    refine AC.monoC (sStepsToSealO _ _ _ _ _ _ _ _ _ _ (by omega) hO1) ?_
    rintro v2 H2 nx2 hB2 hx2 ⟨rfl, ht2⟩
    have hs2 := hs1.trans ht2
    replace za1 := ht2 _ _ za1
    replace hO1 := hO1.subI ht2
    (try (simp (disch := omega) only [bsW, WOp, WOq, WV, bo, gdc, gw, bnd, ↓reduceIte, Nat.reduceEqDiff, rsvs, rsv, oneOf, rdN, ne_eq, Nat.reduceAdd, Nat.reduceMul, Nat.reduceLT, reduceCtorEq, Value.cells, setN, Value.oneCell', Nat.reduceLeDiff, undef, fcT, rd_rw za1]))
    (repeat' (first | ((refine gif_split (fun hs_ => ?_) (fun hs_ => ?_)) <;> (have hp_ := hs_; (try simp only [decide_eq_true_eq, decide_eq_false_iff_not, beq_iff_eq, bne_iff_ne, beq_eq_false_iff_ne, Bool.not_eq_true, Bool.and_eq_true, Bool.or_eq_true, Bool.and_eq_false_iff, Bool.or_eq_false_iff, bne_eq_false_iff_eq, ne_eq] at hp_); (try simp (disch := omega) only [bsW, WOp, WOq, WV, bo, gdc, gw, bnd, ↓reduceIte, Nat.reduceEqDiff, rsvs, rsv, oneOf, rdN, ne_eq, Nat.reduceAdd, Nat.reduceMul, Nat.reduceLT, reduceCtorEq, Value.cells, setN, Value.oneCell', Nat.reduceLeDiff, undef, fcT, rd_rw za1, hs_]))) | ((refine newB_i (fun nb_ hb_ => ?_)); (try simp (disch := omega) only [bsW, WOp, WOq, WV, bo, gdc, gw, bnd, ↓reduceIte, Nat.reduceEqDiff, rsvs, rsv, oneOf, rdN, ne_eq, Nat.reduceAdd, Nat.reduceMul, Nat.reduceLT, reduceCtorEq, Value.cells, setN, Value.oneCell', Nat.reduceLeDiff, undef, fcT, rd_rw za1])) | (refine fun (hBd_ : Bd _ _) => ?_) | (refine And.intro (Sub.refl _) ?_) | (refine And.intro (sub_new (by assumption) (by assumption)) ?_) | (refine And.intro (And.intro (Sub.refl _) ?_) ?_) | (refine And.intro ?_ ?_; omega)))
    all_goals try (exfalso; omega)
    (try (simp (disch := omega) only [bsW, WOp, WOq, WV, bo, gdc, gw, bnd, ↓reduceIte, Nat.reduceEqDiff, rsvs, rsv, oneOf, rdN, ne_eq, Nat.reduceAdd, Nat.reduceMul, Nat.reduceLT, reduceCtorEq, Value.cells, setN, Value.oneCell', Nat.reduceLeDiff, undef, fcT, rd_rw za1]))
    (repeat' (first | ((refine gif_split (fun hs_ => ?_) (fun hs_ => ?_)) <;> (have hp_ := hs_; (try simp only [decide_eq_true_eq, decide_eq_false_iff_not, beq_iff_eq, bne_iff_ne, beq_eq_false_iff_ne, Bool.not_eq_true, Bool.and_eq_true, Bool.or_eq_true, Bool.and_eq_false_iff, Bool.or_eq_false_iff, bne_eq_false_iff_eq, ne_eq] at hp_); (try simp (disch := omega) only [bsW, WOp, WOq, WV, bo, gdc, gw, bnd, ↓reduceIte, Nat.reduceEqDiff, rsvs, rsv, oneOf, rdN, ne_eq, Nat.reduceAdd, Nat.reduceMul, Nat.reduceLT, reduceCtorEq, Value.cells, setN, Value.oneCell', Nat.reduceLeDiff, undef, fcT, rd_rw za1, hs_]))) | ((refine newB_i (fun nb_ hb_ => ?_)); (try simp (disch := omega) only [bsW, WOp, WOq, WV, bo, gdc, gw, bnd, ↓reduceIte, Nat.reduceEqDiff, rsvs, rsv, oneOf, rdN, ne_eq, Nat.reduceAdd, Nat.reduceMul, Nat.reduceLT, reduceCtorEq, Value.cells, setN, Value.oneCell', Nat.reduceLeDiff, undef, fcT, rd_rw za1])) | (refine fun (hBd_ : Bd _ _) => ?_) | (refine And.intro (Sub.refl _) ?_) | (refine And.intro (sub_new (by assumption) (by assumption)) ?_) | (refine And.intro (And.intro (Sub.refl _) ?_) ?_) | (refine And.intro ?_ ?_; omega)))
    all_goals try (exfalso; omega)
    refine AC.monoC (toPuzzle tot0 A0 la0 c0 hand0 B0 rj0 d0 sl0 _ _ (by omega) (by omega) (hA0.sub hs2) (hB0.sub hs2)) ?_
    rintro v3 H3 nx3 hB3 hx3 ⟨hO3, ht3⟩
    have hs3 := hs2.trans ht3
    replace za1 := ht3 _ _ za1
    obtain ⟨A_3, c_3, B_3, d_3, rfl, hc_3, hd_3, _, _⟩ := hO3.rd
    (try (simp (disch := omega) only [bsW, WOp, WOq, WV, bo, gdc, gw, bnd, ↓reduceIte, Nat.reduceEqDiff, rsvs, rsv, oneOf, rdN, ne_eq, Nat.reduceAdd, Nat.reduceMul, Nat.reduceLT, reduceCtorEq, Value.cells, setN, Value.oneCell', Nat.reduceLeDiff, undef, fcT, rd_rw za1]))
    (repeat' (first | ((refine gif_split (fun hs_ => ?_) (fun hs_ => ?_)) <;> (have hp_ := hs_; (try simp only [decide_eq_true_eq, decide_eq_false_iff_not, beq_iff_eq, bne_iff_ne, beq_eq_false_iff_ne, Bool.not_eq_true, Bool.and_eq_true, Bool.or_eq_true, Bool.and_eq_false_iff, Bool.or_eq_false_iff, bne_eq_false_iff_eq, ne_eq] at hp_); (try simp (disch := omega) only [bsW, WOp, WOq, WV, bo, gdc, gw, bnd, ↓reduceIte, Nat.reduceEqDiff, rsvs, rsv, oneOf, rdN, ne_eq, Nat.reduceAdd, Nat.reduceMul, Nat.reduceLT, reduceCtorEq, Value.cells, setN, Value.oneCell', Nat.reduceLeDiff, undef, fcT, rd_rw za1, hs_]))) | ((refine newB_i (fun nb_ hb_ => ?_)); (try simp (disch := omega) only [bsW, WOp, WOq, WV, bo, gdc, gw, bnd, ↓reduceIte, Nat.reduceEqDiff, rsvs, rsv, oneOf, rdN, ne_eq, Nat.reduceAdd, Nat.reduceMul, Nat.reduceLT, reduceCtorEq, Value.cells, setN, Value.oneCell', Nat.reduceLeDiff, undef, fcT, rd_rw za1])) | (refine fun (hBd_ : Bd _ _) => ?_) | (refine And.intro (Sub.refl _) ?_) | (refine And.intro (sub_new (by assumption) (by assumption)) ?_) | (refine And.intro (And.intro (Sub.refl _) ?_) ?_) | (refine And.intro ?_ ?_; omega)))
    all_goals try (exfalso; omega)
    have hta2 : Sub H3 (upd H3 nb_ (.rw [.int .i64 tot0, .slice A_3 la0.length c_3, .int .i64 hand0, .slice B_3 rj0.length d_3, .bool sl0] 24)) := sub_up (nx := nx3) (by omega) hB3 (Sub.refl _)
    have za2 : (upd H3 nb_ (.rw [.int .i64 tot0, .slice A_3 la0.length c_3, .int .i64 hand0, .slice B_3 rj0.length d_3, .bool sl0] 24)) nb_ = some (.rw [.int .i64 tot0, .slice A_3 la0.length c_3, .int .i64 hand0, .slice B_3 rj0.length d_3, .bool sl0] 24) := upd_same _ _ _
    have hBa2 : Bd (upd H3 nb_ (.rw [.int .i64 tot0, .slice A_3 la0.length c_3, .int .i64 hand0, .slice B_3 rj0.length d_3, .bool sl0] 24)) (nb_ + 1) := Bd.up hB3 (by omega)
    have hba2 := hb_
    generalize (upd H3 nb_ (.rw [.int .i64 tot0, .slice A_3 la0.length c_3, .int .i64 hand0, .slice B_3 rj0.length d_3, .bool sl0] 24)) = Ha2 at *
    generalize nb_ = bX0 at *
    have hsa2 := hs3.trans hta2
    replace za1 := hta2 _ _ za1
    replace hO3 := hO3.subI hta2
    (try (simp (disch := omega) only [bsW, WOp, WOq, WV, bo, gdc, gw, bnd, ↓reduceIte, Nat.reduceEqDiff, rsvs, rsv, oneOf, rdN, ne_eq, Nat.reduceAdd, Nat.reduceMul, Nat.reduceLT, reduceCtorEq, Value.cells, setN, Value.oneCell', Nat.reduceLeDiff, undef, fcT, rd_rw za1, rd_rw za2]))
    (repeat' (first | ((refine gif_split (fun hs_ => ?_) (fun hs_ => ?_)) <;> (have hp_ := hs_; (try simp only [decide_eq_true_eq, decide_eq_false_iff_not, beq_iff_eq, bne_iff_ne, beq_eq_false_iff_ne, Bool.not_eq_true, Bool.and_eq_true, Bool.or_eq_true, Bool.and_eq_false_iff, Bool.or_eq_false_iff, bne_eq_false_iff_eq, ne_eq] at hp_); (try simp (disch := omega) only [bsW, WOp, WOq, WV, bo, gdc, gw, bnd, ↓reduceIte, Nat.reduceEqDiff, rsvs, rsv, oneOf, rdN, ne_eq, Nat.reduceAdd, Nat.reduceMul, Nat.reduceLT, reduceCtorEq, Value.cells, setN, Value.oneCell', Nat.reduceLeDiff, undef, fcT, rd_rw za1, rd_rw za2, hs_]))) | ((refine newB_i (fun nb_ hb_ => ?_)); (try simp (disch := omega) only [bsW, WOp, WOq, WV, bo, gdc, gw, bnd, ↓reduceIte, Nat.reduceEqDiff, rsvs, rsv, oneOf, rdN, ne_eq, Nat.reduceAdd, Nat.reduceMul, Nat.reduceLT, reduceCtorEq, Value.cells, setN, Value.oneCell', Nat.reduceLeDiff, undef, fcT, rd_rw za1, rd_rw za2])) | (refine fun (hBd_ : Bd _ _) => ?_) | (refine And.intro (Sub.refl _) ?_) | (refine And.intro (sub_new (by assumption) (by assumption)) ?_) | (refine And.intro (And.intro (Sub.refl _) ?_) ?_) | (refine And.intro ?_ ?_; omega)))
    all_goals try (exfalso; omega)
    refine AC.monoC (StepsToSealO _ _ _ _ _ _ _ _ _ _ (by omega) hO3) ?_
    rintro v4 H4 nx4 hB4 hx4 ⟨rfl, ht4⟩
    have hs4 := hsa2.trans ht4
    replace za1 := ht4 _ _ za1
    replace za2 := ht4 _ _ za2
    replace hO3 := hO3.subI ht4
    (try (simp (disch := omega) only [bsW, WOp, WOq, WV, bo, gdc, gw, bnd, ↓reduceIte, Nat.reduceEqDiff, rsvs, rsv, oneOf, rdN, ne_eq, Nat.reduceAdd, Nat.reduceMul, Nat.reduceLT, reduceCtorEq, Value.cells, setN, Value.oneCell', Nat.reduceLeDiff, undef, fcT, rd_rw za1, rd_rw za2]))
    (repeat' (first | ((refine gif_split (fun hs_ => ?_) (fun hs_ => ?_)) <;> (have hp_ := hs_; (try simp only [decide_eq_true_eq, decide_eq_false_iff_not, beq_iff_eq, bne_iff_ne, beq_eq_false_iff_ne, Bool.not_eq_true, Bool.and_eq_true, Bool.or_eq_true, Bool.and_eq_false_iff, Bool.or_eq_false_iff, bne_eq_false_iff_eq, ne_eq] at hp_); (try simp (disch := omega) only [bsW, WOp, WOq, WV, bo, gdc, gw, bnd, ↓reduceIte, Nat.reduceEqDiff, rsvs, rsv, oneOf, rdN, ne_eq, Nat.reduceAdd, Nat.reduceMul, Nat.reduceLT, reduceCtorEq, Value.cells, setN, Value.oneCell', Nat.reduceLeDiff, undef, fcT, rd_rw za1, rd_rw za2, hs_]))) | ((refine newB_i (fun nb_ hb_ => ?_)); (try simp (disch := omega) only [bsW, WOp, WOq, WV, bo, gdc, gw, bnd, ↓reduceIte, Nat.reduceEqDiff, rsvs, rsv, oneOf, rdN, ne_eq, Nat.reduceAdd, Nat.reduceMul, Nat.reduceLT, reduceCtorEq, Value.cells, setN, Value.oneCell', Nat.reduceLeDiff, undef, fcT, rd_rw za1, rd_rw za2])) | (refine fun (hBd_ : Bd _ _) => ?_) | (refine And.intro (Sub.refl _) ?_) | (refine And.intro (sub_new (by assumption) (by assumption)) ?_) | (refine And.intro (And.intro (Sub.refl _) ?_) ?_) | (refine And.intro ?_ ?_; omega)))
    all_goals try (exfalso; omega)
    (try (simp (disch := omega) only [bsW, WOp, WOq, WV, bo, gdc, gw, bnd, ↓reduceIte, Nat.reduceEqDiff, rsvs, rsv, oneOf, rdN, ne_eq, Nat.reduceAdd, Nat.reduceMul, Nat.reduceLT, reduceCtorEq, Value.cells, setN, Value.oneCell', Nat.reduceLeDiff, undef, fcT, rd_rw za1, rd_rw za2]))
    (repeat' (first | ((refine gif_split (fun hs_ => ?_) (fun hs_ => ?_)) <;> (have hp_ := hs_; (try simp only [decide_eq_true_eq, decide_eq_false_iff_not, beq_iff_eq, bne_iff_ne, beq_eq_false_iff_ne, Bool.not_eq_true, Bool.and_eq_true, Bool.or_eq_true, Bool.and_eq_false_iff, Bool.or_eq_false_iff, bne_eq_false_iff_eq, ne_eq] at hp_); (try simp (disch := omega) only [bsW, WOp, WOq, WV, bo, gdc, gw, bnd, ↓reduceIte, Nat.reduceEqDiff, rsvs, rsv, oneOf, rdN, ne_eq, Nat.reduceAdd, Nat.reduceMul, Nat.reduceLT, reduceCtorEq, Value.cells, setN, Value.oneCell', Nat.reduceLeDiff, undef, fcT, rd_rw za1, rd_rw za2, hs_]))) | ((refine newB_i (fun nb_ hb_ => ?_)); (try simp (disch := omega) only [bsW, WOp, WOq, WV, bo, gdc, gw, bnd, ↓reduceIte, Nat.reduceEqDiff, rsvs, rsv, oneOf, rdN, ne_eq, Nat.reduceAdd, Nat.reduceMul, Nat.reduceLT, reduceCtorEq, Value.cells, setN, Value.oneCell', Nat.reduceLeDiff, undef, fcT, rd_rw za1, rd_rw za2])) | (refine fun (hBd_ : Bd _ _) => ?_) | (refine And.intro (Sub.refl _) ?_) | (refine And.intro (sub_new (by assumption) (by assumption)) ?_) | (refine And.intro (And.intro (Sub.refl _) ?_) ?_) | (refine And.intro ?_ ?_; omega)))
    all_goals try (exfalso; omega)
    refine AC.monoC (toPuzzle tot0 A0 la0 c0 hand0 B0 rj0 d0 sl0 _ _ (by omega) (by omega) (hA0.sub hs4) (hB0.sub hs4)) ?_
    rintro v5 H5 nx5 hB5 hx5 ⟨hO5, ht5⟩
    have hs5 := hs4.trans ht5
    replace za1 := ht5 _ _ za1
    replace za2 := ht5 _ _ za2
    replace hO3 := hO3.subI ht5
    obtain ⟨A_5, c_5, B_5, d_5, rfl, hc_5, hd_5, _, _⟩ := hO5.rd
    (try (simp (disch := omega) only [bsW, WOp, WOq, WV, bo, gdc, gw, bnd, ↓reduceIte, Nat.reduceEqDiff, rsvs, rsv, oneOf, rdN, ne_eq, Nat.reduceAdd, Nat.reduceMul, Nat.reduceLT, reduceCtorEq, Value.cells, setN, Value.oneCell', Nat.reduceLeDiff, undef, fcT, rd_rw za1, rd_rw za2]))
    (repeat' (first | ((refine gif_split (fun hs_ => ?_) (fun hs_ => ?_)) <;> (have hp_ := hs_; (try simp only [decide_eq_true_eq, decide_eq_false_iff_not, beq_iff_eq, bne_iff_ne, beq_eq_false_iff_ne, Bool.not_eq_true, Bool.and_eq_true, Bool.or_eq_true, Bool.and_eq_false_iff, Bool.or_eq_false_iff, bne_eq_false_iff_eq, ne_eq] at hp_); (try simp (disch := omega) only [bsW, WOp, WOq, WV, bo, gdc, gw, bnd, ↓reduceIte, Nat.reduceEqDiff, rsvs, rsv, oneOf, rdN, ne_eq, Nat.reduceAdd, Nat.reduceMul, Nat.reduceLT, reduceCtorEq, Value.cells, setN, Value.oneCell', Nat.reduceLeDiff, undef, fcT, rd_rw za1, rd_rw za2, hs_]))) | ((refine newB_i (fun nb_ hb_ => ?_)); (try simp (disch := omega) only [bsW, WOp, WOq, WV, bo, gdc, gw, bnd, ↓reduceIte, Nat.reduceEqDiff, rsvs, rsv, oneOf, rdN, ne_eq, Nat.reduceAdd, Nat.reduceMul, Nat.reduceLT, reduceCtorEq, Value.cells, setN, Value.oneCell', Nat.reduceLeDiff, undef, fcT, rd_rw za1, rd_rw za2])) | ((first | (refine QC_i (eqPuzzleO _ _ _ _ _ _ _ _ _ _ _ _ _ (by omega) (by omega) hO3 hO5) ?_) | (refine PC.ac (eqPuzzleO _ _ _ _ _ _ _ _ _ _ _ _ _ (by omega) (by omega) hO3 hO5) ?_)); (try simp (disch := omega) only [bsW, WOp, WOq, WV, bo, gdc, gw, bnd, ↓reduceIte, Nat.reduceEqDiff, rsvs, rsv, oneOf, rdN, ne_eq, Nat.reduceAdd, Nat.reduceMul, Nat.reduceLT, reduceCtorEq, Value.cells, setN, Value.oneCell', Nat.reduceLeDiff, undef, fcT, rd_rw za1, rd_rw za2])) | (refine fun (hBd_ : Bd _ _) => ?_) | (refine And.intro (Sub.refl _) ?_) | (refine And.intro (sub_new (by assumption) (by assumption)) ?_) | (refine And.intro (And.intro (Sub.refl _) ?_) ?_) | (refine And.intro ?_ ?_; omega)))
    all_goals try (exfalso; omega)
    all_goals exact Is_i hs5
theorem FnExactStepsToSeal_lifted (os : Os) (started : os.Started) (H : Type) (enc : TypeId × Value → H) :
    ReturnsInHanded {} Try.checked os 6 .any (Rows.fnExactStepsToSealSpec.pre6 enc Try.prog Try.f6 Rows.fnExactStepsToSealRow.domain false) (Rows.fnExactStepsToSealSpec.post enc Try.prog Try.f6 false true false false) := by
  refine law_lifted (C := Try.checked) (tb := 4) x_laws_FnExactStepsToSeal.call (by kernel_rfl) started (by kernel_rfl) (by kernel_rfl) Try.func6 rfl (by kernel_rfl) (by kernel_rfl) (by kernel_rfl) ?_
    (ChangeSpec.witness6 (enc := enc) (C := Try.checked) false ⟨#[], #[.agg #[.int .i64 0, .slice none 0 0, .int .i64 0, .slice none 0 0, .bool false]], []⟩ 8 (by kernel_rfl) (by kernel_rfl) (by kernel_rfl) (by kernel_rfl)) ?_
  · intro ds hd
    match ds, hd with
    | [d0], _ => rfl
  · intro W base args ha
    have hr : ArgsOK enc Try.prog W base Try.f6.params.toList args.toList := ha
    rw [Try.params6] at hr
    obtain ⟨u0, l0, e0, a0, hr⟩ := hr
    obtain ⟨tot0, hand0, A0, B0, la0, rj0, c0, d0, sl0, rfl, hc0, hn0, hm0, hA0, hB0⟩ := arg_puzzle Try.underlying30 (by kernel_rfl) (by kernel_rfl) Try.underlying22 Try.underlying3 (by kernel_rfl) a0
    have hr : l0 = [] := hr
    have ea : args = #[.agg #[.int .i64 tot0, .slice A0 la0.length c0, .int .i64 hand0, .slice B0 rj0.length d0, .bool sl0]] := by
      apply Array.ext'
      rw [e0, hr]
    subst ea
    exact lawStepsToSeal _ _ tot0 hand0 A0 B0 la0 rj0 c0 d0 sl0 hc0 hn0 hm0 hA0 hB0
theorem FnExactStepsToSeal_holds : Rows.FnExactStepsToSealSaid :=
  OpenClaim.holds_of_wide 6 Try.f6 rfl rfl rfl rfl rfl rfl rfl ⟨rfl, rfl, rfl, rfl, rfl⟩ rfl rfl rfl rfl rfl (by kernel_rfl) Try.func6 (by kernel_rfl)
    (of_decide_eq_true (by kernel_rfl)) (by unfold Func.isWrapper; first | (rw [if_pos (by decide +kernel)]; kernel_rfl) | (rw [if_neg (by decide +kernel)]; exact ⟨rfl, rfl⟩))
    (fun os started H enc _ => FnExactStepsToSeal_lifted os started H enc)
end Go.Proofs.Ytbhabpenlaklcaa
