/- The law NewPuzzle: the call gives true. -/
import Derived.Test.YtbhabpenlaklcaaQ8
import Derived.Test.YtbhabpenlaklcaaE21
import Derived.Test.YtbhabpenlaklcaaRows
set_option linter.unusedVariables false
set_option linter.unusedSimpArgs false
set_option maxRecDepth 100000
set_option maxHeartbeats 1000000
namespace Go.Proofs.Ytbhabpenlaklcaa
open Go Go.RowKit Go.Proofs
theorem lawNewPuzzle (H : Hp) (nx : Nat) (b0 : Int) (hb0 : -9223372036854775808 ≤ b0 ∧ b0 ≤ 9223372036854775807) :
    PC Try.prog 3 #[.int .i64 b0] H nx (.bool true) := by
  refine AC_of x_laws_FnExactNewPuzzle rfl fun hB => ?_
  simp (disch := omega) only [bsW, WOp, WOq, WV, bo, gdc, gw, bnd, ↓reduceIte, Nat.reduceEqDiff, rsvs, rsv, oneOf, rdN, ne_eq, Nat.reduceAdd, Nat.reduceMul, Nat.reduceLT, reduceCtorEq, Value.cells, setN, Value.oneCell', Nat.reduceLeDiff, undef, fcT, c_laws_FnExactNewPuzzle]
  (repeat' (first | ((refine gif_split (fun hs_ => ?_) (fun hs_ => ?_)) <;> (have hp_ := hs_; (try simp only [decide_eq_true_eq, decide_eq_false_iff_not, beq_iff_eq, bne_iff_ne, beq_eq_false_iff_ne, Bool.not_eq_true, Bool.and_eq_true, Bool.or_eq_true, Bool.and_eq_false_iff, Bool.or_eq_false_iff, bne_eq_false_iff_eq, ne_eq] at hp_); (try simp (disch := omega) only [bsW, WOp, WOq, WV, bo, gdc, gw, bnd, ↓reduceIte, Nat.reduceEqDiff, rsvs, rsv, oneOf, rdN, ne_eq, Nat.reduceAdd, Nat.reduceMul, Nat.reduceLT, reduceCtorEq, Value.cells, setN, Value.oneCell', Nat.reduceLeDiff, undef, fcT, hs_]))) | ((refine newB_i (fun nb_ hb_ => ?_)); (try simp (disch := omega) only [bsW, WOp, WOq, WV, bo, gdc, gw, bnd, ↓reduceIte, Nat.reduceEqDiff, rsvs, rsv, oneOf, rdN, ne_eq, Nat.reduceAdd, Nat.reduceMul, Nat.reduceLT, reduceCtorEq, Value.cells, setN, Value.oneCell', Nat.reduceLeDiff, undef, fcT])) | (refine fun (hBd_ : Bd _ _) => ?_) | (refine And.intro (Sub.refl _) ?_) | (refine And.intro (sub_new (by assumption) (by assumption)) ?_) | (refine And.intro (And.intro (Sub.refl _) ?_) ?_) | (refine And.intro ?_ ?_; omega)))
  have hs0 : Sub H H := Sub.refl H
  have hl0 : ([] : List Int).length = 0 := rfl
  refine AC.monoC (sNewPuzzle b0 _ _) ?_
  rintro v1 H1 nx1 hB1 hx1 ⟨w1, rfl, hR1_0, ht1⟩
  have hs1 := hs0.trans ht1
  obtain ⟨A_1_0, c_1_0, B_1_0, d_1_0, rfl, hc_1_0, hd_1_0, _, _⟩ := hR1_0.rd
  (try (simp (disch := omega) only [bsW, WOp, WOq, WV, bo, gdc, gw, bnd, ↓reduceIte, Nat.reduceEqDiff, rsvs, rsv, oneOf, rdN, ne_eq, Nat.reduceAdd, Nat.reduceMul, Nat.reduceLT, reduceCtorEq, Value.cells, setN, Value.oneCell', Nat.reduceLeDiff, undef, fcT]))
  (repeat' (first | ((refine gif_split (fun hs_ => ?_) (fun hs_ => ?_)) <;> (have hp_ := hs_; (try simp only [decide_eq_true_eq, decide_eq_false_iff_not, beq_iff_eq, bne_iff_ne, beq_eq_false_iff_ne, Bool.not_eq_true, Bool.and_eq_true, Bool.or_eq_true, Bool.and_eq_false_iff, Bool.or_eq_false_iff, bne_eq_false_iff_eq, ne_eq] at hp_); (try simp (disch := omega) only [bsW, WOp, WOq, WV, bo, gdc, gw, bnd, ↓reduceIte, Nat.reduceEqDiff, rsvs, rsv, oneOf, rdN, ne_eq, Nat.reduceAdd, Nat.reduceMul, Nat.reduceLT, reduceCtorEq, Value.cells, setN, Value.oneCell', Nat.reduceLeDiff, undef, fcT, hs_]))) | ((refine newB_i (fun nb_ hb_ => ?_)); (try simp (disch := omega) only [bsW, WOp, WOq, WV, bo, gdc, gw, bnd, ↓reduceIte, Nat.reduceEqDiff, rsvs, rsv, oneOf, rdN, ne_eq, Nat.reduceAdd, Nat.reduceMul, Nat.reduceLT, reduceCtorEq, Value.cells, setN, Value.oneCell', Nat.reduceLeDiff, undef, fcT])) | (refine fun (hBd_ : Bd _ _) => ?_) | (refine And.intro (Sub.refl _) ?_) | (refine And.intro (sub_new (by assumption) (by assumption)) ?_) | (refine And.intro (And.intro (Sub.refl _) ?_) ?_) | (refine And.intro ?_ ?_; omega)))
  all_goals try (exfalso; omega)
  have hta1 : Sub H1 (upd H1 nb_ (.rw [.int .i64 (if inR b0 1 20 = true then b0 else 0), .slice A_1_0 ([] : List Int).length c_1_0, .int .i64 (0), .slice B_1_0 ([] : List Int).length d_1_0, .bool false] 24)) := sub_up (nx := nx1) (by omega) hB1 (Sub.refl _)
  have za1 : (upd H1 nb_ (.rw [.int .i64 (if inR b0 1 20 = true then b0 else 0), .slice A_1_0 ([] : List Int).length c_1_0, .int .i64 (0), .slice B_1_0 ([] : List Int).length d_1_0, .bool false] 24)) nb_ = some (.rw [.int .i64 (if inR b0 1 20 = true then b0 else 0), .slice A_1_0 ([] : List Int).length c_1_0, .int .i64 (0), .slice B_1_0 ([] : List Int).length d_1_0, .bool false] 24) := upd_same _ _ _
  have hBa1 : Bd (upd H1 nb_ (.rw [.int .i64 (if inR b0 1 20 = true then b0 else 0), .slice A_1_0 ([] : List Int).length c_1_0, .int .i64 (0), .slice B_1_0 ([] : List Int).length d_1_0, .bool false] 24)) (nb_ + 1) := Bd.up hB1 (by omega)
  have hba1 := hb_
  generalize (upd H1 nb_ (.rw [.int .i64 (if inR b0 1 20 = true then b0 else 0), .slice A_1_0 ([] : List Int).length c_1_0, .int .i64 (0), .slice B_1_0 ([] : List Int).length d_1_0, .bool false] 24)) = Ha1 at *
  generalize nb_ = bW0 at *
  have hsa1 := hs1.trans hta1
  replace hR1_0 := hR1_0.subI hta1
  (try (simp (disch := omega) only [bsW, WOp, WOq, WV, bo, gdc, gw, bnd, ↓reduceIte, Nat.reduceEqDiff, rsvs, rsv, oneOf, rdN, ne_eq, Nat.reduceAdd, Nat.reduceMul, Nat.reduceLT, reduceCtorEq, Value.cells, setN, Value.oneCell', Nat.reduceLeDiff, undef, fcT, rd_rw za1]))
  (repeat' (first | ((refine gif_split (fun hs_ => ?_) (fun hs_ => ?_)) <;> (have hp_ := hs_; (try simp only [decide_eq_true_eq, decide_eq_false_iff_not, beq_iff_eq, bne_iff_ne, beq_eq_false_iff_ne, Bool.not_eq_true, Bool.and_eq_true, Bool.or_eq_true, Bool.and_eq_false_iff, Bool.or_eq_false_iff, bne_eq_false_iff_eq, ne_eq] at hp_); (try simp (disch := omega) only [bsW, WOp, WOq, WV, bo, gdc, gw, bnd, ↓reduceIte, Nat.reduceEqDiff, rsvs, rsv, oneOf, rdN, ne_eq, Nat.reduceAdd, Nat.reduceMul, Nat.reduceLT, reduceCtorEq, Value.cells, setN, Value.oneCell', Nat.reduceLeDiff, undef, fcT, rd_rw za1, hs_]))) | ((refine newB_i (fun nb_ hb_ => ?_)); (try simp (disch := omega) only [bsW, WOp, WOq, WV, bo, gdc, gw, bnd, ↓reduceIte, Nat.reduceEqDiff, rsvs, rsv, oneOf, rdN, ne_eq, Nat.reduceAdd, Nat.reduceMul, Nat.reduceLT, reduceCtorEq, Value.cells, setN, Value.oneCell', Nat.reduceLeDiff, undef, fcT, rd_rw za1])) | (refine fun (hBd_ : Bd _ _) => ?_) | (refine And.intro (Sub.refl _) ?_) | (refine And.intro (sub_new (by assumption) (by assumption)) ?_) | (refine And.intro (And.intro (Sub.refl _) ?_) ?_) | (refine And.intro ?_ ?_; omega)))
  all_goals try (exfalso; omega)
  refine AC.monoC (NewPuzzle b0 _ _) ?_
  rintro v2 H2 nx2 hB2 hx2 ⟨w2, rfl, hR2_0, ht2⟩
  have hs2 := hsa1.trans ht2
  replace za1 := ht2 _ _ za1
  replace hR1_0 := hR1_0.subI ht2
  obtain ⟨A_2_0, c_2_0, B_2_0, d_2_0, rfl, hc_2_0, hd_2_0, _, _⟩ := hR2_0.rd
  (try (simp (disch := omega) only [bsW, WOp, WOq, WV, bo, gdc, gw, bnd, ↓reduceIte, Nat.reduceEqDiff, rsvs, rsv, oneOf, rdN, ne_eq, Nat.reduceAdd, Nat.reduceMul, Nat.reduceLT, reduceCtorEq, Value.cells, setN, Value.oneCell', Nat.reduceLeDiff, undef, fcT, rd_rw za1]))
  (repeat' (first | ((refine gif_split (fun hs_ => ?_) (fun hs_ => ?_)) <;> (have hp_ := hs_; (try simp only [decide_eq_true_eq, decide_eq_false_iff_not, beq_iff_eq, bne_iff_ne, beq_eq_false_iff_ne, Bool.not_eq_true, Bool.and_eq_true, Bool.or_eq_true, Bool.and_eq_false_iff, Bool.or_eq_false_iff, bne_eq_false_iff_eq, ne_eq] at hp_); (try simp (disch := omega) only [bsW, WOp, WOq, WV, bo, gdc, gw, bnd, ↓reduceIte, Nat.reduceEqDiff, rsvs, rsv, oneOf, rdN, ne_eq, Nat.reduceAdd, Nat.reduceMul, Nat.reduceLT, reduceCtorEq, Value.cells, setN, Value.oneCell', Nat.reduceLeDiff, undef, fcT, rd_rw za1, hs_]))) | ((refine newB_i (fun nb_ hb_ => ?_)); (try simp (disch := omega) only [bsW, WOp, WOq, WV, bo, gdc, gw, bnd, ↓reduceIte, Nat.reduceEqDiff, rsvs, rsv, oneOf, rdN, ne_eq, Nat.reduceAdd, Nat.reduceMul, Nat.reduceLT, reduceCtorEq, Value.cells, setN, Value.oneCell', Nat.reduceLeDiff, undef, fcT, rd_rw za1])) | (refine fun (hBd_ : Bd _ _) => ?_) | (refine And.intro (Sub.refl _) ?_) | (refine And.intro (sub_new (by assumption) (by assumption)) ?_) | (refine And.intro (And.intro (Sub.refl _) ?_) ?_) | (refine And.intro ?_ ?_; omega)))
  all_goals try (exfalso; omega)
  have hta2 : Sub H2 (upd H2 nb_ (.rw [.int .i64 (if inR b0 1 20 = true then b0 else 0), .slice A_2_0 ([] : List Int).length c_2_0, .int .i64 (0), .slice B_2_0 ([] : List Int).length d_2_0, .bool false] 24)) := sub_up (nx := nx2) (by omega) hB2 (Sub.refl _)
  have za2 : (upd H2 nb_ (.rw [.int .i64 (if inR b0 1 20 = true then b0 else 0), .slice A_2_0 ([] : List Int).length c_2_0, .int .i64 (0), .slice B_2_0 ([] : List Int).length d_2_0, .bool false] 24)) nb_ = some (.rw [.int .i64 (if inR b0 1 20 = true then b0 else 0), .slice A_2_0 ([] : List Int).length c_2_0, .int .i64 (0), .slice B_2_0 ([] : List Int).length d_2_0, .bool false] 24) := upd_same _ _ _
  have hBa2 : Bd (upd H2 nb_ (.rw [.int .i64 (if inR b0 1 20 = true then b0 else 0), .slice A_2_0 ([] : List Int).length c_2_0, .int .i64 (0), .slice B_2_0 ([] : List Int).length d_2_0, .bool false] 24)) (nb_ + 1) := Bd.up hB2 (by omega)
  have hba2 := hb_
  generalize (upd H2 nb_ (.rw [.int .i64 (if inR b0 1 20 = true then b0 else 0), .slice A_2_0 ([] : List Int).length c_2_0, .int .i64 (0), .slice B_2_0 ([] : List Int).length d_2_0, .bool false] 24)) = Ha2 at *
  generalize nb_ = bG0 at *
  have hsa2 := hs2.trans hta2
  replace za1 := hta2 _ _ za1
  replace hR1_0 := hR1_0.subI hta2
  replace hR2_0 := hR2_0.subI hta2
  (try (simp (disch := omega) only [bsW, WOp, WOq, WV, bo, gdc, gw, bnd, ↓reduceIte, Nat.reduceEqDiff, rsvs, rsv, oneOf, rdN, ne_eq, Nat.reduceAdd, Nat.reduceMul, Nat.reduceLT, reduceCtorEq, Value.cells, setN, Value.oneCell', Nat.reduceLeDiff, undef, fcT, rd_rw za1, rd_rw za2]))
  (repeat' (first | ((refine gif_split (fun hs_ => ?_) (fun hs_ => ?_)) <;> (have hp_ := hs_; (try simp only [decide_eq_true_eq, decide_eq_false_iff_not, beq_iff_eq, bne_iff_ne, beq_eq_false_iff_ne, Bool.not_eq_true, Bool.and_eq_true, Bool.or_eq_true, Bool.and_eq_false_iff, Bool.or_eq_false_iff, bne_eq_false_iff_eq, ne_eq] at hp_); (try simp (disch := omega) only [bsW, WOp, WOq, WV, bo, gdc, gw, bnd, ↓reduceIte, Nat.reduceEqDiff, rsvs, rsv, oneOf, rdN, ne_eq, Nat.reduceAdd, Nat.reduceMul, Nat.reduceLT, reduceCtorEq, Value.cells, setN, Value.oneCell', Nat.reduceLeDiff, undef, fcT, rd_rw za1, rd_rw za2, hs_]))) | ((refine newB_i (fun nb_ hb_ => ?_)); (try simp (disch := omega) only [bsW, WOp, WOq, WV, bo, gdc, gw, bnd, ↓reduceIte, Nat.reduceEqDiff, rsvs, rsv, oneOf, rdN, ne_eq, Nat.reduceAdd, Nat.reduceMul, Nat.reduceLT, reduceCtorEq, Value.cells, setN, Value.oneCell', Nat.reduceLeDiff, undef, fcT, rd_rw za1, rd_rw za2])) | ((first | (refine QC_i (eqPuzzleO _ _ _ _ _ _ _ _ _ _ _ _ _ (by omega) (by omega) hR2_0 hR1_0) ?_) | (refine PC.ac (eqPuzzleO _ _ _ _ _ _ _ _ _ _ _ _ _ (by omega) (by omega) hR2_0 hR1_0) ?_)); (try simp (disch := omega) only [bsW, WOp, WOq, WV, bo, gdc, gw, bnd, ↓reduceIte, Nat.reduceEqDiff, rsvs, rsv, oneOf, rdN, ne_eq, Nat.reduceAdd, Nat.reduceMul, Nat.reduceLT, reduceCtorEq, Value.cells, setN, Value.oneCell', Nat.reduceLeDiff, undef, fcT, rd_rw za1, rd_rw za2])) | (refine fun (hBd_ : Bd _ _) => ?_) | (refine And.intro (Sub.refl _) ?_) | (refine And.intro (sub_new (by assumption) (by assumption)) ?_) | (refine And.intro (And.intro (Sub.refl _) ?_) ?_) | (refine And.intro ?_ ?_; omega)))
  all_goals try (exfalso; omega)
  refine AC.monoC (markPuzzleI _ _ _ _ _ _ (1) _ _ _ _ (by omega) (by omega) (by omega) hR2_0 (by omega)) ?_
  rintro v3 H3 nx3 hB3 hx3 ⟨rfl, hN3, hoth3⟩
  have hs3 := sub_out hB hsa2 (by omega) (by omega) hoth3
  replace za1 := (hoth3 bW0 (by omega) (by omega)).trans za1
  replace za2 := (hoth3 bG0 (by omega) (by omega)).trans za2
  replace hR1_0 := hR1_0.keepI (fun c h1 h2 => hoth3 c (by omega) (by omega))
  clear hR2_0; have hR2_0 := hN3
  (try (simp (disch := omega) only [bsW, WOp, WOq, WV, bo, gdc, gw, bnd, ↓reduceIte, Nat.reduceEqDiff, rsvs, rsv, oneOf, rdN, ne_eq, Nat.reduceAdd, Nat.reduceMul, Nat.reduceLT, reduceCtorEq, Value.cells, setN, Value.oneCell', Nat.reduceLeDiff, undef, fcT, rd_rw za1, rd_rw za2]))
  (repeat' (first | ((refine gif_split (fun hs_ => ?_) (fun hs_ => ?_)) <;> (have hp_ := hs_; (try simp only [decide_eq_true_eq, decide_eq_false_iff_not, beq_iff_eq, bne_iff_ne, beq_eq_false_iff_ne, Bool.not_eq_true, Bool.and_eq_true, Bool.or_eq_true, Bool.and_eq_false_iff, Bool.or_eq_false_iff, bne_eq_false_iff_eq, ne_eq] at hp_); (try simp (disch := omega) only [bsW, WOp, WOq, WV, bo, gdc, gw, bnd, ↓reduceIte, Nat.reduceEqDiff, rsvs, rsv, oneOf, rdN, ne_eq, Nat.reduceAdd, Nat.reduceMul, Nat.reduceLT, reduceCtorEq, Value.cells, setN, Value.oneCell', Nat.reduceLeDiff, undef, fcT, rd_rw za1, rd_rw za2, hs_]))) | ((refine newB_i (fun nb_ hb_ => ?_)); (try simp (disch := omega) only [bsW, WOp, WOq, WV, bo, gdc, gw, bnd, ↓reduceIte, Nat.reduceEqDiff, rsvs, rsv, oneOf, rdN, ne_eq, Nat.reduceAdd, Nat.reduceMul, Nat.reduceLT, reduceCtorEq, Value.cells, setN, Value.oneCell', Nat.reduceLeDiff, undef, fcT, rd_rw za1, rd_rw za2])) | ((first | (refine QC_i (heldPuzzleO _ _ _ _ _ _ (1) _ _ _ _ (by omega) (by omega) (by omega) hR2_0) ?_) | (refine PC.ac (heldPuzzleO _ _ _ _ _ _ (1) _ _ _ _ (by omega) (by omega) (by omega) hR2_0) ?_)); (try simp (disch := omega) only [bsW, WOp, WOq, WV, bo, gdc, gw, bnd, ↓reduceIte, Nat.reduceEqDiff, rsvs, rsv, oneOf, rdN, ne_eq, Nat.reduceAdd, Nat.reduceMul, Nat.reduceLT, reduceCtorEq, Value.cells, setN, Value.oneCell', Nat.reduceLeDiff, undef, fcT, rd_rw za1, rd_rw za2])) | (refine fun (hBd_ : Bd _ _) => ?_) | (refine And.intro (Sub.refl _) ?_) | (refine And.intro (sub_new (by assumption) (by assumption)) ?_) | (refine And.intro (And.intro (Sub.refl _) ?_) ?_) | (refine And.intro ?_ ?_; omega)))
  all_goals try (exfalso; omega)
  refine AC.monoC (NewPuzzle b0 _ _) ?_
  rintro v4 H4 nx4 hB4 hx4 ⟨w4, rfl, hR4_0, ht4⟩
  have hs4 := hs3.trans ht4
  replace za1 := ht4 _ _ za1
  replace za2 := ht4 _ _ za2
  replace hR1_0 := hR1_0.subI ht4
  replace hR2_0 := hR2_0.subI ht4
  obtain ⟨A_4_0, c_4_0, B_4_0, d_4_0, rfl, hc_4_0, hd_4_0, _, _⟩ := hR4_0.rd
  (try (simp (disch := omega) only [bsW, WOp, WOq, WV, bo, gdc, gw, bnd, ↓reduceIte, Nat.reduceEqDiff, rsvs, rsv, oneOf, rdN, ne_eq, Nat.reduceAdd, Nat.reduceMul, Nat.reduceLT, reduceCtorEq, Value.cells, setN, Value.oneCell', Nat.reduceLeDiff, undef, fcT, rd_rw za1, rd_rw za2]))
  (repeat' (first | ((refine gif_split (fun hs_ => ?_) (fun hs_ => ?_)) <;> (have hp_ := hs_; (try simp only [decide_eq_true_eq, decide_eq_false_iff_not, beq_iff_eq, bne_iff_ne, beq_eq_false_iff_ne, Bool.not_eq_true, Bool.and_eq_true, Bool.or_eq_true, Bool.and_eq_false_iff, Bool.or_eq_false_iff, bne_eq_false_iff_eq, ne_eq] at hp_); (try simp (disch := omega) only [bsW, WOp, WOq, WV, bo, gdc, gw, bnd, ↓reduceIte, Nat.reduceEqDiff, rsvs, rsv, oneOf, rdN, ne_eq, Nat.reduceAdd, Nat.reduceMul, Nat.reduceLT, reduceCtorEq, Value.cells, setN, Value.oneCell', Nat.reduceLeDiff, undef, fcT, rd_rw za1, rd_rw za2, hs_]))) | ((refine newB_i (fun nb_ hb_ => ?_)); (try simp (disch := omega) only [bsW, WOp, WOq, WV, bo, gdc, gw, bnd, ↓reduceIte, Nat.reduceEqDiff, rsvs, rsv, oneOf, rdN, ne_eq, Nat.reduceAdd, Nat.reduceMul, Nat.reduceLT, reduceCtorEq, Value.cells, setN, Value.oneCell', Nat.reduceLeDiff, undef, fcT, rd_rw za1, rd_rw za2])) | (refine fun (hBd_ : Bd _ _) => ?_) | (refine And.intro (Sub.refl _) ?_) | (refine And.intro (sub_new (by assumption) (by assumption)) ?_) | (refine And.intro (And.intro (Sub.refl _) ?_) ?_) | (refine And.intro ?_ ?_; omega)))
  all_goals try (exfalso; omega)
  have hta3 : Sub H4 (upd H4 nb_ (.rw [.int .i64 (if inR b0 1 20 = true then b0 else 0), .slice A_4_0 ([] : List Int).length c_4_0, .int .i64 (0), .slice B_4_0 ([] : List Int).length d_4_0, .bool false] 24)) := sub_up (nx := nx4) (by omega) hB4 (Sub.refl _)
  have za3 : (upd H4 nb_ (.rw [.int .i64 (if inR b0 1 20 = true then b0 else 0), .slice A_4_0 ([] : List Int).length c_4_0, .int .i64 (0), .slice B_4_0 ([] : List Int).length d_4_0, .bool false] 24)) nb_ = some (.rw [.int .i64 (if inR b0 1 20 = true then b0 else 0), .slice A_4_0 ([] : List Int).length c_4_0, .int .i64 (0), .slice B_4_0 ([] : List Int).length d_4_0, .bool false] 24) := upd_same _ _ _
  have hBa3 : Bd (upd H4 nb_ (.rw [.int .i64 (if inR b0 1 20 = true then b0 else 0), .slice A_4_0 ([] : List Int).length c_4_0, .int .i64 (0), .slice B_4_0 ([] : List Int).length d_4_0, .bool false] 24)) (nb_ + 1) := Bd.up hB4 (by omega)
  have hba3 := hb_
  generalize (upd H4 nb_ (.rw [.int .i64 (if inR b0 1 20 = true then b0 else 0), .slice A_4_0 ([] : List Int).length c_4_0, .int .i64 (0), .slice B_4_0 ([] : List Int).length d_4_0, .bool false] 24)) = Ha3 at *
  generalize nb_ = bB0 at *
  have hsa3 := hs4.trans hta3
  replace za1 := hta3 _ _ za1
  replace za2 := hta3 _ _ za2
  replace hR1_0 := hR1_0.subI hta3
  replace hR2_0 := hR2_0.subI hta3
  replace hR4_0 := hR4_0.subI hta3
  (try (simp (disch := omega) only [bsW, WOp, WOq, WV, bo, gdc, gw, bnd, ↓reduceIte, Nat.reduceEqDiff, rsvs, rsv, oneOf, rdN, ne_eq, Nat.reduceAdd, Nat.reduceMul, Nat.reduceLT, reduceCtorEq, Value.cells, setN, Value.oneCell', Nat.reduceLeDiff, undef, fcT, rd_rw za1, rd_rw za2, rd_rw za3]))
  (repeat' (first | ((refine gif_split (fun hs_ => ?_) (fun hs_ => ?_)) <;> (have hp_ := hs_; (try simp only [decide_eq_true_eq, decide_eq_false_iff_not, beq_iff_eq, bne_iff_ne, beq_eq_false_iff_ne, Bool.not_eq_true, Bool.and_eq_true, Bool.or_eq_true, Bool.and_eq_false_iff, Bool.or_eq_false_iff, bne_eq_false_iff_eq, ne_eq] at hp_); (try simp (disch := omega) only [bsW, WOp, WOq, WV, bo, gdc, gw, bnd, ↓reduceIte, Nat.reduceEqDiff, rsvs, rsv, oneOf, rdN, ne_eq, Nat.reduceAdd, Nat.reduceMul, Nat.reduceLT, reduceCtorEq, Value.cells, setN, Value.oneCell', Nat.reduceLeDiff, undef, fcT, rd_rw za1, rd_rw za2, rd_rw za3, hs_]))) | ((refine newB_i (fun nb_ hb_ => ?_)); (try simp (disch := omega) only [bsW, WOp, WOq, WV, bo, gdc, gw, bnd, ↓reduceIte, Nat.reduceEqDiff, rsvs, rsv, oneOf, rdN, ne_eq, Nat.reduceAdd, Nat.reduceMul, Nat.reduceLT, reduceCtorEq, Value.cells, setN, Value.oneCell', Nat.reduceLeDiff, undef, fcT, rd_rw za1, rd_rw za2, rd_rw za3])) | ((first | (refine QC_i (eqPuzzleO _ _ _ _ _ _ _ _ _ _ _ _ _ (by omega) (by omega) hR4_0 hR1_0) ?_) | (refine PC.ac (eqPuzzleO _ _ _ _ _ _ _ _ _ _ _ _ _ (by omega) (by omega) hR4_0 hR1_0) ?_) | (refine QC_i (heldPuzzleO _ _ _ _ _ _ (1) _ _ _ _ (by omega) (by omega) (by omega) hR2_0) ?_) | (refine PC.ac (heldPuzzleO _ _ _ _ _ _ (1) _ _ _ _ (by omega) (by omega) (by omega) hR2_0) ?_)); (try simp (disch := omega) only [bsW, WOp, WOq, WV, bo, gdc, gw, bnd, ↓reduceIte, Nat.reduceEqDiff, rsvs, rsv, oneOf, rdN, ne_eq, Nat.reduceAdd, Nat.reduceMul, Nat.reduceLT, reduceCtorEq, Value.cells, setN, Value.oneCell', Nat.reduceLeDiff, undef, fcT, rd_rw za1, rd_rw za2, rd_rw za3])) | (refine fun (hBd_ : Bd _ _) => ?_) | (refine And.intro (Sub.refl _) ?_) | (refine And.intro (sub_new (by assumption) (by assumption)) ?_) | (refine And.intro (And.intro (Sub.refl _) ?_) ?_) | (refine And.intro ?_ ?_; omega)))
  all_goals try (exfalso; omega)
  all_goals exact Is_i hsa3
theorem FnExactNewPuzzle_lifted (os : Os) (started : os.Started) (H : Type) (enc : TypeId × Value → H) :
    ReturnsInHanded {} Try.checked os 3 .any (Rows.fnExactNewPuzzleSpec.pre6 enc Try.prog Try.f3 Rows.fnExactNewPuzzleRow.domain false) (Rows.fnExactNewPuzzleSpec.post enc Try.prog Try.f3 false true false false) := by
  refine law_lifted (C := Try.checked) (tb := 4) x_laws_FnExactNewPuzzle.call (by kernel_rfl) started (by kernel_rfl) (by kernel_rfl) Try.func3 rfl (by kernel_rfl) (by kernel_rfl) (by kernel_rfl) ?_
    (ChangeSpec.witness6 (enc := enc) (C := Try.checked) false ⟨#[], #[.int .i64 0], []⟩ 8 (by kernel_rfl) (by kernel_rfl) (by kernel_rfl) (by kernel_rfl)) ?_
  · intro ds hd
    match ds, hd with
    | [d0], _ => rfl
  · intro W base args ha
    have hr : ArgsOK enc Try.prog W base Try.f3.params.toList args.toList := ha
    rw [Try.params3] at hr
    obtain ⟨u0, l0, e0, a0, hr⟩ := hr
    obtain ⟨b0, rfl, hb0⟩ := arg_int Try.underlying3 a0
    have hr : l0 = [] := hr
    have ea : args = #[.int .i64 b0] := by
      apply Array.ext'
      rw [e0, hr]
    subst ea
    exact lawNewPuzzle _ _ b0 hb0
theorem FnExactNewPuzzle_holds : Rows.FnExactNewPuzzleSaid :=
  OpenClaim.holds_of_wide 3 Try.f3 rfl rfl rfl rfl rfl rfl rfl ⟨rfl, rfl, rfl, rfl, rfl⟩ rfl rfl rfl rfl rfl (by kernel_rfl) Try.func3 (by kernel_rfl)
    (of_decide_eq_true (by kernel_rfl)) (by unfold Func.isWrapper; first | (rw [if_pos (by decide +kernel)]; kernel_rfl) | (rw [if_neg (by decide +kernel)]; exact ⟨rfl, rfl⟩))
    (fun os started H enc _ => FnExactNewPuzzle_lifted os started H enc)
end Go.Proofs.Ytbhabpenlaklcaa
