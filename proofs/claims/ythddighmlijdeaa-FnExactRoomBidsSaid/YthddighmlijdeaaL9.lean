/- The law RoomBids: the call gives true. -/
import Derived.Test.YthddighmlijdeaaC6
import Derived.Test.YthddighmlijdeaaE
import Derived.Test.YthddighmlijdeaaS3
import Derived.Test.YthddighmlijdeaaRows
set_option linter.unusedVariables false
set_option linter.unusedSimpArgs false
set_option maxRecDepth 100000
set_option maxHeartbeats 1000000
namespace Go.Proofs.Ythddighmlijdeaa
open Go Go.RowKit Go.Proofs
theorem lawRoomBids (H : Hp) (nx : Nat) (A0 : Option Addr) (n0 c0 : Nat) (f0 : Nat → Nat → Int) (hn0 : n0 ≤ 17592186044416) (h0 : Rd H A0 n0 2 f0) (A1 : Option Addr) (n1 c1 : Nat) (f1 : Nat → Nat → Int) (hn1 : n1 ≤ 17592186044416) (h1 : Rd H A1 n1 2 f1) (b2 : Int) (hb2 : -9223372036854775808 ≤ b2 ∧ b2 ≤ 9223372036854775807) :
    PC Try.prog 13 #[.slice A0 n0 c0, .slice A1 n1 c1, .int .i64 b2] H nx (.bool true) := by
  have hm : (rbL n0 f0 n1 f1 b2).length ≤ 101 := by
    exact rbL_len _ _ _ _ _
  refine AC_of x_laws_FnExactRoomBids rfl fun hB => ?_
  simp (disch := omega) only [bsW, WOp, WOq, WV, bo, gdc, gw, bnd, ↓reduceIte, Nat.reduceEqDiff, rsvs, rsv, oneOf, rdN, ne_eq, Nat.reduceAdd, Nat.reduceMul, Nat.reduceLT, reduceCtorEq, Value.cells, setN, Value.oneCell', Nat.reduceLeDiff, undef, fcT, c_laws_FnExactRoomBids]
  (repeat' (first | ((refine gif_split (fun hs_ => ?_) (fun hs_ => ?_)) <;> (have hp_ := hs_; (try simp only [decide_eq_true_eq, decide_eq_false_iff_not, beq_iff_eq, bne_iff_ne, beq_eq_false_iff_ne, Bool.not_eq_true, Bool.and_eq_true, Bool.or_eq_true, Bool.and_eq_false_iff, Bool.or_eq_false_iff, bne_eq_false_iff_eq, ne_eq] at hp_); (try simp (disch := omega) only [bsW, WOp, WOq, WV, bo, gdc, gw, bnd, ↓reduceIte, Nat.reduceEqDiff, rsvs, rsv, oneOf, rdN, ne_eq, Nat.reduceAdd, Nat.reduceMul, Nat.reduceLT, reduceCtorEq, Value.cells, setN, Value.oneCell', Nat.reduceLeDiff, undef, fcT, hs_]))) | ((refine newB_i (fun nb_ hb_ => ?_)); (try simp (disch := omega) only [bsW, WOp, WOq, WV, bo, gdc, gw, bnd, ↓reduceIte, Nat.reduceEqDiff, rsvs, rsv, oneOf, rdN, ne_eq, Nat.reduceAdd, Nat.reduceMul, Nat.reduceLT, reduceCtorEq, Value.cells, setN, Value.oneCell', Nat.reduceLeDiff, undef, fcT])) | ((first | (refine QC_i (szBidStep A0 n0 c0 _ _ _ hn0 (by omega)) ?_) | (refine PC.ac (szBidStep A0 n0 c0 _ _ _ hn0 (by omega)) ?_) | (refine QC_i (szAbsentee A1 n1 c1 _ _ _ hn1 (by split <;> omega)) ?_) | (refine PC.ac (szAbsentee A1 n1 c1 _ _ _ hn1 (by split <;> omega)) ?_)); (try simp (disch := omega) only [bsW, WOp, WOq, WV, bo, gdc, gw, bnd, ↓reduceIte, Nat.reduceEqDiff, rsvs, rsv, oneOf, rdN, ne_eq, Nat.reduceAdd, Nat.reduceMul, Nat.reduceLT, reduceCtorEq, Value.cells, setN, Value.oneCell', Nat.reduceLeDiff, undef, fcT])) | (refine And.intro ?_ ?_; omega)))
  · exact Is_i (Sub.refl H)
  · exact Is_i (Sub.refl H)
  · obtain ⟨hn0', hn1'⟩ : n0 ≤ 1048576 ∧ n1 ≤ 1048576 := sz2 (by assumption) (by assumption)
    have hs0 : Sub H H := Sub.refl H
    have hx0 : nx ≤ nx := Nat.le_refl nx
    refine (toBidStepS _ _ _ _ _ _ hn0' (h0.sub hs0)).mono2 ?_
    rintro v1 H1 nx1 hx1 ⟨⟨q1, rfl, hq1, hl1, hc1⟩, ht1⟩
    have hs1 := hs0.trans ht1
    simp (disch := omega) only [bsW, WOp, WOq, WV, bo, gdc, gw, bnd, ↓reduceIte, Nat.reduceEqDiff, rsvs, rsv, oneOf, rdN, ne_eq, Nat.reduceAdd, Nat.reduceMul, Nat.reduceLT, reduceCtorEq, Value.cells, setN, Value.oneCell', Nat.reduceLeDiff, undef, fcT]
    (repeat' (first | ((refine gif_split (fun hs_ => ?_) (fun hs_ => ?_)) <;> (have hp_ := hs_; (try simp only [decide_eq_true_eq, decide_eq_false_iff_not, beq_iff_eq, bne_iff_ne, beq_eq_false_iff_ne, Bool.not_eq_true, Bool.and_eq_true, Bool.or_eq_true, Bool.and_eq_false_iff, Bool.or_eq_false_iff, bne_eq_false_iff_eq, ne_eq] at hp_); (try simp (disch := omega) only [bsW, WOp, WOq, WV, bo, gdc, gw, bnd, ↓reduceIte, Nat.reduceEqDiff, rsvs, rsv, oneOf, rdN, ne_eq, Nat.reduceAdd, Nat.reduceMul, Nat.reduceLT, reduceCtorEq, Value.cells, setN, Value.oneCell', Nat.reduceLeDiff, undef, fcT, hs_]))) | ((refine newB_i (fun nb_ hb_ => ?_)); (try simp (disch := omega) only [bsW, WOp, WOq, WV, bo, gdc, gw, bnd, ↓reduceIte, Nat.reduceEqDiff, rsvs, rsv, oneOf, rdN, ne_eq, Nat.reduceAdd, Nat.reduceMul, Nat.reduceLT, reduceCtorEq, Value.cells, setN, Value.oneCell', Nat.reduceLeDiff, undef, fcT])) | (refine And.intro ?_ ?_; omega)))
    all_goals try (exfalso; omega)
    refine (toAbsenteeS _ _ _ _ _ _ hn1' (h1.sub hs1)).mono2 ?_
    rintro v2 H2 nx2 hx2 ⟨⟨q2, rfl, hq2, hl2, hc2⟩, ht2⟩
    have hs2 := hs1.trans ht2
    replace hc1 := ht2 _ _ hc1
    simp (disch := omega) only [bsW, WOp, WOq, WV, bo, gdc, gw, bnd, ↓reduceIte, Nat.reduceEqDiff, rsvs, rsv, oneOf, rdN, ne_eq, Nat.reduceAdd, Nat.reduceMul, Nat.reduceLT, reduceCtorEq, Value.cells, setN, Value.oneCell', Nat.reduceLeDiff, undef, fcT]
    (repeat' (first | ((refine gif_split (fun hs_ => ?_) (fun hs_ => ?_)) <;> (have hp_ := hs_; (try simp only [decide_eq_true_eq, decide_eq_false_iff_not, beq_iff_eq, bne_iff_ne, beq_eq_false_iff_ne, Bool.not_eq_true, Bool.and_eq_true, Bool.or_eq_true, Bool.and_eq_false_iff, Bool.or_eq_false_iff, bne_eq_false_iff_eq, ne_eq] at hp_); (try simp (disch := omega) only [bsW, WOp, WOq, WV, bo, gdc, gw, bnd, ↓reduceIte, Nat.reduceEqDiff, rsvs, rsv, oneOf, rdN, ne_eq, Nat.reduceAdd, Nat.reduceMul, Nat.reduceLT, reduceCtorEq, Value.cells, setN, Value.oneCell', Nat.reduceLeDiff, undef, fcT, hs_]))) | ((refine newB_i (fun nb_ hb_ => ?_)); (try simp (disch := omega) only [bsW, WOp, WOq, WV, bo, gdc, gw, bnd, ↓reduceIte, Nat.reduceEqDiff, rsvs, rsv, oneOf, rdN, ne_eq, Nat.reduceAdd, Nat.reduceMul, Nat.reduceLT, reduceCtorEq, Value.cells, setN, Value.oneCell', Nat.reduceLeDiff, undef, fcT])) | (refine And.intro ?_ ?_; omega)))
    all_goals try (exfalso; omega)
    refine (sRoomBids _ _ _ _ _ _ _ _ b2 _ _ (by omega) (by omega) (Rd.of hc1) (Rd.of hc2)).mono2 ?_
    rintro v3 H3 nx3 hx3 ⟨w3, rfl, hO3, ht3⟩
    have hs3 := hs2.trans ht3
    replace hc1 := ht3 _ _ hc1
    replace hc2 := ht3 _ _ hc2
    have hb3 : ∀ c, some c = ownBlk w3 → nx2 ≤ c ∧ c < nx3 := fun c hc => hO3.blk hc
    simp (disch := omega) only [bsW, WOp, WOq, WV, bo, gdc, gw, bnd, ↓reduceIte, Nat.reduceEqDiff, rsvs, rsv, oneOf, rdN, ne_eq, Nat.reduceAdd, Nat.reduceMul, Nat.reduceLT, reduceCtorEq, Value.cells, setN, Value.oneCell', Nat.reduceLeDiff, undef, fcT]
    (repeat' (first | ((refine gif_split (fun hs_ => ?_) (fun hs_ => ?_)) <;> (have hp_ := hs_; (try simp only [decide_eq_true_eq, decide_eq_false_iff_not, beq_iff_eq, bne_iff_ne, beq_eq_false_iff_ne, Bool.not_eq_true, Bool.and_eq_true, Bool.or_eq_true, Bool.and_eq_false_iff, Bool.or_eq_false_iff, bne_eq_false_iff_eq, ne_eq] at hp_); (try simp (disch := omega) only [bsW, WOp, WOq, WV, bo, gdc, gw, bnd, ↓reduceIte, Nat.reduceEqDiff, rsvs, rsv, oneOf, rdN, ne_eq, Nat.reduceAdd, Nat.reduceMul, Nat.reduceLT, reduceCtorEq, Value.cells, setN, Value.oneCell', Nat.reduceLeDiff, undef, fcT, hs_]))) | ((refine newB_i (fun nb_ hb_ => ?_)); (try simp (disch := omega) only [bsW, WOp, WOq, WV, bo, gdc, gw, bnd, ↓reduceIte, Nat.reduceEqDiff, rsvs, rsv, oneOf, rdN, ne_eq, Nat.reduceAdd, Nat.reduceMul, Nat.reduceLT, reduceCtorEq, Value.cells, setN, Value.oneCell', Nat.reduceLeDiff, undef, fcT])) | (refine And.intro ?_ ?_; omega)))
    all_goals try (exfalso; omega)
    refine (toBidStepS _ _ _ _ _ _ hn0' (h0.sub hs3)).mono2 ?_
    rintro v4 H4 nx4 hx4 ⟨⟨q4, rfl, hq4, hl4, hc4⟩, ht4⟩
    have hs4 := hs3.trans ht4
    replace hO3 := hO3.sub ht4 (Nat.le_refl _)
    simp (disch := omega) only [bsW, WOp, WOq, WV, bo, gdc, gw, bnd, ↓reduceIte, Nat.reduceEqDiff, rsvs, rsv, oneOf, rdN, ne_eq, Nat.reduceAdd, Nat.reduceMul, Nat.reduceLT, reduceCtorEq, Value.cells, setN, Value.oneCell', Nat.reduceLeDiff, undef, fcT]
    (repeat' (first | ((refine gif_split (fun hs_ => ?_) (fun hs_ => ?_)) <;> (have hp_ := hs_; (try simp only [decide_eq_true_eq, decide_eq_false_iff_not, beq_iff_eq, bne_iff_ne, beq_eq_false_iff_ne, Bool.not_eq_true, Bool.and_eq_true, Bool.or_eq_true, Bool.and_eq_false_iff, Bool.or_eq_false_iff, bne_eq_false_iff_eq, ne_eq] at hp_); (try simp (disch := omega) only [bsW, WOp, WOq, WV, bo, gdc, gw, bnd, ↓reduceIte, Nat.reduceEqDiff, rsvs, rsv, oneOf, rdN, ne_eq, Nat.reduceAdd, Nat.reduceMul, Nat.reduceLT, reduceCtorEq, Value.cells, setN, Value.oneCell', Nat.reduceLeDiff, undef, fcT, hs_]))) | ((refine newB_i (fun nb_ hb_ => ?_)); (try simp (disch := omega) only [bsW, WOp, WOq, WV, bo, gdc, gw, bnd, ↓reduceIte, Nat.reduceEqDiff, rsvs, rsv, oneOf, rdN, ne_eq, Nat.reduceAdd, Nat.reduceMul, Nat.reduceLT, reduceCtorEq, Value.cells, setN, Value.oneCell', Nat.reduceLeDiff, undef, fcT])) | (refine And.intro ?_ ?_; omega)))
    all_goals try (exfalso; omega)
    refine (toAbsenteeS _ _ _ _ _ _ hn1' (h1.sub hs4)).mono2 ?_
    rintro v5 H5 nx5 hx5 ⟨⟨q5, rfl, hq5, hl5, hc5⟩, ht5⟩
    have hs5 := hs4.trans ht5
    replace hc4 := ht5 _ _ hc4
    replace hO3 := hO3.sub ht5 (Nat.le_refl _)
    simp (disch := omega) only [bsW, WOp, WOq, WV, bo, gdc, gw, bnd, ↓reduceIte, Nat.reduceEqDiff, rsvs, rsv, oneOf, rdN, ne_eq, Nat.reduceAdd, Nat.reduceMul, Nat.reduceLT, reduceCtorEq, Value.cells, setN, Value.oneCell', Nat.reduceLeDiff, undef, fcT]
    (repeat' (first | ((refine gif_split (fun hs_ => ?_) (fun hs_ => ?_)) <;> (have hp_ := hs_; (try simp only [decide_eq_true_eq, decide_eq_false_iff_not, beq_iff_eq, bne_iff_ne, beq_eq_false_iff_ne, Bool.not_eq_true, Bool.and_eq_true, Bool.or_eq_true, Bool.and_eq_false_iff, Bool.or_eq_false_iff, bne_eq_false_iff_eq, ne_eq] at hp_); (try simp (disch := omega) only [bsW, WOp, WOq, WV, bo, gdc, gw, bnd, ↓reduceIte, Nat.reduceEqDiff, rsvs, rsv, oneOf, rdN, ne_eq, Nat.reduceAdd, Nat.reduceMul, Nat.reduceLT, reduceCtorEq, Value.cells, setN, Value.oneCell', Nat.reduceLeDiff, undef, fcT, hs_]))) | ((refine newB_i (fun nb_ hb_ => ?_)); (try simp (disch := omega) only [bsW, WOp, WOq, WV, bo, gdc, gw, bnd, ↓reduceIte, Nat.reduceEqDiff, rsvs, rsv, oneOf, rdN, ne_eq, Nat.reduceAdd, Nat.reduceMul, Nat.reduceLT, reduceCtorEq, Value.cells, setN, Value.oneCell', Nat.reduceLeDiff, undef, fcT])) | (refine And.intro ?_ ?_; omega)))
    all_goals try (exfalso; omega)
    refine (RoomBids _ _ _ _ _ _ _ _ b2 _ _ (by omega) (by omega) (Nat.le_refl _) (Rd.of hc4) (Rd.of hc5)).mono2 ?_
    rintro v6 H6 nx6 hx6 ⟨w6, rfl, hO6, ht6⟩
    have hs6 := hs5.trans ht6
    replace hc4 := ht6 _ _ hc4
    replace hc5 := ht6 _ _ hc5
    replace hO3 := hO3.sub ht6 (Nat.le_refl _)
    have hb6 : ∀ c, some c = ownBlk w6 → nx5 ≤ c ∧ c < nx6 := fun c hc => hO6.blk hc
    simp (disch := omega) only [bsW, WOp, WOq, WV, bo, gdc, gw, bnd, ↓reduceIte, Nat.reduceEqDiff, rsvs, rsv, oneOf, rdN, ne_eq, Nat.reduceAdd, Nat.reduceMul, Nat.reduceLT, reduceCtorEq, Value.cells, setN, Value.oneCell', Nat.reduceLeDiff, undef, fcT]
    (repeat' (first | ((refine gif_split (fun hs_ => ?_) (fun hs_ => ?_)) <;> (have hp_ := hs_; (try simp only [decide_eq_true_eq, decide_eq_false_iff_not, beq_iff_eq, bne_iff_ne, beq_eq_false_iff_ne, Bool.not_eq_true, Bool.and_eq_true, Bool.or_eq_true, Bool.and_eq_false_iff, Bool.or_eq_false_iff, bne_eq_false_iff_eq, ne_eq] at hp_); (try simp (disch := omega) only [bsW, WOp, WOq, WV, bo, gdc, gw, bnd, ↓reduceIte, Nat.reduceEqDiff, rsvs, rsv, oneOf, rdN, ne_eq, Nat.reduceAdd, Nat.reduceMul, Nat.reduceLT, reduceCtorEq, Value.cells, setN, Value.oneCell', Nat.reduceLeDiff, undef, fcT, hs_]))) | ((refine newB_i (fun nb_ hb_ => ?_)); (try simp (disch := omega) only [bsW, WOp, WOq, WV, bo, gdc, gw, bnd, ↓reduceIte, Nat.reduceEqDiff, rsvs, rsv, oneOf, rdN, ne_eq, Nat.reduceAdd, Nat.reduceMul, Nat.reduceLT, reduceCtorEq, Value.cells, setN, Value.oneCell', Nat.reduceLeDiff, undef, fcT])) | ((first | (refine QC_i (eqIntO _ _ _ _ _ _ _ _ _ _ _ (by omega) hO6 hO3) ?_) | (refine PC.ac (eqIntO _ _ _ _ _ _ _ _ _ _ _ (by omega) hO6 hO3) ?_)); (try simp (disch := omega) only [bsW, WOp, WOq, WV, bo, gdc, gw, bnd, ↓reduceIte, Nat.reduceEqDiff, rsvs, rsv, oneOf, rdN, ne_eq, Nat.reduceAdd, Nat.reduceMul, Nat.reduceLT, reduceCtorEq, Value.cells, setN, Value.oneCell', Nat.reduceLeDiff, undef, fcT])) | (refine And.intro ?_ ?_; omega)))
    all_goals try (exfalso; omega)
    refine (toBidStepS _ _ _ _ _ _ hn0' (h0.sub hs6)).mono2 ?_
    rintro v7 H7 nx7 hx7 ⟨⟨q7, rfl, hq7, hl7, hc7⟩, ht7⟩
    have hs7 := hs6.trans ht7
    replace hc4 := ht7 _ _ hc4
    replace hc5 := ht7 _ _ hc5
    replace hO3 := hO3.sub ht7 (Nat.le_refl _)
    replace hO6 := hO6.sub ht7 (Nat.le_refl _)
    simp (disch := omega) only [bsW, WOp, WOq, WV, bo, gdc, gw, bnd, ↓reduceIte, Nat.reduceEqDiff, rsvs, rsv, oneOf, rdN, ne_eq, Nat.reduceAdd, Nat.reduceMul, Nat.reduceLT, reduceCtorEq, Value.cells, setN, Value.oneCell', Nat.reduceLeDiff, undef, fcT]
    (repeat' (first | ((refine gif_split (fun hs_ => ?_) (fun hs_ => ?_)) <;> (have hp_ := hs_; (try simp only [decide_eq_true_eq, decide_eq_false_iff_not, beq_iff_eq, bne_iff_ne, beq_eq_false_iff_ne, Bool.not_eq_true, Bool.and_eq_true, Bool.or_eq_true, Bool.and_eq_false_iff, Bool.or_eq_false_iff, bne_eq_false_iff_eq, ne_eq] at hp_); (try simp (disch := omega) only [bsW, WOp, WOq, WV, bo, gdc, gw, bnd, ↓reduceIte, Nat.reduceEqDiff, rsvs, rsv, oneOf, rdN, ne_eq, Nat.reduceAdd, Nat.reduceMul, Nat.reduceLT, reduceCtorEq, Value.cells, setN, Value.oneCell', Nat.reduceLeDiff, undef, fcT, hs_]))) | ((refine newB_i (fun nb_ hb_ => ?_)); (try simp (disch := omega) only [bsW, WOp, WOq, WV, bo, gdc, gw, bnd, ↓reduceIte, Nat.reduceEqDiff, rsvs, rsv, oneOf, rdN, ne_eq, Nat.reduceAdd, Nat.reduceMul, Nat.reduceLT, reduceCtorEq, Value.cells, setN, Value.oneCell', Nat.reduceLeDiff, undef, fcT])) | ((first | (refine QC_i (eqBidStepS _ _ _ _ _ _ _ _ (by omega) (Rd.of hc4) (Rd.of hc7)) ?_) | (refine PC.ac (eqBidStepS _ _ _ _ _ _ _ _ (by omega) (Rd.of hc4) (Rd.of hc7)) ?_)); (try simp (disch := omega) only [bsW, WOp, WOq, WV, bo, gdc, gw, bnd, ↓reduceIte, Nat.reduceEqDiff, rsvs, rsv, oneOf, rdN, ne_eq, Nat.reduceAdd, Nat.reduceMul, Nat.reduceLT, reduceCtorEq, Value.cells, setN, Value.oneCell', Nat.reduceLeDiff, undef, fcT])) | (refine And.intro ?_ ?_; omega)))
    all_goals try (exfalso; omega)
    refine (toAbsenteeS _ _ _ _ _ _ hn1' (h1.sub hs7)).mono2 ?_
    rintro v8 H8 nx8 hx8 ⟨⟨q8, rfl, hq8, hl8, hc8⟩, ht8⟩
    have hs8 := hs7.trans ht8
    replace hc4 := ht8 _ _ hc4
    replace hc5 := ht8 _ _ hc5
    replace hO3 := hO3.sub ht8 (Nat.le_refl _)
    replace hO6 := hO6.sub ht8 (Nat.le_refl _)
    simp (disch := omega) only [bsW, WOp, WOq, WV, bo, gdc, gw, bnd, ↓reduceIte, Nat.reduceEqDiff, rsvs, rsv, oneOf, rdN, ne_eq, Nat.reduceAdd, Nat.reduceMul, Nat.reduceLT, reduceCtorEq, Value.cells, setN, Value.oneCell', Nat.reduceLeDiff, undef, fcT]
    (repeat' (first | ((refine gif_split (fun hs_ => ?_) (fun hs_ => ?_)) <;> (have hp_ := hs_; (try simp only [decide_eq_true_eq, decide_eq_false_iff_not, beq_iff_eq, bne_iff_ne, beq_eq_false_iff_ne, Bool.not_eq_true, Bool.and_eq_true, Bool.or_eq_true, Bool.and_eq_false_iff, Bool.or_eq_false_iff, bne_eq_false_iff_eq, ne_eq] at hp_); (try simp (disch := omega) only [bsW, WOp, WOq, WV, bo, gdc, gw, bnd, ↓reduceIte, Nat.reduceEqDiff, rsvs, rsv, oneOf, rdN, ne_eq, Nat.reduceAdd, Nat.reduceMul, Nat.reduceLT, reduceCtorEq, Value.cells, setN, Value.oneCell', Nat.reduceLeDiff, undef, fcT, hs_]))) | ((refine newB_i (fun nb_ hb_ => ?_)); (try simp (disch := omega) only [bsW, WOp, WOq, WV, bo, gdc, gw, bnd, ↓reduceIte, Nat.reduceEqDiff, rsvs, rsv, oneOf, rdN, ne_eq, Nat.reduceAdd, Nat.reduceMul, Nat.reduceLT, reduceCtorEq, Value.cells, setN, Value.oneCell', Nat.reduceLeDiff, undef, fcT])) | ((first | (refine QC_i (eqAbsenteeS _ _ _ _ _ _ _ _ (by omega) (Rd.of hc5) (Rd.of hc8)) ?_) | (refine PC.ac (eqAbsenteeS _ _ _ _ _ _ _ _ (by omega) (Rd.of hc5) (Rd.of hc8)) ?_)); (try simp (disch := omega) only [bsW, WOp, WOq, WV, bo, gdc, gw, bnd, ↓reduceIte, Nat.reduceEqDiff, rsvs, rsv, oneOf, rdN, ne_eq, Nat.reduceAdd, Nat.reduceMul, Nat.reduceLT, reduceCtorEq, Value.cells, setN, Value.oneCell', Nat.reduceLeDiff, undef, fcT])) | (refine And.intro ?_ ?_; omega)))
    all_goals try (exfalso; omega)
    have hOi0 : OwnR H8 nx3 nx8 n0 2 f0 64 (.slice (some ⟨q4, 0, none⟩) n0 n0) := .of hq4 (by omega) hc4 hn0'
    refine (markBidStepS _ _ _ (1) _ _ _ hn0' (by omega) hOi0).mono2 ?_
    rintro v9 H9 nx9 hx9 ⟨rfl, hO9, hoth9⟩
    have hs9 := sub_oth hO9 (by omega) hB hs8 hoth9
    replace hc5 := (hoth9 _ (fun e => by have e3 : q5 = q4 := (by simpa [ownBlk] using e); omega)).trans hc5
    replace hO3 := hO3.oth hoth9 (Nat.le_refl _) (fun c e1 e2 => by have e3 : c = q4 := (by simpa [ownBlk] using e2); have := hb3 _ e1; omega)
    replace hO6 := hO6.oth hoth9 (Nat.le_refl _) (fun c e1 e2 => by have e3 : c = q4 := (by simpa [ownBlk] using e2); have := hb6 _ e1; omega)
    simp (disch := omega) only [bsW, WOp, WOq, WV, bo, gdc, gw, bnd, ↓reduceIte, Nat.reduceEqDiff, rsvs, rsv, oneOf, rdN, ne_eq, Nat.reduceAdd, Nat.reduceMul, Nat.reduceLT, reduceCtorEq, Value.cells, setN, Value.oneCell', Nat.reduceLeDiff, undef, fcT]
    (repeat' (first | ((refine gif_split (fun hs_ => ?_) (fun hs_ => ?_)) <;> (have hp_ := hs_; (try simp only [decide_eq_true_eq, decide_eq_false_iff_not, beq_iff_eq, bne_iff_ne, beq_eq_false_iff_ne, Bool.not_eq_true, Bool.and_eq_true, Bool.or_eq_true, Bool.and_eq_false_iff, Bool.or_eq_false_iff, bne_eq_false_iff_eq, ne_eq] at hp_); (try simp (disch := omega) only [bsW, WOp, WOq, WV, bo, gdc, gw, bnd, ↓reduceIte, Nat.reduceEqDiff, rsvs, rsv, oneOf, rdN, ne_eq, Nat.reduceAdd, Nat.reduceMul, Nat.reduceLT, reduceCtorEq, Value.cells, setN, Value.oneCell', Nat.reduceLeDiff, undef, fcT, hs_]))) | ((refine newB_i (fun nb_ hb_ => ?_)); (try simp (disch := omega) only [bsW, WOp, WOq, WV, bo, gdc, gw, bnd, ↓reduceIte, Nat.reduceEqDiff, rsvs, rsv, oneOf, rdN, ne_eq, Nat.reduceAdd, Nat.reduceMul, Nat.reduceLT, reduceCtorEq, Value.cells, setN, Value.oneCell', Nat.reduceLeDiff, undef, fcT])) | (refine And.intro ?_ ?_; omega)))
    all_goals try (exfalso; omega)
    have hOi1 : OwnR H9 nx4 nx9 n1 2 f1 69 (.slice (some ⟨q5, 0, none⟩) n1 n1) := .of hq5 (by omega) hc5 hn1'
    refine (markAbsenteeS _ _ _ (1 + (n0 : Int) * 2) _ _ _ hn1' (by omega) hOi1).mono2 ?_
    rintro v10 H10 nx10 hx10 ⟨rfl, hO10, hoth10⟩
    have hs10 := sub_oth hO10 (by omega) hB hs9 hoth10
    replace hO3 := hO3.oth hoth10 (Nat.le_refl _) (fun c e1 e2 => by have e3 : c = q5 := (by simpa [ownBlk] using e2); have := hb3 _ e1; omega)
    replace hO6 := hO6.oth hoth10 (Nat.le_refl _) (fun c e1 e2 => by have e3 : c = q5 := (by simpa [ownBlk] using e2); have := hb6 _ e1; omega)
    simp (disch := omega) only [bsW, WOp, WOq, WV, bo, gdc, gw, bnd, ↓reduceIte, Nat.reduceEqDiff, rsvs, rsv, oneOf, rdN, ne_eq, Nat.reduceAdd, Nat.reduceMul, Nat.reduceLT, reduceCtorEq, Value.cells, setN, Value.oneCell', Nat.reduceLeDiff, undef, fcT]
    (repeat' (first | ((refine gif_split (fun hs_ => ?_) (fun hs_ => ?_)) <;> (have hp_ := hs_; (try simp only [decide_eq_true_eq, decide_eq_false_iff_not, beq_iff_eq, bne_iff_ne, beq_eq_false_iff_ne, Bool.not_eq_true, Bool.and_eq_true, Bool.or_eq_true, Bool.and_eq_false_iff, Bool.or_eq_false_iff, bne_eq_false_iff_eq, ne_eq] at hp_); (try simp (disch := omega) only [bsW, WOp, WOq, WV, bo, gdc, gw, bnd, ↓reduceIte, Nat.reduceEqDiff, rsvs, rsv, oneOf, rdN, ne_eq, Nat.reduceAdd, Nat.reduceMul, Nat.reduceLT, reduceCtorEq, Value.cells, setN, Value.oneCell', Nat.reduceLeDiff, undef, fcT, hs_]))) | ((refine newB_i (fun nb_ hb_ => ?_)); (try simp (disch := omega) only [bsW, WOp, WOq, WV, bo, gdc, gw, bnd, ↓reduceIte, Nat.reduceEqDiff, rsvs, rsv, oneOf, rdN, ne_eq, Nat.reduceAdd, Nat.reduceMul, Nat.reduceLT, reduceCtorEq, Value.cells, setN, Value.oneCell', Nat.reduceLeDiff, undef, fcT])) | ((first | (refine QC_i (eqIntO _ _ _ _ _ _ _ _ _ _ _ (by omega) hO6 hO3) ?_) | (refine PC.ac (eqIntO _ _ _ _ _ _ _ _ _ _ _ (by omega) hO6 hO3) ?_)); (try simp (disch := omega) only [bsW, WOp, WOq, WV, bo, gdc, gw, bnd, ↓reduceIte, Nat.reduceEqDiff, rsvs, rsv, oneOf, rdN, ne_eq, Nat.reduceAdd, Nat.reduceMul, Nat.reduceLT, reduceCtorEq, Value.cells, setN, Value.oneCell', Nat.reduceLeDiff, undef, fcT])) | (refine And.intro ?_ ?_; omega)))
    all_goals try (exfalso; omega)
    refine (markIntS _ _ _ 1 _ _ _ (by omega) (by omega) (hO6.sub (Sub.refl _) (show nx6 ≤ nx10 by omega))).mono2 ?_
    rintro v11 H11 nx11 hx11 ⟨rfl, hO11, hoth11⟩
    have hs11 := sub_oth hO11 (by omega) hB hs10 hoth11
    replace hO3 := hO3.oth hoth11 (Nat.le_refl _) (fun c e1 e2 => by have := hb3 _ e1; have := hb6 _ e2; omega)
    simp (disch := omega) only [bsW, WOp, WOq, WV, bo, gdc, gw, bnd, ↓reduceIte, Nat.reduceEqDiff, rsvs, rsv, oneOf, rdN, ne_eq, Nat.reduceAdd, Nat.reduceMul, Nat.reduceLT, reduceCtorEq, Value.cells, setN, Value.oneCell', Nat.reduceLeDiff, undef, fcT]
    (repeat' (first | ((refine gif_split (fun hs_ => ?_) (fun hs_ => ?_)) <;> (have hp_ := hs_; (try simp only [decide_eq_true_eq, decide_eq_false_iff_not, beq_iff_eq, bne_iff_ne, beq_eq_false_iff_ne, Bool.not_eq_true, Bool.and_eq_true, Bool.or_eq_true, Bool.and_eq_false_iff, Bool.or_eq_false_iff, bne_eq_false_iff_eq, ne_eq] at hp_); (try simp (disch := omega) only [bsW, WOp, WOq, WV, bo, gdc, gw, bnd, ↓reduceIte, Nat.reduceEqDiff, rsvs, rsv, oneOf, rdN, ne_eq, Nat.reduceAdd, Nat.reduceMul, Nat.reduceLT, reduceCtorEq, Value.cells, setN, Value.oneCell', Nat.reduceLeDiff, undef, fcT, hs_]))) | ((refine newB_i (fun nb_ hb_ => ?_)); (try simp (disch := omega) only [bsW, WOp, WOq, WV, bo, gdc, gw, bnd, ↓reduceIte, Nat.reduceEqDiff, rsvs, rsv, oneOf, rdN, ne_eq, Nat.reduceAdd, Nat.reduceMul, Nat.reduceLT, reduceCtorEq, Value.cells, setN, Value.oneCell', Nat.reduceLeDiff, undef, fcT])) | ((first | (refine QC_i (heldIntO _ _ 1 _ _ _ _ (by omega) (by omega) hO11) ?_) | (refine PC.ac (heldIntO _ _ 1 _ _ _ _ (by omega) (by omega) hO11) ?_)); (try simp (disch := omega) only [bsW, WOp, WOq, WV, bo, gdc, gw, bnd, ↓reduceIte, Nat.reduceEqDiff, rsvs, rsv, oneOf, rdN, ne_eq, Nat.reduceAdd, Nat.reduceMul, Nat.reduceLT, reduceCtorEq, Value.cells, setN, Value.oneCell', Nat.reduceLeDiff, undef, fcT])) | (refine And.intro ?_ ?_; omega)))
    all_goals try (exfalso; omega)
    refine (toBidStepS _ _ _ _ _ _ hn0' (h0.sub hs11)).mono2 ?_
    rintro v12 H12 nx12 hx12 ⟨⟨q12, rfl, hq12, hl12, hc12⟩, ht12⟩
    have hs12 := hs11.trans ht12
    replace hO3 := hO3.sub ht12 (Nat.le_refl _)
    replace hO11 := hO11.sub ht12 (Nat.le_refl _)
    simp (disch := omega) only [bsW, WOp, WOq, WV, bo, gdc, gw, bnd, ↓reduceIte, Nat.reduceEqDiff, rsvs, rsv, oneOf, rdN, ne_eq, Nat.reduceAdd, Nat.reduceMul, Nat.reduceLT, reduceCtorEq, Value.cells, setN, Value.oneCell', Nat.reduceLeDiff, undef, fcT]
    (repeat' (first | ((refine gif_split (fun hs_ => ?_) (fun hs_ => ?_)) <;> (have hp_ := hs_; (try simp only [decide_eq_true_eq, decide_eq_false_iff_not, beq_iff_eq, bne_iff_ne, beq_eq_false_iff_ne, Bool.not_eq_true, Bool.and_eq_true, Bool.or_eq_true, Bool.and_eq_false_iff, Bool.or_eq_false_iff, bne_eq_false_iff_eq, ne_eq] at hp_); (try simp (disch := omega) only [bsW, WOp, WOq, WV, bo, gdc, gw, bnd, ↓reduceIte, Nat.reduceEqDiff, rsvs, rsv, oneOf, rdN, ne_eq, Nat.reduceAdd, Nat.reduceMul, Nat.reduceLT, reduceCtorEq, Value.cells, setN, Value.oneCell', Nat.reduceLeDiff, undef, fcT, hs_]))) | ((refine newB_i (fun nb_ hb_ => ?_)); (try simp (disch := omega) only [bsW, WOp, WOq, WV, bo, gdc, gw, bnd, ↓reduceIte, Nat.reduceEqDiff, rsvs, rsv, oneOf, rdN, ne_eq, Nat.reduceAdd, Nat.reduceMul, Nat.reduceLT, reduceCtorEq, Value.cells, setN, Value.oneCell', Nat.reduceLeDiff, undef, fcT])) | (refine And.intro ?_ ?_; omega)))
    all_goals try (exfalso; omega)
    refine (toAbsenteeS _ _ _ _ _ _ hn1' (h1.sub hs12)).mono2 ?_
    rintro v13 H13 nx13 hx13 ⟨⟨q13, rfl, hq13, hl13, hc13⟩, ht13⟩
    have hs13 := hs12.trans ht13
    replace hc12 := ht13 _ _ hc12
    replace hO3 := hO3.sub ht13 (Nat.le_refl _)
    replace hO11 := hO11.sub ht13 (Nat.le_refl _)
    simp (disch := omega) only [bsW, WOp, WOq, WV, bo, gdc, gw, bnd, ↓reduceIte, Nat.reduceEqDiff, rsvs, rsv, oneOf, rdN, ne_eq, Nat.reduceAdd, Nat.reduceMul, Nat.reduceLT, reduceCtorEq, Value.cells, setN, Value.oneCell', Nat.reduceLeDiff, undef, fcT]
    (repeat' (first | ((refine gif_split (fun hs_ => ?_) (fun hs_ => ?_)) <;> (have hp_ := hs_; (try simp only [decide_eq_true_eq, decide_eq_false_iff_not, beq_iff_eq, bne_iff_ne, beq_eq_false_iff_ne, Bool.not_eq_true, Bool.and_eq_true, Bool.or_eq_true, Bool.and_eq_false_iff, Bool.or_eq_false_iff, bne_eq_false_iff_eq, ne_eq] at hp_); (try simp (disch := omega) only [bsW, WOp, WOq, WV, bo, gdc, gw, bnd, ↓reduceIte, Nat.reduceEqDiff, rsvs, rsv, oneOf, rdN, ne_eq, Nat.reduceAdd, Nat.reduceMul, Nat.reduceLT, reduceCtorEq, Value.cells, setN, Value.oneCell', Nat.reduceLeDiff, undef, fcT, hs_]))) | ((refine newB_i (fun nb_ hb_ => ?_)); (try simp (disch := omega) only [bsW, WOp, WOq, WV, bo, gdc, gw, bnd, ↓reduceIte, Nat.reduceEqDiff, rsvs, rsv, oneOf, rdN, ne_eq, Nat.reduceAdd, Nat.reduceMul, Nat.reduceLT, reduceCtorEq, Value.cells, setN, Value.oneCell', Nat.reduceLeDiff, undef, fcT])) | (refine And.intro ?_ ?_; omega)))
    all_goals try (exfalso; omega)
    refine (RoomBids _ _ _ _ _ _ _ _ b2 _ _ (by omega) (by omega) (Nat.le_refl _) (Rd.of hc12) (Rd.of hc13)).mono2 ?_
    rintro v14 H14 nx14 hx14 ⟨w14, rfl, hO14, ht14⟩
    have hs14 := hs13.trans ht14
    replace hc12 := ht14 _ _ hc12
    replace hc13 := ht14 _ _ hc13
    replace hO3 := hO3.sub ht14 (Nat.le_refl _)
    replace hO11 := hO11.sub ht14 (Nat.le_refl _)
    have hb14 : ∀ c, some c = ownBlk w14 → nx13 ≤ c ∧ c < nx14 := fun c hc => hO14.blk hc
    simp (disch := omega) only [bsW, WOp, WOq, WV, bo, gdc, gw, bnd, ↓reduceIte, Nat.reduceEqDiff, rsvs, rsv, oneOf, rdN, ne_eq, Nat.reduceAdd, Nat.reduceMul, Nat.reduceLT, reduceCtorEq, Value.cells, setN, Value.oneCell', Nat.reduceLeDiff, undef, fcT]
    (repeat' (first | ((refine gif_split (fun hs_ => ?_) (fun hs_ => ?_)) <;> (have hp_ := hs_; (try simp only [decide_eq_true_eq, decide_eq_false_iff_not, beq_iff_eq, bne_iff_ne, beq_eq_false_iff_ne, Bool.not_eq_true, Bool.and_eq_true, Bool.or_eq_true, Bool.and_eq_false_iff, Bool.or_eq_false_iff, bne_eq_false_iff_eq, ne_eq] at hp_); (try simp (disch := omega) only [bsW, WOp, WOq, WV, bo, gdc, gw, bnd, ↓reduceIte, Nat.reduceEqDiff, rsvs, rsv, oneOf, rdN, ne_eq, Nat.reduceAdd, Nat.reduceMul, Nat.reduceLT, reduceCtorEq, Value.cells, setN, Value.oneCell', Nat.reduceLeDiff, undef, fcT, hs_]))) | ((refine newB_i (fun nb_ hb_ => ?_)); (try simp (disch := omega) only [bsW, WOp, WOq, WV, bo, gdc, gw, bnd, ↓reduceIte, Nat.reduceEqDiff, rsvs, rsv, oneOf, rdN, ne_eq, Nat.reduceAdd, Nat.reduceMul, Nat.reduceLT, reduceCtorEq, Value.cells, setN, Value.oneCell', Nat.reduceLeDiff, undef, fcT])) | ((first | (refine QC_i (eqIntO _ _ _ _ _ _ _ _ _ _ _ (by omega) hO14 hO3) ?_) | (refine PC.ac (eqIntO _ _ _ _ _ _ _ _ _ _ _ (by omega) hO14 hO3) ?_) | (refine QC_i (heldIntO _ _ 1 _ _ _ _ (by omega) (by omega) hO11) ?_) | (refine PC.ac (heldIntO _ _ 1 _ _ _ _ (by omega) (by omega) hO11) ?_)); (try simp (disch := omega) only [bsW, WOp, WOq, WV, bo, gdc, gw, bnd, ↓reduceIte, Nat.reduceEqDiff, rsvs, rsv, oneOf, rdN, ne_eq, Nat.reduceAdd, Nat.reduceMul, Nat.reduceLT, reduceCtorEq, Value.cells, setN, Value.oneCell', Nat.reduceLeDiff, undef, fcT])) | (refine And.intro ?_ ?_; omega)))
    all_goals try (exfalso; omega)
    all_goals exact Is_i hs14
theorem FnExactRoomBids_lifted (os : Os) (started : os.Started) (H : Type) (enc : TypeId × Value → H) :
    ReturnsInHanded {} Try.checked os 13 .any (Rows.fnExactRoomBidsSpec.pre6 enc Try.prog Try.f13 Rows.fnExactRoomBidsRow.domain false) (Rows.fnExactRoomBidsSpec.post enc Try.prog Try.f13 false true false false) := by
  refine law_lifted (C := Try.checked) (tb := 4) (by kernel_rfl) started (by kernel_rfl) (by kernel_rfl) Try.func13 rfl (by kernel_rfl) (by kernel_rfl) (by kernel_rfl) ?_
    (ChangeSpec.witness6 (enc := enc) (C := Try.checked) false ⟨#[], #[.slice none 0 0, .slice none 0 0, .int .i64 0], []⟩ 8 (by kernel_rfl) (by kernel_rfl) (by kernel_rfl) (by kernel_rfl)) ?_
  · intro ds hd
    match ds, hd with
    | [d0, d1, d2], _ => rfl
  · intro W base args ha
    have hr : ArgsOK enc Try.prog W base Try.f13.params.toList args.toList := ha
    rw [Try.params13] at hr
    obtain ⟨u0, l0, e0, a0, hr⟩ := hr
    obtain ⟨A0, n0, c0, f0, rfl, hz0, _, hR0, _⟩ := arg_rows (k := 2) Try.underlying22 Try.underlying66 (by kernel_rfl) (by kernel_rfl) rfl (by omega) (by kernel_rfl) a0
    obtain ⟨u1, l1, e1, a1, hr⟩ := hr
    obtain ⟨A1, n1, c1, f1, rfl, hz1, _, hR1, _⟩ := arg_rows (k := 2) Try.underlying29 Try.underlying71 (by kernel_rfl) (by kernel_rfl) rfl (by omega) (by kernel_rfl) a1
    obtain ⟨u2, l2, e2, a2, hr⟩ := hr
    obtain ⟨b2, rfl, hb2⟩ := arg_int Try.underlying3 a2
    have hr : l2 = [] := hr
    have ea : args = #[.slice A0 n0 c0, .slice A1 n1 c1, .int .i64 b2] := by
      apply Array.ext'
      rw [e0, e1, e2, hr]
    subst ea
    have hby0 : Try.prog.bytesOf 66 = 16 := by kernel_rfl
    rw [hby0] at hz0
    simp only [reachBytes] at hz0
    have hby1 : Try.prog.bytesOf 71 = 16 := by kernel_rfl
    rw [hby1] at hz1
    simp only [reachBytes] at hz1
    exact lawRoomBids _ _ A0 n0 c0 f0 (by omega) hR0 A1 n1 c1 f1 (by omega) hR1 b2 hb2
theorem FnExactRoomBids_holds : Rows.FnExactRoomBidsSaid :=
  OpenClaim.holds_of_wide 13 Try.f13 rfl rfl rfl rfl rfl rfl rfl ⟨rfl, rfl, rfl, rfl, rfl⟩ rfl rfl rfl rfl rfl (by kernel_rfl) Try.func13 (by kernel_rfl)
    (of_decide_eq_true (by kernel_rfl)) (by unfold Func.isWrapper; first | (rw [if_pos (by decide +kernel)]; kernel_rfl) | (rw [if_neg (by decide +kernel)]; exact ⟨rfl, rfl⟩))
    (fun os started H enc _ => FnExactRoomBids_lifted os started H enc)
end Go.Proofs.Ythddighmlijdeaa
