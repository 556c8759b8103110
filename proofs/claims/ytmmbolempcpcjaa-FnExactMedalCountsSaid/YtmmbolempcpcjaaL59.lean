/- The law MedalCounts: the call gives true. -/
import Derived.Test.YtmmbolempcpcjaaR10
import Derived.Test.YtmmbolempcpcjaaE2
import Derived.Test.YtmmbolempcpcjaaS23c
import Derived.Test.YtmmbolempcpcjaaRows
set_option linter.unusedVariables false
set_option linter.unusedSimpArgs false
set_option maxRecDepth 100000
set_option maxHeartbeats 1000000
namespace Go.Proofs.Ytmmbolempcpcjaa
open Go Go.RowKit Go.Proofs

theorem szG_len {s : Shw} : ∀ (r i : Nat) (l : Int), 0 ≤ l → ¬ szG s r i l < 0 → (shLen s (i + r) : Int) ≤ shLen s i + 3 * r + l
  | 0, i, l, h0, _ => by simp; omega
  | r + 1, i, l, h0, h => by
    simp only [szG] at h
    split at h
    · omega
    · rename_i hv
      have hle : szV l (s.title i).size (s.m i) + (s.m i : Int) ≤ l := by
        revert hv
        unfold szV
        (repeat' split) <;> omega
      have ih := szG_len r (i + 1) _ (by omega) h
      have e : shLen s (i + 1) = shLen s i + 3 + s.m i := rfl
      rw [show i + (r + 1) = i + 1 + r by omega]
      omega
theorem szS_len {n : Nat} {s : Shw} (h : ¬ szS n s 1048576 < 0) : shLen s n ≤ 4194304 := by
  unfold szS at h
  split at h
  · omega
  · have := szG_len n 0 _ (by omega) h
    have e : shLen s 0 = 0 := rfl
    rw [Nat.zero_add, e] at this
    omega
theorem mcN_le (n : Nat) (s : Shw) : mcN n s ≤ 5 := by unfold mcN; split <;> omega
theorem MedalCountsO (v : Value) (n : Nat) (s : Shw) (lo hi : Nat) (H : Hp) (nx : Nat) (hn : n ≤ 17592186044416) (hw : szOk n s) (h : OwnSh H lo hi n s 35 3 v) : AC Try.prog 41 #[v] H nx (RowFlag H nx (mcN n s) 1 (fun j _ => cntS s j n) 3 (exsB n s)) := by
  obtain ⟨A, c, rfl, _, hR⟩ := h.rd
  exact MedalCounts A n c s H nx hn hR hw
theorem sMedalCountsO (v : Value) (n : Nat) (s : Shw) (lo hi : Nat) (H : Hp) (nx : Nat) (hn : n ≤ 17592186044416) (hw : szOk n s) (h : OwnSh H lo hi n s 35 3 v) : AC Try.prog 40 #[v] H nx (RowFlag H nx (mcN n s) 1 (fun j _ => cntS s j n) 3 (exsB n s)) := by
  obtain ⟨A, c, rfl, _, hR⟩ := h.rd
  exact sMedalCounts A n c s H nx hn hR hw
theorem lawMedalCounts (H : Hp) (nx : Nat) (A0 : Option Addr) (n0 c0 : Nat) (s0 : Shw) (hn0 : n0 ≤ 17592186044416) (h0 : RdS H A0 n0 s0) (hw0 : szOk n0 s0) :
    PC Try.prog 12 #[.slice A0 n0 c0] H nx (.bool true) := by
  refine AC_of x_laws_FnExactMedalCounts rfl fun hB => ?_
  simp (disch := omega) only [bsW, WOp, WOq, WV, bo, gdc, gw, bnd, ↓reduceIte, Nat.reduceEqDiff, rsvs, rsv, oneOf, rdN, ne_eq, Nat.reduceAdd, Nat.reduceMul, Nat.reduceLT, reduceCtorEq, Value.cells, setN, Value.oneCell', Nat.reduceLeDiff, undef, fcT, c_laws_FnExactMedalCounts]
  (repeat' (first | ((refine gif_split (fun hs_ => ?_) (fun hs_ => ?_)) <;> (have hp_ := hs_; (try simp only [decide_eq_true_eq, decide_eq_false_iff_not, beq_iff_eq, bne_iff_ne, beq_eq_false_iff_ne, Bool.not_eq_true, Bool.and_eq_true, Bool.or_eq_true, Bool.and_eq_false_iff, Bool.or_eq_false_iff, bne_eq_false_iff_eq, ne_eq] at hp_); (try simp (disch := omega) only [bsW, WOp, WOq, WV, bo, gdc, gw, bnd, ↓reduceIte, Nat.reduceEqDiff, rsvs, rsv, oneOf, rdN, ne_eq, Nat.reduceAdd, Nat.reduceMul, Nat.reduceLT, reduceCtorEq, Value.cells, setN, Value.oneCell', Nat.reduceLeDiff, undef, fcT, hs_]))) | ((refine newB_i (fun nb_ hb_ => ?_)); (try simp (disch := omega) only [bsW, WOp, WOq, WV, bo, gdc, gw, bnd, ↓reduceIte, Nat.reduceEqDiff, rsvs, rsv, oneOf, rdN, ne_eq, Nat.reduceAdd, Nat.reduceMul, Nat.reduceLT, reduceCtorEq, Value.cells, setN, Value.oneCell', Nat.reduceLeDiff, undef, fcT])) | ((first | (refine QC_i (szShowFrameS A0 n0 c0 s0 _ _ hn0 h0 hw0) ?_) | (refine PC.ac (szShowFrameS A0 n0 c0 s0 _ _ hn0 h0 hw0) ?_)); (try simp (disch := omega) only [bsW, WOp, WOq, WV, bo, gdc, gw, bnd, ↓reduceIte, Nat.reduceEqDiff, rsvs, rsv, oneOf, rdN, ne_eq, Nat.reduceAdd, Nat.reduceMul, Nat.reduceLT, reduceCtorEq, Value.cells, setN, Value.oneCell', Nat.reduceLeDiff, undef, fcT])) | (refine fun (hBd_ : Bd _ _) => ?_) | (refine And.intro (Sub.refl _) ?_) | (refine And.intro (sub_new (by assumption) (by assumption)) ?_) | (refine And.intro (And.intro (Sub.refl _) ?_) ?_) | (refine And.intro ?_ ?_; omega)))
  · exact Is_i (by (repeat (first | assumption | exact Sub.refl _ | (refine sub_up (nx := nx) ?_ hB ?_; omega))))
  · obtain ⟨hn0', hm0'⟩ := szS_ok (by with_reducible assumption)
    have hl0' : shLen s0 n0 ≤ 4194304 := szS_len (by with_reducible assumption)
    have hs0 : Sub H H := Sub.refl H
    have hm := mcN_le n0 s0
    refine AC.monoC (toShI _ _ _ _ _ _ hn0' hm0' (h0.sub hs0)) ?_
    rintro v1 H1 nx1 hB1 hx1 ⟨hO1, ht1⟩
    have hs1 := hs0.trans ht1
    (try (simp (disch := omega) only [bsW, WOp, WOq, WV, bo, gdc, gw, bnd, ↓reduceIte, Nat.reduceEqDiff, rsvs, rsv, oneOf, rdN, ne_eq, Nat.reduceAdd, Nat.reduceMul, Nat.reduceLT, reduceCtorEq, Value.cells, setN, Value.oneCell', Nat.reduceLeDiff, undef, fcT]))
    (repeat' (first | ((refine gif_split (fun hs_ => ?_) (fun hs_ => ?_)) <;> (have hp_ := hs_; (try simp only [decide_eq_true_eq, decide_eq_false_iff_not, beq_iff_eq, bne_iff_ne, beq_eq_false_iff_ne, Bool.not_eq_true, Bool.and_eq_true, Bool.or_eq_true, Bool.and_eq_false_iff, Bool.or_eq_false_iff, bne_eq_false_iff_eq, ne_eq] at hp_); (try simp (disch := omega) only [bsW, WOp, WOq, WV, bo, gdc, gw, bnd, ↓reduceIte, Nat.reduceEqDiff, rsvs, rsv, oneOf, rdN, ne_eq, Nat.reduceAdd, Nat.reduceMul, Nat.reduceLT, reduceCtorEq, Value.cells, setN, Value.oneCell', Nat.reduceLeDiff, undef, fcT, hs_]))) | ((refine newB_i (fun nb_ hb_ => ?_)); (try simp (disch := omega) only [bsW, WOp, WOq, WV, bo, gdc, gw, bnd, ↓reduceIte, Nat.reduceEqDiff, rsvs, rsv, oneOf, rdN, ne_eq, Nat.reduceAdd, Nat.reduceMul, Nat.reduceLT, reduceCtorEq, Value.cells, setN, Value.oneCell', Nat.reduceLeDiff, undef, fcT])) | (refine fun (hBd_ : Bd _ _) => ?_) | (refine And.intro (Sub.refl _) ?_) | (refine And.intro (sub_new (by assumption) (by assumption)) ?_) | (refine And.intro (And.intro (Sub.refl _) ?_) ?_) | (refine And.intro ?_ ?_; omega)))
    all_goals try (exfalso; omega)
    refine AC.monoC (sMedalCountsO _ _ _ _ _ _ _ hn0 hw0 hO1) ?_
    rintro v2 H2 nx2 hB2 hx2 ⟨w2, rfl, hR2_0, ht2⟩
    have hs2 := hs1.trans ht2
    replace hO1 := hO1.subI ht2
    (try (simp (disch := omega) only [bsW, WOp, WOq, WV, bo, gdc, gw, bnd, ↓reduceIte, Nat.reduceEqDiff, rsvs, rsv, oneOf, rdN, ne_eq, Nat.reduceAdd, Nat.reduceMul, Nat.reduceLT, reduceCtorEq, Value.cells, setN, Value.oneCell', Nat.reduceLeDiff, undef, fcT]))
    (repeat' (first | ((refine gif_split (fun hs_ => ?_) (fun hs_ => ?_)) <;> (have hp_ := hs_; (try simp only [decide_eq_true_eq, decide_eq_false_iff_not, beq_iff_eq, bne_iff_ne, beq_eq_false_iff_ne, Bool.not_eq_true, Bool.and_eq_true, Bool.or_eq_true, Bool.and_eq_false_iff, Bool.or_eq_false_iff, bne_eq_false_iff_eq, ne_eq] at hp_); (try simp (disch := omega) only [bsW, WOp, WOq, WV, bo, gdc, gw, bnd, ↓reduceIte, Nat.reduceEqDiff, rsvs, rsv, oneOf, rdN, ne_eq, Nat.reduceAdd, Nat.reduceMul, Nat.reduceLT, reduceCtorEq, Value.cells, setN, Value.oneCell', Nat.reduceLeDiff, undef, fcT, hs_]))) | ((refine newB_i (fun nb_ hb_ => ?_)); (try simp (disch := omega) only [bsW, WOp, WOq, WV, bo, gdc, gw, bnd, ↓reduceIte, Nat.reduceEqDiff, rsvs, rsv, oneOf, rdN, ne_eq, Nat.reduceAdd, Nat.reduceMul, Nat.reduceLT, reduceCtorEq, Value.cells, setN, Value.oneCell', Nat.reduceLeDiff, undef, fcT])) | (refine fun (hBd_ : Bd _ _) => ?_) | (refine And.intro (Sub.refl _) ?_) | (refine And.intro (sub_new (by assumption) (by assumption)) ?_) | (refine And.intro (And.intro (Sub.refl _) ?_) ?_) | (refine And.intro ?_ ?_; omega)))
    all_goals try (exfalso; omega)
    (try (simp (disch := omega) only [bsW, WOp, WOq, WV, bo, gdc, gw, bnd, ↓reduceIte, Nat.reduceEqDiff, rsvs, rsv, oneOf, rdN, ne_eq, Nat.reduceAdd, Nat.reduceMul, Nat.reduceLT, reduceCtorEq, Value.cells, setN, Value.oneCell', Nat.reduceLeDiff, undef, fcT]))
    (repeat' (first | ((refine gif_split (fun hs_ => ?_) (fun hs_ => ?_)) <;> (have hp_ := hs_; (try simp only [decide_eq_true_eq, decide_eq_false_iff_not, beq_iff_eq, bne_iff_ne, beq_eq_false_iff_ne, Bool.not_eq_true, Bool.and_eq_true, Bool.or_eq_true, Bool.and_eq_false_iff, Bool.or_eq_false_iff, bne_eq_false_iff_eq, ne_eq] at hp_); (try simp (disch := omega) only [bsW, WOp, WOq, WV, bo, gdc, gw, bnd, ↓reduceIte, Nat.reduceEqDiff, rsvs, rsv, oneOf, rdN, ne_eq, Nat.reduceAdd, Nat.reduceMul, Nat.reduceLT, reduceCtorEq, Value.cells, setN, Value.oneCell', Nat.reduceLeDiff, undef, fcT, hs_]))) | ((refine newB_i (fun nb_ hb_ => ?_)); (try simp (disch := omega) only [bsW, WOp, WOq, WV, bo, gdc, gw, bnd, ↓reduceIte, Nat.reduceEqDiff, rsvs, rsv, oneOf, rdN, ne_eq, Nat.reduceAdd, Nat.reduceMul, Nat.reduceLT, reduceCtorEq, Value.cells, setN, Value.oneCell', Nat.reduceLeDiff, undef, fcT])) | (refine fun (hBd_ : Bd _ _) => ?_) | (refine And.intro (Sub.refl _) ?_) | (refine And.intro (sub_new (by assumption) (by assumption)) ?_) | (refine And.intro (And.intro (Sub.refl _) ?_) ?_) | (refine And.intro ?_ ?_; omega)))
    all_goals try (exfalso; omega)
    refine AC.monoC (toShI _ _ _ _ _ _ hn0' hm0' (h0.sub hs2)) ?_
    rintro v3 H3 nx3 hB3 hx3 ⟨hO3, ht3⟩
    have hs3 := hs2.trans ht3
    replace hR2_0 := hR2_0.subI ht3
    (try (simp (disch := omega) only [bsW, WOp, WOq, WV, bo, gdc, gw, bnd, ↓reduceIte, Nat.reduceEqDiff, rsvs, rsv, oneOf, rdN, ne_eq, Nat.reduceAdd, Nat.reduceMul, Nat.reduceLT, reduceCtorEq, Value.cells, setN, Value.oneCell', Nat.reduceLeDiff, undef, fcT]))
    (repeat' (first | ((refine gif_split (fun hs_ => ?_) (fun hs_ => ?_)) <;> (have hp_ := hs_; (try simp only [decide_eq_true_eq, decide_eq_false_iff_not, beq_iff_eq, bne_iff_ne, beq_eq_false_iff_ne, Bool.not_eq_true, Bool.and_eq_true, Bool.or_eq_true, Bool.and_eq_false_iff, Bool.or_eq_false_iff, bne_eq_false_iff_eq, ne_eq] at hp_); (try simp (disch := omega) only [bsW, WOp, WOq, WV, bo, gdc, gw, bnd, ↓reduceIte, Nat.reduceEqDiff, rsvs, rsv, oneOf, rdN, ne_eq, Nat.reduceAdd, Nat.reduceMul, Nat.reduceLT, reduceCtorEq, Value.cells, setN, Value.oneCell', Nat.reduceLeDiff, undef, fcT, hs_]))) | ((refine newB_i (fun nb_ hb_ => ?_)); (try simp (disch := omega) only [bsW, WOp, WOq, WV, bo, gdc, gw, bnd, ↓reduceIte, Nat.reduceEqDiff, rsvs, rsv, oneOf, rdN, ne_eq, Nat.reduceAdd, Nat.reduceMul, Nat.reduceLT, reduceCtorEq, Value.cells, setN, Value.oneCell', Nat.reduceLeDiff, undef, fcT])) | (refine fun (hBd_ : Bd _ _) => ?_) | (refine And.intro (Sub.refl _) ?_) | (refine And.intro (sub_new (by assumption) (by assumption)) ?_) | (refine And.intro (And.intro (Sub.refl _) ?_) ?_) | (refine And.intro ?_ ?_; omega)))
    all_goals try (exfalso; omega)
    refine AC.monoC (MedalCountsO _ _ _ _ _ _ _ hn0 hw0 hO3) ?_
    rintro v4 H4 nx4 hB4 hx4 ⟨w4, rfl, hR4_0, ht4⟩
    have hs4 := hs3.trans ht4
    replace hR2_0 := hR2_0.subI ht4
    replace hO3 := hO3.subI ht4
    (try (simp (disch := omega) only [bsW, WOp, WOq, WV, bo, gdc, gw, bnd, ↓reduceIte, Nat.reduceEqDiff, rsvs, rsv, oneOf, rdN, ne_eq, Nat.reduceAdd, Nat.reduceMul, Nat.reduceLT, reduceCtorEq, Value.cells, setN, Value.oneCell', Nat.reduceLeDiff, undef, fcT]))
    (repeat' (first | ((refine gif_split (fun hs_ => ?_) (fun hs_ => ?_)) <;> (have hp_ := hs_; (try simp only [decide_eq_true_eq, decide_eq_false_iff_not, beq_iff_eq, bne_iff_ne, beq_eq_false_iff_ne, Bool.not_eq_true, Bool.and_eq_true, Bool.or_eq_true, Bool.and_eq_false_iff, Bool.or_eq_false_iff, bne_eq_false_iff_eq, ne_eq] at hp_); (try simp (disch := omega) only [bsW, WOp, WOq, WV, bo, gdc, gw, bnd, ↓reduceIte, Nat.reduceEqDiff, rsvs, rsv, oneOf, rdN, ne_eq, Nat.reduceAdd, Nat.reduceMul, Nat.reduceLT, reduceCtorEq, Value.cells, setN, Value.oneCell', Nat.reduceLeDiff, undef, fcT, hs_]))) | ((refine newB_i (fun nb_ hb_ => ?_)); (try simp (disch := omega) only [bsW, WOp, WOq, WV, bo, gdc, gw, bnd, ↓reduceIte, Nat.reduceEqDiff, rsvs, rsv, oneOf, rdN, ne_eq, Nat.reduceAdd, Nat.reduceMul, Nat.reduceLT, reduceCtorEq, Value.cells, setN, Value.oneCell', Nat.reduceLeDiff, undef, fcT])) | (refine fun (hBd_ : Bd _ _) => ?_) | (refine And.intro (Sub.refl _) ?_) | (refine And.intro (sub_new (by assumption) (by assumption)) ?_) | (refine And.intro (And.intro (Sub.refl _) ?_) ?_) | (refine And.intro ?_ ?_; omega)))
    all_goals try (exfalso; omega)
    (try (simp (disch := omega) only [bsW, WOp, WOq, WV, bo, gdc, gw, bnd, ↓reduceIte, Nat.reduceEqDiff, rsvs, rsv, oneOf, rdN, ne_eq, Nat.reduceAdd, Nat.reduceMul, Nat.reduceLT, reduceCtorEq, Value.cells, setN, Value.oneCell', Nat.reduceLeDiff, undef, fcT]))
    (repeat' (first | ((refine gif_split (fun hs_ => ?_) (fun hs_ => ?_)) <;> (have hp_ := hs_; (try simp only [decide_eq_true_eq, decide_eq_false_iff_not, beq_iff_eq, bne_iff_ne, beq_eq_false_iff_ne, Bool.not_eq_true, Bool.and_eq_true, Bool.or_eq_true, Bool.and_eq_false_iff, Bool.or_eq_false_iff, bne_eq_false_iff_eq, ne_eq] at hp_); (try simp (disch := omega) only [bsW, WOp, WOq, WV, bo, gdc, gw, bnd, ↓reduceIte, Nat.reduceEqDiff, rsvs, rsv, oneOf, rdN, ne_eq, Nat.reduceAdd, Nat.reduceMul, Nat.reduceLT, reduceCtorEq, Value.cells, setN, Value.oneCell', Nat.reduceLeDiff, undef, fcT, hs_]))) | ((refine newB_i (fun nb_ hb_ => ?_)); (try simp (disch := omega) only [bsW, WOp, WOq, WV, bo, gdc, gw, bnd, ↓reduceIte, Nat.reduceEqDiff, rsvs, rsv, oneOf, rdN, ne_eq, Nat.reduceAdd, Nat.reduceMul, Nat.reduceLT, reduceCtorEq, Value.cells, setN, Value.oneCell', Nat.reduceLeDiff, undef, fcT])) | ((first | (refine QC_i (eqIntO _ _ _ _ _ _ _ _ _ _ _ (by omega) hR4_0 hR2_0) ?_) | (refine PC.ac (eqIntO _ _ _ _ _ _ _ _ _ _ _ (by omega) hR4_0 hR2_0) ?_)); (try simp (disch := omega) only [bsW, WOp, WOq, WV, bo, gdc, gw, bnd, ↓reduceIte, Nat.reduceEqDiff, rsvs, rsv, oneOf, rdN, ne_eq, Nat.reduceAdd, Nat.reduceMul, Nat.reduceLT, reduceCtorEq, Value.cells, setN, Value.oneCell', Nat.reduceLeDiff, undef, fcT])) | (refine fun (hBd_ : Bd _ _) => ?_) | (refine And.intro (Sub.refl _) ?_) | (refine And.intro (sub_new (by assumption) (by assumption)) ?_) | (refine And.intro (And.intro (Sub.refl _) ?_) ?_) | (refine And.intro ?_ ?_; omega)))
    all_goals try (exfalso; omega)
    refine AC.monoC (toShI _ _ _ _ _ _ hn0' hm0' (h0.sub hs4)) ?_
    rintro v5 H5 nx5 hB5 hx5 ⟨hO5, ht5⟩
    have hs5 := hs4.trans ht5
    replace hR2_0 := hR2_0.subI ht5
    replace hO3 := hO3.subI ht5
    replace hR4_0 := hR4_0.subI ht5
    (try (simp (disch := omega) only [bsW, WOp, WOq, WV, bo, gdc, gw, bnd, ↓reduceIte, Nat.reduceEqDiff, rsvs, rsv, oneOf, rdN, ne_eq, Nat.reduceAdd, Nat.reduceMul, Nat.reduceLT, reduceCtorEq, Value.cells, setN, Value.oneCell', Nat.reduceLeDiff, undef, fcT]))
    (repeat' (first | ((refine gif_split (fun hs_ => ?_) (fun hs_ => ?_)) <;> (have hp_ := hs_; (try simp only [decide_eq_true_eq, decide_eq_false_iff_not, beq_iff_eq, bne_iff_ne, beq_eq_false_iff_ne, Bool.not_eq_true, Bool.and_eq_true, Bool.or_eq_true, Bool.and_eq_false_iff, Bool.or_eq_false_iff, bne_eq_false_iff_eq, ne_eq] at hp_); (try simp (disch := omega) only [bsW, WOp, WOq, WV, bo, gdc, gw, bnd, ↓reduceIte, Nat.reduceEqDiff, rsvs, rsv, oneOf, rdN, ne_eq, Nat.reduceAdd, Nat.reduceMul, Nat.reduceLT, reduceCtorEq, Value.cells, setN, Value.oneCell', Nat.reduceLeDiff, undef, fcT, hs_]))) | ((refine newB_i (fun nb_ hb_ => ?_)); (try simp (disch := omega) only [bsW, WOp, WOq, WV, bo, gdc, gw, bnd, ↓reduceIte, Nat.reduceEqDiff, rsvs, rsv, oneOf, rdN, ne_eq, Nat.reduceAdd, Nat.reduceMul, Nat.reduceLT, reduceCtorEq, Value.cells, setN, Value.oneCell', Nat.reduceLeDiff, undef, fcT])) | ((first | (refine QC_i (eqShO _ _ _ _ _ _ _ _ _ _ (by omega) (fun i hi => by have := hm0' i hi; omega) hO3 hO5) ?_) | (refine PC.ac (eqShO _ _ _ _ _ _ _ _ _ _ (by omega) (fun i hi => by have := hm0' i hi; omega) hO3 hO5) ?_)); (try simp (disch := omega) only [bsW, WOp, WOq, WV, bo, gdc, gw, bnd, ↓reduceIte, Nat.reduceEqDiff, rsvs, rsv, oneOf, rdN, ne_eq, Nat.reduceAdd, Nat.reduceMul, Nat.reduceLT, reduceCtorEq, Value.cells, setN, Value.oneCell', Nat.reduceLeDiff, undef, fcT])) | (refine fun (hBd_ : Bd _ _) => ?_) | (refine And.intro (Sub.refl _) ?_) | (refine And.intro (sub_new (by assumption) (by assumption)) ?_) | (refine And.intro (And.intro (Sub.refl _) ?_) ?_) | (refine And.intro ?_ ?_; omega)))
    all_goals try (exfalso; omega)
    refine AC.monoC (markShI _ _ _ 1 _ _ _ _ hn0' hm0' hl0' (by omega) hO3 (by omega)) ?_
    rintro v6 H6 nx6 hB6 hx6 ⟨rfl, hN6, hoth6⟩
    have hs6 := sub_out hB hs5 (by omega) (by omega) hoth6
    replace hR2_0 := hR2_0.keepI (fun c h1 h2 => hoth6 c (by omega) (by omega))
    replace hR4_0 := hR4_0.keepI (fun c h1 h2 => hoth6 c (by omega) (by omega))
    clear hO3; have hO3 := hN6
    (try (simp (disch := omega) only [bsW, WOp, WOq, WV, bo, gdc, gw, bnd, ↓reduceIte, Nat.reduceEqDiff, rsvs, rsv, oneOf, rdN, ne_eq, Nat.reduceAdd, Nat.reduceMul, Nat.reduceLT, reduceCtorEq, Value.cells, setN, Value.oneCell', Nat.reduceLeDiff, undef, fcT]))
    (repeat' (first | ((refine gif_split (fun hs_ => ?_) (fun hs_ => ?_)) <;> (have hp_ := hs_; (try simp only [decide_eq_true_eq, decide_eq_false_iff_not, beq_iff_eq, bne_iff_ne, beq_eq_false_iff_ne, Bool.not_eq_true, Bool.and_eq_true, Bool.or_eq_true, Bool.and_eq_false_iff, Bool.or_eq_false_iff, bne_eq_false_iff_eq, ne_eq] at hp_); (try simp (disch := omega) only [bsW, WOp, WOq, WV, bo, gdc, gw, bnd, ↓reduceIte, Nat.reduceEqDiff, rsvs, rsv, oneOf, rdN, ne_eq, Nat.reduceAdd, Nat.reduceMul, Nat.reduceLT, reduceCtorEq, Value.cells, setN, Value.oneCell', Nat.reduceLeDiff, undef, fcT, hs_]))) | ((refine newB_i (fun nb_ hb_ => ?_)); (try simp (disch := omega) only [bsW, WOp, WOq, WV, bo, gdc, gw, bnd, ↓reduceIte, Nat.reduceEqDiff, rsvs, rsv, oneOf, rdN, ne_eq, Nat.reduceAdd, Nat.reduceMul, Nat.reduceLT, reduceCtorEq, Value.cells, setN, Value.oneCell', Nat.reduceLeDiff, undef, fcT])) | ((first | (refine QC_i (eqIntO _ _ _ _ _ _ _ _ _ _ _ (by omega) hR4_0 hR2_0) ?_) | (refine PC.ac (eqIntO _ _ _ _ _ _ _ _ _ _ _ (by omega) hR4_0 hR2_0) ?_)); (try simp (disch := omega) only [bsW, WOp, WOq, WV, bo, gdc, gw, bnd, ↓reduceIte, Nat.reduceEqDiff, rsvs, rsv, oneOf, rdN, ne_eq, Nat.reduceAdd, Nat.reduceMul, Nat.reduceLT, reduceCtorEq, Value.cells, setN, Value.oneCell', Nat.reduceLeDiff, undef, fcT])) | (refine fun (hBd_ : Bd _ _) => ?_) | (refine And.intro (Sub.refl _) ?_) | (refine And.intro (sub_new (by assumption) (by assumption)) ?_) | (refine And.intro (And.intro (Sub.refl _) ?_) ?_) | (refine And.intro ?_ ?_; omega)))
    all_goals try (exfalso; omega)
    refine AC.monoC (markIntI _ _ _ (1) _ _ _ _ (by omega) (by omega) hR4_0 (by omega)) ?_
    rintro v7 H7 nx7 hB7 hx7 ⟨rfl, hN7, hoth7⟩
    have hs7 := sub_out hB hs6 (by omega) (by omega) hoth7
    replace hR2_0 := hR2_0.keepI (fun c h1 h2 => hoth7 c (by omega) (by omega))
    clear hR4_0; have hR4_0 := hN7
    (try (simp (disch := omega) only [bsW, WOp, WOq, WV, bo, gdc, gw, bnd, ↓reduceIte, Nat.reduceEqDiff, rsvs, rsv, oneOf, rdN, ne_eq, Nat.reduceAdd, Nat.reduceMul, Nat.reduceLT, reduceCtorEq, Value.cells, setN, Value.oneCell', Nat.reduceLeDiff, undef, fcT]))
    (repeat' (first | ((refine gif_split (fun hs_ => ?_) (fun hs_ => ?_)) <;> (have hp_ := hs_; (try simp only [decide_eq_true_eq, decide_eq_false_iff_not, beq_iff_eq, bne_iff_ne, beq_eq_false_iff_ne, Bool.not_eq_true, Bool.and_eq_true, Bool.or_eq_true, Bool.and_eq_false_iff, Bool.or_eq_false_iff, bne_eq_false_iff_eq, ne_eq] at hp_); (try simp (disch := omega) only [bsW, WOp, WOq, WV, bo, gdc, gw, bnd, ↓reduceIte, Nat.reduceEqDiff, rsvs, rsv, oneOf, rdN, ne_eq, Nat.reduceAdd, Nat.reduceMul, Nat.reduceLT, reduceCtorEq, Value.cells, setN, Value.oneCell', Nat.reduceLeDiff, undef, fcT, hs_]))) | ((refine newB_i (fun nb_ hb_ => ?_)); (try simp (disch := omega) only [bsW, WOp, WOq, WV, bo, gdc, gw, bnd, ↓reduceIte, Nat.reduceEqDiff, rsvs, rsv, oneOf, rdN, ne_eq, Nat.reduceAdd, Nat.reduceMul, Nat.reduceLT, reduceCtorEq, Value.cells, setN, Value.oneCell', Nat.reduceLeDiff, undef, fcT])) | ((first | (refine QC_i (heldIntO _ _ (1) _ _ _ _ (by omega) (by omega) hR4_0) ?_) | (refine PC.ac (heldIntO _ _ (1) _ _ _ _ (by omega) (by omega) hR4_0) ?_)); (try simp (disch := omega) only [bsW, WOp, WOq, WV, bo, gdc, gw, bnd, ↓reduceIte, Nat.reduceEqDiff, rsvs, rsv, oneOf, rdN, ne_eq, Nat.reduceAdd, Nat.reduceMul, Nat.reduceLT, reduceCtorEq, Value.cells, setN, Value.oneCell', Nat.reduceLeDiff, undef, fcT])) | (refine fun (hBd_ : Bd _ _) => ?_) | (refine And.intro (Sub.refl _) ?_) | (refine And.intro (sub_new (by assumption) (by assumption)) ?_) | (refine And.intro (And.intro (Sub.refl _) ?_) ?_) | (refine And.intro ?_ ?_; omega)))
    all_goals try (exfalso; omega)
    refine AC.monoC (toShI _ _ _ _ _ _ hn0' hm0' (h0.sub hs7)) ?_
    rintro v8 H8 nx8 hB8 hx8 ⟨hO8, ht8⟩
    have hs8 := hs7.trans ht8
    replace hR2_0 := hR2_0.subI ht8
    replace hR4_0 := hR4_0.subI ht8
    (try (simp (disch := omega) only [bsW, WOp, WOq, WV, bo, gdc, gw, bnd, ↓reduceIte, Nat.reduceEqDiff, rsvs, rsv, oneOf, rdN, ne_eq, Nat.reduceAdd, Nat.reduceMul, Nat.reduceLT, reduceCtorEq, Value.cells, setN, Value.oneCell', Nat.reduceLeDiff, undef, fcT]))
    (repeat' (first | ((refine gif_split (fun hs_ => ?_) (fun hs_ => ?_)) <;> (have hp_ := hs_; (try simp only [decide_eq_true_eq, decide_eq_false_iff_not, beq_iff_eq, bne_iff_ne, beq_eq_false_iff_ne, Bool.not_eq_true, Bool.and_eq_true, Bool.or_eq_true, Bool.and_eq_false_iff, Bool.or_eq_false_iff, bne_eq_false_iff_eq, ne_eq] at hp_); (try simp (disch := omega) only [bsW, WOp, WOq, WV, bo, gdc, gw, bnd, ↓reduceIte, Nat.reduceEqDiff, rsvs, rsv, oneOf, rdN, ne_eq, Nat.reduceAdd, Nat.reduceMul, Nat.reduceLT, reduceCtorEq, Value.cells, setN, Value.oneCell', Nat.reduceLeDiff, undef, fcT, hs_]))) | ((refine newB_i (fun nb_ hb_ => ?_)); (try simp (disch := omega) only [bsW, WOp, WOq, WV, bo, gdc, gw, bnd, ↓reduceIte, Nat.reduceEqDiff, rsvs, rsv, oneOf, rdN, ne_eq, Nat.reduceAdd, Nat.reduceMul, Nat.reduceLT, reduceCtorEq, Value.cells, setN, Value.oneCell', Nat.reduceLeDiff, undef, fcT])) | (refine fun (hBd_ : Bd _ _) => ?_) | (refine And.intro (Sub.refl _) ?_) | (refine And.intro (sub_new (by assumption) (by assumption)) ?_) | (refine And.intro (And.intro (Sub.refl _) ?_) ?_) | (refine And.intro ?_ ?_; omega)))
    all_goals try (exfalso; omega)
    refine AC.monoC (MedalCountsO _ _ _ _ _ _ _ hn0 hw0 hO8) ?_
    rintro v9 H9 nx9 hB9 hx9 ⟨w9, rfl, hR9_0, ht9⟩
    have hs9 := hs8.trans ht9
    replace hR2_0 := hR2_0.subI ht9
    replace hR4_0 := hR4_0.subI ht9
    replace hO8 := hO8.subI ht9
    (try (simp (disch := omega) only [bsW, WOp, WOq, WV, bo, gdc, gw, bnd, ↓reduceIte, Nat.reduceEqDiff, rsvs, rsv, oneOf, rdN, ne_eq, Nat.reduceAdd, Nat.reduceMul, Nat.reduceLT, reduceCtorEq, Value.cells, setN, Value.oneCell', Nat.reduceLeDiff, undef, fcT]))
    (repeat' (first | ((refine gif_split (fun hs_ => ?_) (fun hs_ => ?_)) <;> (have hp_ := hs_; (try simp only [decide_eq_true_eq, decide_eq_false_iff_not, beq_iff_eq, bne_iff_ne, beq_eq_false_iff_ne, Bool.not_eq_true, Bool.and_eq_true, Bool.or_eq_true, Bool.and_eq_false_iff, Bool.or_eq_false_iff, bne_eq_false_iff_eq, ne_eq] at hp_); (try simp (disch := omega) only [bsW, WOp, WOq, WV, bo, gdc, gw, bnd, ↓reduceIte, Nat.reduceEqDiff, rsvs, rsv, oneOf, rdN, ne_eq, Nat.reduceAdd, Nat.reduceMul, Nat.reduceLT, reduceCtorEq, Value.cells, setN, Value.oneCell', Nat.reduceLeDiff, undef, fcT, hs_]))) | ((refine newB_i (fun nb_ hb_ => ?_)); (try simp (disch := omega) only [bsW, WOp, WOq, WV, bo, gdc, gw, bnd, ↓reduceIte, Nat.reduceEqDiff, rsvs, rsv, oneOf, rdN, ne_eq, Nat.reduceAdd, Nat.reduceMul, Nat.reduceLT, reduceCtorEq, Value.cells, setN, Value.oneCell', Nat.reduceLeDiff, undef, fcT])) | (refine fun (hBd_ : Bd _ _) => ?_) | (refine And.intro (Sub.refl _) ?_) | (refine And.intro (sub_new (by assumption) (by assumption)) ?_) | (refine And.intro (And.intro (Sub.refl _) ?_) ?_) | (refine And.intro ?_ ?_; omega)))
    all_goals try (exfalso; omega)
    (try (simp (disch := omega) only [bsW, WOp, WOq, WV, bo, gdc, gw, bnd, ↓reduceIte, Nat.reduceEqDiff, rsvs, rsv, oneOf, rdN, ne_eq, Nat.reduceAdd, Nat.reduceMul, Nat.reduceLT, reduceCtorEq, Value.cells, setN, Value.oneCell', Nat.reduceLeDiff, undef, fcT]))
    (repeat' (first | ((refine gif_split (fun hs_ => ?_) (fun hs_ => ?_)) <;> (have hp_ := hs_; (try simp only [decide_eq_true_eq, decide_eq_false_iff_not, beq_iff_eq, bne_iff_ne, beq_eq_false_iff_ne, Bool.not_eq_true, Bool.and_eq_true, Bool.or_eq_true, Bool.and_eq_false_iff, Bool.or_eq_false_iff, bne_eq_false_iff_eq, ne_eq] at hp_); (try simp (disch := omega) only [bsW, WOp, WOq, WV, bo, gdc, gw, bnd, ↓reduceIte, Nat.reduceEqDiff, rsvs, rsv, oneOf, rdN, ne_eq, Nat.reduceAdd, Nat.reduceMul, Nat.reduceLT, reduceCtorEq, Value.cells, setN, Value.oneCell', Nat.reduceLeDiff, undef, fcT, hs_]))) | ((refine newB_i (fun nb_ hb_ => ?_)); (try simp (disch := omega) only [bsW, WOp, WOq, WV, bo, gdc, gw, bnd, ↓reduceIte, Nat.reduceEqDiff, rsvs, rsv, oneOf, rdN, ne_eq, Nat.reduceAdd, Nat.reduceMul, Nat.reduceLT, reduceCtorEq, Value.cells, setN, Value.oneCell', Nat.reduceLeDiff, undef, fcT])) | ((first | (refine QC_i (eqIntO _ _ _ _ _ _ _ _ _ _ _ (by omega) hR9_0 hR2_0) ?_) | (refine PC.ac (eqIntO _ _ _ _ _ _ _ _ _ _ _ (by omega) hR9_0 hR2_0) ?_) | (refine QC_i (heldIntO _ _ (1) _ _ _ _ (by omega) (by omega) hR4_0) ?_) | (refine PC.ac (heldIntO _ _ (1) _ _ _ _ (by omega) (by omega) hR4_0) ?_)); (try simp (disch := omega) only [bsW, WOp, WOq, WV, bo, gdc, gw, bnd, ↓reduceIte, Nat.reduceEqDiff, rsvs, rsv, oneOf, rdN, ne_eq, Nat.reduceAdd, Nat.reduceMul, Nat.reduceLT, reduceCtorEq, Value.cells, setN, Value.oneCell', Nat.reduceLeDiff, undef, fcT])) | (refine fun (hBd_ : Bd _ _) => ?_) | (refine And.intro (Sub.refl _) ?_) | (refine And.intro (sub_new (by assumption) (by assumption)) ?_) | (refine And.intro (And.intro (Sub.refl _) ?_) ?_) | (refine And.intro ?_ ?_; omega)))
    all_goals try (exfalso; omega)
    all_goals exact Is_i hs9
theorem FnExactMedalCounts_lifted (os : Os) (started : os.Started) (H : Type) (enc : TypeId × Value → H) :
    ReturnsInHanded {} Try.checked os 12 .any (Rows.fnExactMedalCountsSpec.pre6 enc Try.prog Try.f12 Rows.fnExactMedalCountsRow.domain false) (Rows.fnExactMedalCountsSpec.post enc Try.prog Try.f12 false true false false) := by
  refine law_lifted (C := Try.checked) (tb := 4) x_laws_FnExactMedalCounts.call (by kernel_rfl) started (by kernel_rfl) (by kernel_rfl) Try.func12 rfl (by kernel_rfl) (by kernel_rfl) (by kernel_rfl) ?_
    (ChangeSpec.witness6 (enc := enc) (C := Try.checked) false ⟨#[], #[.slice none 0 0], []⟩ 8 (by kernel_rfl) (by kernel_rfl) (by kernel_rfl) (by kernel_rfl)) ?_
  · intro ds hd
    match ds, hd with
    | [d0], _ => rfl
  · intro W base args ha
    have hr : ArgsOK enc Try.prog W base Try.f12.params.toList args.toList := ha
    rw [Try.params12] at hr
    obtain ⟨u0, l0, e0, a0, hr⟩ := hr
    obtain ⟨A0, n0, c0, s0, rfl, hz0, _, hR0, hW0⟩ := arg_shows Try.underlying22 Try.underlying31 (by kernel_rfl) (by kernel_rfl) Try.underlying29 Try.underlying3 (by kernel_rfl) a0
    have hr : l0 = [] := hr
    have ea : args = #[.slice A0 n0 c0] := by
      apply Array.ext'
      rw [e0, hr]
    subst ea
    have hby0 : Try.prog.bytesOf 31 = 56 := by kernel_rfl
    rw [hby0] at hz0
    simp only [reachBytes] at hz0
    exact lawMedalCounts _ _ A0 n0 c0 s0 (by omega) hR0 hW0
theorem FnExactMedalCounts_holds : Rows.FnExactMedalCountsSaid :=
  OpenClaim.holds_of_wide 12 Try.f12 rfl rfl rfl rfl rfl rfl rfl ⟨rfl, rfl, rfl, rfl, rfl⟩ rfl rfl rfl rfl rfl (by kernel_rfl) Try.func12 (by kernel_rfl)
    (of_decide_eq_true (by kernel_rfl)) (by unfold Func.isWrapper; first | (rw [if_pos (by decide +kernel)]; kernel_rfl) | (rw [if_neg (by decide +kernel)]; exact ⟨rfl, rfl⟩))
    (fun os started H enc _ => FnExactMedalCounts_lifted os started H enc)
end Go.Proofs.Ytmmbolempcpcjaa
