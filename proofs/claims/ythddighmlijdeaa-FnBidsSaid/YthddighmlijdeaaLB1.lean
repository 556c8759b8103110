/- FnBids: the last bid is one of the bids, the next one is beyond the bound, and as many bids are counted as there are up to it. -/
import Derived.Test.YthddighmlijdeaaP22
import Derived.Test.YthddighmlijdeaaU3
import Derived.Test.YthddighmlijdeaaE7
import Derived.Test.YthddighmlijdeaaRows
set_option linter.unusedVariables false
set_option linter.unusedSimpArgs false
set_option maxRecDepth 100000
set_option maxHeartbeats 1000000
namespace Go.Proofs.Ythddighmlijdeaa
open Go Go.RowKit Go.Proofs

theorem vLast_ex (F n : Nat) (f : Nat → Nat → Int) (b l : Int) : ∃ (x : Int) (t : Bool), vLastBid F n f b l = .tuple #[.int .i64 x, .bool t] ∧ (t = true ↔ (stepsB n f = true ∧ inR b 0 20000 = true ∧ inR l 0 20000 = true) ∧ b ≤ l) ∧ (t = true → x = lastB n f l F b) := by
  unfold vLastBid
  split
  · rename_i h
    simp only [Bool.and_eq_true, decide_eq_true_eq] at h
    exact ⟨_, _, rfl, ⟨fun _ => ⟨⟨h.1.1.1, h.1.1.2, h.1.2⟩, h.2⟩, fun _ => rfl⟩, fun _ => rfl⟩
  · rename_i h
    simp only [Bool.and_eq_true, decide_eq_true_eq] at h
    exact ⟨_, _, rfl, ⟨fun e => by simp at e, fun e => absurd ⟨⟨⟨e.1.1, e.1.2.1⟩, e.1.2.2⟩, e.2⟩ h⟩, fun e => by simp at e⟩
theorem vCount_ex (F n : Nat) (f : Nat → Nat → Int) (b l : Int) : ∃ (x : Int) (t : Bool), vCountBids F n f b l = .tuple #[.int .i64 x, .bool t] ∧ (t = true ↔ (stepsB n f = true ∧ inR b 0 20000 = true ∧ inR l 0 20000 = true)) ∧ (t = true → x = countB n f l F b) := by
  unfold vCountBids
  split
  · rename_i h
    simp only [Bool.and_eq_true] at h
    exact ⟨_, _, rfl, ⟨fun _ => ⟨h.1.1, h.1.2, h.2⟩, fun _ => rfl⟩, fun _ => rfl⟩
  · rename_i h
    simp only [Bool.and_eq_true] at h
    exact ⟨_, _, rfl, ⟨fun e => by simp at e, fun e => absurd ⟨⟨e.1, e.2.1⟩, e.2.2⟩ h⟩, fun e => by simp at e⟩
theorem vIs_ex (F n : Nat) (f : Nat → Nat → Int) (b l : Int) : ∃ (x : Bool) (t : Bool), vIsABid F n f b l = .tuple #[.bool x, .bool t] := by
  unfold vIsABid
  split
  · exact ⟨_, _, rfl⟩
  · exact ⟨_, _, rfl⟩
theorem vNext_ex (n : Nat) (f : Nat → Nat → Int) (b : Int) : ∃ (x : Int) (t : Bool), vNextBid n f b = .tuple #[.int .i64 x, .bool t] ∧ (t = true → b < x) := by
  unfold vNextBid
  split
  · rename_i h
    simp only [Bool.and_eq_true] at h
    have h2 := inR_true.1 h.2
    have := nextB_bd (stepsB_iff.1 h.1) h2.1
    exact ⟨_, _, rfl, fun _ => by omega⟩
  · exact ⟨_, _, rfl, fun e => by simp at e⟩
theorem lawFnBids (A : Option Addr) (n c : Nat) (H : Hp) (nx : Nat) (hn : n ≤ 9223372036854775807) (hU : RdU H A n) :
    PC Try.prog 10 #[.slice A n c] H nx (.bool true) := by
  refine AC_of x_laws_FnBids rfl fun hB => ?_
  obtain ⟨F, hF⟩ : ∃ F : Nat, 20002 ≤ F := ⟨20002, Nat.le_refl _⟩
  simp (disch := omega) only [bsW, WOp, WOq, WV, bo, gdc, gw, bnd, ↓reduceIte, Nat.reduceEqDiff, rsvs, rsv, oneOf, rdN, ne_eq, Nat.reduceAdd, Nat.reduceMul, Nat.reduceLT, reduceCtorEq, Value.cells, setN, Value.oneCell', Nat.reduceLeDiff, undef, fcT, c_laws_FnBids]
  (repeat' (first | ((with_reducible refine gif_split (fun hs_ => ?_) (fun hs_ => ?_)) <;> (have hp_ := hs_; (try simp only [decide_eq_true_eq, decide_eq_false_iff_not, beq_iff_eq, bne_iff_ne, beq_eq_false_iff_ne, Bool.not_eq_true, Bool.and_eq_true, Bool.or_eq_true, Bool.and_eq_false_iff, Bool.or_eq_false_iff, bne_eq_false_iff_eq, ne_eq] at hp_); (try simp (disch := omega) only [bsW, WOp, WOq, WV, bo, gdc, gw, bnd, ↓reduceIte, Nat.reduceEqDiff, rsvs, rsv, oneOf, rdN, ne_eq, Nat.reduceAdd, Nat.reduceMul, Nat.reduceLT, reduceCtorEq, Value.cells, setN, Value.oneCell', Nat.reduceLeDiff, undef, fcT, hs_]))) | ((with_reducible refine newB_i (fun nb_ hb_ => ?_)); (try simp (disch := omega) only [bsW, WOp, WOq, WV, bo, gdc, gw, bnd, ↓reduceIte, Nat.reduceEqDiff, rsvs, rsv, oneOf, rdN, ne_eq, Nat.reduceAdd, Nat.reduceMul, Nat.reduceLT, reduceCtorEq, Value.cells, setN, Value.oneCell', Nat.reduceLeDiff, undef, fcT])) | ((first | ((with_reducible show QC _ _ _ _ _ _); (first | (refine QC_i (rBig A n c _ _ hn) ?_))) | ((with_reducible show AC _ _ _ _ _ _); (first | (refine PC.ac (rBig A n c _ _ hn) ?_)))); (try simp (disch := omega) only [bsW, WOp, WOq, WV, bo, gdc, gw, bnd, ↓reduceIte, Nat.reduceEqDiff, rsvs, rsv, oneOf, rdN, ne_eq, Nat.reduceAdd, Nat.reduceMul, Nat.reduceLT, reduceCtorEq, Value.cells, setN, Value.oneCell', Nat.reduceLeDiff, undef, fcT])) | ((with_reducible refine RgE_i (fun (hBd_ : Bd _ _) => ?_)); (try simp (disch := omega) only [bsW, WOp, WOq, WV, bo, gdc, gw, bnd, ↓reduceIte, Nat.reduceEqDiff, rsvs, rsv, oneOf, rdN, ne_eq, Nat.reduceAdd, Nat.reduceMul, Nat.reduceLT, reduceCtorEq, Value.cells, setN, Value.oneCell', Nat.reduceLeDiff, undef, fcT])) | (with_reducible refine fun (hBd_ : Bd _ _) => ?_) | ((with_reducible refine @And.intro (Sub _ _) _ ?_ ?_); (first | exact Sub.refl _ | exact sub_del _ _ | exact sub_del_upd (Sub.refl _) | exact sub_del_upd (by with_reducible assumption) | with_reducible assumption | exact Sub.trans (sub_del _ _) (by with_reducible assumption) | exact sub_new (by with_reducible assumption) (by with_reducible assumption) | exact sub_up2 (by with_reducible assumption) (by with_reducible assumption) (by omega) | exact sub_up2 (by with_reducible assumption) (sub_up2 (by with_reducible assumption) (Sub.refl _) (by omega)) (by omega))) | ((with_reducible refine @And.intro (Sub _ _ ∧ _) _ ?_ ?_); (with_reducible refine @And.intro (Sub _ _) _ ?_ ?_); (first | exact Sub.refl _ | exact sub_del _ _ | exact sub_del_upd (Sub.refl _) | exact sub_del_upd (by with_reducible assumption) | with_reducible assumption | exact Sub.trans (sub_del _ _) (by with_reducible assumption) | exact sub_new (by with_reducible assumption) (by with_reducible assumption) | exact sub_up2 (by with_reducible assumption) (by with_reducible assumption) (by omega) | exact sub_up2 (by with_reducible assumption) (sub_up2 (by with_reducible assumption) (Sub.refl _) (by omega)) (by omega))) | ((with_reducible refine And.intro ?_ ?_); omega)))
  · exact Is_i (Sub.refl H)
  refine (DrawLastBid A n c H nx hn hU).monoC ?_
  rintro v1 H1 nx1 hB1 hx1 ⟨hs1, A1, m, c1, f, b, l, rfl, hm, hR⟩
  obtain ⟨x, t, hv, ht, hxe⟩ := vLast_ex F m f b l
  obtain ⟨y, u, hw, hu, hye⟩ := vCount_ex F m f b l
  have hI1 := LastBid F hF A1 m c1 f b l H1 nx1 (by omega) hR
  have hS1 := sLastBid F hF A1 m c1 f b l H1 nx1 (by omega) hR
  have hI2 := CountBids F hF A1 m c1 f b l H1 nx1 (by omega) hR
  have hS2 := sCountBids F hF A1 m c1 f b l H1 nx1 (by omega) hR
  rw [hv] at hI1 hS1
  rw [hw] at hI2 hS2
  cases t
  · have key : u = true → ¬ 0 < y := fun hu1 h0 => by
      have h1 := hu.1 hu1
      have h2 : ¬ b ≤ l := fun h2 => by
        have := ht.2 ⟨h1, h2⟩
        cases this
      rw [hye hu1, countB_gt m f l F b (by omega)] at h0
      omega
    (try (simp (disch := omega) only [bsW, WOp, WOq, WV, bo, gdc, gw, bnd, ↓reduceIte, Nat.reduceEqDiff, rsvs, rsv, oneOf, rdN, ne_eq, Nat.reduceAdd, Nat.reduceMul, Nat.reduceLT, reduceCtorEq, Value.cells, setN, Value.oneCell', Nat.reduceLeDiff, undef, fcT]))
    (repeat' (first | ((with_reducible refine gif_split (fun hs_ => ?_) (fun hs_ => ?_)) <;> (have hp_ := hs_; (try simp only [decide_eq_true_eq, decide_eq_false_iff_not, beq_iff_eq, bne_iff_ne, beq_eq_false_iff_ne, Bool.not_eq_true, Bool.and_eq_true, Bool.or_eq_true, Bool.and_eq_false_iff, Bool.or_eq_false_iff, bne_eq_false_iff_eq, ne_eq] at hp_); (try simp (disch := omega) only [bsW, WOp, WOq, WV, bo, gdc, gw, bnd, ↓reduceIte, Nat.reduceEqDiff, rsvs, rsv, oneOf, rdN, ne_eq, Nat.reduceAdd, Nat.reduceMul, Nat.reduceLT, reduceCtorEq, Value.cells, setN, Value.oneCell', Nat.reduceLeDiff, undef, fcT, hs_]))) | ((with_reducible refine newB_i (fun nb_ hb_ => ?_)); (try simp (disch := omega) only [bsW, WOp, WOq, WV, bo, gdc, gw, bnd, ↓reduceIte, Nat.reduceEqDiff, rsvs, rsv, oneOf, rdN, ne_eq, Nat.reduceAdd, Nat.reduceMul, Nat.reduceLT, reduceCtorEq, Value.cells, setN, Value.oneCell', Nat.reduceLeDiff, undef, fcT])) | ((first | ((with_reducible show QC _ _ _ _ _ _); (first | (refine QC_i (hI1) ?_) | (refine QC_i (hS1) ?_) | (refine QC_i (hI2) ?_) | (refine QC_i (hS2) ?_))) | ((with_reducible show AC _ _ _ _ _ _); (first | (refine PC.ac (hI1) ?_) | (refine PC.ac (hS1) ?_) | (refine PC.ac (hI2) ?_) | (refine PC.ac (hS2) ?_)))); (try simp (disch := omega) only [bsW, WOp, WOq, WV, bo, gdc, gw, bnd, ↓reduceIte, Nat.reduceEqDiff, rsvs, rsv, oneOf, rdN, ne_eq, Nat.reduceAdd, Nat.reduceMul, Nat.reduceLT, reduceCtorEq, Value.cells, setN, Value.oneCell', Nat.reduceLeDiff, undef, fcT])) | ((with_reducible refine RgE_i (fun (hBd_ : Bd _ _) => ?_)); (try simp (disch := omega) only [bsW, WOp, WOq, WV, bo, gdc, gw, bnd, ↓reduceIte, Nat.reduceEqDiff, rsvs, rsv, oneOf, rdN, ne_eq, Nat.reduceAdd, Nat.reduceMul, Nat.reduceLT, reduceCtorEq, Value.cells, setN, Value.oneCell', Nat.reduceLeDiff, undef, fcT])) | (with_reducible refine fun (hBd_ : Bd _ _) => ?_) | ((with_reducible refine @And.intro (Sub _ _) _ ?_ ?_); (first | exact Sub.refl _ | exact sub_del _ _ | exact sub_del_upd (Sub.refl _) | exact sub_del_upd (by with_reducible assumption) | with_reducible assumption | exact Sub.trans (sub_del _ _) (by with_reducible assumption) | exact sub_new (by with_reducible assumption) (by with_reducible assumption) | exact sub_up2 (by with_reducible assumption) (by with_reducible assumption) (by omega) | exact sub_up2 (by with_reducible assumption) (sub_up2 (by with_reducible assumption) (Sub.refl _) (by omega)) (by omega))) | ((with_reducible refine @And.intro (Sub _ _ ∧ _) _ ?_ ?_); (with_reducible refine @And.intro (Sub _ _) _ ?_ ?_); (first | exact Sub.refl _ | exact sub_del _ _ | exact sub_del_upd (Sub.refl _) | exact sub_del_upd (by with_reducible assumption) | with_reducible assumption | exact Sub.trans (sub_del _ _) (by with_reducible assumption) | exact sub_new (by with_reducible assumption) (by with_reducible assumption) | exact sub_up2 (by with_reducible assumption) (by with_reducible assumption) (by omega) | exact sub_up2 (by with_reducible assumption) (sub_up2 (by with_reducible assumption) (Sub.refl _) (by omega)) (by omega))) | ((with_reducible refine And.intro ?_ ?_); omega)))
    all_goals first
      | (exfalso; have q := key (by assumption); simp at hp_; omega)
      | skip
    all_goals
      refine (DrawIsABid A n c H1 nx1 hn (hU.sub hs1)).monoC ?_
      rintro v2 H2 nx2 hB2 hx2 ⟨hs2, A2, m2, c2, f2, b2, l2, rfl, hm2, hR2⟩
      obtain ⟨x2, t2, hv2⟩ := vIs_ex F m2 f2 b2 l2
      have hI6 := IsABid F hF A2 m2 c2 f2 b2 l2 H2 nx2 (by omega) hR2
      have hS6 := sIsABid F hF A2 m2 c2 f2 b2 l2 H2 nx2 (by omega) hR2
      rw [hv2] at hI6 hS6
      (try (simp (disch := omega) only [bsW, WOp, WOq, WV, bo, gdc, gw, bnd, ↓reduceIte, Nat.reduceEqDiff, rsvs, rsv, oneOf, rdN, ne_eq, Nat.reduceAdd, Nat.reduceMul, Nat.reduceLT, reduceCtorEq, Value.cells, setN, Value.oneCell', Nat.reduceLeDiff, undef, fcT]))
      (repeat' (first | ((with_reducible refine gif_split (fun hs_ => ?_) (fun hs_ => ?_)) <;> (have hp_ := hs_; (try simp only [decide_eq_true_eq, decide_eq_false_iff_not, beq_iff_eq, bne_iff_ne, beq_eq_false_iff_ne, Bool.not_eq_true, Bool.and_eq_true, Bool.or_eq_true, Bool.and_eq_false_iff, Bool.or_eq_false_iff, bne_eq_false_iff_eq, ne_eq] at hp_); (try simp (disch := omega) only [bsW, WOp, WOq, WV, bo, gdc, gw, bnd, ↓reduceIte, Nat.reduceEqDiff, rsvs, rsv, oneOf, rdN, ne_eq, Nat.reduceAdd, Nat.reduceMul, Nat.reduceLT, reduceCtorEq, Value.cells, setN, Value.oneCell', Nat.reduceLeDiff, undef, fcT, hs_]))) | ((with_reducible refine newB_i (fun nb_ hb_ => ?_)); (try simp (disch := omega) only [bsW, WOp, WOq, WV, bo, gdc, gw, bnd, ↓reduceIte, Nat.reduceEqDiff, rsvs, rsv, oneOf, rdN, ne_eq, Nat.reduceAdd, Nat.reduceMul, Nat.reduceLT, reduceCtorEq, Value.cells, setN, Value.oneCell', Nat.reduceLeDiff, undef, fcT])) | ((first | ((with_reducible show QC _ _ _ _ _ _); (first | (refine QC_i (hI6) ?_) | (refine QC_i (hS6) ?_))) | ((with_reducible show AC _ _ _ _ _ _); (first | (refine PC.ac (hI6) ?_) | (refine PC.ac (hS6) ?_)))); (try simp (disch := omega) only [bsW, WOp, WOq, WV, bo, gdc, gw, bnd, ↓reduceIte, Nat.reduceEqDiff, rsvs, rsv, oneOf, rdN, ne_eq, Nat.reduceAdd, Nat.reduceMul, Nat.reduceLT, reduceCtorEq, Value.cells, setN, Value.oneCell', Nat.reduceLeDiff, undef, fcT])) | ((with_reducible refine RgE_i (fun (hBd_ : Bd _ _) => ?_)); (try simp (disch := omega) only [bsW, WOp, WOq, WV, bo, gdc, gw, bnd, ↓reduceIte, Nat.reduceEqDiff, rsvs, rsv, oneOf, rdN, ne_eq, Nat.reduceAdd, Nat.reduceMul, Nat.reduceLT, reduceCtorEq, Value.cells, setN, Value.oneCell', Nat.reduceLeDiff, undef, fcT])) | (with_reducible refine fun (hBd_ : Bd _ _) => ?_) | ((with_reducible refine @And.intro (Sub _ _) _ ?_ ?_); (first | exact Sub.refl _ | exact sub_del _ _ | exact sub_del_upd (Sub.refl _) | exact sub_del_upd (by with_reducible assumption) | with_reducible assumption | exact Sub.trans (sub_del _ _) (by with_reducible assumption) | exact sub_new (by with_reducible assumption) (by with_reducible assumption) | exact sub_up2 (by with_reducible assumption) (by with_reducible assumption) (by omega) | exact sub_up2 (by with_reducible assumption) (sub_up2 (by with_reducible assumption) (Sub.refl _) (by omega)) (by omega))) | ((with_reducible refine @And.intro (Sub _ _ ∧ _) _ ?_ ?_); (with_reducible refine @And.intro (Sub _ _) _ ?_ ?_); (first | exact Sub.refl _ | exact sub_del _ _ | exact sub_del_upd (Sub.refl _) | exact sub_del_upd (by with_reducible assumption) | with_reducible assumption | exact Sub.trans (sub_del _ _) (by with_reducible assumption) | exact sub_new (by with_reducible assumption) (by with_reducible assumption) | exact sub_up2 (by with_reducible assumption) (by with_reducible assumption) (by omega) | exact sub_up2 (by with_reducible assumption) (sub_up2 (by with_reducible assumption) (Sub.refl _) (by omega)) (by omega))) | ((with_reducible refine And.intro ?_ ?_); omega)))
      refine (DrawNextBid A n c H2 nx2 hn (hU.sub (hs1.trans hs2))).monoC ?_
      rintro v3 H3 nx3 hB3 hx3 ⟨hs3, A3, m3, c3, f3, b3, rfl, hm3, hR3⟩
      obtain ⟨x3, t3, hv3, hq3⟩ := vNext_ex m3 f3 b3
      have hI7 := NextBid A3 m3 c3 f3 b3 H3 nx3 (by omega) hR3
      have hS7 := sNextBid A3 m3 c3 f3 b3 H3 nx3 (by omega) hR3
      rw [hv3] at hI7 hS7
      (try (simp (disch := omega) only [bsW, WOp, WOq, WV, bo, gdc, gw, bnd, ↓reduceIte, Nat.reduceEqDiff, rsvs, rsv, oneOf, rdN, ne_eq, Nat.reduceAdd, Nat.reduceMul, Nat.reduceLT, reduceCtorEq, Value.cells, setN, Value.oneCell', Nat.reduceLeDiff, undef, fcT]))
      (repeat' (first | ((with_reducible refine gif_split (fun hs_ => ?_) (fun hs_ => ?_)) <;> (have hp_ := hs_; (try simp only [decide_eq_true_eq, decide_eq_false_iff_not, beq_iff_eq, bne_iff_ne, beq_eq_false_iff_ne, Bool.not_eq_true, Bool.and_eq_true, Bool.or_eq_true, Bool.and_eq_false_iff, Bool.or_eq_false_iff, bne_eq_false_iff_eq, ne_eq] at hp_); (try simp (disch := omega) only [bsW, WOp, WOq, WV, bo, gdc, gw, bnd, ↓reduceIte, Nat.reduceEqDiff, rsvs, rsv, oneOf, rdN, ne_eq, Nat.reduceAdd, Nat.reduceMul, Nat.reduceLT, reduceCtorEq, Value.cells, setN, Value.oneCell', Nat.reduceLeDiff, undef, fcT, hs_]))) | ((with_reducible refine newB_i (fun nb_ hb_ => ?_)); (try simp (disch := omega) only [bsW, WOp, WOq, WV, bo, gdc, gw, bnd, ↓reduceIte, Nat.reduceEqDiff, rsvs, rsv, oneOf, rdN, ne_eq, Nat.reduceAdd, Nat.reduceMul, Nat.reduceLT, reduceCtorEq, Value.cells, setN, Value.oneCell', Nat.reduceLeDiff, undef, fcT])) | ((first | ((with_reducible show QC _ _ _ _ _ _); (first | (refine QC_i (hI7) ?_) | (refine QC_i (hS7) ?_) | (refine QC_i (AreSteps A2 m2 c2 f2 _ _ (by omega) (hR2.sub hs3)) ?_) | (refine QC_i (sAreSteps A2 m2 c2 f2 _ _ (by omega) (hR2.sub hs3)) ?_))) | ((with_reducible show AC _ _ _ _ _ _); (first | (refine PC.ac (hI7) ?_) | (refine PC.ac (hS7) ?_) | (refine PC.ac (AreSteps A2 m2 c2 f2 _ _ (by omega) (hR2.sub hs3)) ?_) | (refine PC.ac (sAreSteps A2 m2 c2 f2 _ _ (by omega) (hR2.sub hs3)) ?_)))); (try simp (disch := omega) only [bsW, WOp, WOq, WV, bo, gdc, gw, bnd, ↓reduceIte, Nat.reduceEqDiff, rsvs, rsv, oneOf, rdN, ne_eq, Nat.reduceAdd, Nat.reduceMul, Nat.reduceLT, reduceCtorEq, Value.cells, setN, Value.oneCell', Nat.reduceLeDiff, undef, fcT])) | ((with_reducible refine RgE_i (fun (hBd_ : Bd _ _) => ?_)); (try simp (disch := omega) only [bsW, WOp, WOq, WV, bo, gdc, gw, bnd, ↓reduceIte, Nat.reduceEqDiff, rsvs, rsv, oneOf, rdN, ne_eq, Nat.reduceAdd, Nat.reduceMul, Nat.reduceLT, reduceCtorEq, Value.cells, setN, Value.oneCell', Nat.reduceLeDiff, undef, fcT])) | (with_reducible refine fun (hBd_ : Bd _ _) => ?_) | ((with_reducible refine @And.intro (Sub _ _) _ ?_ ?_); (first | exact Sub.refl _ | exact sub_del _ _ | exact sub_del_upd (Sub.refl _) | exact sub_del_upd (by with_reducible assumption) | with_reducible assumption | exact Sub.trans (sub_del _ _) (by with_reducible assumption) | exact sub_new (by with_reducible assumption) (by with_reducible assumption) | exact sub_up2 (by with_reducible assumption) (by with_reducible assumption) (by omega) | exact sub_up2 (by with_reducible assumption) (sub_up2 (by with_reducible assumption) (Sub.refl _) (by omega)) (by omega))) | ((with_reducible refine @And.intro (Sub _ _ ∧ _) _ ?_ ?_); (with_reducible refine @And.intro (Sub _ _) _ ?_ ?_); (first | exact Sub.refl _ | exact sub_del _ _ | exact sub_del_upd (Sub.refl _) | exact sub_del_upd (by with_reducible assumption) | with_reducible assumption | exact Sub.trans (sub_del _ _) (by with_reducible assumption) | exact sub_new (by with_reducible assumption) (by with_reducible assumption) | exact sub_up2 (by with_reducible assumption) (by with_reducible assumption) (by omega) | exact sub_up2 (by with_reducible assumption) (sub_up2 (by with_reducible assumption) (Sub.refl _) (by omega)) (by omega))) | ((with_reducible refine And.intro ?_ ?_); omega)))
      all_goals first
        | exact Is_i (hs1.trans (hs2.trans hs3))
        | (exfalso; have q := hq3 (by assumption); simp at hp_; omega)
  · obtain ⟨hst, hbl⟩ := ht.1 rfl
    obtain rfl : u = true := hu.2 hst
    obtain ⟨G, rfl⟩ : ∃ G, F = G + 1 := ⟨F - 1, by omega⟩
    have hx := hxe rfl
    have hy := hye rfl
    have hok := stepsB_iff.1 hst.1
    have hb0 := inR_true.1 hst.2.1
    have hl0 := inR_true.1 hst.2.2
    obtain ⟨k1, k2, k3, k4, k5⟩ := lastB_all hok l (G + 1) b hb0.1 hbl (by omega)
    rw [← hx] at k1 k2 k3 k4 k5
    have hy0 : 0 < y := by rw [hy]; exact countB_pos m f l G b hbl
    have hxr : inR x 0 20000 = true := inR_true.2 ⟨by omega, by omega⟩
    have hI3 := IsABid (G + 1) hF A1 m c1 f b x H1 nx1 (by omega) hR
    have hI4 := NextBid A1 m c1 f x H1 nx1 (by omega) hR
    have hI5 := CountBids (G + 1) hF A1 m c1 f b x H1 nx1 (by omega) hR
    have e3 : vIsABid (G + 1) m f b x = .tuple #[.bool true, .bool true] := by
      unfold vIsABid
      rw [if_pos (by rw [hst.1, hst.2.1, hxr]; rfl), k4]
      simp
    have e4 : vNextBid m f x = .tuple #[.int .i64 (nextB m f x), .bool true] := by
      unfold vNextBid
      rw [if_pos (by rw [hst.1, hxr]; rfl)]
    have e5 : vCountBids (G + 1) m f b x = .tuple #[.int .i64 y, .bool true] := by
      unfold vCountBids
      rw [if_pos (by rw [hst.1, hst.2.1, hxr]; rfl), k5, hy]
    rw [e3] at hI3
    rw [e4] at hI4
    rw [e5] at hI5
    have d1 : decide (nextB m f x ≤ l) = false := decide_eq_false (by omega)
    have d2 : (y == 0) = false := by simp; omega
    have d3 : decide (0 < y) = true := decide_eq_true hy0
    (try (simp (disch := omega) only [bsW, WOp, WOq, WV, bo, gdc, gw, bnd, ↓reduceIte, Nat.reduceEqDiff, rsvs, rsv, oneOf, rdN, ne_eq, Nat.reduceAdd, Nat.reduceMul, Nat.reduceLT, reduceCtorEq, Value.cells, setN, Value.oneCell', Nat.reduceLeDiff, undef, fcT, d1, d2, d3]))
    (repeat' (first | ((with_reducible refine gif_split (fun hs_ => ?_) (fun hs_ => ?_)) <;> (have hp_ := hs_; (try simp only [decide_eq_true_eq, decide_eq_false_iff_not, beq_iff_eq, bne_iff_ne, beq_eq_false_iff_ne, Bool.not_eq_true, Bool.and_eq_true, Bool.or_eq_true, Bool.and_eq_false_iff, Bool.or_eq_false_iff, bne_eq_false_iff_eq, ne_eq] at hp_); (try simp (disch := omega) only [bsW, WOp, WOq, WV, bo, gdc, gw, bnd, ↓reduceIte, Nat.reduceEqDiff, rsvs, rsv, oneOf, rdN, ne_eq, Nat.reduceAdd, Nat.reduceMul, Nat.reduceLT, reduceCtorEq, Value.cells, setN, Value.oneCell', Nat.reduceLeDiff, undef, fcT, d1, d2, d3, hs_]))) | ((with_reducible refine newB_i (fun nb_ hb_ => ?_)); (try simp (disch := omega) only [bsW, WOp, WOq, WV, bo, gdc, gw, bnd, ↓reduceIte, Nat.reduceEqDiff, rsvs, rsv, oneOf, rdN, ne_eq, Nat.reduceAdd, Nat.reduceMul, Nat.reduceLT, reduceCtorEq, Value.cells, setN, Value.oneCell', Nat.reduceLeDiff, undef, fcT, d1, d2, d3])) | ((first | ((with_reducible show QC _ _ _ _ _ _); (first | (refine QC_i (hI1) ?_) | (refine QC_i (hS1) ?_) | (refine QC_i (hI2) ?_) | (refine QC_i (hS2) ?_) | (refine QC_i (hI3) ?_) | (refine QC_i (hI4) ?_) | (refine QC_i (hI5) ?_))) | ((with_reducible show AC _ _ _ _ _ _); (first | (refine PC.ac (hI1) ?_) | (refine PC.ac (hS1) ?_) | (refine PC.ac (hI2) ?_) | (refine PC.ac (hS2) ?_) | (refine PC.ac (hI3) ?_) | (refine PC.ac (hI4) ?_) | (refine PC.ac (hI5) ?_)))); (try simp (disch := omega) only [bsW, WOp, WOq, WV, bo, gdc, gw, bnd, ↓reduceIte, Nat.reduceEqDiff, rsvs, rsv, oneOf, rdN, ne_eq, Nat.reduceAdd, Nat.reduceMul, Nat.reduceLT, reduceCtorEq, Value.cells, setN, Value.oneCell', Nat.reduceLeDiff, undef, fcT, d1, d2, d3])) | ((with_reducible refine RgE_i (fun (hBd_ : Bd _ _) => ?_)); (try simp (disch := omega) only [bsW, WOp, WOq, WV, bo, gdc, gw, bnd, ↓reduceIte, Nat.reduceEqDiff, rsvs, rsv, oneOf, rdN, ne_eq, Nat.reduceAdd, Nat.reduceMul, Nat.reduceLT, reduceCtorEq, Value.cells, setN, Value.oneCell', Nat.reduceLeDiff, undef, fcT, d1, d2, d3])) | (with_reducible refine fun (hBd_ : Bd _ _) => ?_) | ((with_reducible refine @And.intro (Sub _ _) _ ?_ ?_); (first | exact Sub.refl _ | exact sub_del _ _ | exact sub_del_upd (Sub.refl _) | exact sub_del_upd (by with_reducible assumption) | with_reducible assumption | exact Sub.trans (sub_del _ _) (by with_reducible assumption) | exact sub_new (by with_reducible assumption) (by with_reducible assumption) | exact sub_up2 (by with_reducible assumption) (by with_reducible assumption) (by omega) | exact sub_up2 (by with_reducible assumption) (sub_up2 (by with_reducible assumption) (Sub.refl _) (by omega)) (by omega))) | ((with_reducible refine @And.intro (Sub _ _ ∧ _) _ ?_ ?_); (with_reducible refine @And.intro (Sub _ _) _ ?_ ?_); (first | exact Sub.refl _ | exact sub_del _ _ | exact sub_del_upd (Sub.refl _) | exact sub_del_upd (by with_reducible assumption) | with_reducible assumption | exact Sub.trans (sub_del _ _) (by with_reducible assumption) | exact sub_new (by with_reducible assumption) (by with_reducible assumption) | exact sub_up2 (by with_reducible assumption) (by with_reducible assumption) (by omega) | exact sub_up2 (by with_reducible assumption) (sub_up2 (by with_reducible assumption) (Sub.refl _) (by omega)) (by omega))) | ((with_reducible refine And.intro ?_ ?_); omega)))
    refine (DrawIsABid A n c H1 nx1 hn (hU.sub hs1)).monoC ?_
    rintro v2 H2 nx2 hB2 hx2 ⟨hs2, A2, m2, c2, f2, b2, l2, rfl, hm2, hR2⟩
    obtain ⟨x2, t2, hv2⟩ := vIs_ex (G + 1) m2 f2 b2 l2
    have hI6 := IsABid (G + 1) hF A2 m2 c2 f2 b2 l2 H2 nx2 (by omega) hR2
    have hS6 := sIsABid (G + 1) hF A2 m2 c2 f2 b2 l2 H2 nx2 (by omega) hR2
    rw [hv2] at hI6 hS6
    (try (simp (disch := omega) only [bsW, WOp, WOq, WV, bo, gdc, gw, bnd, ↓reduceIte, Nat.reduceEqDiff, rsvs, rsv, oneOf, rdN, ne_eq, Nat.reduceAdd, Nat.reduceMul, Nat.reduceLT, reduceCtorEq, Value.cells, setN, Value.oneCell', Nat.reduceLeDiff, undef, fcT]))
    (repeat' (first | ((with_reducible refine gif_split (fun hs_ => ?_) (fun hs_ => ?_)) <;> (have hp_ := hs_; (try simp only [decide_eq_true_eq, decide_eq_false_iff_not, beq_iff_eq, bne_iff_ne, beq_eq_false_iff_ne, Bool.not_eq_true, Bool.and_eq_true, Bool.or_eq_true, Bool.and_eq_false_iff, Bool.or_eq_false_iff, bne_eq_false_iff_eq, ne_eq] at hp_); (try simp (disch := omega) only [bsW, WOp, WOq, WV, bo, gdc, gw, bnd, ↓reduceIte, Nat.reduceEqDiff, rsvs, rsv, oneOf, rdN, ne_eq, Nat.reduceAdd, Nat.reduceMul, Nat.reduceLT, reduceCtorEq, Value.cells, setN, Value.oneCell', Nat.reduceLeDiff, undef, fcT, hs_]))) | ((with_reducible refine newB_i (fun nb_ hb_ => ?_)); (try simp (disch := omega) only [bsW, WOp, WOq, WV, bo, gdc, gw, bnd, ↓reduceIte, Nat.reduceEqDiff, rsvs, rsv, oneOf, rdN, ne_eq, Nat.reduceAdd, Nat.reduceMul, Nat.reduceLT, reduceCtorEq, Value.cells, setN, Value.oneCell', Nat.reduceLeDiff, undef, fcT])) | ((first | ((with_reducible show QC _ _ _ _ _ _); (first | (refine QC_i (hI6) ?_) | (refine QC_i (hS6) ?_))) | ((with_reducible show AC _ _ _ _ _ _); (first | (refine PC.ac (hI6) ?_) | (refine PC.ac (hS6) ?_)))); (try simp (disch := omega) only [bsW, WOp, WOq, WV, bo, gdc, gw, bnd, ↓reduceIte, Nat.reduceEqDiff, rsvs, rsv, oneOf, rdN, ne_eq, Nat.reduceAdd, Nat.reduceMul, Nat.reduceLT, reduceCtorEq, Value.cells, setN, Value.oneCell', Nat.reduceLeDiff, undef, fcT])) | ((with_reducible refine RgE_i (fun (hBd_ : Bd _ _) => ?_)); (try simp (disch := omega) only [bsW, WOp, WOq, WV, bo, gdc, gw, bnd, ↓reduceIte, Nat.reduceEqDiff, rsvs, rsv, oneOf, rdN, ne_eq, Nat.reduceAdd, Nat.reduceMul, Nat.reduceLT, reduceCtorEq, Value.cells, setN, Value.oneCell', Nat.reduceLeDiff, undef, fcT])) | (with_reducible refine fun (hBd_ : Bd _ _) => ?_) | ((with_reducible refine @And.intro (Sub _ _) _ ?_ ?_); (first | exact Sub.refl _ | exact sub_del _ _ | exact sub_del_upd (Sub.refl _) | exact sub_del_upd (by with_reducible assumption) | with_reducible assumption | exact Sub.trans (sub_del _ _) (by with_reducible assumption) | exact sub_new (by with_reducible assumption) (by with_reducible assumption) | exact sub_up2 (by with_reducible assumption) (by with_reducible assumption) (by omega) | exact sub_up2 (by with_reducible assumption) (sub_up2 (by with_reducible assumption) (Sub.refl _) (by omega)) (by omega))) | ((with_reducible refine @And.intro (Sub _ _ ∧ _) _ ?_ ?_); (with_reducible refine @And.intro (Sub _ _) _ ?_ ?_); (first | exact Sub.refl _ | exact sub_del _ _ | exact sub_del_upd (Sub.refl _) | exact sub_del_upd (by with_reducible assumption) | with_reducible assumption | exact Sub.trans (sub_del _ _) (by with_reducible assumption) | exact sub_new (by with_reducible assumption) (by with_reducible assumption) | exact sub_up2 (by with_reducible assumption) (by with_reducible assumption) (by omega) | exact sub_up2 (by with_reducible assumption) (sub_up2 (by with_reducible assumption) (Sub.refl _) (by omega)) (by omega))) | ((with_reducible refine And.intro ?_ ?_); omega)))
    refine (DrawNextBid A n c H2 nx2 hn (hU.sub (hs1.trans hs2))).monoC ?_
    rintro v3 H3 nx3 hB3 hx3 ⟨hs3, A3, m3, c3, f3, b3, rfl, hm3, hR3⟩
    obtain ⟨x3, t3, hv3, hq3⟩ := vNext_ex m3 f3 b3
    have hI7 := NextBid A3 m3 c3 f3 b3 H3 nx3 (by omega) hR3
    have hS7 := sNextBid A3 m3 c3 f3 b3 H3 nx3 (by omega) hR3
    rw [hv3] at hI7 hS7
    (try (simp (disch := omega) only [bsW, WOp, WOq, WV, bo, gdc, gw, bnd, ↓reduceIte, Nat.reduceEqDiff, rsvs, rsv, oneOf, rdN, ne_eq, Nat.reduceAdd, Nat.reduceMul, Nat.reduceLT, reduceCtorEq, Value.cells, setN, Value.oneCell', Nat.reduceLeDiff, undef, fcT]))
    (repeat' (first | ((with_reducible refine gif_split (fun hs_ => ?_) (fun hs_ => ?_)) <;> (have hp_ := hs_; (try simp only [decide_eq_true_eq, decide_eq_false_iff_not, beq_iff_eq, bne_iff_ne, beq_eq_false_iff_ne, Bool.not_eq_true, Bool.and_eq_true, Bool.or_eq_true, Bool.and_eq_false_iff, Bool.or_eq_false_iff, bne_eq_false_iff_eq, ne_eq] at hp_); (try simp (disch := omega) only [bsW, WOp, WOq, WV, bo, gdc, gw, bnd, ↓reduceIte, Nat.reduceEqDiff, rsvs, rsv, oneOf, rdN, ne_eq, Nat.reduceAdd, Nat.reduceMul, Nat.reduceLT, reduceCtorEq, Value.cells, setN, Value.oneCell', Nat.reduceLeDiff, undef, fcT, hs_]))) | ((with_reducible refine newB_i (fun nb_ hb_ => ?_)); (try simp (disch := omega) only [bsW, WOp, WOq, WV, bo, gdc, gw, bnd, ↓reduceIte, Nat.reduceEqDiff, rsvs, rsv, oneOf, rdN, ne_eq, Nat.reduceAdd, Nat.reduceMul, Nat.reduceLT, reduceCtorEq, Value.cells, setN, Value.oneCell', Nat.reduceLeDiff, undef, fcT])) | ((first | ((with_reducible show QC _ _ _ _ _ _); (first | (refine QC_i (hI7) ?_) | (refine QC_i (hS7) ?_) | (refine QC_i (AreSteps A2 m2 c2 f2 _ _ (by omega) (hR2.sub hs3)) ?_) | (refine QC_i (sAreSteps A2 m2 c2 f2 _ _ (by omega) (hR2.sub hs3)) ?_))) | ((with_reducible show AC _ _ _ _ _ _); (first | (refine PC.ac (hI7) ?_) | (refine PC.ac (hS7) ?_) | (refine PC.ac (AreSteps A2 m2 c2 f2 _ _ (by omega) (hR2.sub hs3)) ?_) | (refine PC.ac (sAreSteps A2 m2 c2 f2 _ _ (by omega) (hR2.sub hs3)) ?_)))); (try simp (disch := omega) only [bsW, WOp, WOq, WV, bo, gdc, gw, bnd, ↓reduceIte, Nat.reduceEqDiff, rsvs, rsv, oneOf, rdN, ne_eq, Nat.reduceAdd, Nat.reduceMul, Nat.reduceLT, reduceCtorEq, Value.cells, setN, Value.oneCell', Nat.reduceLeDiff, undef, fcT])) | ((with_reducible refine RgE_i (fun (hBd_ : Bd _ _) => ?_)); (try simp (disch := omega) only [bsW, WOp, WOq, WV, bo, gdc, gw, bnd, ↓reduceIte, Nat.reduceEqDiff, rsvs, rsv, oneOf, rdN, ne_eq, Nat.reduceAdd, Nat.reduceMul, Nat.reduceLT, reduceCtorEq, Value.cells, setN, Value.oneCell', Nat.reduceLeDiff, undef, fcT])) | (with_reducible refine fun (hBd_ : Bd _ _) => ?_) | ((with_reducible refine @And.intro (Sub _ _) _ ?_ ?_); (first | exact Sub.refl _ | exact sub_del _ _ | exact sub_del_upd (Sub.refl _) | exact sub_del_upd (by with_reducible assumption) | with_reducible assumption | exact Sub.trans (sub_del _ _) (by with_reducible assumption) | exact sub_new (by with_reducible assumption) (by with_reducible assumption) | exact sub_up2 (by with_reducible assumption) (by with_reducible assumption) (by omega) | exact sub_up2 (by with_reducible assumption) (sub_up2 (by with_reducible assumption) (Sub.refl _) (by omega)) (by omega))) | ((with_reducible refine @And.intro (Sub _ _ ∧ _) _ ?_ ?_); (with_reducible refine @And.intro (Sub _ _) _ ?_ ?_); (first | exact Sub.refl _ | exact sub_del _ _ | exact sub_del_upd (Sub.refl _) | exact sub_del_upd (by with_reducible assumption) | with_reducible assumption | exact Sub.trans (sub_del _ _) (by with_reducible assumption) | exact sub_new (by with_reducible assumption) (by with_reducible assumption) | exact sub_up2 (by with_reducible assumption) (by with_reducible assumption) (by omega) | exact sub_up2 (by with_reducible assumption) (sub_up2 (by with_reducible assumption) (Sub.refl _) (by omega)) (by omega))) | ((with_reducible refine And.intro ?_ ?_); omega)))
    all_goals first
      | exact Is_i (hs1.trans (hs2.trans hs3))
      | (exfalso; have q := hq3 (by assumption); simp at hp_; omega)
theorem FnBids_lifted (os : Os) (started : os.Started) (H : Type) (enc : TypeId × Value → H) :
    ReturnsInHanded {} Try.checked os 10 .any (Rows.fnBidsSpec.pre6 enc Try.prog Try.f10 Rows.fnBidsRow.domain false) (Rows.fnBidsSpec.post enc Try.prog Try.f10 false true false false) := by
  refine law_lifted (C := Try.checked) (tb := 4) x_laws_FnBids.call (by kernel_rfl) started (by kernel_rfl) (by kernel_rfl) Try.func10 rfl (by kernel_rfl) (by kernel_rfl) (by kernel_rfl) ?_
    (ChangeSpec.witness6 (enc := enc) (C := Try.checked) false ⟨#[], #[.slice none 0 0], []⟩ 8 (by kernel_rfl) (by kernel_rfl) (by kernel_rfl) (by kernel_rfl)) ?_
  · intro ds hd
    match ds, hd with
    | [d0], _ => rfl
  · intro W base args ha
    have hr : ArgsOK enc Try.prog W base Try.f10.params.toList args.toList := ha
    rw [Try.params10] at hr
    obtain ⟨u0, l0, e0, a0, hr⟩ := hr
    obtain ⟨A0, n0, c0, rfl, hz0, _, hR0⟩ := arg_bytes Try.underlying46 Try.underlying5 (by kernel_rfl) a0
    have hr : l0 = [] := hr
    have ea : args = #[.slice A0 n0 c0] := by
      apply Array.ext'
      rw [e0, hr]
    subst ea
    have hby0 : Try.prog.bytesOf 5 = 1 := by kernel_rfl
    rw [hby0] at hz0
    simp only [reachBytes] at hz0
    exact lawFnBids A0 n0 c0 _ _ (by omega) hR0
theorem FnBids_holds : Rows.FnBidsSaid :=
  OpenClaim.holds_of_wide 10 Try.f10 rfl rfl rfl rfl rfl rfl rfl ⟨rfl, rfl, rfl, rfl, rfl⟩ rfl rfl rfl rfl rfl (by kernel_rfl) Try.func10 (by kernel_rfl)
    (of_decide_eq_true (by kernel_rfl)) (by unfold Func.isWrapper; first | (rw [if_pos (by decide +kernel)]; kernel_rfl) | (rw [if_neg (by decide +kernel)]; exact ⟨rfl, rfl⟩))
    (fun os started H enc _ => FnBids_lifted os started H enc)
end Go.Proofs.Ythddighmlijdeaa
