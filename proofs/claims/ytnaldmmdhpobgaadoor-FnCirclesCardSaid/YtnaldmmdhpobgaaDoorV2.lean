/- Wishes: whether they are right. -/
import Derived.Test.YtnaldmmdhpobgaaDoorV1
set_option linter.unusedVariables false
set_option linter.unusedSimpArgs false
set_option maxRecDepth 100000
set_option maxHeartbeats 1000000
namespace Go.Proofs.YtnaldmmdhpobgaaDoor
open Go Go.RowKit Go.Proofs

theorem areWishes (N : Int) (A : Option Addr) (n c : Nat) (f : Nat → Nat → Int) (H : Hp) (nx : Nat) (hn : n ≤ 9223372036854775807) (hN : -9223372036854775808 ≤ N ∧ N ≤ 9223372036854775807) (h : Rd H A n 3 f) :
    PC Tryd.prog 37 #[.int .i64 N, .slice A n c] H nx (.bool (wssB N n f)) := by
  refine AC_of x_impl_areWishes rfl fun hB => ?_
  simp (disch := omega) only [bsW, WOp, WOq, WV, bo, eqN, gdc, gw, bnd, ↓reduceIte, Nat.reduceEqDiff, rsvs, rsv, oneOf, rdN, ne_eq, Nat.reduceAdd, Nat.reduceMul, Nat.reduceLT, reduceCtorEq, Value.cells, setN, Value.oneCell', Nat.reduceLeDiff, undef, fcT, c_impl_areWishes]
  (repeat' (first | ((with_reducible refine gif_split (fun hs_ => ?_) (fun hs_ => ?_)) <;> (have hp_ := hs_; (try simp only [hpL, ne_eq] at hp_); (try simp (disch := omega) only [bsW, WOp, WOq, WV, bo, eqN, gdc, gw, bnd, ↓reduceIte, Nat.reduceEqDiff, rsvs, rsv, oneOf, rdN, ne_eq, Nat.reduceAdd, Nat.reduceMul, Nat.reduceLT, reduceCtorEq, Value.cells, setN, Value.oneCell', Nat.reduceLeDiff, undef, fcT, hs_]))) | ((first | (with_reducible refine newB_i (fun nb_ hb_ => ?_)) | ((with_reducible show QC _ _ _ _ _ _); (first | (refine QC_i (inRange _ _ _ _ _) ?_))) | ((with_reducible show AC _ _ _ _ _ _); (first | (refine PC.ac (inRange _ _ _ _ _) ?_))) | (with_reducible refine RgE_i (fun (hBd_ : Bd _ _) => ?_))); (try simp (disch := omega) only [bsW, WOp, WOq, WV, bo, eqN, gdc, gw, bnd, ↓reduceIte, Nat.reduceEqDiff, rsvs, rsv, oneOf, rdN, ne_eq, Nat.reduceAdd, Nat.reduceMul, Nat.reduceLT, reduceCtorEq, Value.cells, setN, Value.oneCell', Nat.reduceLeDiff, undef, fcT])) | (with_reducible refine fun (hBd_ : Bd _ _) => ?_) | ((first | (with_reducible refine @And.intro (Sub _ _) _ ?_ ?_) | ((with_reducible refine @And.intro (Sub _ _ ∧ _) _ ?_ ?_); (with_reducible refine @And.intro (Sub _ _) _ ?_ ?_))); exact sbX) | ((with_reducible refine And.intro ?_ ?_); omega)))
  all_goals try (exfalso; omega)
  all_goals try (refine Is_e (congrArg Value.bool (wssB_no (fun hw => ?_)).symm) (Sub.refl H); obtain ⟨⟨q1, q2⟩, q3, _⟩ := hw; first | omega | (have := inR_false.1 ‹inR N 1 8 = false›; omega))
  have hN1 : 1 ≤ N ∧ N ≤ 8 := inR_true.1 (by assumption)
  have hn30 : n ≤ 30 := by omega
  refine LpB_rule (fun m fr H' nx' => ∃ k : Nat, m = n - k + 1 ∧ k ≤ n ∧ fr 0 = .int .i64 N ∧ fr 1 = .slice A n c ∧ fr 15 = .slice A n c ∧ fr 16 = .int .i64 n ∧ fr 17 = .int .i64 k ∧ Sub H H' ∧ nx ≤ nx' ∧ ∀ i, i < k → wsOk N f i) ?_ ?_ (n + 1) ?_
  · rintro m K hK fr H' nx' hB' ⟨k, hm, hk, f0, f1, f15, f16, f17, hs, hx, hall⟩
    simp (disch := omega) only [bsW, WOp, WOq, WV, bo, eqN, gdc, gw, bnd, ↓reduceIte, Nat.reduceEqDiff, rsvs, rsv, oneOf, rdN, ne_eq, Nat.reduceAdd, Nat.reduceMul, Nat.reduceLT, reduceCtorEq, Value.cells, setN, Value.oneCell', Nat.reduceLeDiff, undef, fcT, f0, f1, f15, f16, f17]
    refine gif_split (fun b1 => ?_) (fun b1 => ?_)
    · have hlt : k < n := by simpa using b1
      obtain ⟨b, off, rfl, hc⟩ := h.at_ (by omega)
      have hb := rd_lt hB (hc k 0 hlt (by omega))
      have c0 := rd_sub hs (hc k 0 hlt (by omega))
      have c1 := rd_sub hs (hc k 1 hlt (by omega))
      have c2 := rd_sub hs (hc k 2 hlt (by omega))
      simp only [Nat.add_zero] at c0
      have d0 : 0 < k → _ := fun _ => rd_sub hs (hc (k-1) 0 (by omega) (by omega))
      have d1 : 0 < k → _ := fun _ => rd_sub hs (hc (k-1) 1 (by omega) (by omega))
      have d2 : 0 < k → _ := fun _ => rd_sub hs (hc (k-1) 2 (by omega) (by omega))
      simp only [Nat.add_zero] at d0
      simp (disch := omega) only [bsW, WOp, WOq, WV, bo, eqN, gdc, gw, bnd, ↓reduceIte, Nat.reduceEqDiff, rsvs, rsv, oneOf, rdN, ne_eq, Nat.reduceAdd, Nat.reduceMul, Nat.reduceLT, reduceCtorEq, Value.cells, setN, Value.oneCell', Nat.reduceLeDiff, undef, fcT, f0, f1, f15, f16, f17, c0, c1, c2, d0, d1, d2, b1]
      (repeat' (first | ((with_reducible refine gif_split (fun hs_ => ?_) (fun hs_ => ?_)) <;> (have hp_ := hs_; (try simp only [hpL, ne_eq] at hp_); (try simp (disch := omega) only [bsW, WOp, WOq, WV, bo, eqN, gdc, gw, bnd, ↓reduceIte, Nat.reduceEqDiff, rsvs, rsv, oneOf, rdN, ne_eq, Nat.reduceAdd, Nat.reduceMul, Nat.reduceLT, reduceCtorEq, Value.cells, setN, Value.oneCell', Nat.reduceLeDiff, undef, fcT, f0, f1, f15, f16, f17, c0, c1, c2, d0, d1, d2, hs_]))) | ((first | (with_reducible refine newB_i (fun nb_ hb_ => ?_)) | ((with_reducible show QC _ _ _ _ _ _); (first | (refine QC_i (inRange _ _ _ _ _) ?_) | (refine QC_i (cmpCompare _ _ _ _) ?_) | (refine QC_i (cmpOr2 _ _ _ _ _ _ (upd_same _ _ _)) ?_))) | ((with_reducible show AC _ _ _ _ _ _); (first | (refine PC.ac (inRange _ _ _ _ _) ?_) | (refine PC.ac (cmpCompare _ _ _ _) ?_) | (refine PC.ac (cmpOr2 _ _ _ _ _ _ (upd_same _ _ _)) ?_))) | (with_reducible refine RgE_i (fun (hBd_ : Bd _ _) => ?_))); (try simp (disch := omega) only [bsW, WOp, WOq, WV, bo, eqN, gdc, gw, bnd, ↓reduceIte, Nat.reduceEqDiff, rsvs, rsv, oneOf, rdN, ne_eq, Nat.reduceAdd, Nat.reduceMul, Nat.reduceLT, reduceCtorEq, Value.cells, setN, Value.oneCell', Nat.reduceLeDiff, undef, fcT, f0, f1, f15, f16, f17, c0, c1, c2, d0, d1, d2])) | (with_reducible refine fun (hBd_ : Bd _ _) => ?_) | ((first | (with_reducible refine @And.intro (Sub _ _) _ ?_ ?_) | ((with_reducible refine @And.intro (Sub _ _ ∧ _) _ ?_ ?_); (with_reducible refine @And.intro (Sub _ _) _ ?_ ?_))); exact sbX) | ((with_reducible refine And.intro ?_ ?_); omega)))
      all_goals try (exfalso; omega)
      all_goals first
        | (refine Is_e (congrArg Value.bool (wssB_no fun hw => ?_).symm) ?_
           · have hw := hw.2.2 k hlt
             obtain ⟨⟨h1, h2, h3, h4⟩, h5⟩ := hw
             first
             | (simp_all; done)
             | (have h5 := h5 (by omega)
                have h6 := cmpW_lt.2 h5
                unfold cmpW at h6
                omega)
             | (have h5 := h5 (by omega)
                have := inR_true.1 h1; have := inR_true.1 h2; have := hall (k - 1) (by omega)
                have g1 := inR_true.1 this.1.1; have g2 := inR_true.1 this.1.2.1
                unfold wsLt at h5
                have w1 : IntKind.i64.wrap (10 * f k 0) = 10 * f k 0 := wrap_in (by omega) (by omega)
                have w2 : IntKind.i64.wrap (10 * f k 0 + f k 1) = 10 * f k 0 + f k 1 := wrap_in (by omega) (by omega)
                have w3 : IntKind.i64.wrap (10 * f (k - 1) 0) = 10 * f (k - 1) 0 := wrap_in (by omega) (by omega)
                have w4 : IntKind.i64.wrap (10 * f (k - 1) 0 + f (k - 1) 1) = 10 * f (k - 1) 0 + f (k - 1) 1 := wrap_in (by omega) (by omega)
                simp only [w1, w2, w3, w4] at hp_
                omega)
             | omega
           · (repeat (first | assumption | exact Sub.refl _ | (refine sub_up (nx := nx) ?_ hB ?_; omega))))
        | (refine hK _ _ _ ?_
           refine ⟨k + 1, by omega, by omega, by simp (disch := omega) only [bsW, ↓reduceIte, Nat.reduceEqDiff, ne_eq, reduceCtorEq, fcT, f0, f1, f15, f16, f17, c0, c1, c2, d0, d1, d2], by simp (disch := omega) only [bsW, ↓reduceIte, Nat.reduceEqDiff, ne_eq, reduceCtorEq, fcT, f0, f1, f15, f16, f17, c0, c1, c2, d0, d1, d2], by simp (disch := omega) only [bsW, ↓reduceIte, Nat.reduceEqDiff, ne_eq, reduceCtorEq, fcT, f0, f1, f15, f16, f17, c0, c1, c2, d0, d1, d2], by simp (disch := omega) only [bsW, ↓reduceIte, Nat.reduceEqDiff, ne_eq, reduceCtorEq, fcT, f0, f1, f15, f16, f17, c0, c1, c2, d0, d1, d2], by simp (disch := omega) only [bsW, ↓reduceIte, Nat.reduceEqDiff, ne_eq, reduceCtorEq, fcT, f0, f1, f15, f16, f17, c0, c1, c2, d0, d1, d2, Int.natCast_add, Int.natCast_one], by (repeat (first | assumption | exact Sub.refl _ | (refine sub_up (nx := nx) ?_ hB ?_; omega))), by omega, ?_⟩
           intro i hi
           rcases Nat.lt_succ_iff_lt_or_eq.1 hi with hi | rfl
           · exact hall i hi
           · refine ⟨⟨by first | assumption | (simp_all; done), by first | assumption | (simp_all; done), by first | assumption | omega | (simp_all; done), by first | assumption | (simp_all; done)⟩, fun h0 => ?_⟩
             first
             | (exfalso; omega)
             | (refine cmpW_lt.1 ?_
                unfold cmpW
                omega)
             | (have h1 : inR (f i 0) 0 (N - 1) = true := by first | assumption | (simp_all; done)
                have h2 : inR (f i 1) 0 (N - 1) = true := by first | assumption | (simp_all; done)
                have := inR_true.1 h1; have := inR_true.1 h2; have := hall (i - 1) (by omega)
                have g1 := inR_true.1 this.1.1; have g2 := inR_true.1 this.1.2.1
                unfold wsLt
                have w1 : IntKind.i64.wrap (10 * f i 0) = 10 * f i 0 := wrap_in (by omega) (by omega)
                have w2 : IntKind.i64.wrap (10 * f i 0 + f i 1) = 10 * f i 0 + f i 1 := wrap_in (by omega) (by omega)
                have w3 : IntKind.i64.wrap (10 * f (i - 1) 0) = 10 * f (i - 1) 0 := wrap_in (by omega) (by omega)
                have w4 : IntKind.i64.wrap (10 * f (i - 1) 0 + f (i - 1) 1) = 10 * f (i - 1) 0 + f (i - 1) 1 := wrap_in (by omega) (by omega)
                simp only [w1, w2, w3, w4] at hp_
                omega))
    · have hkn : k = n := by simp at b1; omega
      subst hkn
      simp (disch := omega) only [bsW, WOp, WOq, WV, bo, eqN, gdc, gw, bnd, ↓reduceIte, Nat.reduceEqDiff, rsvs, rsv, oneOf, rdN, ne_eq, Nat.reduceAdd, Nat.reduceMul, Nat.reduceLT, reduceCtorEq, Value.cells, setN, Value.oneCell', Nat.reduceLeDiff, undef, fcT, f0, f1, f15, f16, f17, b1]
      exact Is_e (by rw [wssB_yes hN1.1 hN1.2 hn30 hall]) hs
  · rintro fr H' nx' ⟨k, hm, _⟩; omega
  · exact ⟨0, by omega, by omega, by simp (disch := omega) only [bsW, ↓reduceIte, Nat.reduceEqDiff, ne_eq, reduceCtorEq, fcT], by simp (disch := omega) only [bsW, ↓reduceIte, Nat.reduceEqDiff, ne_eq, reduceCtorEq, fcT], by simp (disch := omega) only [bsW, ↓reduceIte, Nat.reduceEqDiff, ne_eq, reduceCtorEq, fcT], by simp (disch := omega) only [bsW, ↓reduceIte, Nat.reduceEqDiff, ne_eq, reduceCtorEq, fcT], by simp (disch := omega) only [bsW, ↓reduceIte, Nat.reduceEqDiff, ne_eq, reduceCtorEq, fcT, Int.natCast_zero], Sub.refl _, by omega, by intro i hi; omega⟩

theorem l20Good (N : Int) (A : Option Addr) (n c : Nat) (f : Nat → Nat → Int) (H : Hp) (nx : Nat) (hn : n ≤ 9223372036854775807) (hN : -9223372036854775808 ≤ N ∧ N ≤ 9223372036854775807) (h : Rd H A n 3 f) :
    PC Tryd.prog 40 #[.int .i64 N, .slice A n c] H nx (.bool (wssB N n f)) := by
  refine AC_of x_spec_l20Good rfl fun hB => ?_
  simp (disch := omega) only [bsW, WOp, WOq, WV, bo, eqN, gdc, gw, bnd, ↓reduceIte, Nat.reduceEqDiff, rsvs, rsv, oneOf, rdN, ne_eq, Nat.reduceAdd, Nat.reduceMul, Nat.reduceLT, reduceCtorEq, Value.cells, setN, Value.oneCell', Nat.reduceLeDiff, undef, fcT, c_spec_l20Good]
  (repeat' (first | ((with_reducible refine gif_split (fun hs_ => ?_) (fun hs_ => ?_)) <;> (have hp_ := hs_; (try simp only [hpL, ne_eq] at hp_); (try simp (disch := omega) only [bsW, WOp, WOq, WV, bo, eqN, gdc, gw, bnd, ↓reduceIte, Nat.reduceEqDiff, rsvs, rsv, oneOf, rdN, ne_eq, Nat.reduceAdd, Nat.reduceMul, Nat.reduceLT, reduceCtorEq, Value.cells, setN, Value.oneCell', Nat.reduceLeDiff, undef, fcT, hs_]))) | ((first | (with_reducible refine newB_i (fun nb_ hb_ => ?_)) | ((with_reducible show QC _ _ _ _ _ _); (first | (refine QC_i (l1In _ _ _ _ _) ?_))) | ((with_reducible show AC _ _ _ _ _ _); (first | (refine PC.ac (l1In _ _ _ _ _) ?_))) | (with_reducible refine RgE_i (fun (hBd_ : Bd _ _) => ?_))); (try simp (disch := omega) only [bsW, WOp, WOq, WV, bo, eqN, gdc, gw, bnd, ↓reduceIte, Nat.reduceEqDiff, rsvs, rsv, oneOf, rdN, ne_eq, Nat.reduceAdd, Nat.reduceMul, Nat.reduceLT, reduceCtorEq, Value.cells, setN, Value.oneCell', Nat.reduceLeDiff, undef, fcT])) | (with_reducible refine fun (hBd_ : Bd _ _) => ?_) | ((first | (with_reducible refine @And.intro (Sub _ _) _ ?_ ?_) | ((with_reducible refine @And.intro (Sub _ _ ∧ _) _ ?_ ?_); (with_reducible refine @And.intro (Sub _ _) _ ?_ ?_))); exact sbX) | ((with_reducible refine And.intro ?_ ?_); omega)))
  all_goals try (exfalso; omega)
  all_goals try (refine Is_e (congrArg Value.bool (wssB_no (fun hw => ?_)).symm) (Sub.refl H); obtain ⟨⟨q1, q2⟩, q3, _⟩ := hw; first | omega | (have := inR_false.1 ‹inR N 1 8 = false›; omega))
  have hN1 : 1 ≤ N ∧ N ≤ 8 := inR_true.1 (by assumption)
  have hn30 : n ≤ 30 := by omega
  refine LpB_rule (fun m fr H' nx' => ∃ k : Nat, m = n - k + 1 ∧ k ≤ n ∧ fr 0 = .int .i64 N ∧ fr 1 = .slice A n c ∧ fr 5 = .int .i64 k ∧ Sub H H' ∧ nx ≤ nx' ∧ ∀ i, i < k → wsOk N f i) ?_ ?_ (n + 1) ?_
  · rintro m K hK fr H' nx' hB' ⟨k, hm, hk, f0, f1, f5, hs, hx, hall⟩
    simp (disch := omega) only [bsW, WOp, WOq, WV, bo, eqN, gdc, gw, bnd, ↓reduceIte, Nat.reduceEqDiff, rsvs, rsv, oneOf, rdN, ne_eq, Nat.reduceAdd, Nat.reduceMul, Nat.reduceLT, reduceCtorEq, Value.cells, setN, Value.oneCell', Nat.reduceLeDiff, undef, fcT, f0, f1, f5]
    refine gif_split (fun b1 => ?_) (fun b1 => ?_)
    · have hlt : k < n := by simpa using b1
      obtain ⟨b, off, rfl, hc⟩ := h.at_ (by omega)
      have hb := rd_lt hB (hc k 0 hlt (by omega))
      have c0 := rd_sub hs (hc k 0 hlt (by omega))
      have c1 := rd_sub hs (hc k 1 hlt (by omega))
      have c2 := rd_sub hs (hc k 2 hlt (by omega))
      simp only [Nat.add_zero] at c0
      have d0 : 0 < k → _ := fun _ => rd_sub hs (hc (k-1) 0 (by omega) (by omega))
      have d1 : 0 < k → _ := fun _ => rd_sub hs (hc (k-1) 1 (by omega) (by omega))
      have d2 : 0 < k → _ := fun _ => rd_sub hs (hc (k-1) 2 (by omega) (by omega))
      simp only [Nat.add_zero] at d0
      simp (disch := omega) only [bsW, WOp, WOq, WV, bo, eqN, gdc, gw, bnd, ↓reduceIte, Nat.reduceEqDiff, rsvs, rsv, oneOf, rdN, ne_eq, Nat.reduceAdd, Nat.reduceMul, Nat.reduceLT, reduceCtorEq, Value.cells, setN, Value.oneCell', Nat.reduceLeDiff, undef, fcT, f0, f1, f5, c0, c1, c2, d0, d1, d2, b1]
      (repeat' (first | ((with_reducible refine gif_split (fun hs_ => ?_) (fun hs_ => ?_)) <;> (have hp_ := hs_; (try simp only [hpL, ne_eq] at hp_); (try simp (disch := omega) only [bsW, WOp, WOq, WV, bo, eqN, gdc, gw, bnd, ↓reduceIte, Nat.reduceEqDiff, rsvs, rsv, oneOf, rdN, ne_eq, Nat.reduceAdd, Nat.reduceMul, Nat.reduceLT, reduceCtorEq, Value.cells, setN, Value.oneCell', Nat.reduceLeDiff, undef, fcT, f0, f1, f5, c0, c1, c2, d0, d1, d2, hs_]))) | ((first | (with_reducible refine newB_i (fun nb_ hb_ => ?_)) | ((with_reducible show QC _ _ _ _ _ _); (first | (refine QC_i (l1In _ _ _ _ _) ?_) | (refine QC_i (l20Person _ _ _ _) ?_))) | ((with_reducible show AC _ _ _ _ _ _); (first | (refine PC.ac (l1In _ _ _ _ _) ?_) | (refine PC.ac (l20Person _ _ _ _) ?_))) | (with_reducible refine RgE_i (fun (hBd_ : Bd _ _) => ?_))); (try simp (disch := omega) only [bsW, WOp, WOq, WV, bo, eqN, gdc, gw, bnd, ↓reduceIte, Nat.reduceEqDiff, rsvs, rsv, oneOf, rdN, ne_eq, Nat.reduceAdd, Nat.reduceMul, Nat.reduceLT, reduceCtorEq, Value.cells, setN, Value.oneCell', Nat.reduceLeDiff, undef, fcT, f0, f1, f5, c0, c1, c2, d0, d1, d2])) | (with_reducible refine fun (hBd_ : Bd _ _) => ?_) | ((first | (with_reducible refine @And.intro (Sub _ _) _ ?_ ?_) | ((with_reducible refine @And.intro (Sub _ _ ∧ _) _ ?_ ?_); (with_reducible refine @And.intro (Sub _ _) _ ?_ ?_))); exact sbX) | ((with_reducible refine And.intro ?_ ?_); omega)))
      all_goals try (exfalso; omega)
      all_goals first
        | (refine Is_e (congrArg Value.bool (wssB_no fun hw => ?_).symm) ?_
           · have hw := hw.2.2 k hlt
             obtain ⟨⟨h1, h2, h3, h4⟩, h5⟩ := hw
             first
             | (simp_all; done)
             | (have h5 := h5 (by omega)
                have h6 := cmpW_lt.2 h5
                unfold cmpW at h6
                omega)
             | (have h5 := h5 (by omega)
                have := inR_true.1 h1; have := inR_true.1 h2; have := hall (k - 1) (by omega)
                have g1 := inR_true.1 this.1.1; have g2 := inR_true.1 this.1.2.1
                unfold wsLt at h5
                have w1 : IntKind.i64.wrap (10 * f k 0) = 10 * f k 0 := wrap_in (by omega) (by omega)
                have w2 : IntKind.i64.wrap (10 * f k 0 + f k 1) = 10 * f k 0 + f k 1 := wrap_in (by omega) (by omega)
                have w3 : IntKind.i64.wrap (10 * f (k - 1) 0) = 10 * f (k - 1) 0 := wrap_in (by omega) (by omega)
                have w4 : IntKind.i64.wrap (10 * f (k - 1) 0 + f (k - 1) 1) = 10 * f (k - 1) 0 + f (k - 1) 1 := wrap_in (by omega) (by omega)
                simp only [w1, w2, w3, w4] at hp_
                omega)
             | omega
           · (repeat (first | assumption | exact Sub.refl _ | (refine sub_up (nx := nx) ?_ hB ?_; omega))))
        | (refine hK _ _ _ ?_
           refine ⟨k + 1, by omega, by omega, by simp (disch := omega) only [bsW, ↓reduceIte, Nat.reduceEqDiff, ne_eq, reduceCtorEq, fcT, f0, f1, f5, c0, c1, c2, d0, d1, d2], by simp (disch := omega) only [bsW, ↓reduceIte, Nat.reduceEqDiff, ne_eq, reduceCtorEq, fcT, f0, f1, f5, c0, c1, c2, d0, d1, d2], by simp (disch := omega) only [bsW, ↓reduceIte, Nat.reduceEqDiff, ne_eq, reduceCtorEq, fcT, f0, f1, f5, c0, c1, c2, d0, d1, d2, Int.natCast_add, Int.natCast_one], by (repeat (first | assumption | exact Sub.refl _ | (refine sub_up (nx := nx) ?_ hB ?_; omega))), by omega, ?_⟩
           intro i hi
           rcases Nat.lt_succ_iff_lt_or_eq.1 hi with hi | rfl
           · exact hall i hi
           · refine ⟨⟨by first | assumption | (simp_all; done), by first | assumption | (simp_all; done), by first | assumption | omega | (simp_all; done), by first | assumption | (simp_all; done)⟩, fun h0 => ?_⟩
             first
             | (exfalso; omega)
             | (refine cmpW_lt.1 ?_
                unfold cmpW
                omega)
             | (have h1 : inR (f i 0) 0 (N - 1) = true := by first | assumption | (simp_all; done)
                have h2 : inR (f i 1) 0 (N - 1) = true := by first | assumption | (simp_all; done)
                have := inR_true.1 h1; have := inR_true.1 h2; have := hall (i - 1) (by omega)
                have g1 := inR_true.1 this.1.1; have g2 := inR_true.1 this.1.2.1
                unfold wsLt
                have w1 : IntKind.i64.wrap (10 * f i 0) = 10 * f i 0 := wrap_in (by omega) (by omega)
                have w2 : IntKind.i64.wrap (10 * f i 0 + f i 1) = 10 * f i 0 + f i 1 := wrap_in (by omega) (by omega)
                have w3 : IntKind.i64.wrap (10 * f (i - 1) 0) = 10 * f (i - 1) 0 := wrap_in (by omega) (by omega)
                have w4 : IntKind.i64.wrap (10 * f (i - 1) 0 + f (i - 1) 1) = 10 * f (i - 1) 0 + f (i - 1) 1 := wrap_in (by omega) (by omega)
                simp only [w1, w2, w3, w4] at hp_
                omega))
    · have hkn : k = n := by simp at b1; omega
      subst hkn
      simp (disch := omega) only [bsW, WOp, WOq, WV, bo, eqN, gdc, gw, bnd, ↓reduceIte, Nat.reduceEqDiff, rsvs, rsv, oneOf, rdN, ne_eq, Nat.reduceAdd, Nat.reduceMul, Nat.reduceLT, reduceCtorEq, Value.cells, setN, Value.oneCell', Nat.reduceLeDiff, undef, fcT, f0, f1, f5, b1]
      exact Is_e (by rw [wssB_yes hN1.1 hN1.2 hn30 hall]) hs
  · rintro fr H' nx' ⟨k, hm, _⟩; omega
  · exact ⟨0, by omega, by omega, by simp (disch := omega) only [bsW, ↓reduceIte, Nat.reduceEqDiff, ne_eq, reduceCtorEq, fcT], by simp (disch := omega) only [bsW, ↓reduceIte, Nat.reduceEqDiff, ne_eq, reduceCtorEq, fcT], by simp (disch := omega) only [bsW, ↓reduceIte, Nat.reduceEqDiff, ne_eq, reduceCtorEq, fcT, Int.natCast_zero], Sub.refl _, by omega, by intro i hi; omega⟩
end Go.Proofs.YtnaldmmdhpobgaaDoor
