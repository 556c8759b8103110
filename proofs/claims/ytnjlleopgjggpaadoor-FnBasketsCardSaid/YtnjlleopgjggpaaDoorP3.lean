/- Prices: the price in a year. -/
import Derived.Test.YtnjlleopgjggpaaDoorP2
import Derived.Test.YtnjlleopgjggpaaDoorD4
set_option linter.unusedVariables false
set_option linter.unusedSimpArgs false
set_option maxRecDepth 100000
set_option maxHeartbeats 1000000
namespace Go.Proofs.YtnjlleopgjggpaaDoor
open Go Go.RowKit Go.Proofs

theorem priceIn (A : Option Addr) (n c : Nat) (f : Nat → Nat → Int) (item year : Int) (H : Hp) (nx : Nat) (hok : prsOk n f) (hy : 0 ≤ year ∧ year ≤ 4000) (h : Rd H A n 3 f) :
    PC Tryd.prog 91 #[.slice A n c, .int .i64 item, .int .i64 year] H nx (.tuple #[.int .i64 (priceV n f item year), .bool (decide (0 < priceV n f item year))]) := by
  have hn := hok.2
  refine AC_of x_impl_priceIn rfl fun hB => ?_
  simp (disch := omega) only [bsW, WOp, WOq, WV, bo, eqN, gdc, gw, bnd, ↓reduceIte, Nat.reduceEqDiff, rsvs, rsv, oneOf, rdN, ne_eq, Nat.reduceAdd, Nat.reduceMul, Nat.reduceLT, reduceCtorEq, Value.cells, setN, Value.oneCell', Nat.reduceLeDiff, undef, fcT, c_impl_priceIn]
  refine LpE_rule (fun m fr H' nx' => ∃ k : Nat, m = n - k + 1 ∧ k ≤ n ∧ fr 0 = .slice A n c ∧ fr 1 = .int .i64 item ∧ fr 2 = .int .i64 year ∧ fr 13 = .slice A n c ∧ fr 14 = .int .i64 n ∧ fr 15 = .int .i64 k ∧ Sub H H' ∧ nx ≤ nx' ∧ ∀ i, i < k → ¬ prAt f item year i ∧ ¬ prBr n f item year i) ?_ ?_ (n + 1) ?_
  · rintro m K hK fr H' nx' ⟨k, hm, hk, f0, f1, f2, f13, f14, f15, hs, hx, hall⟩
    simp (disch := omega) only [bsW, WOp, WOq, WV, bo, eqN, gdc, gw, bnd, ↓reduceIte, Nat.reduceEqDiff, rsvs, rsv, oneOf, rdN, ne_eq, Nat.reduceAdd, Nat.reduceMul, Nat.reduceLT, reduceCtorEq, Value.cells, setN, Value.oneCell', Nat.reduceLeDiff, undef, fcT, f0, f1, f2, f13, f14, f15]
    refine gif_split (fun b1 => ?_) (fun b1 => ?_)
    · have hlt : k < n := by simpa using b1
      obtain ⟨b, off, rfl, hc⟩ := h.at_ (by omega)
      have hb := rd_lt hB (hc k 0 hlt (by omega))
      have c0 := rd_sub hs (hc k 0 hlt (by omega))
      have c1 := rd_sub hs (hc k 1 hlt (by omega))
      have c2 := rd_sub hs (hc k 2 hlt (by omega))
      simp only [Nat.add_zero] at c0
      have n0 : k + 1 < n → _ := fun h1 => rd_sub hs (hc (k+1) 0 h1 (by omega))
      have n1 : k + 1 < n → _ := fun h1 => rd_sub hs (hc (k+1) 1 h1 (by omega))
      have n2 : k + 1 < n → _ := fun h1 => rd_sub hs (hc (k+1) 2 h1 (by omega))
      simp only [Nat.add_zero] at n0
      have hbk := prs_bd hok hlt
      have hbn : k + 1 < n → _ := fun h1 => prs_bd hok h1
      have hv0 := priceV_bd hok item year
      have hmul : k + 1 < n → _ := fun h1 => mul_bd (a := f (k + 1) 2 - f k 2) (b := year - f k 1) (A := 10000000) (B := 4000) (by have := hbn h1; omega) (by omega)
      have hdiv : k + 1 < n → _ := fun h1 => tdiv_bd (a := (f (k + 1) 2 - f k 2) * (year - f k 1)) (b := f (k + 1) 1 - f k 1) (M := 10000000 * 4000) (by have := hmul h1; omega)
      simp only [Int.reduceMul] at hmul hdiv
      simp (disch := omega) only [bsW, WOp, WOq, WV, bo, eqN, gdc, gw, bnd, ↓reduceIte, Nat.reduceEqDiff, rsvs, rsv, oneOf, rdN, ne_eq, Nat.reduceAdd, Nat.reduceMul, Nat.reduceLT, reduceCtorEq, Value.cells, setN, Value.oneCell', Nat.reduceLeDiff, undef, fcT, f0, f1, f2, f13, f14, f15, c0, c1, c2, n0, n1, n2, toNat_succ, b1]
      (repeat' (first | ((with_reducible refine gif_split (fun hs_ => ?_) (fun hs_ => ?_)) <;> (have hp_ := hs_; (try simp only [hpL, ne_eq] at hp_); (try simp (disch := omega) only [bsW, WOp, WOq, WV, bo, eqN, gdc, gw, bnd, ↓reduceIte, Nat.reduceEqDiff, rsvs, rsv, oneOf, rdN, ne_eq, Nat.reduceAdd, Nat.reduceMul, Nat.reduceLT, reduceCtorEq, Value.cells, setN, Value.oneCell', Nat.reduceLeDiff, undef, fcT, f0, f1, f2, f13, f14, f15, c0, c1, c2, n0, n1, n2, toNat_succ, hs_]))) | ((first | (with_reducible refine newB_i (fun nb_ hb_ => ?_)) | (with_reducible refine RgE_i (fun (hBd_ : Bd _ _) => ?_))); (try simp (disch := omega) only [bsW, WOp, WOq, WV, bo, eqN, gdc, gw, bnd, ↓reduceIte, Nat.reduceEqDiff, rsvs, rsv, oneOf, rdN, ne_eq, Nat.reduceAdd, Nat.reduceMul, Nat.reduceLT, reduceCtorEq, Value.cells, setN, Value.oneCell', Nat.reduceLeDiff, undef, fcT, f0, f1, f2, f13, f14, f15, c0, c1, c2, n0, n1, n2, toNat_succ])) | (with_reducible refine fun (hBd_ : Bd _ _) => ?_) | ((first | (with_reducible refine @And.intro (Sub _ _) _ ?_ ?_) | ((with_reducible refine @And.intro (Sub _ _ ∧ _) _ ?_ ?_); (with_reducible refine @And.intro (Sub _ _) _ ?_ ?_))); exact sbX) | ((with_reducible refine And.intro ?_ ?_); omega)))
      all_goals try (exfalso; omega)
      all_goals first
        | (refine hK _ _ _ ?_
           refine ⟨k + 1, by omega, by omega, by simp (disch := omega) only [bsW, ↓reduceIte, Nat.reduceEqDiff, ne_eq, reduceCtorEq, fcT, f0, f1, f2, f13, f14, f15, c0, c1, c2, n0, n1, n2, toNat_succ], by simp (disch := omega) only [bsW, ↓reduceIte, Nat.reduceEqDiff, ne_eq, reduceCtorEq, fcT, f0, f1, f2, f13, f14, f15, c0, c1, c2, n0, n1, n2, toNat_succ], by simp (disch := omega) only [bsW, ↓reduceIte, Nat.reduceEqDiff, ne_eq, reduceCtorEq, fcT, f0, f1, f2, f13, f14, f15, c0, c1, c2, n0, n1, n2, toNat_succ], by simp (disch := omega) only [bsW, ↓reduceIte, Nat.reduceEqDiff, ne_eq, reduceCtorEq, fcT, f0, f1, f2, f13, f14, f15, c0, c1, c2, n0, n1, n2, toNat_succ], by simp (disch := omega) only [bsW, ↓reduceIte, Nat.reduceEqDiff, ne_eq, reduceCtorEq, fcT, f0, f1, f2, f13, f14, f15, c0, c1, c2, n0, n1, n2, toNat_succ], by simp (disch := omega) only [bsW, ↓reduceIte, Nat.reduceEqDiff, ne_eq, reduceCtorEq, fcT, f0, f1, f2, f13, f14, f15, c0, c1, c2, n0, n1, n2, toNat_succ, Int.natCast_add, Int.natCast_one], by (repeat (first | assumption | exact Sub.refl _ | (refine sub_up (nx := nx) ?_ hB ?_; omega))), by omega, ?_⟩
           intro i hi
           rcases Nat.lt_succ_iff_lt_or_eq.1 hi with hi | rfl
           · exact hall i hi
           · unfold prAt prBr
             omega)
        | (have hat : prAt f item year k := by unfold prAt; omega
           have hv := priceV_at hok hlt hat
           refine Is_e ?_ ?_
           · rw [hv, decide_eq_true (by omega)]
           · (repeat (first | assumption | exact Sub.refl _ | (refine sub_up (nx := nx) ?_ hB ?_; omega))))
        | (have hbr : prBr n f item year k := by unfold prBr; omega
           have hv := priceV_br hok hbr
           have hpos := priceV_br_pos hok hbr
           have hadj := tdiv_adj (a := (f (k + 1) 2 - f k 2) * (year - f k 1)) (b := f (k + 1) 1 - f k 1) (by omega)
           unfold ipt at hv
           rw [← hadj] at hv
           first
           | rw [if_pos hp_] at hv
           | rw [if_neg hp_] at hv
           refine Is_e ?_ ?_
           · rw [decide_eq_true hpos, hv]
           · (repeat (first | assumption | exact Sub.refl _ | (refine sub_up (nx := nx) ?_ hB ?_; omega))))
    · have hkn : k = n := by simp at b1; omega
      subst hkn
      simp (disch := omega) only [bsW, WOp, WOq, WV, bo, eqN, gdc, gw, bnd, ↓reduceIte, Nat.reduceEqDiff, rsvs, rsv, oneOf, rdN, ne_eq, Nat.reduceAdd, Nat.reduceMul, Nat.reduceLT, reduceCtorEq, Value.cells, setN, Value.oneCell', Nat.reduceLeDiff, undef, fcT, f0, f1, f2, f13, f14, f15, b1]
      rw [priceV_no (fun i hi => (hall i hi).1) (fun i hi => (hall i (by have := hi.1; omega)).2 hi)]
      exact Is_e (by simp) hs
  · rintro fr H' nx' ⟨k, hm, _⟩; omega
  · exact ⟨0, by omega, by omega, by simp (disch := omega) only [bsW, ↓reduceIte, Nat.reduceEqDiff, ne_eq, reduceCtorEq, fcT], by simp (disch := omega) only [bsW, ↓reduceIte, Nat.reduceEqDiff, ne_eq, reduceCtorEq, fcT], by simp (disch := omega) only [bsW, ↓reduceIte, Nat.reduceEqDiff, ne_eq, reduceCtorEq, fcT], by simp (disch := omega) only [bsW, ↓reduceIte, Nat.reduceEqDiff, ne_eq, reduceCtorEq, fcT], by simp (disch := omega) only [bsW, ↓reduceIte, Nat.reduceEqDiff, ne_eq, reduceCtorEq, fcT], by simp (disch := omega) only [bsW, ↓reduceIte, Nat.reduceEqDiff, ne_eq, reduceCtorEq, fcT, Int.natCast_zero], Sub.refl _, by omega, by intro i hi; omega⟩

theorem l24Price (A : Option Addr) (n c : Nat) (f : Nat → Nat → Int) (item year : Int) (H : Hp) (nx : Nat) (hok : prsOk n f) (hy : 0 ≤ year ∧ year ≤ 4000) (h : Rd H A n 3 f) :
    PC Tryd.prog 89 #[.slice A n c, .int .i64 item, .int .i64 year] H nx (.int .i64 (priceV n f item year)) := by
  have hn := hok.2
  refine AC_of x_spec_l24Price rfl fun hB => ?_
  simp (disch := omega) only [bsW, WOp, WOq, WV, bo, eqN, gdc, gw, bnd, ↓reduceIte, Nat.reduceEqDiff, rsvs, rsv, oneOf, rdN, ne_eq, Nat.reduceAdd, Nat.reduceMul, Nat.reduceLT, reduceCtorEq, Value.cells, setN, Value.oneCell', Nat.reduceLeDiff, undef, fcT, c_spec_l24Price]
  refine LpE_rule (fun m fr H' nx' => ∃ k : Nat, m = n - k + 1 ∧ k ≤ n ∧ fr 0 = .slice A n c ∧ fr 1 = .int .i64 item ∧ fr 2 = .int .i64 year ∧ fr 7 = .int .i64 k ∧ Sub H H' ∧ nx ≤ nx' ∧ ∀ i, i < k → f i 0 ≠ item ∨ f i 1 < year) ?_ ?_ (n + 1) ?_
  · rintro m K hK fr H' nx' ⟨k, hm, hk, f0, f1, f2, f7, hs, hx, hall⟩
    simp (disch := omega) only [bsW, WOp, WOq, WV, bo, eqN, gdc, gw, bnd, ↓reduceIte, Nat.reduceEqDiff, rsvs, rsv, oneOf, rdN, ne_eq, Nat.reduceAdd, Nat.reduceMul, Nat.reduceLT, reduceCtorEq, Value.cells, setN, Value.oneCell', Nat.reduceLeDiff, undef, fcT, f0, f1, f2, f7]
    refine gif_split (fun b1 => ?_) (fun b1 => ?_)
    · have hlt : k < n := by simpa using b1
      obtain ⟨b, off, rfl, hc⟩ := h.at_ (by omega)
      have hb := rd_lt hB (hc k 0 hlt (by omega))
      have c0 := rd_sub hs (hc k 0 hlt (by omega))
      have c1 := rd_sub hs (hc k 1 hlt (by omega))
      have c2 := rd_sub hs (hc k 2 hlt (by omega))
      simp only [Nat.add_zero] at c0
      have d0 : 0 < k → _ := fun _ => rd_sub hs (hc (k-1) 0 (by omega) (by omega))
      have d1 : 0 < k → _ := fun _ => rd_sub hs (hc (k-1) 1 (by omega) (by omega))
      have d2 : 0 < k → _ := fun _ => rd_sub hs (hc (k-1) 2 (by omega) (by omega))
      simp only [Nat.add_zero] at d0
      have hbk := prs_bd hok hlt
      have hbn : 0 < k → _ := fun h1 => prs_bd hok (show k - 1 < n by omega)
      have hv0 := priceV_bd hok item year
      have hmul : 0 < k → _ := fun h1 => mul_bd (a := f k 2 - f (k - 1) 2) (b := year - f (k - 1) 1) (A := 10000000) (B := 4000) (by have := hbn h1; omega) (by have := hbn h1; omega)
      have hdiv : 0 < k → _ := fun h1 => tdiv_bd (a := (f k 2 - f (k - 1) 2) * (year - f (k - 1) 1)) (b := f k 1 - f (k - 1) 1) (M := 10000000 * 4000) (by have := hmul h1; omega)
      have hmul2 : 0 < k → _ := fun h1 => mul_bd (a := -(f k 2 - f (k - 1) 2)) (b := year - f (k - 1) 1) (A := 10000000) (B := 4000) (by have := hbn h1; omega) (by have := hbn h1; omega)
      have hdiv2 : 0 < k → _ := fun h1 => tdiv_bd (a := -(f k 2 - f (k - 1) 2) * (year - f (k - 1) 1) + (f k 1 - f (k - 1) 1) - 1) (b := f k 1 - f (k - 1) 1) (M := 10000000 * 4000 + 4000) (by have := hmul2 h1; have := hbn h1; omega)
      simp only [Int.reduceMul, Int.reduceAdd] at hmul hdiv hmul2 hdiv2
      simp (disch := omega) only [bsW, WOp, WOq, WV, bo, eqN, gdc, gw, bnd, ↓reduceIte, Nat.reduceEqDiff, rsvs, rsv, oneOf, rdN, ne_eq, Nat.reduceAdd, Nat.reduceMul, Nat.reduceLT, reduceCtorEq, Value.cells, setN, Value.oneCell', Nat.reduceLeDiff, undef, fcT, f0, f1, f2, f7, c0, c1, c2, d0, d1, d2, Int.zero_sub, b1]
      (repeat' (first | ((with_reducible refine gif_split (fun hs_ => ?_) (fun hs_ => ?_)) <;> (have hp_ := hs_; (try simp only [hpL, ne_eq] at hp_); (try simp (disch := omega) only [bsW, WOp, WOq, WV, bo, eqN, gdc, gw, bnd, ↓reduceIte, Nat.reduceEqDiff, rsvs, rsv, oneOf, rdN, ne_eq, Nat.reduceAdd, Nat.reduceMul, Nat.reduceLT, reduceCtorEq, Value.cells, setN, Value.oneCell', Nat.reduceLeDiff, undef, fcT, f0, f1, f2, f7, c0, c1, c2, d0, d1, d2, Int.zero_sub, hs_]))) | ((first | (with_reducible refine newB_i (fun nb_ hb_ => ?_)) | (with_reducible refine RgE_i (fun (hBd_ : Bd _ _) => ?_))); (try simp (disch := omega) only [bsW, WOp, WOq, WV, bo, eqN, gdc, gw, bnd, ↓reduceIte, Nat.reduceEqDiff, rsvs, rsv, oneOf, rdN, ne_eq, Nat.reduceAdd, Nat.reduceMul, Nat.reduceLT, reduceCtorEq, Value.cells, setN, Value.oneCell', Nat.reduceLeDiff, undef, fcT, f0, f1, f2, f7, c0, c1, c2, d0, d1, d2, Int.zero_sub])) | (with_reducible refine fun (hBd_ : Bd _ _) => ?_) | ((first | (with_reducible refine @And.intro (Sub _ _) _ ?_ ?_) | ((with_reducible refine @And.intro (Sub _ _ ∧ _) _ ?_ ?_); (with_reducible refine @And.intro (Sub _ _) _ ?_ ?_))); exact sbX) | ((with_reducible refine And.intro ?_ ?_); omega)))
      all_goals try (exfalso; omega)
      all_goals first
        | (refine hK _ _ _ ?_
           refine ⟨k + 1, by omega, by omega, by simp (disch := omega) only [bsW, ↓reduceIte, Nat.reduceEqDiff, ne_eq, reduceCtorEq, fcT, f0, f1, f2, f7, c0, c1, c2, d0, d1, d2, Int.zero_sub], by simp (disch := omega) only [bsW, ↓reduceIte, Nat.reduceEqDiff, ne_eq, reduceCtorEq, fcT, f0, f1, f2, f7, c0, c1, c2, d0, d1, d2, Int.zero_sub], by simp (disch := omega) only [bsW, ↓reduceIte, Nat.reduceEqDiff, ne_eq, reduceCtorEq, fcT, f0, f1, f2, f7, c0, c1, c2, d0, d1, d2, Int.zero_sub], by simp (disch := omega) only [bsW, ↓reduceIte, Nat.reduceEqDiff, ne_eq, reduceCtorEq, fcT, f0, f1, f2, f7, c0, c1, c2, d0, d1, d2, Int.zero_sub, Int.natCast_add, Int.natCast_one], by (repeat (first | assumption | exact Sub.refl _ | (refine sub_up (nx := nx) ?_ hB ?_; omega))), by omega, ?_⟩
           intro i hi
           rcases Nat.lt_succ_iff_lt_or_eq.1 hi with hi | rfl
           · exact hall i hi
           · omega)
        | (have hat : prAt f item year k := by unfold prAt; omega
           have hv := priceV_at hok hlt hat
           refine Is_e ?_ ?_
           · rw [hv]
           · (repeat (first | assumption | exact Sub.refl _ | (refine sub_up (nx := nx) ?_ hB ?_; omega))))
        | (have hv := priceV_gap hok hlt hall (by omega) (by omega) (by omega)
           refine Is_e ?_ ?_
           · rw [hv]
           · (repeat (first | assumption | exact Sub.refl _ | (refine sub_up (nx := nx) ?_ hB ?_; omega))))
        | (obtain ⟨hb4, hv⟩ := priceV_br1 hok hlt (by omega) hall (by omega) (by omega) (by omega)
           have hd0 : 0 < f k 1 - f (k - 1) 1 := by omega
           refine ⟨by omega, ?_⟩
           refine Is_e ?_ ?_
           · rw [hv]
             first
             | (have hn0 := neg_ceil (d := f k 1 - f (k - 1) 1) (m := -(f k 2 - f (k - 1) 2) * (year - f (k - 1) 1)) hd0 (Int.mul_nonneg (by omega) (by omega))
                rw [Int.sub_eq_add_neg, hn0, Int.neg_mul, Int.neg_neg])
             | (rw [Int.tdiv_eq_ediv_of_nonneg (Int.mul_nonneg (by omega) (by omega))])
           · (repeat (first | assumption | exact Sub.refl _ | (refine sub_up (nx := nx) ?_ hB ?_; omega))))
    · have hkn : k = n := by simp at b1; omega
      subst hkn
      simp (disch := omega) only [bsW, WOp, WOq, WV, bo, eqN, gdc, gw, bnd, ↓reduceIte, Nat.reduceEqDiff, rsvs, rsv, oneOf, rdN, ne_eq, Nat.reduceAdd, Nat.reduceMul, Nat.reduceLT, reduceCtorEq, Value.cells, setN, Value.oneCell', Nat.reduceLeDiff, undef, fcT, f0, f1, f2, f7, b1]
      rw [priceV_no (fun i hi h2 => by have := hall i hi; unfold prAt at h2; omega) (fun i h2 => by have h3 := h2.1; have := hall (i + 1) h3; unfold prBr at h2; omega)]
      exact Is_e rfl hs
  · rintro fr H' nx' ⟨k, hm, _⟩; omega
  · exact ⟨0, by omega, by omega, by simp (disch := omega) only [bsW, ↓reduceIte, Nat.reduceEqDiff, ne_eq, reduceCtorEq, fcT], by simp (disch := omega) only [bsW, ↓reduceIte, Nat.reduceEqDiff, ne_eq, reduceCtorEq, fcT], by simp (disch := omega) only [bsW, ↓reduceIte, Nat.reduceEqDiff, ne_eq, reduceCtorEq, fcT], by simp (disch := omega) only [bsW, ↓reduceIte, Nat.reduceEqDiff, ne_eq, reduceCtorEq, fcT, Int.natCast_zero], Sub.refl _, by omega, by intro i hi; omega⟩
end Go.Proofs.YtnjlleopgjggpaaDoor
