/- Prices: SetPrice, the reference. -/
import Derived.Test.YtgjkjibllgpnjaaP15
set_option linter.unusedVariables false
set_option linter.unusedSimpArgs false
set_option maxRecDepth 100000
set_option maxHeartbeats 1000000
namespace Go.Proofs.Ytgjkjibllgpnjaa
open Go Go.RowKit Go.Proofs

theorem sSetPrice (A : Option Addr) (n c : Nat) (f : Nat → Nat → Int) (item year cents : Int) (H : Hp) (nx : Nat) (hn : n ≤ 17592186044416) (h : Rd H A n 3 f) :
    AC Try.prog 41 #[.slice A n c, .int .i64 item, .int .i64 year, .int .i64 cents] H nx (SpK H nx n f item year cents) := by
  refine AC_of x_spec_SetPrice rfl fun hB => ?_
  simp (disch := omega) only [bsW, WOp, WOq, WV, bo, eqN, gdc, gw, bnd, ↓reduceIte, Nat.reduceEqDiff, rsvs, rsv, oneOf, rdN, ne_eq, Nat.reduceAdd, Nat.reduceMul, Nat.reduceLT, reduceCtorEq, Value.cells, setN, Value.oneCell', Nat.reduceLeDiff, undef, fcT, c_spec_SetPrice]
  (repeat' (first | ((with_reducible refine gif_split (fun hs_ => ?_) (fun hs_ => ?_)) <;> (have hp_ := hs_; (try simp only [hpL, ne_eq] at hp_); (try simp (disch := omega) only [bsW, WOp, WOq, WV, bo, eqN, gdc, gw, bnd, ↓reduceIte, Nat.reduceEqDiff, rsvs, rsv, oneOf, rdN, ne_eq, Nat.reduceAdd, Nat.reduceMul, Nat.reduceLT, reduceCtorEq, Value.cells, setN, Value.oneCell', Nat.reduceLeDiff, undef, fcT, hs_]))) | ((first | (with_reducible refine newB_i (fun nb_ hb_ => ?_)) | ((with_reducible show QC _ _ _ _ _ _); (first | (refine QC_i (l24Good A n c f _ _ hn h) ?_))) | ((with_reducible show AC _ _ _ _ _ _); (first | (refine PC.ac (l24Good A n c f _ _ hn h) ?_))) | (with_reducible refine RgE_i (fun (hBd_ : Bd _ _) => ?_))); (try simp (disch := omega) only [bsW, WOp, WOq, WV, bo, eqN, gdc, gw, bnd, ↓reduceIte, Nat.reduceEqDiff, rsvs, rsv, oneOf, rdN, ne_eq, Nat.reduceAdd, Nat.reduceMul, Nat.reduceLT, reduceCtorEq, Value.cells, setN, Value.oneCell', Nat.reduceLeDiff, undef, fcT])) | (with_reducible refine fun (hBd_ : Bd _ _) => ?_) | ((first | (with_reducible refine @And.intro (Sub _ _) _ ?_ ?_) | ((with_reducible refine @And.intro (Sub _ _ ∧ _) _ ?_ ?_); (with_reducible refine @And.intro (Sub _ _) _ ?_ ?_))); exact sbX) | ((with_reducible refine And.intro ?_ ?_); omega)))
  all_goals try (exfalso; omega)
  all_goals try (
    exact spK_no (by simp_all [spB]) ⟨.empty (by assumption) (by omega) (upd_same _ _ _), by (repeat (first | assumption | exact Sub.refl _ | (refine sub_up (nx := nx) ?_ hB ?_; omega)))⟩)
  have hp : prsB n f = true := by with_reducible assumption
  have hok := prsB_iff.1 hp
  have hn15 := hok.2
  have e0 : spB n f item year cents = prsB (spM n f item year) (spF n f item year cents) := by simp [spB, hp]
  have hpos := posP_le f item year n
  have hM := spM_pos (n := n) (f := f) (item := item) (year := year)
  have hfd1 : fdN n f item year ≤ 1 := by unfold fdN; split <;> omega
  have eM : spM n f item year = n + 1 - fdN n f item year := rfl
  refine LpE_rule (fun m fr H' nx' => ∃ (k : Nat) (w : Value), m = n - k + 1 ∧ k ≤ n ∧ fr 0 = .slice A n c ∧ fr 1 = .int .i64 item ∧ fr 2 = .int .i64 year ∧ fr 3 = .int .i64 cents ∧ fr 10 = w ∧ fr 11 = .int .i64 k ∧
    OwnR H' nx nx' (min k (posP f item year n)) 3 f 56 w ∧ Sub H H' ∧ nx ≤ nx') ?_ ?_ (n + 1) ?_
  · rintro m K hK fr H' nx' ⟨k, w, hm, hk, f0, f1, f2, f3, f10, f11, hO, hs, hx⟩
    simp (disch := omega) only [bsW, WOp, WOq, WV, bo, eqN, gdc, gw, bnd, ↓reduceIte, Nat.reduceEqDiff, rsvs, rsv, oneOf, rdN, ne_eq, Nat.reduceAdd, Nat.reduceMul, Nat.reduceLT, reduceCtorEq, Value.cells, setN, Value.oneCell', Nat.reduceLeDiff, undef, fcT, f0, f1, f2, f3, f10, f11]
    refine gif_split (fun b1 => ?_) (fun b1 => ?_)
    · have hlt : k < n := by simpa using b1
      obtain ⟨b, off, rfl, hc⟩ := h.at_ (by omega)
      have hb := rd_lt hB (hc k 0 hlt (by omega))
      have c0 := rd_sub hs (hc k 0 hlt (by omega))
      have c1 := rd_sub hs (hc k 1 hlt (by omega))
      have c2 := rd_sub hs (hc k 2 hlt (by omega))
      simp only [Nat.add_zero] at c0
      have hbf := posP_bef hok (item := item) (year := year) hlt
      simp (disch := omega) only [bsW, WOp, WOq, WV, bo, eqN, gdc, gw, bnd, ↓reduceIte, Nat.reduceEqDiff, rsvs, rsv, oneOf, rdN, ne_eq, Nat.reduceAdd, Nat.reduceMul, Nat.reduceLT, reduceCtorEq, Value.cells, setN, Value.oneCell', Nat.reduceLeDiff, undef, fcT, f0, f1, f2, f3, f10, f11, c0, c1, c2, b1]
      (repeat' (first | ((with_reducible refine gif_split (fun hs_ => ?_) (fun hs_ => ?_)) <;> (have hp_ := hs_; (try simp only [hpL, ne_eq] at hp_); (try simp (disch := omega) only [bsW, WOp, WOq, WV, bo, eqN, gdc, gw, bnd, ↓reduceIte, Nat.reduceEqDiff, rsvs, rsv, oneOf, rdN, ne_eq, Nat.reduceAdd, Nat.reduceMul, Nat.reduceLT, reduceCtorEq, Value.cells, setN, Value.oneCell', Nat.reduceLeDiff, undef, fcT, f0, f1, f2, f3, f10, f11, c0, c1, c2, hs_]))) | ((first | (with_reducible refine newB_i (fun nb_ hb_ => ?_)) | ((with_reducible show QC _ _ _ _ _ _); (first | (refine QC_i (l24Before _ _ _ _ _ _ _) ?_))) | ((with_reducible show AC _ _ _ _ _ _); (first | (refine PC.ac (l24Before _ _ _ _ _ _ _) ?_))) | (with_reducible refine RgE_i (fun (hBd_ : Bd _ _) => ?_))); (try simp (disch := omega) only [bsW, WOp, WOq, WV, bo, eqN, gdc, gw, bnd, ↓reduceIte, Nat.reduceEqDiff, rsvs, rsv, oneOf, rdN, ne_eq, Nat.reduceAdd, Nat.reduceMul, Nat.reduceLT, reduceCtorEq, Value.cells, setN, Value.oneCell', Nat.reduceLeDiff, undef, fcT, f0, f1, f2, f3, f10, f11, c0, c1, c2])) | (with_reducible refine fun (hBd_ : Bd _ _) => ?_) | ((first | (with_reducible refine @And.intro (Sub _ _) _ ?_ ?_) | ((with_reducible refine @And.intro (Sub _ _ ∧ _) _ ?_ ?_); (with_reducible refine @And.intro (Sub _ _) _ ?_ ?_))); exact sbX) | ((with_reducible refine And.intro ?_ ?_); omega)))
      all_goals try (exfalso; omega)
      · have hkp : k < posP f item year n := hbf.1 hp_
        rw [Nat.min_eq_left (by omega)] at hO
        refine app_one (k := 3) (bytes := 24) (e := f k) (by simp (disch := omega) only [bsW, WOp, WOq, WV, bo, eqN, gdc, gw, bnd, ↓reduceIte, Nat.reduceEqDiff, rsvs, rsv, oneOf, rdN, ne_eq, Nat.reduceAdd, Nat.reduceMul, Nat.reduceLT, reduceCtorEq, Value.cells, setN, Value.oneCell', Nat.reduceLeDiff, undef, fcT, f0, f1, f2, f3, f10, f11, c0, c1, c2]) (by simp (disch := omega) only [bsW, WOp, WOq, WV, bo, eqN, gdc, gw, bnd, ↓reduceIte, Nat.reduceEqDiff, rsvs, rsv, oneOf, rdN, ne_eq, Nat.reduceAdd, Nat.reduceMul, Nat.reduceLT, reduceCtorEq, Value.cells, setN, Value.oneCell', Nat.reduceLeDiff, undef, fcT, f0, f1, f2, f3, f10, f11, c0, c1, c2]) (by simp (disch := omega) only [bsW, WOp, WOq, WV, bo, eqN, gdc, gw, bnd, ↓reduceIte, Nat.reduceEqDiff, rsvs, rsv, oneOf, rdN, ne_eq, Nat.reduceAdd, Nat.reduceMul, Nat.reduceLT, reduceCtorEq, Value.cells, setN, Value.oneCell', Nat.reduceLeDiff, undef, fcT, f0, f1, f2, f3, f10, f11, c0, c1, c2]) ⟨_, qz56, rfl⟩ (by omega) (hO.keep (fun q hq => by have := hO.blk hq; simp (disch := omega) only [bsW, WOp, WOq, WV, bo, eqN, gdc, gw, bnd, ↓reduceIte, Nat.reduceEqDiff, rsvs, rsv, oneOf, rdN, ne_eq, Nat.reduceAdd, Nat.reduceMul, Nat.reduceLT, reduceCtorEq, Value.cells, setN, Value.oneCell', Nat.reduceLeDiff, undef, fcT, f0, f1, f2, f3, f10, f11, c0, c1, c2]) (by omega)) (upd_same _ _ _) ?_ (by omega) (by omega) (by unfold maxLen; omega) ?_
        · simp [List.range_succ]
        rintro v' b' o nx2 hb' hn2 hown' hO2
        have hlo : nx ≤ b' := by
          rcases hb' with e | e
          · exact (hO.blk e).1
          · omega
        simp (disch := omega) only [bsW, WOp, WOq, WV, bo, eqN, gdc, gw, bnd, ↓reduceIte, Nat.reduceEqDiff, rsvs, rsv, oneOf, rdN, ne_eq, Nat.reduceAdd, Nat.reduceMul, Nat.reduceLT, reduceCtorEq, Value.cells, setN, Value.oneCell', Nat.reduceLeDiff, undef, fcT, f0, f1, f2, f3, f10, f11, c0, c1, c2]
        refine hK _ _ _ ?_
        refine ⟨k + 1, v', by omega, by omega, by simp (disch := omega) only [bsW, ↓reduceIte, Nat.reduceEqDiff, ne_eq, reduceCtorEq, fcT, f0, f1, f2, f3, f10, f11, c0, c1, c2], by simp (disch := omega) only [bsW, ↓reduceIte, Nat.reduceEqDiff, ne_eq, reduceCtorEq, fcT, f0, f1, f2, f3, f10, f11, c0, c1, c2], by simp (disch := omega) only [bsW, ↓reduceIte, Nat.reduceEqDiff, ne_eq, reduceCtorEq, fcT, f0, f1, f2, f3, f10, f11, c0, c1, c2], by simp (disch := omega) only [bsW, ↓reduceIte, Nat.reduceEqDiff, ne_eq, reduceCtorEq, fcT, f0, f1, f2, f3, f10, f11, c0, c1, c2], by simp (disch := omega) only [bsW, ↓reduceIte, Nat.reduceEqDiff, ne_eq, reduceCtorEq, fcT, f0, f1, f2, f3, f10, f11, c0, c1, c2], by simp (disch := omega) only [bsW, ↓reduceIte, Nat.reduceEqDiff, ne_eq, reduceCtorEq, fcT, f0, f1, f2, f3, f10, f11, c0, c1, c2, Int.natCast_add, Int.natCast_one], ?_, by (repeat (first | assumption | exact Sub.refl _ | (refine sub_up (nx := nx) ?_ hB ?_; omega))), by omega⟩
        rw [Nat.min_eq_left (by omega)]
        refine hO2.congr (fun i j hi hj => ?_)
        simp only [snoc]
        split
        · rfl
        · rw [show i = k by omega]
      · have hkp : ¬ k < posP f item year n := fun e => hp_ (hbf.2 e)
        refine hK _ _ _ ?_
        refine ⟨k + 1, w, by omega, by omega, by simp (disch := omega) only [bsW, ↓reduceIte, Nat.reduceEqDiff, ne_eq, reduceCtorEq, fcT, f0, f1, f2, f3, f10, f11, c0, c1, c2], by simp (disch := omega) only [bsW, ↓reduceIte, Nat.reduceEqDiff, ne_eq, reduceCtorEq, fcT, f0, f1, f2, f3, f10, f11, c0, c1, c2], by simp (disch := omega) only [bsW, ↓reduceIte, Nat.reduceEqDiff, ne_eq, reduceCtorEq, fcT, f0, f1, f2, f3, f10, f11, c0, c1, c2], by simp (disch := omega) only [bsW, ↓reduceIte, Nat.reduceEqDiff, ne_eq, reduceCtorEq, fcT, f0, f1, f2, f3, f10, f11, c0, c1, c2], by simp (disch := omega) only [bsW, ↓reduceIte, Nat.reduceEqDiff, ne_eq, reduceCtorEq, fcT, f0, f1, f2, f3, f10, f11, c0, c1, c2], by simp (disch := omega) only [bsW, ↓reduceIte, Nat.reduceEqDiff, ne_eq, reduceCtorEq, fcT, f0, f1, f2, f3, f10, f11, c0, c1, c2, Int.natCast_add, Int.natCast_one], ?_, hs, by omega⟩
        rw [Nat.min_eq_right (by omega)] at hO ⊢
        exact hO
    · have hkn : k = n := by simp at b1; omega
      subst hkn
      rw [Nat.min_eq_right (by omega)] at hO
      simp (disch := omega) only [bsW, WOp, WOq, WV, bo, eqN, gdc, gw, bnd, ↓reduceIte, Nat.reduceEqDiff, rsvs, rsv, oneOf, rdN, ne_eq, Nat.reduceAdd, Nat.reduceMul, Nat.reduceLT, reduceCtorEq, Value.cells, setN, Value.oneCell', Nat.reduceLeDiff, undef, fcT, f0, f1, f2, f3, f10, f11, b1]
      (repeat' (first | ((with_reducible refine gif_split (fun hs_ => ?_) (fun hs_ => ?_)) <;> (have hp_ := hs_; (try simp only [hpL, ne_eq] at hp_); (try simp (disch := omega) only [bsW, WOp, WOq, WV, bo, eqN, gdc, gw, bnd, ↓reduceIte, Nat.reduceEqDiff, rsvs, rsv, oneOf, rdN, ne_eq, Nat.reduceAdd, Nat.reduceMul, Nat.reduceLT, reduceCtorEq, Value.cells, setN, Value.oneCell', Nat.reduceLeDiff, undef, fcT, f0, f1, f2, f3, f10, f11, hs_]))) | ((first | (with_reducible refine newB_i (fun nb_ hb_ => ?_)) | (with_reducible refine RgE_i (fun (hBd_ : Bd _ _) => ?_))); (try simp (disch := omega) only [bsW, WOp, WOq, WV, bo, eqN, gdc, gw, bnd, ↓reduceIte, Nat.reduceEqDiff, rsvs, rsv, oneOf, rdN, ne_eq, Nat.reduceAdd, Nat.reduceMul, Nat.reduceLT, reduceCtorEq, Value.cells, setN, Value.oneCell', Nat.reduceLeDiff, undef, fcT, f0, f1, f2, f3, f10, f11])) | (with_reducible refine fun (hBd_ : Bd _ _) => ?_) | ((first | (with_reducible refine @And.intro (Sub _ _) _ ?_ ?_) | ((with_reducible refine @And.intro (Sub _ _ ∧ _) _ ?_ ?_); (with_reducible refine @And.intro (Sub _ _) _ ?_ ?_))); exact sbX) | ((with_reducible refine And.intro ?_ ?_); omega)))
      all_goals try (exfalso; omega)
      refine app_one (k := 3) (bytes := 24) (e := eP item year cents) (by simp (disch := omega) only [bsW, WOp, WOq, WV, bo, eqN, gdc, gw, bnd, ↓reduceIte, Nat.reduceEqDiff, rsvs, rsv, oneOf, rdN, ne_eq, Nat.reduceAdd, Nat.reduceMul, Nat.reduceLT, reduceCtorEq, Value.cells, setN, Value.oneCell', Nat.reduceLeDiff, undef, fcT, f0, f1, f2, f3, f10, f11]) (by simp (disch := omega) only [bsW, WOp, WOq, WV, bo, eqN, gdc, gw, bnd, ↓reduceIte, Nat.reduceEqDiff, rsvs, rsv, oneOf, rdN, ne_eq, Nat.reduceAdd, Nat.reduceMul, Nat.reduceLT, reduceCtorEq, Value.cells, setN, Value.oneCell', Nat.reduceLeDiff, undef, fcT, f0, f1, f2, f3, f10, f11]) (by simp (disch := omega) only [bsW, WOp, WOq, WV, bo, eqN, gdc, gw, bnd, ↓reduceIte, Nat.reduceEqDiff, rsvs, rsv, oneOf, rdN, ne_eq, Nat.reduceAdd, Nat.reduceMul, Nat.reduceLT, reduceCtorEq, Value.cells, setN, Value.oneCell', Nat.reduceLeDiff, undef, fcT, f0, f1, f2, f3, f10, f11]) ⟨_, qz56, rfl⟩ (by omega) (hO.keep (fun q hq => by have := hO.blk hq; simp (disch := omega) only [bsW, WOp, WOq, WV, bo, eqN, gdc, gw, bnd, ↓reduceIte, Nat.reduceEqDiff, rsvs, rsv, oneOf, rdN, ne_eq, Nat.reduceAdd, Nat.reduceMul, Nat.reduceLT, reduceCtorEq, Value.cells, setN, Value.oneCell', Nat.reduceLeDiff, undef, fcT, f0, f1, f2, f3, f10, f11]) (by omega)) (upd_same _ _ _) ?_ (by omega) (by omega) (by unfold maxLen; omega) ?_
      · simp [List.range_succ, eP]
      rintro v' b' o nx2 hb' hn2 hown' hO2
      have hlo : nx ≤ b' := by
        rcases hb' with e | e
        · exact (hO.blk e).1
        · omega
      have hO2' : OwnR (upd (upd H' nb_ (.rw [.int .i64 item, .int .i64 year, .int .i64 cents] 56)) b' o) nx nx2 (posP f item year k + 1) 3 (spF k f item year cents) 56 v' := hO2.congr (fun i j hi hj => by
        unfold snoc spF
        by_cases h1 : i < posP f item year k
        · rw [if_pos h1, if_pos h1]
        · rw [if_neg h1, if_neg h1, if_pos (show i = posP f item year k by omega)])
      have hs2 : Sub H (upd (upd H' nb_ (.rw [.int .i64 item, .int .i64 year, .int .i64 cents] 56)) b' o) := by (repeat (first | assumption | exact Sub.refl _ | (refine sub_up (nx := nx) ?_ hB ?_; omega)))
      clear hO2
      simp (disch := omega) only [bsW, WOp, WOq, WV, bo, eqN, gdc, gw, bnd, ↓reduceIte, Nat.reduceEqDiff, rsvs, rsv, oneOf, rdN, ne_eq, Nat.reduceAdd, Nat.reduceMul, Nat.reduceLT, reduceCtorEq, Value.cells, setN, Value.oneCell', Nat.reduceLeDiff, undef, fcT, f0, f1, f2, f3, f10, f11]
      generalize (upd (upd H' nb_ (.rw [.int .i64 item, .int .i64 year, .int .i64 cents] 56)) b' o) = H2 at *
      refine LpE_rule (fun m fr H' nx' => ∃ (q : Nat) (w : Value), m = k - q + 1 ∧ q ≤ k ∧ fr 0 = .slice A k c ∧ fr 1 = .int .i64 item ∧ fr 2 = .int .i64 year ∧ fr 10 = w ∧ fr 12 = .int .i64 q ∧
        OwnR H' nx nx' (posP f item year k + 1 + (q - (posP f item year k + fdN k f item year))) 3 (spF k f item year cents) 56 w ∧ Sub H H' ∧ nx ≤ nx') ?_ ?_ (k + 1) ?_
      · rintro m2 K2 hK2 fr2 H2' nx2' ⟨q, w2, hm2, hq, g0, g1, g2, g10, g12, hO3, hs3, hx3⟩
        simp (disch := omega) only [bsW, WOp, WOq, WV, bo, eqN, gdc, gw, bnd, ↓reduceIte, Nat.reduceEqDiff, rsvs, rsv, oneOf, rdN, ne_eq, Nat.reduceAdd, Nat.reduceMul, Nat.reduceLT, reduceCtorEq, Value.cells, setN, Value.oneCell', Nat.reduceLeDiff, undef, fcT, g0, g1, g2, g10, g12]
        refine gif_split (fun b2 => ?_) (fun b2 => ?_)
        · have hlt : q < k := by simpa using b2
          obtain ⟨b, off, rfl, hc⟩ := h.at_ (by omega)
          have hb := rd_lt hB (hc q 0 hlt (by omega))
          have c0 := rd_sub hs3 (hc q 0 hlt (by omega))
          have c1 := rd_sub hs3 (hc q 1 hlt (by omega))
          have c2 := rd_sub hs3 (hc q 2 hlt (by omega))
          simp only [Nat.add_zero] at c0
          have hbf := posP_bef hok (item := item) (year := year) hlt
          have haf := fd_after hok (item := item) (year := year) hlt
          have hfy : fdN k f item year = 1 → posP f item year k < k := fun e => by
            unfold fdN at e
            split at e
            · rename_i hh; simp only [fdP, decide_eq_true_eq] at hh; exact hh.1
            · cases e
          simp (disch := omega) only [bsW, WOp, WOq, WV, bo, eqN, gdc, gw, bnd, ↓reduceIte, Nat.reduceEqDiff, rsvs, rsv, oneOf, rdN, ne_eq, Nat.reduceAdd, Nat.reduceMul, Nat.reduceLT, reduceCtorEq, Value.cells, setN, Value.oneCell', Nat.reduceLeDiff, undef, fcT, g0, g1, g2, g10, g12, c0, c1, c2, Bool.not_true, Bool.not_false, b2]
          (repeat' (first | ((with_reducible refine gif_split (fun hs_ => ?_) (fun hs_ => ?_)) <;> (have hp_ := hs_; (try simp only [hpL, ne_eq] at hp_); (try simp (disch := omega) only [bsW, WOp, WOq, WV, bo, eqN, gdc, gw, bnd, ↓reduceIte, Nat.reduceEqDiff, rsvs, rsv, oneOf, rdN, ne_eq, Nat.reduceAdd, Nat.reduceMul, Nat.reduceLT, reduceCtorEq, Value.cells, setN, Value.oneCell', Nat.reduceLeDiff, undef, fcT, g0, g1, g2, g10, g12, c0, c1, c2, Bool.not_true, Bool.not_false, hs_]))) | ((first | (with_reducible refine newB_i (fun nb_ hb_ => ?_)) | ((with_reducible show QC _ _ _ _ _ _); (first | (refine QC_i (l24Before _ _ _ _ _ _ _) ?_))) | ((with_reducible show AC _ _ _ _ _ _); (first | (refine PC.ac (l24Before _ _ _ _ _ _ _) ?_))) | (with_reducible refine RgE_i (fun (hBd_ : Bd _ _) => ?_))); (try simp (disch := omega) only [bsW, WOp, WOq, WV, bo, eqN, gdc, gw, bnd, ↓reduceIte, Nat.reduceEqDiff, rsvs, rsv, oneOf, rdN, ne_eq, Nat.reduceAdd, Nat.reduceMul, Nat.reduceLT, reduceCtorEq, Value.cells, setN, Value.oneCell', Nat.reduceLeDiff, undef, fcT, g0, g1, g2, g10, g12, c0, c1, c2, Bool.not_true, Bool.not_false])) | (with_reducible refine fun (hBd_ : Bd _ _) => ?_) | ((first | (with_reducible refine @And.intro (Sub _ _) _ ?_ ?_) | ((with_reducible refine @And.intro (Sub _ _ ∧ _) _ ?_ ?_); (with_reducible refine @And.intro (Sub _ _) _ ?_ ?_))); exact sbX) | ((with_reducible refine And.intro ?_ ?_); omega)))
          all_goals try (exfalso; omega)
          all_goals
            first
            | (have hkp : posP f item year k + fdN k f item year ≤ q := by
                 have hnb : ¬ befR f item year q := by unfold befR; first | assumption | omega
                 have hge : posP f item year k ≤ q := by
                   rcases Nat.lt_or_ge q (posP f item year k) with e | e
                   · exact absurd (hbf.2 e) hnb
                   · exact e
                 exact (haf hge).1 (by omega)
               have hcnt : posP f item year k + 1 + (q - (posP f item year k + fdN k f item year)) ≤ k + 1 := by omega
               refine app_one (k := 3) (bytes := 24) (e := f q) (by simp (disch := omega) only [bsW, WOp, WOq, WV, bo, eqN, gdc, gw, bnd, ↓reduceIte, Nat.reduceEqDiff, rsvs, rsv, oneOf, rdN, ne_eq, Nat.reduceAdd, Nat.reduceMul, Nat.reduceLT, reduceCtorEq, Value.cells, setN, Value.oneCell', Nat.reduceLeDiff, undef, fcT, g0, g1, g2, g10, g12, c0, c1, c2, Bool.not_true, Bool.not_false]) (by simp (disch := omega) only [bsW, WOp, WOq, WV, bo, eqN, gdc, gw, bnd, ↓reduceIte, Nat.reduceEqDiff, rsvs, rsv, oneOf, rdN, ne_eq, Nat.reduceAdd, Nat.reduceMul, Nat.reduceLT, reduceCtorEq, Value.cells, setN, Value.oneCell', Nat.reduceLeDiff, undef, fcT, g0, g1, g2, g10, g12, c0, c1, c2, Bool.not_true, Bool.not_false]) (by simp (disch := omega) only [bsW, WOp, WOq, WV, bo, eqN, gdc, gw, bnd, ↓reduceIte, Nat.reduceEqDiff, rsvs, rsv, oneOf, rdN, ne_eq, Nat.reduceAdd, Nat.reduceMul, Nat.reduceLT, reduceCtorEq, Value.cells, setN, Value.oneCell', Nat.reduceLeDiff, undef, fcT, g0, g1, g2, g10, g12, c0, c1, c2, Bool.not_true, Bool.not_false]) ⟨_, qz56, rfl⟩ (by omega) (hO3.keep (fun q hq => by have := hO3.blk hq; simp (disch := omega) only [bsW, WOp, WOq, WV, bo, eqN, gdc, gw, bnd, ↓reduceIte, Nat.reduceEqDiff, rsvs, rsv, oneOf, rdN, ne_eq, Nat.reduceAdd, Nat.reduceMul, Nat.reduceLT, reduceCtorEq, Value.cells, setN, Value.oneCell', Nat.reduceLeDiff, undef, fcT, g0, g1, g2, g10, g12, c0, c1, c2, Bool.not_true, Bool.not_false]) (by omega)) (upd_same _ _ _) (by simp [List.range_succ]) (by omega) (by omega) (by unfold maxLen; omega) ?_
               rintro v' b' o nx2 hb' hn2 hown' hO4
               have hlo : nx ≤ b' := by
                 rcases hb' with e | e
                 · exact (hO3.blk e).1
                 · omega
               simp (disch := omega) only [bsW, WOp, WOq, WV, bo, eqN, gdc, gw, bnd, ↓reduceIte, Nat.reduceEqDiff, rsvs, rsv, oneOf, rdN, ne_eq, Nat.reduceAdd, Nat.reduceMul, Nat.reduceLT, reduceCtorEq, Value.cells, setN, Value.oneCell', Nat.reduceLeDiff, undef, fcT, g0, g1, g2, g10, g12, c0, c1, c2, Bool.not_true, Bool.not_false]
               refine hK2 _ _ _ ?_
               refine ⟨q + 1, v', by omega, by omega, by simp (disch := omega) only [bsW, ↓reduceIte, Nat.reduceEqDiff, ne_eq, reduceCtorEq, fcT, g0, g1, g2, g10, g12, c0, c1, c2, Bool.not_true, Bool.not_false], by simp (disch := omega) only [bsW, ↓reduceIte, Nat.reduceEqDiff, ne_eq, reduceCtorEq, fcT, g0, g1, g2, g10, g12, c0, c1, c2, Bool.not_true, Bool.not_false], by simp (disch := omega) only [bsW, ↓reduceIte, Nat.reduceEqDiff, ne_eq, reduceCtorEq, fcT, g0, g1, g2, g10, g12, c0, c1, c2, Bool.not_true, Bool.not_false], by simp (disch := omega) only [bsW, ↓reduceIte, Nat.reduceEqDiff, ne_eq, reduceCtorEq, fcT, g0, g1, g2, g10, g12, c0, c1, c2, Bool.not_true, Bool.not_false], by simp (disch := omega) only [bsW, ↓reduceIte, Nat.reduceEqDiff, ne_eq, reduceCtorEq, fcT, g0, g1, g2, g10, g12, c0, c1, c2, Bool.not_true, Bool.not_false, Int.natCast_add, Int.natCast_one], ?_, by (repeat (first | assumption | exact Sub.refl _ | (refine sub_up (nx := nx) ?_ hB ?_; omega))), by omega⟩
               rw [show posP f item year k + 1 + (q + 1 - (posP f item year k + fdN k f item year)) = posP f item year k + 1 + (q - (posP f item year k + fdN k f item year)) + 1 by omega]
               refine hO4.congr (fun i j hi hj => ?_)
               simp only [snoc]
               split
               · rfl
               · unfold spF
                 rw [if_neg (by omega), if_neg (by omega)]
                 congr 1
                 omega)
            | (have hkp : q < posP f item year k + fdN k f item year := by
                 rcases Nat.lt_or_ge q (posP f item year k) with e | e
                 · omega
                 · have h1 := (haf e).2
                   have h2 : ¬ befR f item year q := fun hh => by have := hbf.1 hh; omega
                   unfold befR at h2
                   omega
               refine hK2 _ _ _ ?_
               refine ⟨q + 1, w2, by omega, by omega, by simp (disch := omega) only [bsW, ↓reduceIte, Nat.reduceEqDiff, ne_eq, reduceCtorEq, fcT, g0, g1, g2, g10, g12, c0, c1, c2, Bool.not_true, Bool.not_false], by simp (disch := omega) only [bsW, ↓reduceIte, Nat.reduceEqDiff, ne_eq, reduceCtorEq, fcT, g0, g1, g2, g10, g12, c0, c1, c2, Bool.not_true, Bool.not_false], by simp (disch := omega) only [bsW, ↓reduceIte, Nat.reduceEqDiff, ne_eq, reduceCtorEq, fcT, g0, g1, g2, g10, g12, c0, c1, c2, Bool.not_true, Bool.not_false], by simp (disch := omega) only [bsW, ↓reduceIte, Nat.reduceEqDiff, ne_eq, reduceCtorEq, fcT, g0, g1, g2, g10, g12, c0, c1, c2, Bool.not_true, Bool.not_false], by simp (disch := omega) only [bsW, ↓reduceIte, Nat.reduceEqDiff, ne_eq, reduceCtorEq, fcT, g0, g1, g2, g10, g12, c0, c1, c2, Bool.not_true, Bool.not_false, Int.natCast_add, Int.natCast_one], ?_, hs3, by omega⟩
               rw [show posP f item year k + 1 + (q + 1 - (posP f item year k + fdN k f item year)) = posP f item year k + 1 + (q - (posP f item year k + fdN k f item year)) by omega]
               exact hO3)
        · have hqn : q = k := by simp at b2; omega
          subst hqn
          have hfy : fdN q f item year = 1 → posP f item year q < q := fun e => by
            unfold fdN at e
            split at e
            · rename_i hh; simp only [fdP, decide_eq_true_eq] at hh; exact hh.1
            · cases e
          rw [show posP f item year q + 1 + (q - (posP f item year q + fdN q f item year)) = spM q f item year by unfold spM; omega] at hO3
          obtain ⟨A2, c2, rfl, hc2, hR2⟩ := hO3.rd
          simp (disch := omega) only [bsW, WOp, WOq, WV, bo, eqN, gdc, gw, bnd, ↓reduceIte, Nat.reduceEqDiff, rsvs, rsv, oneOf, rdN, ne_eq, Nat.reduceAdd, Nat.reduceMul, Nat.reduceLT, reduceCtorEq, Value.cells, setN, Value.oneCell', Nat.reduceLeDiff, undef, fcT, g0, g1, g2, g10, g12, b2]
          (repeat' (first | ((with_reducible refine gif_split (fun hs_ => ?_) (fun hs_ => ?_)) <;> (have hp_ := hs_; (try simp only [hpL, ne_eq] at hp_); (try simp (disch := omega) only [bsW, WOp, WOq, WV, bo, eqN, gdc, gw, bnd, ↓reduceIte, Nat.reduceEqDiff, rsvs, rsv, oneOf, rdN, ne_eq, Nat.reduceAdd, Nat.reduceMul, Nat.reduceLT, reduceCtorEq, Value.cells, setN, Value.oneCell', Nat.reduceLeDiff, undef, fcT, g0, g1, g2, g10, g12, hs_]))) | ((first | (with_reducible refine newB_i (fun nb_ hb_ => ?_)) | ((with_reducible show QC _ _ _ _ _ _); (first | (refine QC_i (l24Good A2 _ c2 (spF q f item year cents) _ _ (by unfold spM; omega) hR2) ?_))) | ((with_reducible show AC _ _ _ _ _ _); (first | (refine PC.ac (l24Good A2 _ c2 (spF q f item year cents) _ _ (by unfold spM; omega) hR2) ?_))) | (with_reducible refine RgE_i (fun (hBd_ : Bd _ _) => ?_))); (try simp (disch := omega) only [bsW, WOp, WOq, WV, bo, eqN, gdc, gw, bnd, ↓reduceIte, Nat.reduceEqDiff, rsvs, rsv, oneOf, rdN, ne_eq, Nat.reduceAdd, Nat.reduceMul, Nat.reduceLT, reduceCtorEq, Value.cells, setN, Value.oneCell', Nat.reduceLeDiff, undef, fcT, g0, g1, g2, g10, g12])) | (with_reducible refine fun (hBd_ : Bd _ _) => ?_) | ((first | (with_reducible refine @And.intro (Sub _ _) _ ?_ ?_) | ((with_reducible refine @And.intro (Sub _ _ ∧ _) _ ?_ ?_); (with_reducible refine @And.intro (Sub _ _) _ ?_ ?_))); exact sbX) | ((with_reducible refine And.intro ?_ ?_); omega)))
          all_goals try (exfalso; omega)
          · exact spK_yes (by rw [e0]; assumption) ⟨hO3, hs3⟩
          · exact spK_no (by rw [e0]; assumption) ⟨.empty (by omega) (by omega) (upd_same _ _ _), by (repeat (first | assumption | exact Sub.refl _ | (refine sub_up (nx := nx) ?_ hB ?_; omega)))⟩
      · rintro fr H' nx' ⟨q, w, hm, _⟩; omega
      · exact ⟨0, v', by omega, by omega, by simp (disch := omega) only [bsW, ↓reduceIte, Nat.reduceEqDiff, ne_eq, reduceCtorEq, fcT, f0, f1, f2, f3, f10, f11], by simp (disch := omega) only [bsW, ↓reduceIte, Nat.reduceEqDiff, ne_eq, reduceCtorEq, fcT, f0, f1, f2, f3, f10, f11], by simp (disch := omega) only [bsW, ↓reduceIte, Nat.reduceEqDiff, ne_eq, reduceCtorEq, fcT, f0, f1, f2, f3, f10, f11], by simp (disch := omega) only [bsW, ↓reduceIte, Nat.reduceEqDiff, ne_eq, reduceCtorEq, fcT, f0, f1, f2, f3, f10, f11], by simp (disch := omega) only [bsW, ↓reduceIte, Nat.reduceEqDiff, ne_eq, reduceCtorEq, fcT, f0, f1, f2, f3, f10, f11, Int.natCast_zero], by rw [show posP f item year k + 1 + (0 - (posP f item year k + fdN k f item year)) = posP f item year k + 1 by omega]; exact hO2', hs2, by omega⟩
  · rintro fr H' nx' ⟨k, w, hm, _⟩; omega
  · exact ⟨0, .slice (some ⟨nb_, 0, none⟩) 0 0, by omega, by omega, by simp (disch := omega) only [bsW, ↓reduceIte, Nat.reduceEqDiff, ne_eq, reduceCtorEq, fcT], by simp (disch := omega) only [bsW, ↓reduceIte, Nat.reduceEqDiff, ne_eq, reduceCtorEq, fcT], by simp (disch := omega) only [bsW, ↓reduceIte, Nat.reduceEqDiff, ne_eq, reduceCtorEq, fcT], by simp (disch := omega) only [bsW, ↓reduceIte, Nat.reduceEqDiff, ne_eq, reduceCtorEq, fcT], by simp (disch := omega) only [bsW, ↓reduceIte, Nat.reduceEqDiff, ne_eq, reduceCtorEq, fcT], by simp (disch := omega) only [bsW, ↓reduceIte, Nat.reduceEqDiff, ne_eq, reduceCtorEq, fcT, Int.natCast_zero], by rw [Nat.zero_min]; exact .empty (by assumption) (by omega) (upd_same _ _ _), by (repeat (first | assumption | exact Sub.refl _ | (refine sub_up (nx := nx) ?_ hB ?_; omega))), by omega⟩
end Go.Proofs.Ytgjkjibllgpnjaa
