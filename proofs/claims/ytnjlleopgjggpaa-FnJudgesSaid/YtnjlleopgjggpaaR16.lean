/- Exhibits without a judge, the reference. -/
import Derived.Test.YtnjlleopgjggpaaR15
set_option linter.unusedVariables false
set_option linter.unusedSimpArgs false
set_option maxRecDepth 100000
set_option maxHeartbeats 4000000
namespace Go.Proofs.Ytnjlleopgjggpaa
open Go Go.RowKit Go.Proofs

theorem wjK_no2 {H : Hp} {nx n : Nat} {s : Shw} {x : Int} {v : Value} {H' : Hp} {nx' : Nat} (h : wjB n s x = false) (hv : OwnSh H' nx nx' 0 (wjS s x.toNat) 31 3 v) (hs : Sub H H') : WjK H nx n s x (.tuple #[v, .bool false]) H' nx' := by
  have e : wjN n s x = 0 := if_neg (by rw [h]; simp)
  unfold WjK
  rw [h, e]
  exact ⟨_, rfl, hv, hs⟩
theorem OwnSh.empty {H : Hp} {lo hi b : Nat} {s : Shw} {te ti : TypeId} (hb : lo ≤ b) (hx : b < hi) (h : H b = some (.rw [] te)) : OwnSh H lo hi 0 s te ti (.slice (some ⟨b, 0, none⟩) 0 0) :=
  ⟨.inr ⟨b, 0, [], fun _ => 0, fun _ => 0, rfl, hb, hx, Nat.le_refl _, by unfold maxLen; omega, by simp, by rw [flatV_zero]; exact h, fun i hi => by omega, fun i j hi => by omega⟩⟩
theorem sWithoutJudge (A : Option Addr) (n c : Nat) (s : Shw) (x : Int) (H : Hp) (nx : Nat) (hx64 : -9223372036854775808 ≤ x ∧ x ≤ 9223372036854775807) (hn : n ≤ 17592186044416) (h : RdS H A n s) (hw : szOk n s) :
    AC Try.prog 14 #[.slice A n c, .int .i64 x] H nx (WjK H nx n s x) := by
  refine AC_of x_spec_WithoutJudge rfl fun hB => ?_
  cases hv : exsB n s
  · simp (disch := omega) only [bsW, WOp, WOq, WV, bo, eqN, gdc, gw, bnd, ↓reduceIte, Nat.reduceEqDiff, rsvs, rsv, oneOf, rdN, ne_eq, Nat.reduceAdd, Nat.reduceMul, Nat.reduceLT, reduceCtorEq, Value.cells, setN, Value.oneCell', Nat.reduceLeDiff, undef, fcT, hv, Bool.not_false, c_spec_WithoutJudge]
    (repeat' (first | ((with_reducible refine gif_split (fun hs_ => ?_) (fun hs_ => ?_)) <;> (have hp_ := hs_; (try simp only [hpL, ne_eq] at hp_); (try simp (disch := omega) only [bsW, WOp, WOq, WV, bo, eqN, gdc, gw, bnd, ↓reduceIte, Nat.reduceEqDiff, rsvs, rsv, oneOf, rdN, ne_eq, Nat.reduceAdd, Nat.reduceMul, Nat.reduceLT, reduceCtorEq, Value.cells, setN, Value.oneCell', Nat.reduceLeDiff, undef, fcT, hv, Bool.not_false, hs_]))) | ((first | (with_reducible refine newB_i (fun nb_ hb_ => ?_)) | ((with_reducible show QC _ _ _ _ _ _); (first | (refine QC_i (l23Good A n c s _ _ hn h hw) ?_))) | ((with_reducible show AC _ _ _ _ _ _); (first | (refine PC.ac (l23Good A n c s _ _ hn h hw) ?_))) | (with_reducible refine RgE_i (fun (hBd_ : Bd _ _) => ?_))); (try simp (disch := omega) only [bsW, WOp, WOq, WV, bo, eqN, gdc, gw, bnd, ↓reduceIte, Nat.reduceEqDiff, rsvs, rsv, oneOf, rdN, ne_eq, Nat.reduceAdd, Nat.reduceMul, Nat.reduceLT, reduceCtorEq, Value.cells, setN, Value.oneCell', Nat.reduceLeDiff, undef, fcT, hv, Bool.not_false])) | (with_reducible refine fun (hBd_ : Bd _ _) => ?_) | ((first | (with_reducible refine @And.intro (Sub _ _) _ ?_ ?_) | ((with_reducible refine @And.intro (Sub _ _ ∧ _) _ ?_ ?_); (with_reducible refine @And.intro (Sub _ _) _ ?_ ?_))); exact sbX) | ((with_reducible refine And.intro ?_ ?_); omega)))
    all_goals try (exfalso; omega)
    exact wjK_no2 (by unfold wjB; rw [hv]; rfl) (.empty (by assumption) (by omega) (upd_same _ _ _)) (by (repeat (first | assumption | exact Sub.refl _ | (refine sub_up (nx := nx) ?_ hB ?_; omega))))
  have hn10 := exs_n hv
  rcases Nat.eq_zero_or_pos n with hn0 | hn0
  · subst hn0
    simp (disch := omega) only [bsW, WOp, WOq, WV, bo, eqN, gdc, gw, bnd, ↓reduceIte, Nat.reduceEqDiff, rsvs, rsv, oneOf, rdN, ne_eq, Nat.reduceAdd, Nat.reduceMul, Nat.reduceLT, reduceCtorEq, Value.cells, setN, Value.oneCell', Nat.reduceLeDiff, undef, fcT, hv, Bool.not_true, Int.natCast_zero, c_spec_WithoutJudge]
    (repeat' (first | ((with_reducible refine gif_split (fun hs_ => ?_) (fun hs_ => ?_)) <;> (have hp_ := hs_; (try simp only [hpL, ne_eq] at hp_); (try simp (disch := omega) only [bsW, WOp, WOq, WV, bo, eqN, gdc, gw, bnd, ↓reduceIte, Nat.reduceEqDiff, rsvs, rsv, oneOf, rdN, ne_eq, Nat.reduceAdd, Nat.reduceMul, Nat.reduceLT, reduceCtorEq, Value.cells, setN, Value.oneCell', Nat.reduceLeDiff, undef, fcT, hv, Bool.not_true, Int.natCast_zero, hs_]))) | ((first | (with_reducible refine newB_i (fun nb_ hb_ => ?_)) | ((with_reducible show QC _ _ _ _ _ _); (first | (refine QC_i (l23Good A 0 c s _ _ hn h hw) ?_))) | ((with_reducible show AC _ _ _ _ _ _); (first | (refine PC.ac (l23Good A 0 c s _ _ hn h hw) ?_))) | (with_reducible refine RgE_i (fun (hBd_ : Bd _ _) => ?_))); (try simp (disch := omega) only [bsW, WOp, WOq, WV, bo, eqN, gdc, gw, bnd, ↓reduceIte, Nat.reduceEqDiff, rsvs, rsv, oneOf, rdN, ne_eq, Nat.reduceAdd, Nat.reduceMul, Nat.reduceLT, reduceCtorEq, Value.cells, setN, Value.oneCell', Nat.reduceLeDiff, undef, fcT, hv, Bool.not_true, Int.natCast_zero])) | (with_reducible refine fun (hBd_ : Bd _ _) => ?_) | ((first | (with_reducible refine @And.intro (Sub _ _) _ ?_ ?_) | ((with_reducible refine @And.intro (Sub _ _ ∧ _) _ ?_ ?_); (with_reducible refine @And.intro (Sub _ _) _ ?_ ?_))); exact sbX) | ((with_reducible refine And.intro ?_ ?_); omega)))
    all_goals try (exfalso; omega)
    exact wjK_no2 (by unfold wjB; rw [decide_eq_false (by omega)]; simp) (.empty (by assumption) (by omega) (upd_same _ _ _)) (by (repeat (first | assumption | exact Sub.refl _ | (refine sub_up (nx := nx) ?_ hB ?_; omega))))
  have hk1 : ((n : Int) == 0) = false := by simp; omega
  obtain ⟨b, off, B0, d0, rfl, g0, g1, g2, g3, hmd0, hR0⟩ := h.at_ hn0
  have x0 := exs_at hv hn0
  simp only [Nat.zero_mul, Nat.add_zero] at g3
  cases hin : inR x 0 ((s.m 0 : Int) - 1)
  · simp (disch := omega) only [bsW, WOp, WOq, WV, bo, eqN, gdc, gw, bnd, ↓reduceIte, Nat.reduceEqDiff, rsvs, rsv, oneOf, rdN, ne_eq, Nat.reduceAdd, Nat.reduceMul, Nat.reduceLT, reduceCtorEq, Value.cells, setN, Value.oneCell', Nat.reduceLeDiff, undef, fcT, hv, Bool.not_true, Bool.not_false, hk1, hin, g3, c_spec_WithoutJudge]
    (repeat' (first | ((with_reducible refine gif_split (fun hs_ => ?_) (fun hs_ => ?_)) <;> (have hp_ := hs_; (try simp only [hpL, ne_eq] at hp_); (try simp (disch := omega) only [bsW, WOp, WOq, WV, bo, eqN, gdc, gw, bnd, ↓reduceIte, Nat.reduceEqDiff, rsvs, rsv, oneOf, rdN, ne_eq, Nat.reduceAdd, Nat.reduceMul, Nat.reduceLT, reduceCtorEq, Value.cells, setN, Value.oneCell', Nat.reduceLeDiff, undef, fcT, hv, Bool.not_true, Bool.not_false, hk1, hin, g3, hs_]))) | ((first | (with_reducible refine newB_i (fun nb_ hb_ => ?_)) | ((with_reducible show QC _ _ _ _ _ _); (first | (refine QC_i (l23Good _ n c s _ _ hn h hw) ?_) | (refine QC_i (l1In _ _ _ _ _) ?_))) | ((with_reducible show AC _ _ _ _ _ _); (first | (refine PC.ac (l23Good _ n c s _ _ hn h hw) ?_) | (refine PC.ac (l1In _ _ _ _ _) ?_))) | (with_reducible refine RgE_i (fun (hBd_ : Bd _ _) => ?_))); (try simp (disch := omega) only [bsW, WOp, WOq, WV, bo, eqN, gdc, gw, bnd, ↓reduceIte, Nat.reduceEqDiff, rsvs, rsv, oneOf, rdN, ne_eq, Nat.reduceAdd, Nat.reduceMul, Nat.reduceLT, reduceCtorEq, Value.cells, setN, Value.oneCell', Nat.reduceLeDiff, undef, fcT, hv, Bool.not_true, Bool.not_false, hk1, hin, g3])) | (with_reducible refine fun (hBd_ : Bd _ _) => ?_) | ((first | (with_reducible refine @And.intro (Sub _ _) _ ?_ ?_) | ((with_reducible refine @And.intro (Sub _ _ ∧ _) _ ?_ ?_); (with_reducible refine @And.intro (Sub _ _) _ ?_ ?_))); exact sbX) | ((with_reducible refine And.intro ?_ ?_); omega)))
    all_goals try (exfalso; omega)
    have := inR_false.1 hin
    exact wjK_no2 (by unfold wjB; rw [decide_eq_false (by omega)]; simp) (.empty (by assumption) (by omega) (upd_same _ _ _)) (by (repeat (first | assumption | exact Sub.refl _ | (refine sub_up (nx := nx) ?_ hB ?_; omega))))
  have hin' := inR_true.1 hin
  obtain ⟨j, rfl⟩ : ∃ j : Nat, x = j := ⟨x.toNat, by omega⟩
  have e0 : wjB n s j = exsB n (wjS s j) := by
    unfold wjB
    rw [hv, decide_eq_true (by omega), Int.toNat_natCast]
    rfl
  simp (disch := omega) only [bsW, WOp, WOq, WV, bo, eqN, gdc, gw, bnd, ↓reduceIte, Nat.reduceEqDiff, rsvs, rsv, oneOf, rdN, ne_eq, Nat.reduceAdd, Nat.reduceMul, Nat.reduceLT, reduceCtorEq, Value.cells, setN, Value.oneCell', Nat.reduceLeDiff, undef, fcT, hv, Bool.not_true, Bool.not_false, hk1, hin, g3, c_spec_WithoutJudge]
  (repeat' (first | ((with_reducible refine gif_split (fun hs_ => ?_) (fun hs_ => ?_)) <;> (have hp_ := hs_; (try simp only [hpL, ne_eq] at hp_); (try simp (disch := omega) only [bsW, WOp, WOq, WV, bo, eqN, gdc, gw, bnd, ↓reduceIte, Nat.reduceEqDiff, rsvs, rsv, oneOf, rdN, ne_eq, Nat.reduceAdd, Nat.reduceMul, Nat.reduceLT, reduceCtorEq, Value.cells, setN, Value.oneCell', Nat.reduceLeDiff, undef, fcT, hv, Bool.not_true, Bool.not_false, hk1, hin, g3, hs_]))) | ((first | (with_reducible refine newB_i (fun nb_ hb_ => ?_)) | ((with_reducible show QC _ _ _ _ _ _); (first | (refine QC_i (l23Good _ n c s _ _ hn h hw) ?_) | (refine QC_i (l1In _ _ _ _ _) ?_))) | ((with_reducible show AC _ _ _ _ _ _); (first | (refine PC.ac (l23Good _ n c s _ _ hn h hw) ?_) | (refine PC.ac (l1In _ _ _ _ _) ?_))) | (with_reducible refine RgE_i (fun (hBd_ : Bd _ _) => ?_))); (try simp (disch := omega) only [bsW, WOp, WOq, WV, bo, eqN, gdc, gw, bnd, ↓reduceIte, Nat.reduceEqDiff, rsvs, rsv, oneOf, rdN, ne_eq, Nat.reduceAdd, Nat.reduceMul, Nat.reduceLT, reduceCtorEq, Value.cells, setN, Value.oneCell', Nat.reduceLeDiff, undef, fcT, hv, Bool.not_true, Bool.not_false, hk1, hin, g3])) | (with_reducible refine fun (hBd_ : Bd _ _) => ?_) | ((first | (with_reducible refine @And.intro (Sub _ _) _ ?_ ?_) | ((with_reducible refine @And.intro (Sub _ _ ∧ _) _ ?_ ?_); (with_reducible refine @And.intro (Sub _ _) _ ?_ ?_))); exact sbX) | ((with_reducible refine And.intro ?_ ?_); omega)))
  all_goals try (exfalso; omega)
  have hs0 : Sub H (upd H nb_ (.rw [] 31)) := sub_up2 hB (Sub.refl _) (by omega)
  have zE : (upd H nb_ (.rw [] 31)) nb_ = some (.rw [] 31) := upd_same _ _ _
  have hbE := hb_
  generalize (upd H nb_ (.rw [] 31)) = H0 at *
  generalize nb_ = bE at *
  refine LpB_rule (fun mm fr H' nx' => ∃ (k : Nat) (w : Value), mm = n - k + 1 ∧ k ≤ n ∧ fr 0 = .slice (some ⟨b, off, none⟩) n c ∧ fr 1 = .int .i64 j ∧ fr 6 = w ∧ fr 7 = .int .i64 k ∧
    OwnSh H' nx nx' k (wjS s j) 31 3 w ∧ Sub H H' ∧ nx ≤ nx') ?_ ?_ (n + 1) ?_
  · rintro mm K hK fr H' nx' hB' ⟨k, w, hmm, hk, f0, f1, f6, f7, hO, hs, hx⟩
    simp (disch := omega) only [bsW, WOp, WOq, WV, bo, eqN, gdc, gw, bnd, ↓reduceIte, Nat.reduceEqDiff, rsvs, rsv, oneOf, rdN, ne_eq, Nat.reduceAdd, Nat.reduceMul, Nat.reduceLT, reduceCtorEq, Value.cells, setN, Value.oneCell', Nat.reduceLeDiff, undef, fcT, f0, f1, f6, f7]
    refine gif_split (fun b1 => ?_) (fun b1 => ?_)
    · have hlt : k < n := by simpa using b1
      obtain ⟨b', off', B, d, e5, c0, c1, c2, c3, hmd, hR⟩ := (h.sub hs).at_ hlt
      cases e5
      have xk := exs_at hv hlt
      obtain ⟨bB, oB, rfl, hcB⟩ := hR.at_ (show 0 < s.m k by omega)
      simp (disch := omega) only [bsW, WOp, WOq, WV, bo, eqN, gdc, gw, bnd, ↓reduceIte, Nat.reduceEqDiff, rsvs, rsv, oneOf, rdN, ne_eq, Nat.reduceAdd, Nat.reduceMul, Nat.reduceLT, reduceCtorEq, Value.cells, setN, Value.oneCell', Nat.reduceLeDiff, undef, fcT, f0, f1, f6, f7, c0, c1, c2, c3, b1]
      refine ⟨⟨by omega, by omega⟩, newB_i (fun nb_ hb_ => ?_)⟩
      (try (simp (disch := omega) only [bsW, WOp, WOq, WV, bo, eqN, gdc, gw, bnd, ↓reduceIte, Nat.reduceEqDiff, rsvs, rsv, oneOf, rdN, ne_eq, Nat.reduceAdd, Nat.reduceMul, Nat.reduceLT, reduceCtorEq, Value.cells, setN, Value.oneCell', Nat.reduceLeDiff, undef, fcT, f0, f1, f6, f7, c0, c1, c2, c3]))
      have hbX := hb_
      have hs1 : Sub H' (upd H' nb_ (.rw [.int .i64 (s.id k), .string (s.title k), .int .i64 (s.fr k), .slice (some ⟨bB, oB, none⟩) (s.m k) d] 31)) := sub_up2 hB' (Sub.refl _) (by omega)
      have hB1 : Bd (upd H' nb_ (.rw [.int .i64 (s.id k), .string (s.title k), .int .i64 (s.fr k), .slice (some ⟨bB, oB, none⟩) (s.m k) d] 31)) (nb_ + 1) := Bd.up hB' (by omega)
      have zX : (upd H' nb_ (.rw [.int .i64 (s.id k), .string (s.title k), .int .i64 (s.fr k), .slice (some ⟨bB, oB, none⟩) (s.m k) d] 31)) nb_ = some (.rw [.int .i64 (s.id k), .string (s.title k), .int .i64 (s.fr k), .slice (some ⟨bB, oB, none⟩) (s.m k) d] 31) := upd_same _ _ _
      generalize (upd H' nb_ (.rw [.int .i64 (s.id k), .string (s.title k), .int .i64 (s.fr k), .slice (some ⟨bB, oB, none⟩) (s.m k) d] 31)) = H1 at *
      generalize nb_ = bX at *
      have t1 : ((j : Int) + 1).toNat = j + 1 := by omega
      (try (simp (disch := omega) only [bsW, WOp, WOq, WV, bo, eqN, gdc, gw, bnd, ↓reduceIte, Nat.reduceEqDiff, rsvs, rsv, oneOf, rdN, ne_eq, Nat.reduceAdd, Nat.reduceMul, Nat.reduceLT, reduceCtorEq, Value.cells, setN, Value.oneCell', Nat.reduceLeDiff, undef, fcT, f0, f1, f6, f7, rd_rw zX, t1, cutA_zero]))
      (repeat' (first | ((with_reducible refine gif_split (fun hs_ => ?_) (fun hs_ => ?_)) <;> (have hp_ := hs_; (try simp only [hpL, ne_eq] at hp_); (try simp (disch := omega) only [bsW, WOp, WOq, WV, bo, eqN, gdc, gw, bnd, ↓reduceIte, Nat.reduceEqDiff, rsvs, rsv, oneOf, rdN, ne_eq, Nat.reduceAdd, Nat.reduceMul, Nat.reduceLT, reduceCtorEq, Value.cells, setN, Value.oneCell', Nat.reduceLeDiff, undef, fcT, f0, f1, f6, f7, rd_rw zX, t1, cutA_zero, hs_]))) | ((first | (with_reducible refine newB_i (fun nb_ hb_ => ?_)) | (with_reducible refine RgE_i (fun (hBd_ : Bd _ _) => ?_))); (try simp (disch := omega) only [bsW, WOp, WOq, WV, bo, eqN, gdc, gw, bnd, ↓reduceIte, Nat.reduceEqDiff, rsvs, rsv, oneOf, rdN, ne_eq, Nat.reduceAdd, Nat.reduceMul, Nat.reduceLT, reduceCtorEq, Value.cells, setN, Value.oneCell', Nat.reduceLeDiff, undef, fcT, f0, f1, f6, f7, rd_rw zX, t1, cutA_zero])) | (with_reducible refine fun (hBd_ : Bd _ _) => ?_) | ((first | (with_reducible refine @And.intro (Sub _ _) _ ?_ ?_) | ((with_reducible refine @And.intro (Sub _ _ ∧ _) _ ?_ ?_); (with_reducible refine @And.intro (Sub _ _) _ ?_ ?_))); exact sbX) | ((with_reducible refine And.intro ?_ ?_); omega)))
      all_goals try (exfalso; omega)
      refine (l1Own (some ⟨bB, oB, none⟩) j d (fun q _ => s.mks k q) _ _ (by omega) ((hR.take (by omega)).sub hs1)).monoC ?_
      rintro v2 H2 nx2 hB2 hx2 ⟨hO2, ht2⟩
      have zX2 := ht2 _ _ zX
      (try (simp (disch := omega) only [bsW, WOp, WOq, WV, bo, eqN, gdc, gw, bnd, ↓reduceIte, Nat.reduceEqDiff, rsvs, rsv, oneOf, rdN, ne_eq, Nat.reduceAdd, Nat.reduceMul, Nat.reduceLT, reduceCtorEq, Value.cells, setN, Value.oneCell', Nat.reduceLeDiff, undef, fcT, f0, f1, f6, f7, t1]))
      (repeat' (first | ((with_reducible refine gif_split (fun hs_ => ?_) (fun hs_ => ?_)) <;> (have hp_ := hs_; (try simp only [hpL, ne_eq] at hp_); (try simp (disch := omega) only [bsW, WOp, WOq, WV, bo, eqN, gdc, gw, bnd, ↓reduceIte, Nat.reduceEqDiff, rsvs, rsv, oneOf, rdN, ne_eq, Nat.reduceAdd, Nat.reduceMul, Nat.reduceLT, reduceCtorEq, Value.cells, setN, Value.oneCell', Nat.reduceLeDiff, undef, fcT, f0, f1, f6, f7, t1, hs_]))) | ((first | (with_reducible refine newB_i (fun nb_ hb_ => ?_)) | (with_reducible refine RgE_i (fun (hBd_ : Bd _ _) => ?_))); (try simp (disch := omega) only [bsW, WOp, WOq, WV, bo, eqN, gdc, gw, bnd, ↓reduceIte, Nat.reduceEqDiff, rsvs, rsv, oneOf, rdN, ne_eq, Nat.reduceAdd, Nat.reduceMul, Nat.reduceLT, reduceCtorEq, Value.cells, setN, Value.oneCell', Nat.reduceLeDiff, undef, fcT, f0, f1, f6, f7, t1])) | (with_reducible refine fun (hBd_ : Bd _ _) => ?_) | ((first | (with_reducible refine @And.intro (Sub _ _) _ ?_ ?_) | ((with_reducible refine @And.intro (Sub _ _ ∧ _) _ ?_ ?_); (with_reducible refine @And.intro (Sub _ _) _ ?_ ?_))); exact sbX) | ((with_reducible refine And.intro ?_ ?_); omega)))
      all_goals try (exfalso; omega)
      have hRd : Rd H2 (cutA (some ⟨bB, oB, none⟩) d (j + 1) 1) (s.m k - (j + 1)) 1 (fun p q => s.mks k (j + 1 + p)) := by
        by_cases e : j + 1 = s.m k
        · rw [show s.m k - (j + 1) = 0 by omega]; exact Rd.zero
        · rw [cutA_pos (show j + 1 < d by omega)]
          exact ((hR.sub (hs1.trans ht2)).drop (show j + 1 ≤ s.m k by omega))
      refine app_any (k := 1) (bytes := 8) (lo := bX + 1) (n := j) (m := s.m k - (j + 1)) (f := fun q _ => s.mks k q) (g := fun p q => s.mks k (j + 1 + p)) (by simp (disch := omega) only [bsW, WOp, WOq, WV, bo, eqN, gdc, gw, bnd, ↓reduceIte, Nat.reduceEqDiff, rsvs, rsv, oneOf, rdN, ne_eq, Nat.reduceAdd, Nat.reduceMul, Nat.reduceLT, reduceCtorEq, Value.cells, setN, Value.oneCell', Nat.reduceLeDiff, undef, fcT, f0, f1, f6, f7, t1]) (by simp (disch := omega) only [bsW, WOp, WOq, WV, bo, eqN, gdc, gw, bnd, ↓reduceIte, Nat.reduceEqDiff, rsvs, rsv, oneOf, rdN, ne_eq, Nat.reduceAdd, Nat.reduceMul, Nat.reduceLT, reduceCtorEq, Value.cells, setN, Value.oneCell', Nat.reduceLeDiff, undef, fcT, f0, f1, f6, f7, t1]) (by simp (disch := omega) only [bsW, WOp, WOq, WV, bo, eqN, gdc, gw, bnd, ↓reduceIte, Nat.reduceEqDiff, rsvs, rsv, oneOf, rdN, ne_eq, Nat.reduceAdd, Nat.reduceMul, Nat.reduceLT, reduceCtorEq, Value.cells, setN, Value.oneCell', Nat.reduceLeDiff, undef, fcT, f0, f1, f6, f7, t1]) ⟨_, qz3, rfl⟩ (by omega) hO2 hRd (by omega) (by omega) (by unfold maxLen; omega) ?_
      rintro v3 H3 nx3 hO3 hlo3 hoth3 hx3 hB3 hat3
      have zX3 : H3 bX = _ := (hlo3 bX (by omega)).trans zX2
      have hs3 : Sub H' H3 := fun r o e => by
        have := hB' r o e
        rw [hlo3 r (by omega)]
        exact (hs1.trans ht2) r o e
      have em : j + (s.m k - (j + 1)) = s.m k - 1 := by omega
      rw [em] at hO3
      obtain ⟨q, cap, sp, rfl, hq1, hq2, hq3, hq4, hq5, hq6⟩ := hO3.ne (by omega)
      (try (simp (disch := omega) only [bsW, WOp, WOq, WV, bo, eqN, gdc, gw, bnd, ↓reduceIte, Nat.reduceEqDiff, rsvs, rsv, oneOf, rdN, ne_eq, Nat.reduceAdd, Nat.reduceMul, Nat.reduceLT, reduceCtorEq, Value.cells, setN, Value.oneCell', Nat.reduceLeDiff, undef, fcT, f0, f1, f6, f7, zX3]))
      (repeat' (first | ((with_reducible refine gif_split (fun hs_ => ?_) (fun hs_ => ?_)) <;> (have hp_ := hs_; (try simp only [hpL, ne_eq] at hp_); (try simp (disch := omega) only [bsW, WOp, WOq, WV, bo, eqN, gdc, gw, bnd, ↓reduceIte, Nat.reduceEqDiff, rsvs, rsv, oneOf, rdN, ne_eq, Nat.reduceAdd, Nat.reduceMul, Nat.reduceLT, reduceCtorEq, Value.cells, setN, Value.oneCell', Nat.reduceLeDiff, undef, fcT, f0, f1, f6, f7, zX3, hs_]))) | ((first | (with_reducible refine newB_i (fun nb_ hb_ => ?_)) | (with_reducible refine RgE_i (fun (hBd_ : Bd _ _) => ?_))); (try simp (disch := omega) only [bsW, WOp, WOq, WV, bo, eqN, gdc, gw, bnd, ↓reduceIte, Nat.reduceEqDiff, rsvs, rsv, oneOf, rdN, ne_eq, Nat.reduceAdd, Nat.reduceMul, Nat.reduceLT, reduceCtorEq, Value.cells, setN, Value.oneCell', Nat.reduceLeDiff, undef, fcT, f0, f1, f6, f7, zX3])) | (with_reducible refine fun (hBd_ : Bd _ _) => ?_) | ((first | (with_reducible refine @And.intro (Sub _ _) _ ?_ ?_) | ((with_reducible refine @And.intro (Sub _ _ ∧ _) _ ?_ ?_); (with_reducible refine @And.intro (Sub _ _) _ ?_ ?_))); exact sbX) | ((with_reducible refine And.intro ?_ ?_); omega)))
      all_goals try (exfalso; omega)
      have hs4 := sub_up2 (b := nb_) (o := .rw [.int .i64 (s.id k), .string (s.title k), .int .i64 (s.fr k), .slice (some ⟨q, 0, none⟩) (s.m k - 1) cap] 31) hB' (sub_up2 (b := bX) (o := .rw [.int .i64 (s.id k), .string (s.title k), .int .i64 (s.fr k), .slice (some ⟨q, 0, none⟩) (s.m k - 1) cap] 31) hB' hs3 (by omega)) (by omega)
      refine app_oneSh (s := wjS s j) (n := k) (bytes := 56) (lo := nx) (mid := nx') (bN := q) (dN := cap) (by simp (disch := omega) only [bsW, WOp, WOq, WV, bo, eqN, gdc, gw, bnd, ↓reduceIte, Nat.reduceEqDiff, rsvs, rsv, oneOf, rdN, ne_eq, Nat.reduceAdd, Nat.reduceMul, Nat.reduceLT, reduceCtorEq, Value.cells, setN, Value.oneCell', Nat.reduceLeDiff, undef, fcT, f0, f1, f6, f7, zX3]) (by simp (disch := omega) only [bsW, WOp, WOq, WV, bo, eqN, gdc, gw, bnd, ↓reduceIte, Nat.reduceEqDiff, rsvs, rsv, oneOf, rdN, ne_eq, Nat.reduceAdd, Nat.reduceMul, Nat.reduceLT, reduceCtorEq, Value.cells, setN, Value.oneCell', Nat.reduceLeDiff, undef, fcT, f0, f1, f6, f7, zX3]) (by simp (disch := omega) only [bsW, WOp, WOq, WV, bo, eqN, gdc, gw, bnd, ↓reduceIte, Nat.reduceEqDiff, rsvs, rsv, oneOf, rdN, ne_eq, Nat.reduceAdd, Nat.reduceMul, Nat.reduceLT, reduceCtorEq, Value.cells, setN, Value.oneCell', Nat.reduceLeDiff, undef, fcT, f0, f1, f6, f7, zX3]) ⟨_, qz31, rfl⟩ (hO.subI hs4) (upd_same _ _ _) ⟨.inr ⟨q, cap, sp, rfl, by omega, by omega, ?_, hq4, hq5, hq6⟩⟩ (by omega) (by omega) (by omega) (by omega) (by unfold maxLen; omega) ?_
      · rw [upd_ne (by omega), upd_ne (by omega), hq3]
        congr 3
        refine flat_congr fun p r hp hr => ?_
        show cat j _ _ p r = if p < j then s.mks k p else s.mks k (p + 1)
        unfold cat
        by_cases hpj : p < j
        · rw [if_pos hpj, if_pos hpj]
        · rw [if_neg hpj, if_neg hpj]
          show s.mks k (j + 1 + (p - j)) = s.mks k (p + 1)
          rw [show j + 1 + (p - j) = p + 1 by omega]
      rintro v' b' o nx4 hb' hn4 hown' hO4
      have hlo : nx ≤ b' := by
        rcases hb' with e | e
        · rcases hO.ex with ⟨rfl, _⟩ | ⟨b5, cap5, sp5, B5, d5, rfl, h51, _⟩
          · cases e
          · cases e; exact h51
        · omega
      simp (disch := omega) only [bsW, WOp, WOq, WV, bo, eqN, gdc, gw, bnd, ↓reduceIte, Nat.reduceEqDiff, rsvs, rsv, oneOf, rdN, ne_eq, Nat.reduceAdd, Nat.reduceMul, Nat.reduceLT, reduceCtorEq, Value.cells, setN, Value.oneCell', Nat.reduceLeDiff, undef, fcT, f0, f1, f6, f7, zX3]
      refine hK _ _ _ ?_
      exact ⟨k + 1, v', by omega, by omega, by simp (disch := omega) only [bsW, ↓reduceIte, Nat.reduceEqDiff, ne_eq, reduceCtorEq, fcT, f0, f1, f6, f7, zX3], by simp (disch := omega) only [bsW, ↓reduceIte, Nat.reduceEqDiff, ne_eq, reduceCtorEq, fcT, f0, f1, f6, f7, zX3], by simp (disch := omega) only [bsW, ↓reduceIte, Nat.reduceEqDiff, ne_eq, reduceCtorEq, fcT, f0, f1, f6, f7, zX3], by simp (disch := omega) only [bsW, ↓reduceIte, Nat.reduceEqDiff, ne_eq, reduceCtorEq, fcT, f0, f1, f6, f7, zX3, Int.natCast_add, Int.natCast_one], hO4, sub_up2 hB (hs.trans hs4) hlo, by omega⟩
    · have hkn : k = n := by simp at b1; omega
      subst hkn
      obtain ⟨A5, c5, rfl, hc5, hR5⟩ := hO.rd
      simp (disch := omega) only [bsW, WOp, WOq, WV, bo, eqN, gdc, gw, bnd, ↓reduceIte, Nat.reduceEqDiff, rsvs, rsv, oneOf, rdN, ne_eq, Nat.reduceAdd, Nat.reduceMul, Nat.reduceLT, reduceCtorEq, Value.cells, setN, Value.oneCell', Nat.reduceLeDiff, undef, fcT, f0, f1, f6, f7, b1]
      (repeat' (first | ((with_reducible refine gif_split (fun hs_ => ?_) (fun hs_ => ?_)) <;> (have hp_ := hs_; (try simp only [hpL, ne_eq] at hp_); (try simp (disch := omega) only [bsW, WOp, WOq, WV, bo, eqN, gdc, gw, bnd, ↓reduceIte, Nat.reduceEqDiff, rsvs, rsv, oneOf, rdN, ne_eq, Nat.reduceAdd, Nat.reduceMul, Nat.reduceLT, reduceCtorEq, Value.cells, setN, Value.oneCell', Nat.reduceLeDiff, undef, fcT, f0, f1, f6, f7, hs_]))) | ((first | (with_reducible refine newB_i (fun nb_ hb_ => ?_)) | ((with_reducible show QC _ _ _ _ _ _); (first | (refine QC_i (l23Good A5 k c5 (wjS s j) _ _ hn hR5 (szOk_wj hw)) ?_))) | ((with_reducible show AC _ _ _ _ _ _); (first | (refine PC.ac (l23Good A5 k c5 (wjS s j) _ _ hn hR5 (szOk_wj hw)) ?_))) | (with_reducible refine RgE_i (fun (hBd_ : Bd _ _) => ?_))); (try simp (disch := omega) only [bsW, WOp, WOq, WV, bo, eqN, gdc, gw, bnd, ↓reduceIte, Nat.reduceEqDiff, rsvs, rsv, oneOf, rdN, ne_eq, Nat.reduceAdd, Nat.reduceMul, Nat.reduceLT, reduceCtorEq, Value.cells, setN, Value.oneCell', Nat.reduceLeDiff, undef, fcT, f0, f1, f6, f7])) | (with_reducible refine fun (hBd_ : Bd _ _) => ?_) | ((first | (with_reducible refine @And.intro (Sub _ _) _ ?_ ?_) | ((with_reducible refine @And.intro (Sub _ _ ∧ _) _ ?_ ?_); (with_reducible refine @And.intro (Sub _ _) _ ?_ ?_))); exact sbX) | ((with_reducible refine And.intro ?_ ?_); omega)))
      all_goals try (exfalso; omega)
      · exact wjK_yes (by rw [e0]; assumption) (by rw [Int.toNat_natCast]; exact hO) hs
      · exact wjK_no2 (by rw [e0]; assumption) (.empty (by omega) (by omega) (upd_same _ _ _)) (by (repeat (first | assumption | exact Sub.refl _ | (refine sub_up (nx := nx) ?_ hB ?_; omega))))
  · rintro fr H' nx' ⟨k, w, hm, _⟩; omega
  · exact ⟨0, _, by omega, by omega, by simp (disch := omega) only [bsW, ↓reduceIte, Nat.reduceEqDiff, ne_eq, reduceCtorEq, fcT], by simp (disch := omega) only [bsW, ↓reduceIte, Nat.reduceEqDiff, ne_eq, reduceCtorEq, fcT], by simp (disch := omega) only [bsW, ↓reduceIte, Nat.reduceEqDiff, ne_eq, reduceCtorEq, fcT], by simp (disch := omega) only [bsW, ↓reduceIte, Nat.reduceEqDiff, ne_eq, reduceCtorEq, fcT, Int.natCast_zero], .empty (by omega) (by omega) zE, hs0, by omega⟩
end Go.Proofs.Ytnjlleopgjggpaa
