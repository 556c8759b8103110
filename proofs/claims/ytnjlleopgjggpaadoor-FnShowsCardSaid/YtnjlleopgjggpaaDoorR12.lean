/- Exhibits: their rank. -/
import Derived.Test.YtnjlleopgjggpaaDoorR11
set_option linter.unusedVariables false
set_option linter.unusedSimpArgs false
set_option maxRecDepth 100000
set_option maxHeartbeats 4000000
namespace Go.Proofs.YtnjlleopgjggpaaDoor
open Go Go.RowKit Go.Proofs

theorem insNil (sv cv : Value) (H : Hp) (nx : Nat) : PC Tryd.prog 155 #[sv, .int .i64 0, .int .i64 0, cv] H nx (.tuple #[]) := by
  refine AC_of x_slices_insertionSortCmpFunc_int rfl fun hB => ?_
  simp (disch := omega) only [bsW, WOp, WOq, WV, bo, eqN, gdc, gw, bnd, ↓reduceIte, Nat.reduceEqDiff, rsvs, rsv, oneOf, rdN, ne_eq, Nat.reduceAdd, Nat.reduceMul, Nat.reduceLT, reduceCtorEq, Value.cells, setN, Value.oneCell', Nat.reduceLeDiff, undef, fcT, c_slices_insertionSortCmpFunc_int]
  refine LpB_rule (fun mm fr H' nx' => mm = 1 ∧ fr 2 = .int .i64 0 ∧ fr 8 = .int .i64 1 ∧ H' = H ∧ nx' = nx) ?_ ?_ 1 ?_
  · rintro mm K hK fr H' nx' hB' ⟨_, f2, f8, rfl, rfl⟩
    simp (disch := omega) only [bsW, WOp, WOq, WV, bo, eqN, gdc, gw, bnd, ↓reduceIte, Nat.reduceEqDiff, rsvs, rsv, oneOf, rdN, ne_eq, Nat.reduceAdd, Nat.reduceMul, Nat.reduceLT, reduceCtorEq, Value.cells, setN, Value.oneCell', Nat.reduceLeDiff, undef, fcT, f2, f8, Int.reduceLT, decide_false]
    exact Is_i (Sub.refl _)
  · rintro fr H' nx' ⟨hm, _⟩; omega
  · exact ⟨rfl, by simp (disch := omega) only [bsW, ↓reduceIte, Nat.reduceEqDiff, ne_eq, reduceCtorEq, fcT], by simp (disch := omega) only [bsW, ↓reduceIte, Nat.reduceEqDiff, ne_eq, reduceCtorEq, fcT, Int.zero_add], rfl, rfl⟩
theorem stabNil (sv cv : Value) (H : Hp) (nx : Nat) : PC Tryd.prog 139 #[sv, .int .i64 0, cv] H nx (.tuple #[]) := by
  refine AC_of x_slices_stableCmpFunc_int rfl fun hB => ?_
  simp (disch := omega) only [bsW, WOp, WOq, WV, bo, eqN, gdc, gw, bnd, ↓reduceIte, Nat.reduceEqDiff, rsvs, rsv, oneOf, rdN, ne_eq, Nat.reduceAdd, Nat.reduceMul, Nat.reduceLT, reduceCtorEq, Value.cells, setN, Value.oneCell', Nat.reduceLeDiff, undef, fcT, c_slices_stableCmpFunc_int]
  refine LpB_rule (fun mm fr H' nx' => mm = 1 ∧ fr 0 = sv ∧ fr 1 = .int .i64 0 ∧ fr 2 = cv ∧ fr 6 = .int .i64 20 ∧ fr 7 = .int .i64 0 ∧ fr 8 = .int .i64 20 ∧ H' = H ∧ nx' = nx) ?_ ?_ 1 ?_
  · rintro mm K hK fr H' nx' hB' ⟨_, f0, f1, f2, f6, f7, f8, rfl, rfl⟩
    simp (disch := omega) only [bsW, WOp, WOq, WV, bo, eqN, gdc, gw, bnd, ↓reduceIte, Nat.reduceEqDiff, rsvs, rsv, oneOf, rdN, ne_eq, Nat.reduceAdd, Nat.reduceMul, Nat.reduceLT, reduceCtorEq, Value.cells, setN, Value.oneCell', Nat.reduceLeDiff, undef, fcT, f0, f1, f2, f6, f7, f8, Int.reduceLE, decide_false]
    (repeat' (first | ((with_reducible refine gif_split (fun hs_ => ?_) (fun hs_ => ?_)) <;> (have hp_ := hs_; (try simp only [hpL, ne_eq] at hp_); (try simp (disch := omega) only [bsW, WOp, WOq, WV, bo, eqN, gdc, gw, bnd, ↓reduceIte, Nat.reduceEqDiff, rsvs, rsv, oneOf, rdN, ne_eq, Nat.reduceAdd, Nat.reduceMul, Nat.reduceLT, reduceCtorEq, Value.cells, setN, Value.oneCell', Nat.reduceLeDiff, undef, fcT, f0, f1, f2, f6, f7, f8, Int.reduceLE, decide_false, hs_]))) | ((first | (with_reducible refine newB_i (fun nb_ hb_ => ?_)) | ((with_reducible show QC _ _ _ _ _ _); (first | (refine QC_i (insNil _ _ _ _) ?_))) | ((with_reducible show AC _ _ _ _ _ _); (first | (refine PC.ac (insNil _ _ _ _) ?_))) | (with_reducible refine RgE_i (fun (hBd_ : Bd _ _) => ?_))); (try simp (disch := omega) only [bsW, WOp, WOq, WV, bo, eqN, gdc, gw, bnd, ↓reduceIte, Nat.reduceEqDiff, rsvs, rsv, oneOf, rdN, ne_eq, Nat.reduceAdd, Nat.reduceMul, Nat.reduceLT, reduceCtorEq, Value.cells, setN, Value.oneCell', Nat.reduceLeDiff, undef, fcT, f0, f1, f2, f6, f7, f8, Int.reduceLE, decide_false])) | (with_reducible refine fun (hBd_ : Bd _ _) => ?_) | ((first | (with_reducible refine @And.intro (Sub _ _) _ ?_ ?_) | ((with_reducible refine @And.intro (Sub _ _ ∧ _) _ ?_ ?_); (with_reducible refine @And.intro (Sub _ _) _ ?_ ?_))); exact sbX) | ((with_reducible refine And.intro ?_ ?_); omega)))
    all_goals try (exfalso; omega)
    refine LpB_rule (fun mm fr H2 nx2 => mm = 1 ∧ fr 1 = .int .i64 0 ∧ fr 6 = .int .i64 20 ∧ H2 = H' ∧ nx2 = nx') ?_ ?_ 1 ?_
    · rintro mm K2 hK2 fr2 H2 nx2 hB2 ⟨_, g1, g6, rfl, rfl⟩
      simp (disch := omega) only [bsW, WOp, WOq, WV, bo, eqN, gdc, gw, bnd, ↓reduceIte, Nat.reduceEqDiff, rsvs, rsv, oneOf, rdN, ne_eq, Nat.reduceAdd, Nat.reduceMul, Nat.reduceLT, reduceCtorEq, Value.cells, setN, Value.oneCell', Nat.reduceLeDiff, undef, fcT, g1, g6, Int.reduceLT, decide_false]
      exact Is_i (Sub.refl _)
    · rintro fr H' nx' ⟨hm, _⟩; omega
    · exact ⟨rfl, by simp (disch := omega) only [bsW, ↓reduceIte, Nat.reduceEqDiff, ne_eq, reduceCtorEq, fcT, f0, f1, f2, f6, f7, f8], by simp (disch := omega) only [bsW, ↓reduceIte, Nat.reduceEqDiff, ne_eq, reduceCtorEq, fcT, f0, f1, f2, f6, f7, f8], rfl, rfl⟩
  · rintro fr H' nx' ⟨hm, _⟩; omega
  · exact ⟨rfl, by simp (disch := omega) only [bsW, ↓reduceIte, Nat.reduceEqDiff, ne_eq, reduceCtorEq, fcT], by simp (disch := omega) only [bsW, ↓reduceIte, Nat.reduceEqDiff, ne_eq, reduceCtorEq, fcT], by simp (disch := omega) only [bsW, ↓reduceIte, Nat.reduceEqDiff, ne_eq, reduceCtorEq, fcT], by simp (disch := omega) only [bsW, ↓reduceIte, Nat.reduceEqDiff, ne_eq, reduceCtorEq, fcT], by simp (disch := omega) only [bsW, ↓reduceIte, Nat.reduceEqDiff, ne_eq, reduceCtorEq, fcT], by simp (disch := omega) only [bsW, ↓reduceIte, Nat.reduceEqDiff, ne_eq, reduceCtorEq, fcT], rfl, rfl⟩
theorem sortNil (A : Option Addr) (c : Nat) (cv : Value) (H : Hp) (nx : Nat) : PC Tryd.prog 106 #[.slice A 0 c, cv] H nx (.tuple #[]) := by
  refine AC_of x_slices_SortStableFunc_int rfl fun hB => ?_
  simp (disch := omega) only [bsW, WOp, WOq, WV, bo, eqN, gdc, gw, bnd, ↓reduceIte, Nat.reduceEqDiff, rsvs, rsv, oneOf, rdN, ne_eq, Nat.reduceAdd, Nat.reduceMul, Nat.reduceLT, reduceCtorEq, Value.cells, setN, Value.oneCell', Nat.reduceLeDiff, undef, fcT, Int.natCast_zero, c_slices_SortStableFunc_int]
  (repeat' (first | ((with_reducible refine gif_split (fun hs_ => ?_) (fun hs_ => ?_)) <;> (have hp_ := hs_; (try simp only [hpL, ne_eq] at hp_); (try simp (disch := omega) only [bsW, WOp, WOq, WV, bo, eqN, gdc, gw, bnd, ↓reduceIte, Nat.reduceEqDiff, rsvs, rsv, oneOf, rdN, ne_eq, Nat.reduceAdd, Nat.reduceMul, Nat.reduceLT, reduceCtorEq, Value.cells, setN, Value.oneCell', Nat.reduceLeDiff, undef, fcT, Int.natCast_zero, hs_]))) | ((first | (with_reducible refine newB_i (fun nb_ hb_ => ?_)) | ((with_reducible show QC _ _ _ _ _ _); (first | (refine QC_i (stabNil _ _ _ _) ?_))) | ((with_reducible show AC _ _ _ _ _ _); (first | (refine PC.ac (stabNil _ _ _ _) ?_))) | (with_reducible refine RgE_i (fun (hBd_ : Bd _ _) => ?_))); (try simp (disch := omega) only [bsW, WOp, WOq, WV, bo, eqN, gdc, gw, bnd, ↓reduceIte, Nat.reduceEqDiff, rsvs, rsv, oneOf, rdN, ne_eq, Nat.reduceAdd, Nat.reduceMul, Nat.reduceLT, reduceCtorEq, Value.cells, setN, Value.oneCell', Nat.reduceLeDiff, undef, fcT, Int.natCast_zero])) | (with_reducible refine fun (hBd_ : Bd _ _) => ?_) | ((first | (with_reducible refine @And.intro (Sub _ _) _ ?_ ?_) | ((with_reducible refine @And.intro (Sub _ _ ∧ _) _ ?_ ?_); (with_reducible refine @And.intro (Sub _ _) _ ?_ ?_))); exact sbX) | ((with_reducible refine And.intro ?_ ?_); omega)))
  all_goals try (exfalso; omega)
  exact Is_i (Sub.refl _)

noncomputable def rkN (n : Nat) (s : Shw) : Nat := if exsB n s = true then n else 0
theorem rkN_le (n : Nat) (s : Shw) : rkN n s ≤ 10 := by
  unfold rkN
  split
  · rename_i h; exact exs_n h
  · omega
def rkI (n : Nat) (s : Shw) : Nat → Nat → Int := fun p _ => s.id (rkF (betS s) n p)
def cmS (s : Shw) (a b : Nat) : Int := cmpE (scV (s.mks b) (s.m b)) ((s.m b : Int) - 2) (mxV (s.mks b) (s.m b)) (scV (s.mks a) (s.m a)) ((s.m a : Int) - 2) (mxV (s.mks a) (s.m a))
theorem cmS_neg {n : Nat} {s : Shw} (h : exsB n s = true) {a b : Nat} (ha : a < n) (hb : b < n) : cmS s a b < 0 ↔ betS s a b = true := by
  have h1 := exs_at h ha
  have h2 := exs_at h hb
  unfold cmS betS
  rw [show s.m a = s.m b by omega]
  exact cmpE_neg (by omega)
theorem cmpShow (A : Option Addr) (n c : Nat) (s : Shw) (bL : Nat) (a b : Nat) (H : Hp) (nx : Nat) (hv : exsB n s = true) (ha : a < n) (hb : b < n) (h : RdS H A n s) (hL : H bL = some (.rw [.slice A n c] 66)) :
    PC Tryd.prog 107 #[.int .i64 (a : Nat), .int .i64 (b : Nat), .pointer (some ⟨bL, 0, none⟩)] H nx (.int .i64 (cmS s a b)) := by
  refine AC_of x_impl_RankShow_1 rfl fun hB => ?_
  have e1 := exs_at hv ha
  have e2 := exs_at hv hb
  obtain ⟨q, off, B, d, rfl, c0, c1, c2, c3, hmd, hR⟩ := h.at_ ha
  obtain ⟨q', off', B', d', e, k0, k1, k2, k3, hmd', hR'⟩ := h.at_ hb
  cases e
  simp (disch := omega) only [bsW, WOp, WOq, WV, bo, eqN, gdc, gw, bnd, ↓reduceIte, Nat.reduceEqDiff, rsvs, rsv, oneOf, rdN, ne_eq, Nat.reduceAdd, Nat.reduceMul, Nat.reduceLT, reduceCtorEq, Value.cells, setN, Value.oneCell', Nat.reduceLeDiff, undef, fcT, rd_rw hL, Int.toNat_natCast, c_impl_RankShow_1]
  (repeat' (first | ((with_reducible refine gif_split (fun hs_ => ?_) (fun hs_ => ?_)) <;> (have hp_ := hs_; (try simp only [hpL, ne_eq] at hp_); (try simp (disch := omega) only [bsW, WOp, WOq, WV, bo, eqN, gdc, gw, bnd, ↓reduceIte, Nat.reduceEqDiff, rsvs, rsv, oneOf, rdN, ne_eq, Nat.reduceAdd, Nat.reduceMul, Nat.reduceLT, reduceCtorEq, Value.cells, setN, Value.oneCell', Nat.reduceLeDiff, undef, fcT, rd_rw hL, Int.toNat_natCast, hs_]))) | ((first | (with_reducible refine newB_i (fun nb_ hb_ => ?_)) | ((with_reducible show QC _ _ _ _ _ _); (first | (refine QC_i (compareExhibits q (off + b * 4) q (off + a * 4) B' B (s.m b) d' (s.m a) d (s.mks b) (s.mks a) _ _ (by omega) (by omega) e2.2.2.2.2.1 e1.2.2.2.2.1 k3 c3 hR' hR) ?_))) | ((with_reducible show AC _ _ _ _ _ _); (first | (refine PC.ac (compareExhibits q (off + b * 4) q (off + a * 4) B' B (s.m b) d' (s.m a) d (s.mks b) (s.mks a) _ _ (by omega) (by omega) e2.2.2.2.2.1 e1.2.2.2.2.1 k3 c3 hR' hR) ?_))) | (with_reducible refine RgE_i (fun (hBd_ : Bd _ _) => ?_))); (try simp (disch := omega) only [bsW, WOp, WOq, WV, bo, eqN, gdc, gw, bnd, ↓reduceIte, Nat.reduceEqDiff, rsvs, rsv, oneOf, rdN, ne_eq, Nat.reduceAdd, Nat.reduceMul, Nat.reduceLT, reduceCtorEq, Value.cells, setN, Value.oneCell', Nat.reduceLeDiff, undef, fcT, rd_rw hL, Int.toNat_natCast])) | (with_reducible refine fun (hBd_ : Bd _ _) => ?_) | ((first | (with_reducible refine @And.intro (Sub _ _) _ ?_ ?_) | ((with_reducible refine @And.intro (Sub _ _ ∧ _) _ ?_ ?_); (with_reducible refine @And.intro (Sub _ _) _ ?_ ?_))); exact sbX) | ((with_reducible refine And.intro ?_ ?_); omega)))
  all_goals try (exfalso; omega)
  exact Is_e rfl (by (repeat (first | assumption | exact Sub.refl _ | (refine sub_up (nx := nx) ?_ hB ?_; omega))))
theorem RankShow (A : Option Addr) (n c : Nat) (s : Shw) (H : Hp) (nx : Nat) (hn : n ≤ 17592186044416) (h : RdS H A n s) (hw : szOk n s) :
    AC Tryd.prog 45 #[.slice A n c] H nx (RowFlag H nx (rkN n s) 1 (rkI n s) 3 (exsB n s)) := by
  refine AC_of x_impl_RankShow rfl fun hB => ?_
  simp (disch := omega) only [bsW, WOp, WOq, WV, bo, eqN, gdc, gw, bnd, ↓reduceIte, Nat.reduceEqDiff, rsvs, rsv, oneOf, rdN, ne_eq, Nat.reduceAdd, Nat.reduceMul, Nat.reduceLT, reduceCtorEq, Value.cells, setN, Value.oneCell', Nat.reduceLeDiff, undef, fcT, c_impl_RankShow]
  refine newB_i (fun nb_ hb_ => ?_)
  have hs0 : Sub H (upd H nb_ (.rw [.slice A n c] 66)) := sub_up (nx := nx) (by omega) hB (Sub.refl _)
  have hB0 : Bd (upd H nb_ (.rw [.slice A n c] 66)) (nb_ + 1) := Bd.up hB (by omega)
  have zL : (upd H nb_ (.rw [.slice A n c] 66)) nb_ = some (.rw [.slice A n c] 66) := upd_same _ _ _
  have hbL := hb_
  simp (disch := omega) only [bsW, WOp, WOq, WV, bo, eqN, gdc, gw, bnd, ↓reduceIte, Nat.reduceEqDiff, rsvs, rsv, oneOf, rdN, ne_eq, Nat.reduceAdd, Nat.reduceMul, Nat.reduceLT, reduceCtorEq, Value.cells, setN, Value.oneCell', Nat.reduceLeDiff, undef, fcT]
  generalize (upd H nb_ (.rw [.slice A n c] 66)) = H0 at *
  generalize nb_ = bL at *
  have h0 := h.sub hs0
  cases hv : exsB n s
  · (try (simp (disch := omega) only [bsW, WOp, WOq, WV, bo, eqN, gdc, gw, bnd, ↓reduceIte, Nat.reduceEqDiff, rsvs, rsv, oneOf, rdN, ne_eq, Nat.reduceAdd, Nat.reduceMul, Nat.reduceLT, reduceCtorEq, Value.cells, setN, Value.oneCell', Nat.reduceLeDiff, undef, fcT, rd_rw zL, hv, Bool.not_false]))
    (repeat' (first | ((with_reducible refine gif_split (fun hs_ => ?_) (fun hs_ => ?_)) <;> (have hp_ := hs_; (try simp only [hpL, ne_eq] at hp_); (try simp (disch := omega) only [bsW, WOp, WOq, WV, bo, eqN, gdc, gw, bnd, ↓reduceIte, Nat.reduceEqDiff, rsvs, rsv, oneOf, rdN, ne_eq, Nat.reduceAdd, Nat.reduceMul, Nat.reduceLT, reduceCtorEq, Value.cells, setN, Value.oneCell', Nat.reduceLeDiff, undef, fcT, rd_rw zL, hv, Bool.not_false, hs_]))) | ((first | (with_reducible refine newB_i (fun nb_ hb_ => ?_)) | ((with_reducible show QC _ _ _ _ _ _); (first | (refine QC_i (areExhibits A n c s _ _ hn h0 hw) ?_))) | ((with_reducible show AC _ _ _ _ _ _); (first | (refine PC.ac (areExhibits A n c s _ _ hn h0 hw) ?_))) | (with_reducible refine RgE_i (fun (hBd_ : Bd _ _) => ?_))); (try simp (disch := omega) only [bsW, WOp, WOq, WV, bo, eqN, gdc, gw, bnd, ↓reduceIte, Nat.reduceEqDiff, rsvs, rsv, oneOf, rdN, ne_eq, Nat.reduceAdd, Nat.reduceMul, Nat.reduceLT, reduceCtorEq, Value.cells, setN, Value.oneCell', Nat.reduceLeDiff, undef, fcT, rd_rw zL, hv, Bool.not_false])) | (with_reducible refine fun (hBd_ : Bd _ _) => ?_) | ((first | (with_reducible refine @And.intro (Sub _ _) _ ?_ ?_) | ((with_reducible refine @And.intro (Sub _ _ ∧ _) _ ?_ ?_); (with_reducible refine @And.intro (Sub _ _) _ ?_ ?_))); exact sbX) | ((with_reducible refine And.intro ?_ ?_); omega)))
    all_goals try (exfalso; omega)
    have e2 : rkN n s = 0 := if_neg (by rw [hv]; simp)
    rw [e2]
    exact ⟨_, rfl, .nil, hs0⟩
  have hn10 := exs_n hv
  have e2 : rkN n s = n := if_pos hv
  rw [e2]
  (try (simp (disch := omega) only [bsW, WOp, WOq, WV, bo, eqN, gdc, gw, bnd, ↓reduceIte, Nat.reduceEqDiff, rsvs, rsv, oneOf, rdN, ne_eq, Nat.reduceAdd, Nat.reduceMul, Nat.reduceLT, reduceCtorEq, Value.cells, setN, Value.oneCell', Nat.reduceLeDiff, undef, fcT, rd_rw zL, hv, Bool.not_true]))
  (repeat' (first | ((with_reducible refine gif_split (fun hs_ => ?_) (fun hs_ => ?_)) <;> (have hp_ := hs_; (try simp only [hpL, ne_eq] at hp_); (try simp (disch := omega) only [bsW, WOp, WOq, WV, bo, eqN, gdc, gw, bnd, ↓reduceIte, Nat.reduceEqDiff, rsvs, rsv, oneOf, rdN, ne_eq, Nat.reduceAdd, Nat.reduceMul, Nat.reduceLT, reduceCtorEq, Value.cells, setN, Value.oneCell', Nat.reduceLeDiff, undef, fcT, rd_rw zL, hv, Bool.not_true, hs_]))) | ((first | (with_reducible refine newB_i (fun nb_ hb_ => ?_)) | ((with_reducible show QC _ _ _ _ _ _); (first | (refine QC_i (areExhibits A n c s _ _ hn h0 hw) ?_))) | ((with_reducible show AC _ _ _ _ _ _); (first | (refine PC.ac (areExhibits A n c s _ _ hn h0 hw) ?_))) | (with_reducible refine RgE_i (fun (hBd_ : Bd _ _) => ?_))); (try simp (disch := omega) only [bsW, WOp, WOq, WV, bo, eqN, gdc, gw, bnd, ↓reduceIte, Nat.reduceEqDiff, rsvs, rsv, oneOf, rdN, ne_eq, Nat.reduceAdd, Nat.reduceMul, Nat.reduceLT, reduceCtorEq, Value.cells, setN, Value.oneCell', Nat.reduceLeDiff, undef, fcT, rd_rw zL, hv, Bool.not_true])) | (with_reducible refine fun (hBd_ : Bd _ _) => ?_) | ((first | (with_reducible refine @And.intro (Sub _ _) _ ?_ ?_) | ((with_reducible refine @And.intro (Sub _ _ ∧ _) _ ?_ ?_); (with_reducible refine @And.intro (Sub _ _) _ ?_ ?_))); exact sbX) | ((with_reducible refine And.intro ?_ ?_); omega)))
  all_goals try (exfalso; omega)
  refine LpB_rule (fun mm fr H' nx' => ∃ (k : Nat) (w : Value), mm = n - k + 1 ∧ k ≤ n ∧ fr 1 = .pointer (some ⟨bL, 0, none⟩) ∧ fr 4 = w ∧ fr 12 = .int .i64 n ∧ fr 13 = .int .i64 k ∧ OwnR H' (bL + 1) nx' k 1 (fun p _ => (p : Int)) 3 w ∧ Sub H0 H' ∧ bL + 1 ≤ nx') ?_ ?_ (n + 1) ?_
  · rintro mm K hK fr H' nx' hB' ⟨k, w, hmm, hk, f1, f4, f12, f13, hO, hs, hx⟩
    simp (disch := omega) only [bsW, WOp, WOq, WV, bo, eqN, gdc, gw, bnd, ↓reduceIte, Nat.reduceEqDiff, rsvs, rsv, oneOf, rdN, ne_eq, Nat.reduceAdd, Nat.reduceMul, Nat.reduceLT, reduceCtorEq, Value.cells, setN, Value.oneCell', Nat.reduceLeDiff, undef, fcT, f1, f4, f12, f13]
    refine gif_split (fun b1 => ?_) (fun b1 => ?_)
    · have hlt : k < n := by simpa using b1
      simp (disch := omega) only [bsW, WOp, WOq, WV, bo, eqN, gdc, gw, bnd, ↓reduceIte, Nat.reduceEqDiff, rsvs, rsv, oneOf, rdN, ne_eq, Nat.reduceAdd, Nat.reduceMul, Nat.reduceLT, reduceCtorEq, Value.cells, setN, Value.oneCell', Nat.reduceLeDiff, undef, fcT, f1, f4, f12, f13, b1]
      (repeat' (first | ((with_reducible refine gif_split (fun hs_ => ?_) (fun hs_ => ?_)) <;> (have hp_ := hs_; (try simp only [hpL, ne_eq] at hp_); (try simp (disch := omega) only [bsW, WOp, WOq, WV, bo, eqN, gdc, gw, bnd, ↓reduceIte, Nat.reduceEqDiff, rsvs, rsv, oneOf, rdN, ne_eq, Nat.reduceAdd, Nat.reduceMul, Nat.reduceLT, reduceCtorEq, Value.cells, setN, Value.oneCell', Nat.reduceLeDiff, undef, fcT, f1, f4, f12, f13, hs_]))) | ((first | (with_reducible refine newB_i (fun nb_ hb_ => ?_)) | (with_reducible refine RgE_i (fun (hBd_ : Bd _ _) => ?_))); (try simp (disch := omega) only [bsW, WOp, WOq, WV, bo, eqN, gdc, gw, bnd, ↓reduceIte, Nat.reduceEqDiff, rsvs, rsv, oneOf, rdN, ne_eq, Nat.reduceAdd, Nat.reduceMul, Nat.reduceLT, reduceCtorEq, Value.cells, setN, Value.oneCell', Nat.reduceLeDiff, undef, fcT, f1, f4, f12, f13])) | (with_reducible refine fun (hBd_ : Bd _ _) => ?_) | ((first | (with_reducible refine @And.intro (Sub _ _) _ ?_ ?_) | ((with_reducible refine @And.intro (Sub _ _ ∧ _) _ ?_ ?_); (with_reducible refine @And.intro (Sub _ _) _ ?_ ?_))); exact sbX) | ((with_reducible refine And.intro ?_ ?_); omega)))
      all_goals try (exfalso; omega)
      refine app_one (k := 1) (bytes := 8) (e := fun _ => (k : Int)) (by simp (disch := omega) only [bsW, WOp, WOq, WV, bo, eqN, gdc, gw, bnd, ↓reduceIte, Nat.reduceEqDiff, rsvs, rsv, oneOf, rdN, ne_eq, Nat.reduceAdd, Nat.reduceMul, Nat.reduceLT, reduceCtorEq, Value.cells, setN, Value.oneCell', Nat.reduceLeDiff, undef, fcT, f1, f4, f12, f13]) (by simp (disch := omega) only [bsW, WOp, WOq, WV, bo, eqN, gdc, gw, bnd, ↓reduceIte, Nat.reduceEqDiff, rsvs, rsv, oneOf, rdN, ne_eq, Nat.reduceAdd, Nat.reduceMul, Nat.reduceLT, reduceCtorEq, Value.cells, setN, Value.oneCell', Nat.reduceLeDiff, undef, fcT, f1, f4, f12, f13]) (by simp (disch := omega) only [bsW, WOp, WOq, WV, bo, eqN, gdc, gw, bnd, ↓reduceIte, Nat.reduceEqDiff, rsvs, rsv, oneOf, rdN, ne_eq, Nat.reduceAdd, Nat.reduceMul, Nat.reduceLT, reduceCtorEq, Value.cells, setN, Value.oneCell', Nat.reduceLeDiff, undef, fcT, f1, f4, f12, f13]) ⟨_, qz3, rfl⟩ (by omega) (hO.keep (fun q hq => by have := hO.blk hq; simp (disch := omega) only [bsW, WOp, WOq, WV, bo, eqN, gdc, gw, bnd, ↓reduceIte, Nat.reduceEqDiff, rsvs, rsv, oneOf, rdN, ne_eq, Nat.reduceAdd, Nat.reduceMul, Nat.reduceLT, reduceCtorEq, Value.cells, setN, Value.oneCell', Nat.reduceLeDiff, undef, fcT, f1, f4, f12, f13]) (by omega)) (upd_same _ _ _) ?_ (by omega) (by omega) (by unfold maxLen; omega) ?_
      · simp [List.range_succ]
      rintro v' b' o nx2 hb' hn2 hown' hO2
      have hlo : bL + 1 ≤ b' := by
        rcases hb' with e | e
        · exact (hO.blk e).1
        · omega
      simp (disch := omega) only [bsW, WOp, WOq, WV, bo, eqN, gdc, gw, bnd, ↓reduceIte, Nat.reduceEqDiff, rsvs, rsv, oneOf, rdN, ne_eq, Nat.reduceAdd, Nat.reduceMul, Nat.reduceLT, reduceCtorEq, Value.cells, setN, Value.oneCell', Nat.reduceLeDiff, undef, fcT, f1, f4, f12, f13]
      refine hK _ _ _ ?_
      refine ⟨k + 1, v', by omega, by omega, by simp (disch := omega) only [bsW, ↓reduceIte, Nat.reduceEqDiff, ne_eq, reduceCtorEq, fcT, f1, f4, f12, f13], by simp (disch := omega) only [bsW, ↓reduceIte, Nat.reduceEqDiff, ne_eq, reduceCtorEq, fcT, f1, f4, f12, f13], by simp (disch := omega) only [bsW, ↓reduceIte, Nat.reduceEqDiff, ne_eq, reduceCtorEq, fcT, f1, f4, f12, f13], by simp (disch := omega) only [bsW, ↓reduceIte, Nat.reduceEqDiff, ne_eq, reduceCtorEq, fcT, f1, f4, f12, f13, Int.natCast_add, Int.natCast_one], hO2.congr (fun i j hi hj => ?_), ?_, by omega⟩
      · simp only [snoc]
        split
        · rfl
        · rw [show i = k by omega]
      · exact sub_up (nx := bL + 1) (by omega) hB0 (sub_up (nx := bL + 1) (by omega) hB0 hs)
    · have hkn : k = n := by simp at b1; omega
      subst hkn
      rcases hO.ex with ⟨rfl, h00⟩ | ⟨q, cap, sp, rfl, hq1, hq2, hq3, hq4, hq5, hq6⟩
      · subst h00
        simp (disch := omega) only [bsW, WOp, WOq, WV, bo, eqN, gdc, gw, bnd, ↓reduceIte, Nat.reduceEqDiff, rsvs, rsv, oneOf, rdN, ne_eq, Nat.reduceAdd, Nat.reduceMul, Nat.reduceLT, reduceCtorEq, Value.cells, setN, Value.oneCell', Nat.reduceLeDiff, undef, fcT, f1, f4, f12, f13, b1]
        (repeat' (first | ((with_reducible refine gif_split (fun hs_ => ?_) (fun hs_ => ?_)) <;> (have hp_ := hs_; (try simp only [hpL, ne_eq] at hp_); (try simp (disch := omega) only [bsW, WOp, WOq, WV, bo, eqN, gdc, gw, bnd, ↓reduceIte, Nat.reduceEqDiff, rsvs, rsv, oneOf, rdN, ne_eq, Nat.reduceAdd, Nat.reduceMul, Nat.reduceLT, reduceCtorEq, Value.cells, setN, Value.oneCell', Nat.reduceLeDiff, undef, fcT, f1, f4, f12, f13, hs_]))) | ((first | (with_reducible refine newB_i (fun nb_ hb_ => ?_)) | ((with_reducible show QC _ _ _ _ _ _); (first | (refine QC_i (sortNil _ _ _ _ _) ?_))) | ((with_reducible show AC _ _ _ _ _ _); (first | (refine PC.ac (sortNil _ _ _ _ _) ?_))) | (with_reducible refine RgE_i (fun (hBd_ : Bd _ _) => ?_))); (try simp (disch := omega) only [bsW, WOp, WOq, WV, bo, eqN, gdc, gw, bnd, ↓reduceIte, Nat.reduceEqDiff, rsvs, rsv, oneOf, rdN, ne_eq, Nat.reduceAdd, Nat.reduceMul, Nat.reduceLT, reduceCtorEq, Value.cells, setN, Value.oneCell', Nat.reduceLeDiff, undef, fcT, f1, f4, f12, f13])) | (with_reducible refine fun (hBd_ : Bd _ _) => ?_) | ((first | (with_reducible refine @And.intro (Sub _ _) _ ?_ ?_) | ((with_reducible refine @And.intro (Sub _ _ ∧ _) _ ?_ ?_); (with_reducible refine @And.intro (Sub _ _) _ ?_ ?_))); exact sbX) | ((with_reducible refine And.intro ?_ ?_); omega)))
        all_goals try (exfalso; omega)
        refine LpB_rule (fun mm fr2 H2 nx2 => mm = 1 ∧ fr2 4 = .slice none 0 0 ∧ fr2 25 = .int .i64 0 ∧ fr2 26 = .int .i64 0 ∧ Sub H0 H2) ?_ ?_ 1 ?_
        · rintro mm2 K2 hK2 fr2 H2 nx2 hB2 ⟨_, g4, g25, g26, hs2⟩
          simp (disch := omega) only [bsW, WOp, WOq, WV, bo, eqN, gdc, gw, bnd, ↓reduceIte, Nat.reduceEqDiff, rsvs, rsv, oneOf, rdN, ne_eq, Nat.reduceAdd, Nat.reduceMul, Nat.reduceLT, reduceCtorEq, Value.cells, setN, Value.oneCell', Nat.reduceLeDiff, undef, fcT, g4, g25, g26, Int.lt_irrefl, decide_false]
          exact ⟨_, rfl, .nil, hs0.trans hs2⟩
        · rintro fr2 H2 nx2 ⟨hm, _⟩; omega
        · exact ⟨rfl, by simp (disch := omega) only [bsW, ↓reduceIte, Nat.reduceEqDiff, ne_eq, reduceCtorEq, fcT, f1, f4, f12, f13], by simp (disch := omega) only [bsW, ↓reduceIte, Nat.reduceEqDiff, ne_eq, reduceCtorEq, fcT, f1, f4, f12, f13, Int.natCast_zero], by simp (disch := omega) only [bsW, ↓reduceIte, Nat.reduceEqDiff, ne_eq, reduceCtorEq, fcT, f1, f4, f12, f13], hs⟩
      have hn0 : 0 < k ∨ k = 0 := by omega
      rcases hn0 with hn0 | hn0
      rotate_left
      · subst hn0
        simp (disch := omega) only [bsW, WOp, WOq, WV, bo, eqN, gdc, gw, bnd, ↓reduceIte, Nat.reduceEqDiff, rsvs, rsv, oneOf, rdN, ne_eq, Nat.reduceAdd, Nat.reduceMul, Nat.reduceLT, reduceCtorEq, Value.cells, setN, Value.oneCell', Nat.reduceLeDiff, undef, fcT, f1, f4, f12, f13, b1]
        (repeat' (first | ((with_reducible refine gif_split (fun hs_ => ?_) (fun hs_ => ?_)) <;> (have hp_ := hs_; (try simp only [hpL, ne_eq] at hp_); (try simp (disch := omega) only [bsW, WOp, WOq, WV, bo, eqN, gdc, gw, bnd, ↓reduceIte, Nat.reduceEqDiff, rsvs, rsv, oneOf, rdN, ne_eq, Nat.reduceAdd, Nat.reduceMul, Nat.reduceLT, reduceCtorEq, Value.cells, setN, Value.oneCell', Nat.reduceLeDiff, undef, fcT, f1, f4, f12, f13, hs_]))) | ((first | (with_reducible refine newB_i (fun nb_ hb_ => ?_)) | ((with_reducible show QC _ _ _ _ _ _); (first | (refine QC_i (sortNil _ _ _ _ _) ?_))) | ((with_reducible show AC _ _ _ _ _ _); (first | (refine PC.ac (sortNil _ _ _ _ _) ?_))) | (with_reducible refine RgE_i (fun (hBd_ : Bd _ _) => ?_))); (try simp (disch := omega) only [bsW, WOp, WOq, WV, bo, eqN, gdc, gw, bnd, ↓reduceIte, Nat.reduceEqDiff, rsvs, rsv, oneOf, rdN, ne_eq, Nat.reduceAdd, Nat.reduceMul, Nat.reduceLT, reduceCtorEq, Value.cells, setN, Value.oneCell', Nat.reduceLeDiff, undef, fcT, f1, f4, f12, f13])) | (with_reducible refine fun (hBd_ : Bd _ _) => ?_) | ((first | (with_reducible refine @And.intro (Sub _ _) _ ?_ ?_) | ((with_reducible refine @And.intro (Sub _ _ ∧ _) _ ?_ ?_); (with_reducible refine @And.intro (Sub _ _) _ ?_ ?_))); exact sbX) | ((with_reducible refine And.intro ?_ ?_); omega)))
        all_goals try (exfalso; omega)
        refine LpB_rule (fun mm fr2 H2 nx2 => mm = 1 ∧ fr2 4 = .slice (some ⟨q, 0, none⟩) 0 cap ∧ fr2 25 = .int .i64 0 ∧ fr2 26 = .int .i64 0 ∧ H2 = H' ∧ nx2 = nx') ?_ ?_ 1 ?_
        · rintro mm2 K2 hK2 fr2 H2 nx2 hB2 ⟨_, g4, g25, g26, rfl, rfl⟩
          simp (disch := omega) only [bsW, WOp, WOq, WV, bo, eqN, gdc, gw, bnd, ↓reduceIte, Nat.reduceEqDiff, rsvs, rsv, oneOf, rdN, ne_eq, Nat.reduceAdd, Nat.reduceMul, Nat.reduceLT, reduceCtorEq, Value.cells, setN, Value.oneCell', Nat.reduceLeDiff, undef, fcT, g4, g25, g26, Int.lt_irrefl, decide_false]
          refine ⟨_, rfl, ⟨.inr ⟨q, cap, sp, rfl, by omega, hq2, ?_, hq4, hq5, hq6⟩⟩, hs0.trans hs⟩
          rw [hq3]
          congr 3
        · rintro fr2 H2 nx2 ⟨hm, _⟩; omega
        · exact ⟨rfl, by simp (disch := omega) only [bsW, ↓reduceIte, Nat.reduceEqDiff, ne_eq, reduceCtorEq, fcT, f1, f4, f12, f13], by simp (disch := omega) only [bsW, ↓reduceIte, Nat.reduceEqDiff, ne_eq, reduceCtorEq, fcT, f1, f4, f12, f13, Int.natCast_zero], by simp (disch := omega) only [bsW, ↓reduceIte, Nat.reduceEqDiff, ne_eq, reduceCtorEq, fcT, f1, f4, f12, f13], rfl, rfl⟩
      have hbq : bL ≠ q := by omega
      have hd0 : ∀ {H2 : Hp}, Sub (del H' q) H2 → Sub H0 H2 := fun {H2} hh b o e => by
        have := hB0 b o e
        exact hh b o (by unfold del; rw [if_neg (by omega)]; exact hs b o e)
      simp (disch := omega) only [bsW, WOp, WOq, WV, bo, eqN, gdc, gw, bnd, ↓reduceIte, Nat.reduceEqDiff, rsvs, rsv, oneOf, rdN, ne_eq, Nat.reduceAdd, Nat.reduceMul, Nat.reduceLT, reduceCtorEq, Value.cells, setN, Value.oneCell', Nat.reduceLeDiff, undef, fcT, f1, f4, f12, f13, b1]
      refine AC.monoC (sortStab q cap k sp 107 (.pointer (some ⟨bL, 0, none⟩)) (cmS s) (betS s) _ _ (fun a b ha hb => cmS_neg hv ha hb) hn0 (by omega) hq4 hq2 hq3 hq6 (fun H2 nx2 hs2 hx2 a b ha hb => cmpShow A k c s bL a b H2 nx2 hv ha hb (h0.sub (hd0 hs2)) (hd0 hs2 _ _ zL))) ?_
      rintro v1 H1 nx1 hB1 hx1 ⟨rfl, ⟨sp1, hq1', hsp1⟩, hs1⟩
      have hs1' := hd0 hs1
      have hrl := rkF_lt (betS s) k
      (try (simp (disch := omega) only [bsW, WOp, WOq, WV, bo, eqN, gdc, gw, bnd, ↓reduceIte, Nat.reduceEqDiff, rsvs, rsv, oneOf, rdN, ne_eq, Nat.reduceAdd, Nat.reduceMul, Nat.reduceLT, reduceCtorEq, Value.cells, setN, Value.oneCell', Nat.reduceLeDiff, undef, fcT, f1, f4, f12, f13]))
      refine LpB_rule (fun mm fr2 H2 nx2 => ∃ j : Nat, mm = k - j + 1 ∧ j ≤ k ∧ fr2 1 = .pointer (some ⟨bL, 0, none⟩) ∧ fr2 4 = .slice (some ⟨q, 0, none⟩) k cap ∧ fr2 24 = .slice (some ⟨q, 0, none⟩) k cap ∧ fr2 25 = .int .i64 k ∧ fr2 26 = .int .i64 j ∧
        (∃ sp, H2 q = some (.rw (flat k 1 (fun p _ => if p < j then s.id (rkF (betS s) k p) else ((rkF (betS s) k p : Nat) : Int)) ++ sp) 3) ∧ sp.length = (cap - k) * 1) ∧ Sub H0 H2 ∧ nx1 ≤ nx2) ?_ ?_ (k + 1) ?_
      · rintro mm2 K2 hK2 fr2 H2 nx2 hB2 ⟨j, hmm2, hj, g1, g4, g24, g25, g26, ⟨sp2, hq2', hsp2⟩, hs2, hx2⟩
        simp (disch := omega) only [bsW, WOp, WOq, WV, bo, eqN, gdc, gw, bnd, ↓reduceIte, Nat.reduceEqDiff, rsvs, rsv, oneOf, rdN, ne_eq, Nat.reduceAdd, Nat.reduceMul, Nat.reduceLT, reduceCtorEq, Value.cells, setN, Value.oneCell', Nat.reduceLeDiff, undef, fcT, g1, g4, g24, g25, g26]
        refine gif_split (fun b2 => ?_) (fun b2 => ?_)
        · have hlt : j < k := by simpa using b2
          have zL2 := hs2 _ _ zL
          obtain ⟨b, off, B, d, e0, c0, c1, c2, c3, hmd, hR⟩ := (h0.sub hs2).at_ (hrl j hlt)
          subst e0
          have cj : rd H2 q j = some (.int .i64 (rkF (betS s) k j : Nat)) := by
            rw [rd_rw hq2']
            have := flat_get_sp (f := fun p _ => if p < j then s.id (rkF (betS s) k p) else ((rkF (betS s) k p : Nat) : Int)) (sp := sp2) hlt (show 0 < 1 by omega)
            simp only [Nat.mul_one, Nat.add_zero, Nat.lt_irrefl, if_false] at this
            exact this
          have hrj := hrl j hlt
          simp (disch := omega) only [bsW, WOp, WOq, WV, bo, eqN, gdc, gw, bnd, ↓reduceIte, Nat.reduceEqDiff, rsvs, rsv, oneOf, rdN, ne_eq, Nat.reduceAdd, Nat.reduceMul, Nat.reduceLT, reduceCtorEq, Value.cells, setN, Value.oneCell', Nat.reduceLeDiff, undef, fcT, g1, g4, g24, g25, g26, cj, c0, rd_rw zL2, hq2', List.length_append, flat_length, Nat.mul_one, Nat.zero_add, Int.toNat_natCast, b2]
          (repeat' (first | ((with_reducible refine gif_split (fun hs_ => ?_) (fun hs_ => ?_)) <;> (have hp_ := hs_; (try simp only [hpL, ne_eq] at hp_); (try simp (disch := omega) only [bsW, WOp, WOq, WV, bo, eqN, gdc, gw, bnd, ↓reduceIte, Nat.reduceEqDiff, rsvs, rsv, oneOf, rdN, ne_eq, Nat.reduceAdd, Nat.reduceMul, Nat.reduceLT, reduceCtorEq, Value.cells, setN, Value.oneCell', Nat.reduceLeDiff, undef, fcT, g1, g4, g24, g25, g26, cj, c0, rd_rw zL2, hq2', List.length_append, flat_length, Nat.mul_one, Nat.zero_add, Int.toNat_natCast, hs_]))) | ((first | (with_reducible refine newB_i (fun nb_ hb_ => ?_)) | (with_reducible refine RgE_i (fun (hBd_ : Bd _ _) => ?_))); (try simp (disch := omega) only [bsW, WOp, WOq, WV, bo, eqN, gdc, gw, bnd, ↓reduceIte, Nat.reduceEqDiff, rsvs, rsv, oneOf, rdN, ne_eq, Nat.reduceAdd, Nat.reduceMul, Nat.reduceLT, reduceCtorEq, Value.cells, setN, Value.oneCell', Nat.reduceLeDiff, undef, fcT, g1, g4, g24, g25, g26, cj, c0, rd_rw zL2, hq2', List.length_append, flat_length, Nat.mul_one, Nat.zero_add, Int.toNat_natCast])) | (with_reducible refine fun (hBd_ : Bd _ _) => ?_) | ((first | (with_reducible refine @And.intro (Sub _ _) _ ?_ ?_) | ((with_reducible refine @And.intro (Sub _ _ ∧ _) _ ?_ ?_); (with_reducible refine @And.intro (Sub _ _) _ ?_ ?_))); exact sbX) | ((with_reducible refine And.intro ?_ ?_); omega)))
          all_goals try (exfalso; omega)
          have e1 := flat_set_sp (f := fun p _ => if p < j then s.id (rkF (betS s) k p) else ((rkF (betS s) k p : Nat) : Int)) (sp := sp2) hlt (show 0 < 1 by omega) (s.id (rkF (betS s) k j))
          simp only [Nat.mul_one, Nat.add_zero] at e1
          rw [e1]
          refine hK2 _ _ _ ?_
          refine ⟨j + 1, by omega, by omega, by simp (disch := omega) only [bsW, ↓reduceIte, Nat.reduceEqDiff, ne_eq, reduceCtorEq, fcT, g1, g4, g24, g25, g26, cj, c0, rd_rw zL2, hq2', List.length_append, flat_length, Nat.mul_one, Nat.zero_add, Int.toNat_natCast], by simp (disch := omega) only [bsW, ↓reduceIte, Nat.reduceEqDiff, ne_eq, reduceCtorEq, fcT, g1, g4, g24, g25, g26, cj, c0, rd_rw zL2, hq2', List.length_append, flat_length, Nat.mul_one, Nat.zero_add, Int.toNat_natCast], by simp (disch := omega) only [bsW, ↓reduceIte, Nat.reduceEqDiff, ne_eq, reduceCtorEq, fcT, g1, g4, g24, g25, g26, cj, c0, rd_rw zL2, hq2', List.length_append, flat_length, Nat.mul_one, Nat.zero_add, Int.toNat_natCast], by simp (disch := omega) only [bsW, ↓reduceIte, Nat.reduceEqDiff, ne_eq, reduceCtorEq, fcT, g1, g4, g24, g25, g26, cj, c0, rd_rw zL2, hq2', List.length_append, flat_length, Nat.mul_one, Nat.zero_add, Int.toNat_natCast], by simp (disch := omega) only [bsW, ↓reduceIte, Nat.reduceEqDiff, ne_eq, reduceCtorEq, fcT, g1, g4, g24, g25, g26, cj, c0, rd_rw zL2, hq2', List.length_append, flat_length, Nat.mul_one, Nat.zero_add, Int.toNat_natCast, Int.natCast_add, Int.natCast_one], ⟨sp2, ?_, hsp2⟩, sub_up (nx := bL + 1) (by omega) hB0 hs2, by omega⟩
          rw [upd_same]
          congr 3
          refine flat_congr fun p r hp hr => ?_
          unfold set2
          by_cases hpj : p = j
          · subst hpj
            rw [if_pos ⟨rfl, by omega⟩, if_pos (Nat.lt_succ_self p)]
          · rw [if_neg (fun hh => hpj hh.1)]
            show (if p < j then _ else _) = _
            by_cases h2 : p < j
            · rw [if_pos h2, if_pos (by omega)]
            · rw [if_neg h2, if_neg (by omega)]
        · have hjk : j = k := by simp at b2; omega
          subst hjk
          simp (disch := omega) only [bsW, WOp, WOq, WV, bo, eqN, gdc, gw, bnd, ↓reduceIte, Nat.reduceEqDiff, rsvs, rsv, oneOf, rdN, ne_eq, Nat.reduceAdd, Nat.reduceMul, Nat.reduceLT, reduceCtorEq, Value.cells, setN, Value.oneCell', Nat.reduceLeDiff, undef, fcT, g1, g4, g24, g25, g26, b2]
          refine ⟨_, rfl, ⟨.inr ⟨q, cap, sp2, rfl, by omega, by omega, ?_, hq4, hq5, hsp2⟩⟩, hs0.trans hs2⟩
          rw [hq2']
          congr 3
          exact flat_congr fun p r hp hr => by rw [if_pos hp]; rfl
      · rintro fr2 H2 nx2 ⟨j, hm, _⟩; omega
      · refine ⟨0, by omega, by omega, by simp (disch := omega) only [bsW, ↓reduceIte, Nat.reduceEqDiff, ne_eq, reduceCtorEq, fcT, f1, f4, f12, f13], by simp (disch := omega) only [bsW, ↓reduceIte, Nat.reduceEqDiff, ne_eq, reduceCtorEq, fcT, f1, f4, f12, f13], by simp (disch := omega) only [bsW, ↓reduceIte, Nat.reduceEqDiff, ne_eq, reduceCtorEq, fcT, f1, f4, f12, f13], by simp (disch := omega) only [bsW, ↓reduceIte, Nat.reduceEqDiff, ne_eq, reduceCtorEq, fcT, f1, f4, f12, f13], by simp (disch := omega) only [bsW, ↓reduceIte, Nat.reduceEqDiff, ne_eq, reduceCtorEq, fcT, f1, f4, f12, f13, Int.natCast_zero], ⟨sp1, ?_, hsp1⟩, hs1', by omega⟩
        rw [hq1']
        congr 3
  · rintro fr H' nx' ⟨k, w, hm, _⟩; omega
  · exact ⟨0, _, by omega, by omega, by simp (disch := omega) only [bsW, ↓reduceIte, Nat.reduceEqDiff, ne_eq, reduceCtorEq, fcT, rd_rw zL], by simp (disch := omega) only [bsW, ↓reduceIte, Nat.reduceEqDiff, ne_eq, reduceCtorEq, fcT, rd_rw zL], by simp (disch := omega) only [bsW, ↓reduceIte, Nat.reduceEqDiff, ne_eq, reduceCtorEq, fcT, rd_rw zL], by simp (disch := omega) only [bsW, ↓reduceIte, Nat.reduceEqDiff, ne_eq, reduceCtorEq, fcT, rd_rw zL, Int.natCast_zero], .nil, Sub.refl _, by omega⟩
end Go.Proofs.YtnjlleopgjggpaaDoor
