/- Exhibits without a judge. -/
import Derived.Test.YtnjlleopgjggpaaR14
set_option linter.unusedVariables false
set_option linter.unusedSimpArgs false
set_option maxRecDepth 100000
set_option maxHeartbeats 4000000
namespace Go.Proofs.Ytnjlleopgjggpaa
open Go Go.RowKit Go.Proofs

/-- The exhibits without the marks of the judge j. -/
def wjS (s : Shw) (j : Nat) : Shw where
  id := s.id
  title := s.title
  fr := s.fr
  m i := s.m i - 1
  mks i q := if q < j then s.mks i q else s.mks i (q + 1)
noncomputable def wjB (n : Nat) (s : Shw) (x : Int) : Bool := exsB n s && decide (0 < n ∧ 0 ≤ x ∧ x < s.m 0) && exsB n (wjS s x.toNat)
noncomputable def wjN (n : Nat) (s : Shw) (x : Int) : Nat := if wjB n s x = true then n else 0
theorem wjN_le (n : Nat) (s : Shw) (x : Int) : wjN n s x ≤ 10 := by
  unfold wjN
  split
  · rename_i h
    simp only [wjB, Bool.and_eq_true] at h
    exact exs_n h.1.1
  · omega
theorem wj_m {n : Nat} {s : Shw} {x : Int} {i : Nat} (hi : i < wjN n s x) : (wjS s x.toNat).m i ≤ 7 := by
  unfold wjN at hi
  split at hi
  · rename_i h
    simp only [wjB, Bool.and_eq_true] at h
    have := exs_at h.2 hi
    omega
  · omega
def WjK (H : Hp) (nx n : Nat) (s : Shw) (x : Int) (v : Value) (H' : Hp) (nx' : Nat) : Prop := ∃ w, v = .tuple #[w, .bool (wjB n s x)] ∧ OwnSh H' nx nx' (wjN n s x) (wjS s x.toNat) 31 3 w ∧ Sub H H'
theorem wjK_no {H : Hp} {nx n : Nat} {s : Shw} {x : Int} {H' : Hp} {nx' : Nat} (h : wjB n s x = false) (hs : Sub H H') : WjK H nx n s x (.tuple #[.slice none 0 0, .bool false]) H' nx' := by
  have e : wjN n s x = 0 := if_neg (by rw [h]; simp)
  unfold WjK
  rw [h, e]
  exact ⟨_, rfl, .nil, hs⟩
theorem wjK_yes {H : Hp} {nx n : Nat} {s : Shw} {x : Int} {w : Value} {H' : Hp} {nx' : Nat} (h : wjB n s x = true) (hO : OwnSh H' nx nx' n (wjS s x.toNat) 31 3 w) (hs : Sub H H') : WjK H nx n s x (.tuple #[w, .bool true]) H' nx' := by
  have e : wjN n s x = n := if_pos h
  unfold WjK
  rw [h, e]
  exact ⟨_, rfl, hO, hs⟩
theorem szOk_wj {n : Nat} {s : Shw} {j : Nat} (h : szOk n s) : szOk n (wjS s j) := fun i hi => by
  have := h i hi
  refine ⟨this.1, ?_⟩
  show s.m i - 1 ≤ _
  omega
theorem OwnR.ne {H : Hp} {lo hi n k : Nat} {f : Nat → Nat → Int} {ty : TypeId} {v : Value} (h : OwnR H lo hi n k f ty v) (hn : 0 < n) : ∃ q cap sp, v = .slice (some ⟨q, 0, none⟩) n cap ∧ lo ≤ q ∧ q < hi ∧ H q = some (.rw (flat n k f ++ sp) ty) ∧ n ≤ cap ∧ cap ≤ maxLen ∧ sp.length = (cap - n) * k := by
  rcases h.ex with ⟨_, e⟩ | h
  · omega
  · exact h

theorem WithoutJudge (A : Option Addr) (n c : Nat) (s : Shw) (x : Int) (H : Hp) (nx : Nat) (hx64 : -9223372036854775808 ≤ x ∧ x ≤ 9223372036854775807) (hn : n ≤ 17592186044416) (h : RdS H A n s) (hw : szOk n s) :
    AC Try.prog 13 #[.slice A n c, .int .i64 x] H nx (WjK H nx n s x) := by
  refine AC_of x_impl_WithoutJudge rfl fun hB => ?_
  cases hv : exsB n s
  · simp (disch := omega) only [bsW, WOp, WOq, WV, bo, eqN, gdc, gw, bnd, ↓reduceIte, Nat.reduceEqDiff, rsvs, rsv, oneOf, rdN, ne_eq, Nat.reduceAdd, Nat.reduceMul, Nat.reduceLT, reduceCtorEq, Value.cells, setN, Value.oneCell', Nat.reduceLeDiff, undef, fcT, hv, Bool.not_false, c_impl_WithoutJudge]
    (repeat' (first | ((with_reducible refine gif_split (fun hs_ => ?_) (fun hs_ => ?_)) <;> (have hp_ := hs_; (try simp only [hpL, ne_eq] at hp_); (try simp (disch := omega) only [bsW, WOp, WOq, WV, bo, eqN, gdc, gw, bnd, ↓reduceIte, Nat.reduceEqDiff, rsvs, rsv, oneOf, rdN, ne_eq, Nat.reduceAdd, Nat.reduceMul, Nat.reduceLT, reduceCtorEq, Value.cells, setN, Value.oneCell', Nat.reduceLeDiff, undef, fcT, hv, Bool.not_false, hs_]))) | ((first | (with_reducible refine newB_i (fun nb_ hb_ => ?_)) | ((with_reducible show QC _ _ _ _ _ _); (first | (refine QC_i (areExhibits A n c s _ _ hn h hw) ?_))) | ((with_reducible show AC _ _ _ _ _ _); (first | (refine PC.ac (areExhibits A n c s _ _ hn h hw) ?_))) | (with_reducible refine RgE_i (fun (hBd_ : Bd _ _) => ?_))); (try simp (disch := omega) only [bsW, WOp, WOq, WV, bo, eqN, gdc, gw, bnd, ↓reduceIte, Nat.reduceEqDiff, rsvs, rsv, oneOf, rdN, ne_eq, Nat.reduceAdd, Nat.reduceMul, Nat.reduceLT, reduceCtorEq, Value.cells, setN, Value.oneCell', Nat.reduceLeDiff, undef, fcT, hv, Bool.not_false])) | (with_reducible refine fun (hBd_ : Bd _ _) => ?_) | ((first | (with_reducible refine @And.intro (Sub _ _) _ ?_ ?_) | ((with_reducible refine @And.intro (Sub _ _ ∧ _) _ ?_ ?_); (with_reducible refine @And.intro (Sub _ _) _ ?_ ?_))); exact sbX) | ((with_reducible refine And.intro ?_ ?_); omega)))
    all_goals try (exfalso; omega)
    exact wjK_no (by unfold wjB; rw [hv]; rfl) (Sub.refl _)
  have hn10 := exs_n hv
  by_cases hx0 : x < 0
  · simp (disch := omega) only [bsW, WOp, WOq, WV, bo, eqN, gdc, gw, bnd, ↓reduceIte, Nat.reduceEqDiff, rsvs, rsv, oneOf, rdN, ne_eq, Nat.reduceAdd, Nat.reduceMul, Nat.reduceLT, reduceCtorEq, Value.cells, setN, Value.oneCell', Nat.reduceLeDiff, undef, fcT, hv, Bool.not_true, hx0, c_impl_WithoutJudge]
    (repeat' (first | ((with_reducible refine gif_split (fun hs_ => ?_) (fun hs_ => ?_)) <;> (have hp_ := hs_; (try simp only [hpL, ne_eq] at hp_); (try simp (disch := omega) only [bsW, WOp, WOq, WV, bo, eqN, gdc, gw, bnd, ↓reduceIte, Nat.reduceEqDiff, rsvs, rsv, oneOf, rdN, ne_eq, Nat.reduceAdd, Nat.reduceMul, Nat.reduceLT, reduceCtorEq, Value.cells, setN, Value.oneCell', Nat.reduceLeDiff, undef, fcT, hv, Bool.not_true, hx0, hs_]))) | ((first | (with_reducible refine newB_i (fun nb_ hb_ => ?_)) | ((with_reducible show QC _ _ _ _ _ _); (first | (refine QC_i (areExhibits A n c s _ _ hn h hw) ?_))) | ((with_reducible show AC _ _ _ _ _ _); (first | (refine PC.ac (areExhibits A n c s _ _ hn h hw) ?_))) | (with_reducible refine RgE_i (fun (hBd_ : Bd _ _) => ?_))); (try simp (disch := omega) only [bsW, WOp, WOq, WV, bo, eqN, gdc, gw, bnd, ↓reduceIte, Nat.reduceEqDiff, rsvs, rsv, oneOf, rdN, ne_eq, Nat.reduceAdd, Nat.reduceMul, Nat.reduceLT, reduceCtorEq, Value.cells, setN, Value.oneCell', Nat.reduceLeDiff, undef, fcT, hv, Bool.not_true, hx0])) | (with_reducible refine fun (hBd_ : Bd _ _) => ?_) | ((first | (with_reducible refine @And.intro (Sub _ _) _ ?_ ?_) | ((with_reducible refine @And.intro (Sub _ _ ∧ _) _ ?_ ?_); (with_reducible refine @And.intro (Sub _ _) _ ?_ ?_))); exact sbX) | ((with_reducible refine And.intro ?_ ?_); omega)))
    all_goals try (exfalso; omega)
    all_goals exact wjK_no (by unfold wjB; rw [decide_eq_false (by omega)]; simp) (Sub.refl _)
  obtain ⟨j, rfl⟩ : ∃ j : Nat, x = j := ⟨x.toNat, by omega⟩
  have hxf : decide ((j : Int) < 0) = false := decide_eq_false (by omega)
  simp (disch := omega) only [bsW, WOp, WOq, WV, bo, eqN, gdc, gw, bnd, ↓reduceIte, Nat.reduceEqDiff, rsvs, rsv, oneOf, rdN, ne_eq, Nat.reduceAdd, Nat.reduceMul, Nat.reduceLT, reduceCtorEq, Value.cells, setN, Value.oneCell', Nat.reduceLeDiff, undef, fcT, hv, Bool.not_true, hxf, c_impl_WithoutJudge]
  (repeat' (first | ((with_reducible refine gif_split (fun hs_ => ?_) (fun hs_ => ?_)) <;> (have hp_ := hs_; (try simp only [hpL, ne_eq] at hp_); (try simp (disch := omega) only [bsW, WOp, WOq, WV, bo, eqN, gdc, gw, bnd, ↓reduceIte, Nat.reduceEqDiff, rsvs, rsv, oneOf, rdN, ne_eq, Nat.reduceAdd, Nat.reduceMul, Nat.reduceLT, reduceCtorEq, Value.cells, setN, Value.oneCell', Nat.reduceLeDiff, undef, fcT, hv, Bool.not_true, hxf, hs_]))) | ((first | (with_reducible refine newB_i (fun nb_ hb_ => ?_)) | ((with_reducible show QC _ _ _ _ _ _); (first | (refine QC_i (areExhibits A n c s _ _ hn h hw) ?_))) | ((with_reducible show AC _ _ _ _ _ _); (first | (refine PC.ac (areExhibits A n c s _ _ hn h hw) ?_))) | (with_reducible refine RgE_i (fun (hBd_ : Bd _ _) => ?_))); (try simp (disch := omega) only [bsW, WOp, WOq, WV, bo, eqN, gdc, gw, bnd, ↓reduceIte, Nat.reduceEqDiff, rsvs, rsv, oneOf, rdN, ne_eq, Nat.reduceAdd, Nat.reduceMul, Nat.reduceLT, reduceCtorEq, Value.cells, setN, Value.oneCell', Nat.reduceLeDiff, undef, fcT, hv, Bool.not_true, hxf])) | (with_reducible refine fun (hBd_ : Bd _ _) => ?_) | ((first | (with_reducible refine @And.intro (Sub _ _) _ ?_ ?_) | ((with_reducible refine @And.intro (Sub _ _ ∧ _) _ ?_ ?_); (with_reducible refine @And.intro (Sub _ _) _ ?_ ?_))); exact sbX) | ((with_reducible refine And.intro ?_ ?_); omega)))
  all_goals try (exfalso; omega)
  refine LpB_rule (fun mm fr H' nx' => ∃ (k : Nat) (w : Value), mm = n - k + 1 ∧ k ≤ n ∧ fr 0 = .slice A n c ∧ fr 1 = .int .i64 j ∧ fr 6 = w ∧ fr 16 = .slice A n c ∧ fr 17 = .int .i64 n ∧ fr 18 = .int .i64 k ∧
    (0 < k → j < s.m 0) ∧ OwnSh H' nx nx' k (wjS s j) 31 3 w ∧ Sub H H' ∧ nx ≤ nx') ?_ ?_ (n + 1) ?_
  · rintro mm K hK fr H' nx' hB' ⟨k, w, hmm, hk, f0, f1, f6, f16, f17, f18, hjm, hO, hs, hx⟩
    simp (disch := omega) only [bsW, WOp, WOq, WV, bo, eqN, gdc, gw, bnd, ↓reduceIte, Nat.reduceEqDiff, rsvs, rsv, oneOf, rdN, ne_eq, Nat.reduceAdd, Nat.reduceMul, Nat.reduceLT, reduceCtorEq, Value.cells, setN, Value.oneCell', Nat.reduceLeDiff, undef, fcT, f0, f1, f6, f16, f17, f18]
    refine gif_split (fun b1 => ?_) (fun b1 => ?_)
    · have hlt : k < n := by simpa using b1
      obtain ⟨b, off, B, d, rfl, c0, c1, c2, c3, hmd, hR⟩ := (h.sub hs).at_ hlt
      have xk := exs_at hv hlt
      have hb := rd_lt hB' c0
      by_cases hjm2 : (s.m k : Int) ≤ (j : Int)
      · have hge : decide ((s.m k : Int) ≤ (j : Int)) = true := decide_eq_true hjm2
        simp (disch := omega) only [bsW, WOp, WOq, WV, bo, eqN, gdc, gw, bnd, ↓reduceIte, Nat.reduceEqDiff, rsvs, rsv, oneOf, rdN, ne_eq, Nat.reduceAdd, Nat.reduceMul, Nat.reduceLT, reduceCtorEq, Value.cells, setN, Value.oneCell', Nat.reduceLeDiff, undef, fcT, f0, f1, f6, f16, f17, f18, c0, c1, c2, c3, hge, b1]
        (repeat' (first | ((with_reducible refine gif_split (fun hs_ => ?_) (fun hs_ => ?_)) <;> (have hp_ := hs_; (try simp only [hpL, ne_eq] at hp_); (try simp (disch := omega) only [bsW, WOp, WOq, WV, bo, eqN, gdc, gw, bnd, ↓reduceIte, Nat.reduceEqDiff, rsvs, rsv, oneOf, rdN, ne_eq, Nat.reduceAdd, Nat.reduceMul, Nat.reduceLT, reduceCtorEq, Value.cells, setN, Value.oneCell', Nat.reduceLeDiff, undef, fcT, f0, f1, f6, f16, f17, f18, c0, c1, c2, c3, hge, hs_]))) | ((first | (with_reducible refine newB_i (fun nb_ hb_ => ?_)) | (with_reducible refine RgE_i (fun (hBd_ : Bd _ _) => ?_))); (try simp (disch := omega) only [bsW, WOp, WOq, WV, bo, eqN, gdc, gw, bnd, ↓reduceIte, Nat.reduceEqDiff, rsvs, rsv, oneOf, rdN, ne_eq, Nat.reduceAdd, Nat.reduceMul, Nat.reduceLT, reduceCtorEq, Value.cells, setN, Value.oneCell', Nat.reduceLeDiff, undef, fcT, f0, f1, f6, f16, f17, f18, c0, c1, c2, c3, hge])) | (with_reducible refine fun (hBd_ : Bd _ _) => ?_) | ((first | (with_reducible refine @And.intro (Sub _ _) _ ?_ ?_) | ((with_reducible refine @And.intro (Sub _ _ ∧ _) _ ?_ ?_); (with_reducible refine @And.intro (Sub _ _) _ ?_ ?_))); exact sbX) | ((with_reducible refine And.intro ?_ ?_); omega)))
        all_goals try (exfalso; omega)
        exact wjK_no (by unfold wjB; rw [decide_eq_false (fun hh => by omega)]; simp) (sub_up2 hB hs (by omega))
      have hge : decide ((s.m k : Int) ≤ (j : Int)) = false := decide_eq_false hjm2
      simp (disch := omega) only [bsW, WOp, WOq, WV, bo, eqN, gdc, gw, bnd, ↓reduceIte, Nat.reduceEqDiff, rsvs, rsv, oneOf, rdN, ne_eq, Nat.reduceAdd, Nat.reduceMul, Nat.reduceLT, reduceCtorEq, Value.cells, setN, Value.oneCell', Nat.reduceLeDiff, undef, fcT, f0, f1, f6, f16, f17, f18, c0, c1, c2, c3, hge, b1]
      (repeat' (first | ((with_reducible refine gif_split (fun hs_ => ?_) (fun hs_ => ?_)) <;> (have hp_ := hs_; (try simp only [hpL, ne_eq] at hp_); (try simp (disch := omega) only [bsW, WOp, WOq, WV, bo, eqN, gdc, gw, bnd, ↓reduceIte, Nat.reduceEqDiff, rsvs, rsv, oneOf, rdN, ne_eq, Nat.reduceAdd, Nat.reduceMul, Nat.reduceLT, reduceCtorEq, Value.cells, setN, Value.oneCell', Nat.reduceLeDiff, undef, fcT, f0, f1, f6, f16, f17, f18, c0, c1, c2, c3, hge, hs_]))) | ((first | (with_reducible refine newB_i (fun nb_ hb_ => ?_)) | (with_reducible refine RgE_i (fun (hBd_ : Bd _ _) => ?_))); (try simp (disch := omega) only [bsW, WOp, WOq, WV, bo, eqN, gdc, gw, bnd, ↓reduceIte, Nat.reduceEqDiff, rsvs, rsv, oneOf, rdN, ne_eq, Nat.reduceAdd, Nat.reduceMul, Nat.reduceLT, reduceCtorEq, Value.cells, setN, Value.oneCell', Nat.reduceLeDiff, undef, fcT, f0, f1, f6, f16, f17, f18, c0, c1, c2, c3, hge])) | (with_reducible refine fun (hBd_ : Bd _ _) => ?_) | ((first | (with_reducible refine @And.intro (Sub _ _) _ ?_ ?_) | ((with_reducible refine @And.intro (Sub _ _ ∧ _) _ ?_ ?_); (with_reducible refine @And.intro (Sub _ _) _ ?_ ?_))); exact sbX) | ((with_reducible refine And.intro ?_ ?_); omega)))
      all_goals try (exfalso; omega)
      have hbX := hb_
      have hs1 : Sub H' (upd H' nb_ (.rw [.int .i64 (s.id k), .string (s.title k), .int .i64 (s.fr k), .slice B (s.m k) d] 31)) := sub_up2 hB' (Sub.refl _) (by omega)
      have zX : (upd H' nb_ (.rw [.int .i64 (s.id k), .string (s.title k), .int .i64 (s.fr k), .slice B (s.m k) d] 31)) nb_ = some (.rw [.int .i64 (s.id k), .string (s.title k), .int .i64 (s.fr k), .slice B (s.m k) d] 31) := upd_same _ _ _
      generalize (upd H' nb_ (.rw [.int .i64 (s.id k), .string (s.title k), .int .i64 (s.fr k), .slice B (s.m k) d] 31)) = H1 at *
      generalize nb_ = bX at *
      refine (cloneI B (s.m k) d (fun q _ => s.mks k q) _ _ (by omega) (hR.sub hs1)).monoC ?_
      rintro v2 H2 nx2 hB2 hx2 ⟨hO2, ht2⟩
      obtain ⟨q, cap, sp, rfl, hq1, hq2, hq3, hq4, hq5, hq6⟩ := hO2.ne (by omega)
      have zX2 := ht2 _ _ zX
      (try (simp (disch := omega) only [bsW, WOp, WOq, WV, bo, eqN, gdc, gw, bnd, ↓reduceIte, Nat.reduceEqDiff, rsvs, rsv, oneOf, rdN, ne_eq, Nat.reduceAdd, Nat.reduceMul, Nat.reduceLT, reduceCtorEq, Value.cells, setN, Value.oneCell', Nat.reduceLeDiff, undef, fcT, f0, f1, f6, f16, f17, f18]))
      (repeat' (first | ((with_reducible refine gif_split (fun hs_ => ?_) (fun hs_ => ?_)) <;> (have hp_ := hs_; (try simp only [hpL, ne_eq] at hp_); (try simp (disch := omega) only [bsW, WOp, WOq, WV, bo, eqN, gdc, gw, bnd, ↓reduceIte, Nat.reduceEqDiff, rsvs, rsv, oneOf, rdN, ne_eq, Nat.reduceAdd, Nat.reduceMul, Nat.reduceLT, reduceCtorEq, Value.cells, setN, Value.oneCell', Nat.reduceLeDiff, undef, fcT, f0, f1, f6, f16, f17, f18, hs_]))) | ((first | (with_reducible refine newB_i (fun nb_ hb_ => ?_)) | (with_reducible refine RgE_i (fun (hBd_ : Bd _ _) => ?_))); (try simp (disch := omega) only [bsW, WOp, WOq, WV, bo, eqN, gdc, gw, bnd, ↓reduceIte, Nat.reduceEqDiff, rsvs, rsv, oneOf, rdN, ne_eq, Nat.reduceAdd, Nat.reduceMul, Nat.reduceLT, reduceCtorEq, Value.cells, setN, Value.oneCell', Nat.reduceLeDiff, undef, fcT, f0, f1, f6, f16, f17, f18])) | (with_reducible refine fun (hBd_ : Bd _ _) => ?_) | ((first | (with_reducible refine @And.intro (Sub _ _) _ ?_ ?_) | ((with_reducible refine @And.intro (Sub _ _ ∧ _) _ ?_ ?_); (with_reducible refine @And.intro (Sub _ _) _ ?_ ?_))); exact sbX) | ((with_reducible refine And.intro ?_ ?_); omega)))
      all_goals try (exfalso; omega)
      refine (deleteI q cap (s.m k) j (fun q _ => s.mks k q) sp _ _ (by omega) (by omega) hq3 hq4 hq5 hq6).monoC ?_
      rintro v3 H3 nx3 hB3 hx3 ⟨rfl, ⟨sp3, hq3', hsp3⟩, hoth3⟩
      have zX3 : H3 bX = _ := (hoth3 bX (by omega)).trans zX2
      have hs3 : Sub H' H3 := fun r o e => by
        have := hB' r o e
        rw [hoth3 r (by omega)]
        exact (hs1.trans ht2) r o e
      (try (simp (disch := omega) only [bsW, WOp, WOq, WV, bo, eqN, gdc, gw, bnd, ↓reduceIte, Nat.reduceEqDiff, rsvs, rsv, oneOf, rdN, ne_eq, Nat.reduceAdd, Nat.reduceMul, Nat.reduceLT, reduceCtorEq, Value.cells, setN, Value.oneCell', Nat.reduceLeDiff, undef, fcT, f0, f1, f6, f16, f17, f18, zX3]))
      (repeat' (first | ((with_reducible refine gif_split (fun hs_ => ?_) (fun hs_ => ?_)) <;> (have hp_ := hs_; (try simp only [hpL, ne_eq] at hp_); (try simp (disch := omega) only [bsW, WOp, WOq, WV, bo, eqN, gdc, gw, bnd, ↓reduceIte, Nat.reduceEqDiff, rsvs, rsv, oneOf, rdN, ne_eq, Nat.reduceAdd, Nat.reduceMul, Nat.reduceLT, reduceCtorEq, Value.cells, setN, Value.oneCell', Nat.reduceLeDiff, undef, fcT, f0, f1, f6, f16, f17, f18, zX3, hs_]))) | ((first | (with_reducible refine newB_i (fun nb_ hb_ => ?_)) | (with_reducible refine RgE_i (fun (hBd_ : Bd _ _) => ?_))); (try simp (disch := omega) only [bsW, WOp, WOq, WV, bo, eqN, gdc, gw, bnd, ↓reduceIte, Nat.reduceEqDiff, rsvs, rsv, oneOf, rdN, ne_eq, Nat.reduceAdd, Nat.reduceMul, Nat.reduceLT, reduceCtorEq, Value.cells, setN, Value.oneCell', Nat.reduceLeDiff, undef, fcT, f0, f1, f6, f16, f17, f18, zX3])) | (with_reducible refine fun (hBd_ : Bd _ _) => ?_) | ((first | (with_reducible refine @And.intro (Sub _ _) _ ?_ ?_) | ((with_reducible refine @And.intro (Sub _ _ ∧ _) _ ?_ ?_); (with_reducible refine @And.intro (Sub _ _) _ ?_ ?_))); exact sbX) | ((with_reducible refine And.intro ?_ ?_); omega)))
      all_goals try (exfalso; omega)
      have hs4 := sub_up2 (b := nb_) (o := .rw [.int .i64 (s.id k), .string (s.title k), .int .i64 (s.fr k), .slice (some ⟨q, 0, none⟩) (s.m k - 1) cap] 31) hB' (sub_up2 (b := bX) (o := .rw [.int .i64 (s.id k), .string (s.title k), .int .i64 (s.fr k), .slice (some ⟨q, 0, none⟩) (s.m k - 1) cap] 31) hB' hs3 (by omega)) (by omega)
      refine app_oneSh (s := wjS s j) (n := k) (bytes := 56) (lo := nx) (mid := nx') (bN := q) (dN := cap) (by simp (disch := omega) only [bsW, WOp, WOq, WV, bo, eqN, gdc, gw, bnd, ↓reduceIte, Nat.reduceEqDiff, rsvs, rsv, oneOf, rdN, ne_eq, Nat.reduceAdd, Nat.reduceMul, Nat.reduceLT, reduceCtorEq, Value.cells, setN, Value.oneCell', Nat.reduceLeDiff, undef, fcT, f0, f1, f6, f16, f17, f18, zX3]) (by simp (disch := omega) only [bsW, WOp, WOq, WV, bo, eqN, gdc, gw, bnd, ↓reduceIte, Nat.reduceEqDiff, rsvs, rsv, oneOf, rdN, ne_eq, Nat.reduceAdd, Nat.reduceMul, Nat.reduceLT, reduceCtorEq, Value.cells, setN, Value.oneCell', Nat.reduceLeDiff, undef, fcT, f0, f1, f6, f16, f17, f18, zX3]) (by simp (disch := omega) only [bsW, WOp, WOq, WV, bo, eqN, gdc, gw, bnd, ↓reduceIte, Nat.reduceEqDiff, rsvs, rsv, oneOf, rdN, ne_eq, Nat.reduceAdd, Nat.reduceMul, Nat.reduceLT, reduceCtorEq, Value.cells, setN, Value.oneCell', Nat.reduceLeDiff, undef, fcT, f0, f1, f6, f16, f17, f18, zX3]) ⟨_, qz31, rfl⟩ (hO.subI hs4) (upd_same _ _ _) ⟨.inr ⟨q, cap, sp3, rfl, by omega, by omega, ?_, by show s.m k - 1 ≤ cap; omega, hq5, hsp3⟩⟩ (by omega) (by omega) (by omega) (by omega) (by unfold maxLen; omega) ?_
      · rw [upd_ne (by omega), upd_ne (by omega), hq3']
        rfl
      rintro v' b' o nx4 hb' hn4 hown' hO4
      have hlo : nx ≤ b' := by
        rcases hb' with e | e
        · rcases hO.ex with ⟨rfl, _⟩ | ⟨b5, cap5, sp5, B5, d5, rfl, h51, _⟩
          · cases e
          · cases e; exact h51
        · omega
      simp (disch := omega) only [bsW, WOp, WOq, WV, bo, eqN, gdc, gw, bnd, ↓reduceIte, Nat.reduceEqDiff, rsvs, rsv, oneOf, rdN, ne_eq, Nat.reduceAdd, Nat.reduceMul, Nat.reduceLT, reduceCtorEq, Value.cells, setN, Value.oneCell', Nat.reduceLeDiff, undef, fcT, f0, f1, f6, f16, f17, f18, zX3]
      refine hK _ _ _ ?_
      exact ⟨k + 1, v', by omega, by omega, by simp (disch := omega) only [bsW, ↓reduceIte, Nat.reduceEqDiff, ne_eq, reduceCtorEq, fcT, f0, f1, f6, f16, f17, f18, zX3], by simp (disch := omega) only [bsW, ↓reduceIte, Nat.reduceEqDiff, ne_eq, reduceCtorEq, fcT, f0, f1, f6, f16, f17, f18, zX3], by simp (disch := omega) only [bsW, ↓reduceIte, Nat.reduceEqDiff, ne_eq, reduceCtorEq, fcT, f0, f1, f6, f16, f17, f18, zX3], by simp (disch := omega) only [bsW, ↓reduceIte, Nat.reduceEqDiff, ne_eq, reduceCtorEq, fcT, f0, f1, f6, f16, f17, f18, zX3], by simp (disch := omega) only [bsW, ↓reduceIte, Nat.reduceEqDiff, ne_eq, reduceCtorEq, fcT, f0, f1, f6, f16, f17, f18, zX3], by simp (disch := omega) only [bsW, ↓reduceIte, Nat.reduceEqDiff, ne_eq, reduceCtorEq, fcT, f0, f1, f6, f16, f17, f18, zX3, Int.natCast_add, Int.natCast_one], fun _ => by omega, hO4, sub_up2 hB (hs.trans hs4) hlo, by omega⟩
    · have hkn : k = n := by simp at b1; omega
      subst hkn
      rcases Nat.eq_zero_or_pos k with hk0 | hk0
      · subst hk0
        simp (disch := omega) only [bsW, WOp, WOq, WV, bo, eqN, gdc, gw, bnd, ↓reduceIte, Nat.reduceEqDiff, rsvs, rsv, oneOf, rdN, ne_eq, Nat.reduceAdd, Nat.reduceMul, Nat.reduceLT, reduceCtorEq, Value.cells, setN, Value.oneCell', Nat.reduceLeDiff, undef, fcT, f0, f1, f6, f16, f17, f18, Int.natCast_zero, b1]
        (repeat' (first | ((with_reducible refine gif_split (fun hs_ => ?_) (fun hs_ => ?_)) <;> (have hp_ := hs_; (try simp only [hpL, ne_eq] at hp_); (try simp (disch := omega) only [bsW, WOp, WOq, WV, bo, eqN, gdc, gw, bnd, ↓reduceIte, Nat.reduceEqDiff, rsvs, rsv, oneOf, rdN, ne_eq, Nat.reduceAdd, Nat.reduceMul, Nat.reduceLT, reduceCtorEq, Value.cells, setN, Value.oneCell', Nat.reduceLeDiff, undef, fcT, f0, f1, f6, f16, f17, f18, Int.natCast_zero, hs_]))) | ((first | (with_reducible refine newB_i (fun nb_ hb_ => ?_)) | (with_reducible refine RgE_i (fun (hBd_ : Bd _ _) => ?_))); (try simp (disch := omega) only [bsW, WOp, WOq, WV, bo, eqN, gdc, gw, bnd, ↓reduceIte, Nat.reduceEqDiff, rsvs, rsv, oneOf, rdN, ne_eq, Nat.reduceAdd, Nat.reduceMul, Nat.reduceLT, reduceCtorEq, Value.cells, setN, Value.oneCell', Nat.reduceLeDiff, undef, fcT, f0, f1, f6, f16, f17, f18, Int.natCast_zero])) | (with_reducible refine fun (hBd_ : Bd _ _) => ?_) | ((first | (with_reducible refine @And.intro (Sub _ _) _ ?_ ?_) | ((with_reducible refine @And.intro (Sub _ _ ∧ _) _ ?_ ?_); (with_reducible refine @And.intro (Sub _ _) _ ?_ ?_))); exact sbX) | ((with_reducible refine And.intro ?_ ?_); omega)))
        all_goals try (exfalso; omega)
        exact wjK_no (by unfold wjB; rw [decide_eq_false (fun hh => by omega)]; simp) hs
      · have hk1 : ((k : Int) == 0) = false := by simp; omega
        obtain ⟨A5, c5, rfl, hc5, hR5⟩ := hO.rd
        have e0 : wjB k s j = exsB k (wjS s j) := by
          unfold wjB
          have := hjm hk0
          rw [hv, decide_eq_true (by omega), Int.toNat_natCast]
          rfl
        simp (disch := omega) only [bsW, WOp, WOq, WV, bo, eqN, gdc, gw, bnd, ↓reduceIte, Nat.reduceEqDiff, rsvs, rsv, oneOf, rdN, ne_eq, Nat.reduceAdd, Nat.reduceMul, Nat.reduceLT, reduceCtorEq, Value.cells, setN, Value.oneCell', Nat.reduceLeDiff, undef, fcT, f0, f1, f6, f16, f17, f18, hk1, b1]
        (repeat' (first | ((with_reducible refine gif_split (fun hs_ => ?_) (fun hs_ => ?_)) <;> (have hp_ := hs_; (try simp only [hpL, ne_eq] at hp_); (try simp (disch := omega) only [bsW, WOp, WOq, WV, bo, eqN, gdc, gw, bnd, ↓reduceIte, Nat.reduceEqDiff, rsvs, rsv, oneOf, rdN, ne_eq, Nat.reduceAdd, Nat.reduceMul, Nat.reduceLT, reduceCtorEq, Value.cells, setN, Value.oneCell', Nat.reduceLeDiff, undef, fcT, f0, f1, f6, f16, f17, f18, hk1, hs_]))) | ((first | (with_reducible refine newB_i (fun nb_ hb_ => ?_)) | ((with_reducible show QC _ _ _ _ _ _); (first | (refine QC_i (areExhibits A5 k c5 (wjS s j) _ _ hn hR5 (szOk_wj hw)) ?_))) | ((with_reducible show AC _ _ _ _ _ _); (first | (refine PC.ac (areExhibits A5 k c5 (wjS s j) _ _ hn hR5 (szOk_wj hw)) ?_))) | (with_reducible refine RgE_i (fun (hBd_ : Bd _ _) => ?_))); (try simp (disch := omega) only [bsW, WOp, WOq, WV, bo, eqN, gdc, gw, bnd, ↓reduceIte, Nat.reduceEqDiff, rsvs, rsv, oneOf, rdN, ne_eq, Nat.reduceAdd, Nat.reduceMul, Nat.reduceLT, reduceCtorEq, Value.cells, setN, Value.oneCell', Nat.reduceLeDiff, undef, fcT, f0, f1, f6, f16, f17, f18, hk1])) | (with_reducible refine fun (hBd_ : Bd _ _) => ?_) | ((first | (with_reducible refine @And.intro (Sub _ _) _ ?_ ?_) | ((with_reducible refine @And.intro (Sub _ _ ∧ _) _ ?_ ?_); (with_reducible refine @And.intro (Sub _ _) _ ?_ ?_))); exact sbX) | ((with_reducible refine And.intro ?_ ?_); omega)))
        all_goals try (exfalso; omega)
        · exact wjK_yes (by rw [e0]; assumption) (by rw [Int.toNat_natCast]; exact hO) hs
        · exact wjK_no (by rw [e0]; assumption) hs
  · rintro fr H' nx' ⟨k, w, hm, _⟩; omega
  · exact ⟨0, _, by omega, by omega, by simp (disch := omega) only [bsW, ↓reduceIte, Nat.reduceEqDiff, ne_eq, reduceCtorEq, fcT], by simp (disch := omega) only [bsW, ↓reduceIte, Nat.reduceEqDiff, ne_eq, reduceCtorEq, fcT], by simp (disch := omega) only [bsW, ↓reduceIte, Nat.reduceEqDiff, ne_eq, reduceCtorEq, fcT], by simp (disch := omega) only [bsW, ↓reduceIte, Nat.reduceEqDiff, ne_eq, reduceCtorEq, fcT], by simp (disch := omega) only [bsW, ↓reduceIte, Nat.reduceEqDiff, ne_eq, reduceCtorEq, fcT], by simp (disch := omega) only [bsW, ↓reduceIte, Nat.reduceEqDiff, ne_eq, reduceCtorEq, fcT, Int.natCast_zero], fun h => by omega, .nil, Sub.refl _, by omega⟩
end Go.Proofs.Ytnjlleopgjggpaa
