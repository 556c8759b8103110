/- The reference's search. -/
import Derived.Test.YtnaldmmdhpobgaaV19
import Derived.Test.YtnaldmmdhpobgaaV6
set_option linter.unusedVariables false
set_option linter.unusedSimpArgs false
set_option maxRecDepth 100000
set_option maxHeartbeats 1000000
namespace Go.Proofs.Ytnaldmmdhpobgaa
open Go Go.RowKit Go.Proofs

theorem heE : qElem Try.prog 33 = some 23 := by kernel_rfl
theorem hsE : qSize Try.prog 23 = some 1 := by kernel_rfl
theorem hbE : qBytes Try.prog 23 = some 24 := by kernel_rfl
theorem fr0_9 (a0 a1 a2 a3 a4 a5 a6 a7 a8 : Value) : fr0 #[a0, a1, a2, a3, a4, a5, a6, a7, a8] = fset (fset (fset (fset (fset (fset (fset (fset (fset bot 0 a0) 1 a1) 2 a2) 3 a3) 4 a4) 5 a5) 6 a6) 7 a7) 8 a8 := by
  funext i
  unfold fr0 fset bot
  match i with
  | 0 => simp
  | 1 => simp
  | 2 => simp
  | 3 => simp
  | 4 => simp
  | 5 => simp
  | 6 => simp
  | 7 => simp
  | 8 => simp
  | k + 9 => simp
/-- What the search gives: the best one (a row of heads) and its value. -/
structure SrK (H : Hp) (t : List (List Int) × Int) (v : Value) (H' : Hp) (nx' : Nat) : Prop where
  ex : ∃ A c, v = .tuple #[.slice A t.1.length c, .int .i64 t.2] ∧ t.1.length ≤ c ∧ RdLL H' A t.1
  s : Sub H H'
noncomputable def wC (N : Int) (m : Nat) (f : Nat → Nat → Int) (cnt : Bool) : List Int → Int := fun c => if cnt = true then (c.length : Int) else sumV N m f c.length (rowL c)
structure TP (ls : List (List Int)) (t : List (List Int) × Int) : Prop where
  hbt : t.1.length ≤ ls.length
  btr : ∀ i, i < t.1.length → (rowOf t.1 i).length ≤ 8
  most : 0 ≤ t.2 ∧ t.2 ≤ 8000 * (ls.length : Int)
structure SrP (ls bg : List (List Int)) (first : Nat) (val : Int) : Prop where
  hf : first ≤ ls.length
  hbg : bg.length ≤ first
  bgr : ∀ i, i < bg.length → (rowOf bg i).length ≤ 8
  hval : 0 ≤ val ∧ val ≤ 8000 * (first : Int)
theorem SrP.upd {ls bg : List (List Int)} {first : Nat} {val : Int} {t : List (List Int) × Int} (h : SrP ls bg first val) (ht : TP ls t) : TP ls (updS bg val t) := by
  unfold updS
  have h1 := h.hf
  have h2 := h.hbg
  have h3 := h.hval
  split
  · exact ⟨by simp only; omega, h.bgr, by simp only; omega⟩
  · exact ht
theorem SrP.next {ls bg : List (List Int)} {first k : Nat} {val v : Int} (h : SrP ls bg first val) (hk : first ≤ k) (hkl : k < ls.length) (hr : (rowOf ls k).length ≤ 8) (hv : 0 ≤ v ∧ v ≤ 8000) : SrP ls (bg ++ [rowOf ls k]) (k + 1) (val + v) := by
  have h1 := h.hf
  have h2 := h.hbg
  have h3 := h.hval
  refine ⟨by omega, by simp only [List.length_append, List.length_cons, List.length_nil]; omega, fun i hi => ?_, by omega, by omega⟩
  by_cases hi2 : i < bg.length
  · rw [rowOf_left hi2]; exact h.bgr i hi2
  · have e : i - bg.length = 0 := by simp only [List.length_append, List.length_cons, List.length_nil] at hi; omega
    rw [rowOf_right (Nat.le_of_not_lt hi2), e]
    exact hr
theorem restS_TP {ls bg : List (List Int)} {w : List Int → Int} {sub : Nat → List (List Int) → Int → List (List Int) × Int → List (List Int) × Int} {first : Nat} {val : Int} {t : List (List Int) × Int} (h : SrP ls bg first val) (ht : TP ls t)
    (hw : ∀ k, k < ls.length → (rowOf ls k).length ≤ 8 ∧ 0 ≤ w (rowOf ls k) ∧ w (rowOf ls k) ≤ 8000)
    (hsub : ∀ k, first ≤ k → k < ls.length → ∀ t, TP ls t → TP ls (sub (k + 1) (bg ++ [rowOf ls k]) (val + w (rowOf ls k)) t)) :
    ∀ j, j ≤ ls.length - first → TP ls (restS ls w sub first bg val t j)
  | 0, _ => ht
  | j + 1, hj => by
    have ih := restS_TP h ht hw hsub j (by omega)
    simp only [restS]
    split
    · exact hsub (first + j) (by omega) (by omega) _ ih
    · exact ih
theorem srch_TP {ls : List (List Int)} {w : List Int → Int} (hw : ∀ k, k < ls.length → (rowOf ls k).length ≤ 8 ∧ 0 ≤ w (rowOf ls k) ∧ w (rowOf ls k) ≤ 8000) :
    ∀ (u first : Nat) (bg : List (List Int)) (val : Int) (t : List (List Int) × Int), SrP ls bg first val → TP ls t → TP ls (srch ls w updS u first bg val t)
  | 0, first, bg, val, t, h, ht => h.upd ht
  | u + 1, first, bg, val, t, h, ht => by
    simp only [srch]
    exact restS_TP h (h.upd ht) hw (fun k hk hkl t' ht' => srch_TP hw u (k + 1) _ _ t' (h.next hk hkl (hw k hkl).1 (hw k hkl).2) ht') _ (Nat.le_refl _)
theorem l20Search_step (n m : Nat) (f : Nat → Nat → Int) (Aw Aa : Option Addr) (cw ca : Nat) (ls : List (List Int)) (cnt : Bool) (sub : Nat → List (List Int) → Int → List (List Int) × Int → List (List Int) × Int)
    (hok : wssOk (n : Int) m f) (hwb : ∀ k, k < ls.length → (rowOf ls k).length ≤ 8 ∧ 0 ≤ wC (n : Int) m f cnt (rowOf ls k) ∧ wC (n : Int) m f cnt (rowOf ls k) ≤ 8000) (hls : ls.length ≤ 1000000) (hcr : ∀ i, i < ls.length → crOk (n : Int) m f (rowOf ls i).length (rowL (rowOf ls i)))
    (first : Nat) (bg : List (List Int)) (val : Int) (t : List (List Int) × Int) (Ab At : Option Addr) (cb ct : Nat) (H : Hp) (nx : Nat) (hp : SrP ls bg first val) (htp : TP ls t)
    (hsubP : ∀ k, first ≤ k → k < ls.length → ∀ t, TP ls t → TP ls (sub (k + 1) (bg ++ [rowOf ls k]) (val + wC (n : Int) m f cnt (rowOf ls k)) t))
    (hsub : ∀ k, first ≤ k → k < ls.length → ∀ (t' : List (List Int) × Int) (Ab At : Option Addr) (cb ct : Nat) (H : Hp) (nx : Nat), TP ls t' → Rd H Aw m 3 f → RdLL H Aa ls → RdLL H Ab (bg ++ [rowOf ls k]) → RdLL H At t'.1 → (bg ++ [rowOf ls k]).length ≤ cb → t'.1.length ≤ ct →
      AC Try.prog 62 #[.int .i64 n, .slice Aw m cw, .slice Aa ls.length ca, .int .i64 ((k : Int) + 1), .slice Ab (bg ++ [rowOf ls k]).length cb, .int .i64 (val + wC (n : Int) m f cnt (rowOf ls k)), .slice At t'.1.length ct, .int .i64 t'.2, .bool cnt] H nx (SrK H (sub (k + 1) (bg ++ [rowOf ls k]) (val + wC (n : Int) m f cnt (rowOf ls k)) t')))
    (hw : Rd H Aw m 3 f) (ha : RdLL H Aa ls) (hb : RdLL H Ab bg) (ht : RdLL H At t.1) (hcb : bg.length ≤ cb) (hct : t.1.length ≤ ct) :
    AC Try.prog 62 #[.int .i64 n, .slice Aw m cw, .slice Aa ls.length ca, .int .i64 first, .slice Ab bg.length cb, .int .i64 val, .slice At t.1.length ct, .int .i64 t.2, .bool cnt] H nx (SrK H (restS ls (wC n m f cnt) sub first bg val (updS bg val t) (ls.length - first))) := by
  refine AC_of x_spec_l20Search rfl fun hB => ?_
  rw [fr0_9]
  have q1 := hp.hval
  have q2 := htp.most
  have q3 := hp.hbg
  have q4 := htp.hbt
  have q5 := hp.hf
  have hTP := fun j hj => restS_TP (sub := sub) hp (hp.upd htp) hwb hsubP j hj
  have hcases : (decide (t.2 < val) = true ∧ updS bg val t = (bg, val)) ∨ (decide (t.2 < val) = false ∧ (val == t.2) = true ∧ decide ((pplL bg : Int) < (pplL t.1 : Int)) = true ∧ updS bg val t = (bg, val)) ∨ (decide (t.2 < val) = false ∧ (val == t.2) = true ∧ decide ((pplL bg : Int) < (pplL t.1 : Int)) = false ∧ updS bg val t = t) ∨ (decide (t.2 < val) = false ∧ (val == t.2) = false ∧ updS bg val t = t) := by
    unfold updS
    by_cases h1 : t.2 < val
    · exact .inl ⟨decide_eq_true h1, if_pos (.inl h1)⟩
    · by_cases h2 : val = t.2
      · by_cases h3 : pplL bg < pplL t.1
        · exact .inr (.inl ⟨decide_eq_false h1, beq_iff_eq.2 h2, decide_eq_true (by omega), if_pos (.inr ⟨h2, h3⟩)⟩)
        · exact .inr (.inr (.inl ⟨decide_eq_false h1, beq_iff_eq.2 h2, decide_eq_false (by omega), if_neg (by omega)⟩))
      · exact .inr (.inr (.inr ⟨decide_eq_false h1, beq_eq_false_iff_ne.2 h2, if_neg (by omega)⟩))
  rcases hcases with ⟨g1, eU⟩ | ⟨g1, g2, g3, eU⟩ | ⟨g1, g2, g3, eU⟩ | ⟨g1, g2, eU⟩
  focus
    simp (disch := omega) only [bsW, WOp, WOq, WV, bo, gdc, gw, bnd, ↓reduceIte, Nat.reduceEqDiff, rsvs, rsv, oneOf, rdN, ne_eq, Nat.reduceAdd, Nat.reduceMul, Nat.reduceLT, reduceCtorEq, Value.cells, setN, Value.oneCell', Nat.reduceLeDiff, undef, fcT, g1, c_spec_l20Search]
    (repeat' (first | ((with_reducible refine gif_split (fun hs_ => ?_) (fun hs_ => ?_)) <;> (have hp_ := hs_; (try simp only [hpL, ne_eq] at hp_); (try simp (disch := omega) only [bsW, WOp, WOq, WV, bo, gdc, gw, bnd, ↓reduceIte, Nat.reduceEqDiff, rsvs, rsv, oneOf, rdN, ne_eq, Nat.reduceAdd, Nat.reduceMul, Nat.reduceLT, reduceCtorEq, Value.cells, setN, Value.oneCell', Nat.reduceLeDiff, undef, fcT, g1, hs_]))) | ((with_reducible refine newB_i (fun nb_ hb_ => ?_)); (try simp (disch := omega) only [bsW, WOp, WOq, WV, bo, gdc, gw, bnd, ↓reduceIte, Nat.reduceEqDiff, rsvs, rsv, oneOf, rdN, ne_eq, Nat.reduceAdd, Nat.reduceMul, Nat.reduceLT, reduceCtorEq, Value.cells, setN, Value.oneCell', Nat.reduceLeDiff, undef, fcT, g1])) | ((first | ((with_reducible show QC _ _ _ _ _ _); (first | (refine QC_i (l20People _ _ bg _ _ (by omega) hp.bgr hb) ?_) | (refine QC_i (l20People _ _ t.1 _ _ (by omega) htp.btr ht) ?_))) | ((with_reducible show AC _ _ _ _ _ _); (first | (refine PC.ac (l20People _ _ bg _ _ (by omega) hp.bgr hb) ?_) | (refine PC.ac (l20People _ _ t.1 _ _ (by omega) htp.btr ht) ?_)))); (try simp (disch := omega) only [bsW, WOp, WOq, WV, bo, gdc, gw, bnd, ↓reduceIte, Nat.reduceEqDiff, rsvs, rsv, oneOf, rdN, ne_eq, Nat.reduceAdd, Nat.reduceMul, Nat.reduceLT, reduceCtorEq, Value.cells, setN, Value.oneCell', Nat.reduceLeDiff, undef, fcT, g1])) | ((with_reducible refine RgE_i (fun (hBd_ : Bd _ _) => ?_)); (try simp (disch := omega) only [bsW, WOp, WOq, WV, bo, gdc, gw, bnd, ↓reduceIte, Nat.reduceEqDiff, rsvs, rsv, oneOf, rdN, ne_eq, Nat.reduceAdd, Nat.reduceMul, Nat.reduceLT, reduceCtorEq, Value.cells, setN, Value.oneCell', Nat.reduceLeDiff, undef, fcT, g1])) | (with_reducible refine fun (hBd_ : Bd _ _) => ?_) | ((with_reducible refine @And.intro (Sub _ _) _ ?_ ?_); (exact sbX)) | ((with_reducible refine @And.intro (Sub _ _ ∧ _) _ ?_ ?_); (with_reducible refine @And.intro (Sub _ _) _ ?_ ?_); (exact sbX)) | ((with_reducible refine And.intro ?_ ?_); omega)))
    have hx0 : nx ≤ nx := Nat.le_refl _
  rotate_left
  focus
    simp (disch := omega) only [bsW, WOp, WOq, WV, bo, gdc, gw, bnd, ↓reduceIte, Nat.reduceEqDiff, rsvs, rsv, oneOf, rdN, ne_eq, Nat.reduceAdd, Nat.reduceMul, Nat.reduceLT, reduceCtorEq, Value.cells, setN, Value.oneCell', Nat.reduceLeDiff, undef, fcT, g1, g2, g3, c_spec_l20Search]
    (repeat' (first | ((with_reducible refine gif_split (fun hs_ => ?_) (fun hs_ => ?_)) <;> (have hp_ := hs_; (try simp only [hpL, ne_eq] at hp_); (try simp (disch := omega) only [bsW, WOp, WOq, WV, bo, gdc, gw, bnd, ↓reduceIte, Nat.reduceEqDiff, rsvs, rsv, oneOf, rdN, ne_eq, Nat.reduceAdd, Nat.reduceMul, Nat.reduceLT, reduceCtorEq, Value.cells, setN, Value.oneCell', Nat.reduceLeDiff, undef, fcT, g1, g2, g3, hs_]))) | ((with_reducible refine newB_i (fun nb_ hb_ => ?_)); (try simp (disch := omega) only [bsW, WOp, WOq, WV, bo, gdc, gw, bnd, ↓reduceIte, Nat.reduceEqDiff, rsvs, rsv, oneOf, rdN, ne_eq, Nat.reduceAdd, Nat.reduceMul, Nat.reduceLT, reduceCtorEq, Value.cells, setN, Value.oneCell', Nat.reduceLeDiff, undef, fcT, g1, g2, g3])) | ((first | ((with_reducible show QC _ _ _ _ _ _); (first | (refine QC_i (l20People _ _ bg _ _ (by omega) hp.bgr hb) ?_) | (refine QC_i (l20People _ _ t.1 _ _ (by omega) htp.btr ht) ?_))) | ((with_reducible show AC _ _ _ _ _ _); (first | (refine PC.ac (l20People _ _ bg _ _ (by omega) hp.bgr hb) ?_) | (refine PC.ac (l20People _ _ t.1 _ _ (by omega) htp.btr ht) ?_)))); (try simp (disch := omega) only [bsW, WOp, WOq, WV, bo, gdc, gw, bnd, ↓reduceIte, Nat.reduceEqDiff, rsvs, rsv, oneOf, rdN, ne_eq, Nat.reduceAdd, Nat.reduceMul, Nat.reduceLT, reduceCtorEq, Value.cells, setN, Value.oneCell', Nat.reduceLeDiff, undef, fcT, g1, g2, g3])) | ((with_reducible refine RgE_i (fun (hBd_ : Bd _ _) => ?_)); (try simp (disch := omega) only [bsW, WOp, WOq, WV, bo, gdc, gw, bnd, ↓reduceIte, Nat.reduceEqDiff, rsvs, rsv, oneOf, rdN, ne_eq, Nat.reduceAdd, Nat.reduceMul, Nat.reduceLT, reduceCtorEq, Value.cells, setN, Value.oneCell', Nat.reduceLeDiff, undef, fcT, g1, g2, g3])) | (with_reducible refine fun (hBd_ : Bd _ _) => ?_) | ((with_reducible refine @And.intro (Sub _ _) _ ?_ ?_); (exact sbX)) | ((with_reducible refine @And.intro (Sub _ _ ∧ _) _ ?_ ?_); (with_reducible refine @And.intro (Sub _ _) _ ?_ ?_); (exact sbX)) | ((with_reducible refine And.intro ?_ ?_); omega)))
    have hx0 : nx ≤ nx := Nat.le_refl _
  rotate_left
  focus
    simp (disch := omega) only [bsW, WOp, WOq, WV, bo, gdc, gw, bnd, ↓reduceIte, Nat.reduceEqDiff, rsvs, rsv, oneOf, rdN, ne_eq, Nat.reduceAdd, Nat.reduceMul, Nat.reduceLT, reduceCtorEq, Value.cells, setN, Value.oneCell', Nat.reduceLeDiff, undef, fcT, g1, g2, g3, c_spec_l20Search]
    (repeat' (first | ((with_reducible refine gif_split (fun hs_ => ?_) (fun hs_ => ?_)) <;> (have hp_ := hs_; (try simp only [hpL, ne_eq] at hp_); (try simp (disch := omega) only [bsW, WOp, WOq, WV, bo, gdc, gw, bnd, ↓reduceIte, Nat.reduceEqDiff, rsvs, rsv, oneOf, rdN, ne_eq, Nat.reduceAdd, Nat.reduceMul, Nat.reduceLT, reduceCtorEq, Value.cells, setN, Value.oneCell', Nat.reduceLeDiff, undef, fcT, g1, g2, g3, hs_]))) | ((with_reducible refine newB_i (fun nb_ hb_ => ?_)); (try simp (disch := omega) only [bsW, WOp, WOq, WV, bo, gdc, gw, bnd, ↓reduceIte, Nat.reduceEqDiff, rsvs, rsv, oneOf, rdN, ne_eq, Nat.reduceAdd, Nat.reduceMul, Nat.reduceLT, reduceCtorEq, Value.cells, setN, Value.oneCell', Nat.reduceLeDiff, undef, fcT, g1, g2, g3])) | ((first | ((with_reducible show QC _ _ _ _ _ _); (first | (refine QC_i (l20People _ _ bg _ _ (by omega) hp.bgr hb) ?_) | (refine QC_i (l20People _ _ t.1 _ _ (by omega) htp.btr ht) ?_))) | ((with_reducible show AC _ _ _ _ _ _); (first | (refine PC.ac (l20People _ _ bg _ _ (by omega) hp.bgr hb) ?_) | (refine PC.ac (l20People _ _ t.1 _ _ (by omega) htp.btr ht) ?_)))); (try simp (disch := omega) only [bsW, WOp, WOq, WV, bo, gdc, gw, bnd, ↓reduceIte, Nat.reduceEqDiff, rsvs, rsv, oneOf, rdN, ne_eq, Nat.reduceAdd, Nat.reduceMul, Nat.reduceLT, reduceCtorEq, Value.cells, setN, Value.oneCell', Nat.reduceLeDiff, undef, fcT, g1, g2, g3])) | ((with_reducible refine RgE_i (fun (hBd_ : Bd _ _) => ?_)); (try simp (disch := omega) only [bsW, WOp, WOq, WV, bo, gdc, gw, bnd, ↓reduceIte, Nat.reduceEqDiff, rsvs, rsv, oneOf, rdN, ne_eq, Nat.reduceAdd, Nat.reduceMul, Nat.reduceLT, reduceCtorEq, Value.cells, setN, Value.oneCell', Nat.reduceLeDiff, undef, fcT, g1, g2, g3])) | (with_reducible refine fun (hBd_ : Bd _ _) => ?_) | ((with_reducible refine @And.intro (Sub _ _) _ ?_ ?_); (exact sbX)) | ((with_reducible refine @And.intro (Sub _ _ ∧ _) _ ?_ ?_); (with_reducible refine @And.intro (Sub _ _) _ ?_ ?_); (exact sbX)) | ((with_reducible refine And.intro ?_ ?_); omega)))
    have hx0 : nx ≤ nx := Nat.le_refl _
  rotate_left
  focus
    simp (disch := omega) only [bsW, WOp, WOq, WV, bo, gdc, gw, bnd, ↓reduceIte, Nat.reduceEqDiff, rsvs, rsv, oneOf, rdN, ne_eq, Nat.reduceAdd, Nat.reduceMul, Nat.reduceLT, reduceCtorEq, Value.cells, setN, Value.oneCell', Nat.reduceLeDiff, undef, fcT, g1, g2, c_spec_l20Search]
    (repeat' (first | ((with_reducible refine gif_split (fun hs_ => ?_) (fun hs_ => ?_)) <;> (have hp_ := hs_; (try simp only [hpL, ne_eq] at hp_); (try simp (disch := omega) only [bsW, WOp, WOq, WV, bo, gdc, gw, bnd, ↓reduceIte, Nat.reduceEqDiff, rsvs, rsv, oneOf, rdN, ne_eq, Nat.reduceAdd, Nat.reduceMul, Nat.reduceLT, reduceCtorEq, Value.cells, setN, Value.oneCell', Nat.reduceLeDiff, undef, fcT, g1, g2, hs_]))) | ((with_reducible refine newB_i (fun nb_ hb_ => ?_)); (try simp (disch := omega) only [bsW, WOp, WOq, WV, bo, gdc, gw, bnd, ↓reduceIte, Nat.reduceEqDiff, rsvs, rsv, oneOf, rdN, ne_eq, Nat.reduceAdd, Nat.reduceMul, Nat.reduceLT, reduceCtorEq, Value.cells, setN, Value.oneCell', Nat.reduceLeDiff, undef, fcT, g1, g2])) | ((first | ((with_reducible show QC _ _ _ _ _ _); (first | (refine QC_i (l20People _ _ bg _ _ (by omega) hp.bgr hb) ?_) | (refine QC_i (l20People _ _ t.1 _ _ (by omega) htp.btr ht) ?_))) | ((with_reducible show AC _ _ _ _ _ _); (first | (refine PC.ac (l20People _ _ bg _ _ (by omega) hp.bgr hb) ?_) | (refine PC.ac (l20People _ _ t.1 _ _ (by omega) htp.btr ht) ?_)))); (try simp (disch := omega) only [bsW, WOp, WOq, WV, bo, gdc, gw, bnd, ↓reduceIte, Nat.reduceEqDiff, rsvs, rsv, oneOf, rdN, ne_eq, Nat.reduceAdd, Nat.reduceMul, Nat.reduceLT, reduceCtorEq, Value.cells, setN, Value.oneCell', Nat.reduceLeDiff, undef, fcT, g1, g2])) | ((with_reducible refine RgE_i (fun (hBd_ : Bd _ _) => ?_)); (try simp (disch := omega) only [bsW, WOp, WOq, WV, bo, gdc, gw, bnd, ↓reduceIte, Nat.reduceEqDiff, rsvs, rsv, oneOf, rdN, ne_eq, Nat.reduceAdd, Nat.reduceMul, Nat.reduceLT, reduceCtorEq, Value.cells, setN, Value.oneCell', Nat.reduceLeDiff, undef, fcT, g1, g2])) | (with_reducible refine fun (hBd_ : Bd _ _) => ?_) | ((with_reducible refine @And.intro (Sub _ _) _ ?_ ?_); (exact sbX)) | ((with_reducible refine @And.intro (Sub _ _ ∧ _) _ ?_ ?_); (with_reducible refine @And.intro (Sub _ _) _ ?_ ?_); (exact sbX)) | ((with_reducible refine And.intro ?_ ?_); omega)))
    have hx0 : nx ≤ nx := Nat.le_refl _
  rotate_left
  all_goals
    refine LpB_rule (fun mm fr H' nx' => ∃ (j : Nat) (A : Option Addr) (c : Nat), mm = ls.length - first - j + 1 ∧ j ≤ ls.length - first ∧ fr 0 = .int .i64 n ∧ fr 1 = .slice Aw m cw ∧ fr 2 = .slice Aa ls.length ca ∧ fr 4 = .slice Ab bg.length cb ∧ fr 5 = .int .i64 val ∧ fr 6 = .slice A (restS ls (wC n m f cnt) sub first bg val (updS bg val t) j).1.length c ∧ fr 7 = .int .i64 (restS ls (wC n m f cnt) sub first bg val (updS bg val t) j).2 ∧ fr 8 = .bool cnt ∧ fr 20 = .int .i64 ((first + j : Nat) : Int) ∧ Sub H H' ∧ nx ≤ nx' ∧ (restS ls (wC n m f cnt) sub first bg val (updS bg val t) j).1.length ≤ c ∧ RdLL H' A (restS ls (wC n m f cnt) sub first bg val (updS bg val t) j).1) ?_ ?_ (ls.length - first + 1) ?_
    · rintro mm K hK fr H' nx' hB' ⟨j, A, c, hmm, hj, f0, f1, f2, f4, f5, f6, f7, f8, f20, hs, hx, hc, hR⟩
      obtain ⟨k, hk⟩ : ∃ k, k = first + j := ⟨_, rfl⟩
      rw [← hk] at f20
      by_cases hkn : k < ls.length
      case neg =>
        have d1 : decide ((k : Int) < (ls.length : Int)) = false := decide_eq_false (by omega)
        have hjn : j = ls.length - first := by omega
        subst hjn
        simp (disch := omega) only [bsW, WOp, WOq, WV, bo, gdc, gw, bnd, ↓reduceIte, Nat.reduceEqDiff, rsvs, rsv, oneOf, rdN, ne_eq, Nat.reduceAdd, Nat.reduceMul, Nat.reduceLT, reduceCtorEq, Value.cells, setN, Value.oneCell', Nat.reduceLeDiff, undef, fcT, f0, f1, f2, f4, f5, f6, f7, f8, f20, d1]
        (repeat' (first | ((with_reducible refine gif_split (fun hs_ => ?_) (fun hs_ => ?_)) <;> (have hp_ := hs_; (try simp only [hpL, ne_eq] at hp_); (try simp (disch := omega) only [bsW, WOp, WOq, WV, bo, gdc, gw, bnd, ↓reduceIte, Nat.reduceEqDiff, rsvs, rsv, oneOf, rdN, ne_eq, Nat.reduceAdd, Nat.reduceMul, Nat.reduceLT, reduceCtorEq, Value.cells, setN, Value.oneCell', Nat.reduceLeDiff, undef, fcT, f0, f1, f2, f4, f5, f6, f7, f8, f20, d1, hs_]))) | ((with_reducible refine newB_i (fun nb_ hb_ => ?_)); (try simp (disch := omega) only [bsW, WOp, WOq, WV, bo, gdc, gw, bnd, ↓reduceIte, Nat.reduceEqDiff, rsvs, rsv, oneOf, rdN, ne_eq, Nat.reduceAdd, Nat.reduceMul, Nat.reduceLT, reduceCtorEq, Value.cells, setN, Value.oneCell', Nat.reduceLeDiff, undef, fcT, f0, f1, f2, f4, f5, f6, f7, f8, f20, d1])) | ((with_reducible refine RgE_i (fun (hBd_ : Bd _ _) => ?_)); (try simp (disch := omega) only [bsW, WOp, WOq, WV, bo, gdc, gw, bnd, ↓reduceIte, Nat.reduceEqDiff, rsvs, rsv, oneOf, rdN, ne_eq, Nat.reduceAdd, Nat.reduceMul, Nat.reduceLT, reduceCtorEq, Value.cells, setN, Value.oneCell', Nat.reduceLeDiff, undef, fcT, f0, f1, f2, f4, f5, f6, f7, f8, f20, d1])) | (with_reducible refine fun (hBd_ : Bd _ _) => ?_) | ((with_reducible refine @And.intro (Sub _ _) _ ?_ ?_); (exact sbX)) | ((with_reducible refine @And.intro (Sub _ _ ∧ _) _ ?_ ?_); (with_reducible refine @And.intro (Sub _ _) _ ?_ ?_); (exact sbX)) | ((with_reducible refine And.intro ?_ ?_); omega)))
        exact ⟨⟨_, _, rfl, hc, hR⟩, hs⟩
      have d1 : decide ((k : Int) < (ls.length : Int)) = true := decide_eq_true (by omega)
      obtain ⟨ba, oa, Qa, da, eA, ca1, hda, hRa⟩ := (ha.sub hs).at_ hkn
      subst eA
      obtain ⟨hrl, hrk⟩ := hcr k hkn
      have hwk := hwb k hkn
      have hk8 := hwk.1
      simp (disch := omega) only [bsW, WOp, WOq, WV, bo, gdc, gw, bnd, ↓reduceIte, Nat.reduceEqDiff, rsvs, rsv, oneOf, rdN, ne_eq, Nat.reduceAdd, Nat.reduceMul, Nat.reduceLT, reduceCtorEq, Value.cells, setN, Value.oneCell', Nat.reduceLeDiff, undef, fcT, f0, f1, f2, f4, f5, f6, f7, f8, f20, d1]
      (repeat' (first | ((with_reducible refine gif_split (fun hs_ => ?_) (fun hs_ => ?_)) <;> (have hp_ := hs_; (try simp only [hpL, ne_eq] at hp_); (try simp (disch := omega) only [bsW, WOp, WOq, WV, bo, gdc, gw, bnd, ↓reduceIte, Nat.reduceEqDiff, rsvs, rsv, oneOf, rdN, ne_eq, Nat.reduceAdd, Nat.reduceMul, Nat.reduceLT, reduceCtorEq, Value.cells, setN, Value.oneCell', Nat.reduceLeDiff, undef, fcT, f0, f1, f2, f4, f5, f6, f7, f8, f20, d1, hs_]))) | ((with_reducible refine newB_i (fun nb_ hb_ => ?_)); (try simp (disch := omega) only [bsW, WOp, WOq, WV, bo, gdc, gw, bnd, ↓reduceIte, Nat.reduceEqDiff, rsvs, rsv, oneOf, rdN, ne_eq, Nat.reduceAdd, Nat.reduceMul, Nat.reduceLT, reduceCtorEq, Value.cells, setN, Value.oneCell', Nat.reduceLeDiff, undef, fcT, f0, f1, f2, f4, f5, f6, f7, f8, f20, d1])) | ((with_reducible refine RgE_i (fun (hBd_ : Bd _ _) => ?_)); (try simp (disch := omega) only [bsW, WOp, WOq, WV, bo, gdc, gw, bnd, ↓reduceIte, Nat.reduceEqDiff, rsvs, rsv, oneOf, rdN, ne_eq, Nat.reduceAdd, Nat.reduceMul, Nat.reduceLT, reduceCtorEq, Value.cells, setN, Value.oneCell', Nat.reduceLeDiff, undef, fcT, f0, f1, f2, f4, f5, f6, f7, f8, f20, d1])) | (with_reducible refine fun (hBd_ : Bd _ _) => ?_) | ((with_reducible refine @And.intro (Sub _ _) _ ?_ ?_); (exact sbX)) | ((with_reducible refine @And.intro (Sub _ _ ∧ _) _ ?_ ?_); (with_reducible refine @And.intro (Sub _ _) _ ?_ ?_); (exact sbX)) | ((with_reducible refine And.intro ?_ ?_); omega)))
      refine LpB_rule (fun m2 fr2 H2 nx2 => ∃ q : Nat, m2 = bg.length - q + 1 ∧ q ≤ bg.length ∧ fr2 0 = .int .i64 n ∧ fr2 1 = .slice Aw m cw ∧ fr2 2 = .slice (some ⟨ba, oa, none⟩) ls.length ca ∧ fr2 4 = .slice Ab bg.length cb ∧ fr2 5 = .int .i64 val ∧ fr2 6 = fr 6 ∧ fr2 7 = fr 7 ∧ fr2 8 = .bool cnt ∧ fr2 20 = .int .i64 k ∧ fr2 21 = .bool ((bg.take q).all fun d => aptB d (rowOf ls k)) ∧ fr2 22 = .int .i64 q ∧ H2 = H' ∧ nx2 = nx') ?_ ?_ (bg.length + 1) ?_
      · rintro m2 K2 hK2 fr2 H2 nx2 hB2 ⟨q, hm2, hq, g0, g1', g2', g4, g5, g6, g7, g8, g20, g21, g22, rfl, rfl⟩
        by_cases hqn : q < bg.length
        case pos =>
          have d2 : decide ((q : Int) < (bg.length : Int)) = true := decide_eq_true (by omega)
          obtain ⟨bb, ob, Qb, db, rfl, cb1, hdb, hRb⟩ := (hb.sub hs).at_ hqn
          have hbr := hp.bgr q hqn
          have eA2 : ((bg.take (q + 1)).all fun d => aptB d (rowOf ls k)) = (((bg.take q).all fun d => aptB d (rowOf ls k)) && aptB (rowOf bg q) (rowOf ls k)) := by
            rw [List.take_add_one, List.getElem?_eq_getElem hqn, List.all_append]
            have : rowOf bg q = bg[q] := by unfold rowOf; rw [List.getD_eq_getElem?_getD, List.getElem?_eq_getElem hqn]; rfl
            rw [this]
            simp
          cases hfr : ((bg.take q).all fun d => aptB d (rowOf ls k))
          · rw [hfr] at g21 eA2
            simp (disch := omega) only [bsW, WOp, WOq, WV, bo, gdc, gw, bnd, ↓reduceIte, Nat.reduceEqDiff, rsvs, rsv, oneOf, rdN, ne_eq, Nat.reduceAdd, Nat.reduceMul, Nat.reduceLT, reduceCtorEq, Value.cells, setN, Value.oneCell', Nat.reduceLeDiff, undef, fcT, g0, g1', g2', g4, g5, g8, g20, g21, g22, d2]
            (repeat' (first | ((with_reducible refine gif_split (fun hs_ => ?_) (fun hs_ => ?_)) <;> (have hp_ := hs_; (try simp only [hpL, ne_eq] at hp_); (try simp (disch := omega) only [bsW, WOp, WOq, WV, bo, gdc, gw, bnd, ↓reduceIte, Nat.reduceEqDiff, rsvs, rsv, oneOf, rdN, ne_eq, Nat.reduceAdd, Nat.reduceMul, Nat.reduceLT, reduceCtorEq, Value.cells, setN, Value.oneCell', Nat.reduceLeDiff, undef, fcT, g0, g1', g2', g4, g5, g8, g20, g21, g22, d2, hs_]))) | ((with_reducible refine newB_i (fun nb_ hb_ => ?_)); (try simp (disch := omega) only [bsW, WOp, WOq, WV, bo, gdc, gw, bnd, ↓reduceIte, Nat.reduceEqDiff, rsvs, rsv, oneOf, rdN, ne_eq, Nat.reduceAdd, Nat.reduceMul, Nat.reduceLT, reduceCtorEq, Value.cells, setN, Value.oneCell', Nat.reduceLeDiff, undef, fcT, g0, g1', g2', g4, g5, g8, g20, g21, g22, d2])) | ((with_reducible refine RgE_i (fun (hBd_ : Bd _ _) => ?_)); (try simp (disch := omega) only [bsW, WOp, WOq, WV, bo, gdc, gw, bnd, ↓reduceIte, Nat.reduceEqDiff, rsvs, rsv, oneOf, rdN, ne_eq, Nat.reduceAdd, Nat.reduceMul, Nat.reduceLT, reduceCtorEq, Value.cells, setN, Value.oneCell', Nat.reduceLeDiff, undef, fcT, g0, g1', g2', g4, g5, g8, g20, g21, g22, d2])) | (with_reducible refine fun (hBd_ : Bd _ _) => ?_) | ((with_reducible refine @And.intro (Sub _ _) _ ?_ ?_); (exact sbX)) | ((with_reducible refine @And.intro (Sub _ _ ∧ _) _ ?_ ?_); (with_reducible refine @And.intro (Sub _ _) _ ?_ ?_); (exact sbX)) | ((with_reducible refine And.intro ?_ ?_); omega)))
            refine hK2 _ _ _ ⟨q + 1, by omega, by omega, ?_, ?_, ?_, ?_, ?_, ?_, ?_, ?_, ?_, ?_, ?_, rfl, rfl⟩
            all_goals (simp (disch := omega) only [bsW, WOp, WOq, WV, bo, gdc, gw, bnd, ↓reduceIte, Nat.reduceEqDiff, rsvs, rsv, oneOf, rdN, ne_eq, Nat.reduceAdd, Nat.reduceMul, Nat.reduceLT, reduceCtorEq, Value.cells, setN, Value.oneCell', Nat.reduceLeDiff, undef, fcT, g0, g1', g2', g4, g5, g8, g20, g21, g22, d2, g6, g7, eA2, Bool.false_and, Int.natCast_add, Int.natCast_one])
          · rw [hfr] at g21 eA2
            simp (disch := omega) only [bsW, WOp, WOq, WV, bo, gdc, gw, bnd, ↓reduceIte, Nat.reduceEqDiff, rsvs, rsv, oneOf, rdN, ne_eq, Nat.reduceAdd, Nat.reduceMul, Nat.reduceLT, reduceCtorEq, Value.cells, setN, Value.oneCell', Nat.reduceLeDiff, undef, fcT, g0, g1', g2', g4, g5, g8, g20, g21, g22, d2, cb1, ca1, Nat.mul_one]
            (repeat' (first | ((with_reducible refine gif_split (fun hs_ => ?_) (fun hs_ => ?_)) <;> (have hp_ := hs_; (try simp only [hpL, ne_eq] at hp_); (try simp (disch := omega) only [bsW, WOp, WOq, WV, bo, gdc, gw, bnd, ↓reduceIte, Nat.reduceEqDiff, rsvs, rsv, oneOf, rdN, ne_eq, Nat.reduceAdd, Nat.reduceMul, Nat.reduceLT, reduceCtorEq, Value.cells, setN, Value.oneCell', Nat.reduceLeDiff, undef, fcT, g0, g1', g2', g4, g5, g8, g20, g21, g22, d2, cb1, ca1, Nat.mul_one, hs_]))) | ((with_reducible refine newB_i (fun nb_ hb_ => ?_)); (try simp (disch := omega) only [bsW, WOp, WOq, WV, bo, gdc, gw, bnd, ↓reduceIte, Nat.reduceEqDiff, rsvs, rsv, oneOf, rdN, ne_eq, Nat.reduceAdd, Nat.reduceMul, Nat.reduceLT, reduceCtorEq, Value.cells, setN, Value.oneCell', Nat.reduceLeDiff, undef, fcT, g0, g1', g2', g4, g5, g8, g20, g21, g22, d2, cb1, ca1, Nat.mul_one])) | ((first | ((with_reducible show QC _ _ _ _ _ _); (first | (refine QC_i (l20Apart _ _ (rowOf bg q) (rowOf ls k) _ _ _ _ _ _ rfl rfl (by omega) (by omega) hRb hRa) ?_))) | ((with_reducible show AC _ _ _ _ _ _); (first | (refine PC.ac (l20Apart _ _ (rowOf bg q) (rowOf ls k) _ _ _ _ _ _ rfl rfl (by omega) (by omega) hRb hRa) ?_)))); (try simp (disch := omega) only [bsW, WOp, WOq, WV, bo, gdc, gw, bnd, ↓reduceIte, Nat.reduceEqDiff, rsvs, rsv, oneOf, rdN, ne_eq, Nat.reduceAdd, Nat.reduceMul, Nat.reduceLT, reduceCtorEq, Value.cells, setN, Value.oneCell', Nat.reduceLeDiff, undef, fcT, g0, g1', g2', g4, g5, g8, g20, g21, g22, d2, cb1, ca1, Nat.mul_one])) | ((with_reducible refine RgE_i (fun (hBd_ : Bd _ _) => ?_)); (try simp (disch := omega) only [bsW, WOp, WOq, WV, bo, gdc, gw, bnd, ↓reduceIte, Nat.reduceEqDiff, rsvs, rsv, oneOf, rdN, ne_eq, Nat.reduceAdd, Nat.reduceMul, Nat.reduceLT, reduceCtorEq, Value.cells, setN, Value.oneCell', Nat.reduceLeDiff, undef, fcT, g0, g1', g2', g4, g5, g8, g20, g21, g22, d2, cb1, ca1, Nat.mul_one])) | (with_reducible refine fun (hBd_ : Bd _ _) => ?_) | ((with_reducible refine @And.intro (Sub _ _) _ ?_ ?_); (exact sbX)) | ((with_reducible refine @And.intro (Sub _ _ ∧ _) _ ?_ ?_); (with_reducible refine @And.intro (Sub _ _) _ ?_ ?_); (exact sbX)) | ((with_reducible refine And.intro ?_ ?_); omega)))
            refine hK2 _ _ _ ⟨q + 1, by omega, by omega, ?_, ?_, ?_, ?_, ?_, ?_, ?_, ?_, ?_, ?_, ?_, rfl, rfl⟩
            all_goals (simp (disch := omega) only [bsW, WOp, WOq, WV, bo, gdc, gw, bnd, ↓reduceIte, Nat.reduceEqDiff, rsvs, rsv, oneOf, rdN, ne_eq, Nat.reduceAdd, Nat.reduceMul, Nat.reduceLT, reduceCtorEq, Value.cells, setN, Value.oneCell', Nat.reduceLeDiff, undef, fcT, g0, g1', g2', g4, g5, g8, g20, g21, g22, d2, cb1, ca1, Nat.mul_one, g6, g7, eA2, Bool.true_and, Int.natCast_add, Int.natCast_one])
        have d2 : decide ((q : Int) < (bg.length : Int)) = false := decide_eq_false (by omega)
        have hqb : q = bg.length := by omega
        subst hqb
        rw [List.take_length] at g21
        rw [show (bg.all fun d => aptB d (rowOf ls k)) = freeB bg (rowOf ls k) from rfl] at g21
        have hTj := hTP j (by omega)
        obtain ⟨t', et⟩ : ∃ t', t' = restS ls (wC (n : Int) m f cnt) sub first bg val (updS bg val t) j := ⟨_, rfl⟩
        have hnext : restS ls (wC (n : Int) m f cnt) sub first bg val (updS bg val t) (j + 1) = if freeB bg (rowOf ls k) = true then sub (k + 1) (bg ++ [rowOf ls k]) (val + wC (n : Int) m f cnt (rowOf ls k)) t' else t' := by
          rw [et]; simp only [restS, ← hk]
        rw [← et] at hR hc hTj
        rw [f6, ← et] at g6
        rw [f7, ← et] at g7
        cases hfree : freeB bg (rowOf ls k)
        · rw [hfree] at g21 hnext
          rw [if_neg (by simp)] at hnext
          simp (disch := omega) only [bsW, WOp, WOq, WV, bo, gdc, gw, bnd, ↓reduceIte, Nat.reduceEqDiff, rsvs, rsv, oneOf, rdN, ne_eq, Nat.reduceAdd, Nat.reduceMul, Nat.reduceLT, reduceCtorEq, Value.cells, setN, Value.oneCell', Nat.reduceLeDiff, undef, fcT, g0, g1', g2', g4, g5, g6, g7, g8, g20, g21, g22, d2]
          (repeat' (first | ((with_reducible refine gif_split (fun hs_ => ?_) (fun hs_ => ?_)) <;> (have hp_ := hs_; (try simp only [hpL, ne_eq] at hp_); (try simp (disch := omega) only [bsW, WOp, WOq, WV, bo, gdc, gw, bnd, ↓reduceIte, Nat.reduceEqDiff, rsvs, rsv, oneOf, rdN, ne_eq, Nat.reduceAdd, Nat.reduceMul, Nat.reduceLT, reduceCtorEq, Value.cells, setN, Value.oneCell', Nat.reduceLeDiff, undef, fcT, g0, g1', g2', g4, g5, g6, g7, g8, g20, g21, g22, d2, hs_]))) | ((with_reducible refine newB_i (fun nb_ hb_ => ?_)); (try simp (disch := omega) only [bsW, WOp, WOq, WV, bo, gdc, gw, bnd, ↓reduceIte, Nat.reduceEqDiff, rsvs, rsv, oneOf, rdN, ne_eq, Nat.reduceAdd, Nat.reduceMul, Nat.reduceLT, reduceCtorEq, Value.cells, setN, Value.oneCell', Nat.reduceLeDiff, undef, fcT, g0, g1', g2', g4, g5, g6, g7, g8, g20, g21, g22, d2])) | ((with_reducible refine RgE_i (fun (hBd_ : Bd _ _) => ?_)); (try simp (disch := omega) only [bsW, WOp, WOq, WV, bo, gdc, gw, bnd, ↓reduceIte, Nat.reduceEqDiff, rsvs, rsv, oneOf, rdN, ne_eq, Nat.reduceAdd, Nat.reduceMul, Nat.reduceLT, reduceCtorEq, Value.cells, setN, Value.oneCell', Nat.reduceLeDiff, undef, fcT, g0, g1', g2', g4, g5, g6, g7, g8, g20, g21, g22, d2])) | (with_reducible refine fun (hBd_ : Bd _ _) => ?_) | ((with_reducible refine @And.intro (Sub _ _) _ ?_ ?_); (exact sbX)) | ((with_reducible refine @And.intro (Sub _ _ ∧ _) _ ?_ ?_); (with_reducible refine @And.intro (Sub _ _) _ ?_ ?_); (exact sbX)) | ((with_reducible refine And.intro ?_ ?_); omega)))
          refine hK _ _ _ ⟨j + 1, A, c, by omega, by omega, ?_, ?_, ?_, ?_, ?_, ?_, ?_, ?_, ?_, hs, by omega, by rw [hnext]; exact hc, by rw [hnext]; exact hR⟩
          all_goals (try (simp (disch := omega) only [bsW, WOp, WOq, WV, bo, gdc, gw, bnd, ↓reduceIte, Nat.reduceEqDiff, rsvs, rsv, oneOf, rdN, ne_eq, Nat.reduceAdd, Nat.reduceMul, Nat.reduceLT, reduceCtorEq, Value.cells, setN, Value.oneCell', Nat.reduceLeDiff, undef, fcT, g0, g1', g2', g4, g5, g6, g7, g8, g20, g21, g22, d2]))
          all_goals first | (rw [hnext]; done) | exact vi (by omega)
        rw [hfree] at g21 hnext
        rw [if_pos rfl] at hnext
        have hq4 := hTj.hbt
        have hmost := hTj.most
        have hsub9 := hsub k (by omega) hkn t'
        cases cnt
        · have ew : wC (n : Int) m f false (rowOf ls k) = sumV (n : Int) m f (rowOf ls k).length (rowL (rowOf ls k)) := if_neg (by simp)
          simp only [ew] at hsub9 hwk hnext
          simp (disch := omega) only [bsW, WOp, WOq, WV, bo, gdc, gw, bnd, ↓reduceIte, Nat.reduceEqDiff, rsvs, rsv, oneOf, rdN, ne_eq, Nat.reduceAdd, Nat.reduceMul, Nat.reduceLT, reduceCtorEq, Value.cells, setN, Value.oneCell', Nat.reduceLeDiff, undef, fcT, g0, g1', g2', g4, g5, g6, g7, g8, g20, g21, g22, d2, ca1, Nat.mul_one]
          (repeat' (first | ((with_reducible refine gif_split (fun hs_ => ?_) (fun hs_ => ?_)) <;> (have hp_ := hs_; (try simp only [hpL, ne_eq] at hp_); (try simp (disch := omega) only [bsW, WOp, WOq, WV, bo, gdc, gw, bnd, ↓reduceIte, Nat.reduceEqDiff, rsvs, rsv, oneOf, rdN, ne_eq, Nat.reduceAdd, Nat.reduceMul, Nat.reduceLT, reduceCtorEq, Value.cells, setN, Value.oneCell', Nat.reduceLeDiff, undef, fcT, g0, g1', g2', g4, g5, g6, g7, g8, g20, g21, g22, d2, ca1, Nat.mul_one, hs_]))) | ((with_reducible refine newB_i (fun nb_ hb_ => ?_)); (try simp (disch := omega) only [bsW, WOp, WOq, WV, bo, gdc, gw, bnd, ↓reduceIte, Nat.reduceEqDiff, rsvs, rsv, oneOf, rdN, ne_eq, Nat.reduceAdd, Nat.reduceMul, Nat.reduceLT, reduceCtorEq, Value.cells, setN, Value.oneCell', Nat.reduceLeDiff, undef, fcT, g0, g1', g2', g4, g5, g6, g7, g8, g20, g21, g22, d2, ca1, Nat.mul_one])) | ((first | ((with_reducible show QC _ _ _ _ _ _); (first | (refine QC_i (l20Sum (n : Int) _ _ _ _ f (rowOf ls k) _ _ _ _ hok (hw.sub hs) rfl (by omega) hRa) ?_))) | ((with_reducible show AC _ _ _ _ _ _); (first | (refine PC.ac (l20Sum (n : Int) _ _ _ _ f (rowOf ls k) _ _ _ _ hok (hw.sub hs) rfl (by omega) hRa) ?_)))); (try simp (disch := omega) only [bsW, WOp, WOq, WV, bo, gdc, gw, bnd, ↓reduceIte, Nat.reduceEqDiff, rsvs, rsv, oneOf, rdN, ne_eq, Nat.reduceAdd, Nat.reduceMul, Nat.reduceLT, reduceCtorEq, Value.cells, setN, Value.oneCell', Nat.reduceLeDiff, undef, fcT, g0, g1', g2', g4, g5, g6, g7, g8, g20, g21, g22, d2, ca1, Nat.mul_one])) | (with_reducible refine fun (hBd_ : Bd _ _) => ?_) | ((with_reducible refine @And.intro (Sub _ _) _ ?_ ?_); (exact sbX)) | ((with_reducible refine @And.intro (Sub _ _ ∧ _) _ ?_ ?_); (with_reducible refine @And.intro (Sub _ _) _ ?_ ?_); (exact sbX)) | ((with_reducible refine And.intro ?_ ?_); omega)))
          obtain ⟨Qg, dg, hgV, hgR⟩ := hb.ex
          refine RgE_w (Sub.refl _) (fun _ => ?_)
          simp (disch := omega) only [bsW, WOp, WOq, WV, bo, gdc, gw, bnd, ↓reduceIte, Nat.reduceEqDiff, rsvs, rsv, oneOf, rdN, ne_eq, Nat.reduceAdd, Nat.reduceMul, Nat.reduceLT, reduceCtorEq, Value.cells, setN, Value.oneCell', Nat.reduceLeDiff, undef, fcT, g0, g1', g2', g4, g5, g6, g7, g8, g20, g21, g22, d2, ca1, Nat.mul_one]
          (repeat' (first | ((with_reducible refine gif_split (fun hs_ => ?_) (fun hs_ => ?_)) <;> (have hp_ := hs_; (try simp only [hpL, ne_eq] at hp_); (try simp (disch := omega) only [bsW, WOp, WOq, WV, bo, gdc, gw, bnd, ↓reduceIte, Nat.reduceEqDiff, rsvs, rsv, oneOf, rdN, ne_eq, Nat.reduceAdd, Nat.reduceMul, Nat.reduceLT, reduceCtorEq, Value.cells, setN, Value.oneCell', Nat.reduceLeDiff, undef, fcT, g0, g1', g2', g4, g5, g6, g7, g8, g20, g21, g22, d2, ca1, Nat.mul_one, hs_]))) | ((with_reducible refine newB_i (fun nb_ hb_ => ?_)); (try simp (disch := omega) only [bsW, WOp, WOq, WV, bo, gdc, gw, bnd, ↓reduceIte, Nat.reduceEqDiff, rsvs, rsv, oneOf, rdN, ne_eq, Nat.reduceAdd, Nat.reduceMul, Nat.reduceLT, reduceCtorEq, Value.cells, setN, Value.oneCell', Nat.reduceLeDiff, undef, fcT, g0, g1', g2', g4, g5, g6, g7, g8, g20, g21, g22, d2, ca1, Nat.mul_one])) | ((with_reducible refine RgE_i (fun (hBd_ : Bd _ _) => ?_)); (try simp (disch := omega) only [bsW, WOp, WOq, WV, bo, gdc, gw, bnd, ↓reduceIte, Nat.reduceEqDiff, rsvs, rsv, oneOf, rdN, ne_eq, Nat.reduceAdd, Nat.reduceMul, Nat.reduceLT, reduceCtorEq, Value.cells, setN, Value.oneCell', Nat.reduceLeDiff, undef, fcT, g0, g1', g2', g4, g5, g6, g7, g8, g20, g21, g22, d2, ca1, Nat.mul_one])) | (with_reducible refine fun (hBd_ : Bd _ _) => ?_) | ((with_reducible refine @And.intro (Sub _ _) _ ?_ ?_); (exact sbX)) | ((with_reducible refine @And.intro (Sub _ _ ∧ _) _ ?_ ?_); (with_reducible refine @And.intro (Sub _ _) _ ?_ ?_); (exact sbX)) | ((with_reducible refine And.intro ?_ ?_); omega)))
          refine ⟨?_, ?_⟩
          · refine newB_i fun z1 hz1 => ?_
            simp (disch := omega) only [bsW, WOp, WOq, WV, bo, gdc, gw, bnd, ↓reduceIte, Nat.reduceEqDiff, rsvs, rsv, oneOf, rdN, ne_eq, Nat.reduceAdd, Nat.reduceMul, Nat.reduceLT, reduceCtorEq, Value.cells, setN, Value.oneCell', Nat.reduceLeDiff, undef, fcT, g0, g1', g2', g4, g5, g6, g7, g8, g20, g21, g22, d2, ca1, Nat.mul_one]
            refine ⟨sub_new hB2 hz1, ?_, ?_⟩
            · skip
              refine app_heads (bytes := 24) (lo := nx2) (H0 := H2) heE hsE hbE ⟨_, qz23, rfl⟩ hz1 (Nat.lt_succ_self _) (upd_same _ _ _) ((RdV.sub hgV hs).sub (sub_new hB2 hz1)) (rowsV_one _ _ _ _) (Bd.up hB2 hz1) (by omega) (by unfold maxLen; omega) hB2 (sub_new hB2 hz1) ?_
              intro v5 H5 nx5 hO5 hk5 hx5 hB5 hs5
              simp (disch := omega) only [bsW, WOp, WOq, WV, bo, gdc, gw, bnd, ↓reduceIte, Nat.reduceEqDiff, rsvs, rsv, oneOf, rdN, ne_eq, Nat.reduceAdd, Nat.reduceMul, Nat.reduceLT, reduceCtorEq, Value.cells, setN, Value.oneCell', Nat.reduceLeDiff, undef, fcT, g0, g1', g2', g4, g5, g6, g7, g8, g20, g21, g22, d2, ca1, Nat.mul_one]
              (try refine ⟨hs5, ?_⟩)
              refine newB_i fun z2 hz2 => ?_
              simp (disch := omega) only [bsW, WOp, WOq, WV, bo, gdc, gw, bnd, ↓reduceIte, Nat.reduceEqDiff, rsvs, rsv, oneOf, rdN, ne_eq, Nat.reduceAdd, Nat.reduceMul, Nat.reduceLT, reduceCtorEq, Value.cells, setN, Value.oneCell', Nat.reduceLeDiff, undef, fcT, g0, g1', g2', g4, g5, g6, g7, g8, g20, g21, g22, d2, ca1, Nat.mul_one]
              (try refine ⟨hs5.trans (sub_new hB5 hz2), ?_⟩)
              refine app_head1 (bytes := 24) (lo := nx2) (H0 := H2) heE hsE hbE ⟨_, qz23, rfl⟩ (hO5.new hz2) (upd_same _ _ _) (by omega) (by omega) (by unfold maxLen; omega) hB2 (hs5.trans (sub_new hB5 hz2)) (fun i hi => ⟨(hgR i hi).1, Rd.sub (hgR i hi).2 hs⟩) hda hRa ?_
              intro An cn H7 nx7 hR7 hc7 hx7 hs7
              simp (disch := omega) only [bsW, WOp, WOq, WV, bo, gdc, gw, bnd, ↓reduceIte, Nat.reduceEqDiff, rsvs, rsv, oneOf, rdN, ne_eq, Nat.reduceAdd, Nat.reduceMul, Nat.reduceLT, reduceCtorEq, Value.cells, setN, Value.oneCell', Nat.reduceLeDiff, undef, fcT, g0, g1', g2', g4, g5, g6, g7, g8, g20, g21, g22, d2, ca1, Nat.mul_one]
              refine (hsub9 An A cn c H7 nx7 hTj (hw.sub (hs.trans hs7)) (ha.sub (hs.trans hs7)) hR7 (hR.sub hs7) hc7 hc).monoC ?_
              rintro v8 H8 nx8 hB8 hx8 ⟨⟨A8, c8, rfl, hc8, hR8⟩, hs8⟩
              simp (disch := omega) only [bsW, WOp, WOq, WV, bo, gdc, gw, bnd, ↓reduceIte, Nat.reduceEqDiff, rsvs, rsv, oneOf, rdN, ne_eq, Nat.reduceAdd, Nat.reduceMul, Nat.reduceLT, reduceCtorEq, Value.cells, setN, Value.oneCell', Nat.reduceLeDiff, undef, fcT, g0, g1', g2', g4, g5, g6, g7, g8, g20, g21, g22, d2, ca1, Nat.mul_one]
              refine hK _ _ _ ⟨j + 1, A8, c8, by omega, by omega, ?_, ?_, ?_, ?_, ?_, ?_, ?_, ?_, ?_, hs.trans (hs7.trans hs8), by omega, by rw [hnext]; exact hc8, by rw [hnext]; exact hR8⟩
              all_goals (try (simp (disch := omega) only [bsW, WOp, WOq, WV, bo, gdc, gw, bnd, ↓reduceIte, Nat.reduceEqDiff, rsvs, rsv, oneOf, rdN, ne_eq, Nat.reduceAdd, Nat.reduceMul, Nat.reduceLT, reduceCtorEq, Value.cells, setN, Value.oneCell', Nat.reduceLeDiff, undef, fcT, g0, g1', g2', g4, g5, g6, g7, g8, g20, g21, g22, d2, ca1, Nat.mul_one]))
              all_goals first | (rw [hnext]; done) | exact vi (by omega)
            · skip
              refine newB_i fun z2 hz2 => ?_
              simp (disch := omega) only [bsW, WOp, WOq, WV, bo, gdc, gw, bnd, ↓reduceIte, Nat.reduceEqDiff, rsvs, rsv, oneOf, rdN, ne_eq, Nat.reduceAdd, Nat.reduceMul, Nat.reduceLT, reduceCtorEq, Value.cells, setN, Value.oneCell', Nat.reduceLeDiff, undef, fcT, g0, g1', g2', g4, g5, g6, g7, g8, g20, g21, g22, d2, ca1, Nat.mul_one]
              (try refine ⟨((sub_new hB2 hz1).trans (sub_new (Bd.up hB2 hz1) hz2)), ?_⟩)
              have hzz : z1 ≠ z2 := by omega
              refine app_heads (bytes := 24) (lo := nx2) (H0 := H2) heE hsE hbE ⟨_, qz23, rfl⟩ hz1 (by omega) ((upd_ne hzz).trans (upd_same _ _ _)) ((RdV.sub hgV hs).sub ((sub_new hB2 hz1).trans (sub_new (Bd.up hB2 hz1) hz2))) (rowsV_one _ _ _ _) (Bd.up (Bd.up hB2 hz1) hz2) (by omega) (by unfold maxLen; omega) hB2 ((sub_new hB2 hz1).trans (sub_new (Bd.up hB2 hz1) hz2)) ?_
              intro v5 H5 nx5 hO5 hk5 hx5 hB5 hs5
              simp (disch := omega) only [bsW, WOp, WOq, WV, bo, gdc, gw, bnd, ↓reduceIte, Nat.reduceEqDiff, rsvs, rsv, oneOf, rdN, ne_eq, Nat.reduceAdd, Nat.reduceMul, Nat.reduceLT, reduceCtorEq, Value.cells, setN, Value.oneCell', Nat.reduceLeDiff, undef, fcT, g0, g1', g2', g4, g5, g6, g7, g8, g20, g21, g22, d2, ca1, Nat.mul_one]
              (try refine ⟨hs5, ?_⟩)
              refine app_head1 (bytes := 24) (lo := nx2) (H0 := H2) heE hsE hbE ⟨_, qz23, rfl⟩ hO5 ((hk5 z2 (Nat.lt_succ_self _) (Ne.symm hzz)).trans (upd_same _ _ _)) (by omega) (by omega) (by unfold maxLen; omega) hB2 hs5 (fun i hi => ⟨(hgR i hi).1, Rd.sub (hgR i hi).2 hs⟩) hda hRa ?_
              intro An cn H7 nx7 hR7 hc7 hx7 hs7
              simp (disch := omega) only [bsW, WOp, WOq, WV, bo, gdc, gw, bnd, ↓reduceIte, Nat.reduceEqDiff, rsvs, rsv, oneOf, rdN, ne_eq, Nat.reduceAdd, Nat.reduceMul, Nat.reduceLT, reduceCtorEq, Value.cells, setN, Value.oneCell', Nat.reduceLeDiff, undef, fcT, g0, g1', g2', g4, g5, g6, g7, g8, g20, g21, g22, d2, ca1, Nat.mul_one]
              refine (hsub9 An A cn c H7 nx7 hTj (hw.sub (hs.trans hs7)) (ha.sub (hs.trans hs7)) hR7 (hR.sub hs7) hc7 hc).monoC ?_
              rintro v8 H8 nx8 hB8 hx8 ⟨⟨A8, c8, rfl, hc8, hR8⟩, hs8⟩
              simp (disch := omega) only [bsW, WOp, WOq, WV, bo, gdc, gw, bnd, ↓reduceIte, Nat.reduceEqDiff, rsvs, rsv, oneOf, rdN, ne_eq, Nat.reduceAdd, Nat.reduceMul, Nat.reduceLT, reduceCtorEq, Value.cells, setN, Value.oneCell', Nat.reduceLeDiff, undef, fcT, g0, g1', g2', g4, g5, g6, g7, g8, g20, g21, g22, d2, ca1, Nat.mul_one]
              refine hK _ _ _ ⟨j + 1, A8, c8, by omega, by omega, ?_, ?_, ?_, ?_, ?_, ?_, ?_, ?_, ?_, hs.trans (hs7.trans hs8), by omega, by rw [hnext]; exact hc8, by rw [hnext]; exact hR8⟩
              all_goals (try (simp (disch := omega) only [bsW, WOp, WOq, WV, bo, gdc, gw, bnd, ↓reduceIte, Nat.reduceEqDiff, rsvs, rsv, oneOf, rdN, ne_eq, Nat.reduceAdd, Nat.reduceMul, Nat.reduceLT, reduceCtorEq, Value.cells, setN, Value.oneCell', Nat.reduceLeDiff, undef, fcT, g0, g1', g2', g4, g5, g6, g7, g8, g20, g21, g22, d2, ca1, Nat.mul_one]))
              all_goals first | (rw [hnext]; done) | exact vi (by omega)
          · skip
            refine newB_i fun z2 hz2 => ?_
            simp (disch := omega) only [bsW, WOp, WOq, WV, bo, gdc, gw, bnd, ↓reduceIte, Nat.reduceEqDiff, rsvs, rsv, oneOf, rdN, ne_eq, Nat.reduceAdd, Nat.reduceMul, Nat.reduceLT, reduceCtorEq, Value.cells, setN, Value.oneCell', Nat.reduceLeDiff, undef, fcT, g0, g1', g2', g4, g5, g6, g7, g8, g20, g21, g22, d2, ca1, Nat.mul_one]
            (try refine ⟨sub_new hB2 hz2, ?_⟩)
            refine newB_i fun z1 hz1 => ?_
            simp (disch := omega) only [bsW, WOp, WOq, WV, bo, gdc, gw, bnd, ↓reduceIte, Nat.reduceEqDiff, rsvs, rsv, oneOf, rdN, ne_eq, Nat.reduceAdd, Nat.reduceMul, Nat.reduceLT, reduceCtorEq, Value.cells, setN, Value.oneCell', Nat.reduceLeDiff, undef, fcT, g0, g1', g2', g4, g5, g6, g7, g8, g20, g21, g22, d2, ca1, Nat.mul_one]
            (try refine ⟨((sub_new hB2 hz2).trans (sub_new (Bd.up hB2 hz2) hz1)), ?_⟩)
            have hzz : z2 ≠ z1 := by omega
            refine app_heads (bytes := 24) (lo := nx2) (H0 := H2) heE hsE hbE ⟨_, qz23, rfl⟩ (by omega) (Nat.lt_succ_self _) (upd_same _ _ _) ((RdV.sub hgV hs).sub ((sub_new hB2 hz2).trans (sub_new (Bd.up hB2 hz2) hz1))) (rowsV_one _ _ _ _) (Bd.up (Bd.up hB2 hz2) hz1) (by omega) (by unfold maxLen; omega) hB2 ((sub_new hB2 hz2).trans (sub_new (Bd.up hB2 hz2) hz1)) ?_
            intro v5 H5 nx5 hO5 hk5 hx5 hB5 hs5
            simp (disch := omega) only [bsW, WOp, WOq, WV, bo, gdc, gw, bnd, ↓reduceIte, Nat.reduceEqDiff, rsvs, rsv, oneOf, rdN, ne_eq, Nat.reduceAdd, Nat.reduceMul, Nat.reduceLT, reduceCtorEq, Value.cells, setN, Value.oneCell', Nat.reduceLeDiff, undef, fcT, g0, g1', g2', g4, g5, g6, g7, g8, g20, g21, g22, d2, ca1, Nat.mul_one]
            (try refine ⟨hs5, ?_⟩)
            refine app_head1 (bytes := 24) (lo := nx2) (H0 := H2) heE hsE hbE ⟨_, qz23, rfl⟩ hO5 ((hk5 z2 (by omega) hzz).trans ((upd_ne hzz).trans (upd_same _ _ _))) (by omega) (by omega) (by unfold maxLen; omega) hB2 hs5 (fun i hi => ⟨(hgR i hi).1, Rd.sub (hgR i hi).2 hs⟩) hda hRa ?_
            intro An cn H7 nx7 hR7 hc7 hx7 hs7
            simp (disch := omega) only [bsW, WOp, WOq, WV, bo, gdc, gw, bnd, ↓reduceIte, Nat.reduceEqDiff, rsvs, rsv, oneOf, rdN, ne_eq, Nat.reduceAdd, Nat.reduceMul, Nat.reduceLT, reduceCtorEq, Value.cells, setN, Value.oneCell', Nat.reduceLeDiff, undef, fcT, g0, g1', g2', g4, g5, g6, g7, g8, g20, g21, g22, d2, ca1, Nat.mul_one]
            refine (hsub9 An A cn c H7 nx7 hTj (hw.sub (hs.trans hs7)) (ha.sub (hs.trans hs7)) hR7 (hR.sub hs7) hc7 hc).monoC ?_
            rintro v8 H8 nx8 hB8 hx8 ⟨⟨A8, c8, rfl, hc8, hR8⟩, hs8⟩
            simp (disch := omega) only [bsW, WOp, WOq, WV, bo, gdc, gw, bnd, ↓reduceIte, Nat.reduceEqDiff, rsvs, rsv, oneOf, rdN, ne_eq, Nat.reduceAdd, Nat.reduceMul, Nat.reduceLT, reduceCtorEq, Value.cells, setN, Value.oneCell', Nat.reduceLeDiff, undef, fcT, g0, g1', g2', g4, g5, g6, g7, g8, g20, g21, g22, d2, ca1, Nat.mul_one]
            refine hK _ _ _ ⟨j + 1, A8, c8, by omega, by omega, ?_, ?_, ?_, ?_, ?_, ?_, ?_, ?_, ?_, hs.trans (hs7.trans hs8), by omega, by rw [hnext]; exact hc8, by rw [hnext]; exact hR8⟩
            all_goals (try (simp (disch := omega) only [bsW, WOp, WOq, WV, bo, gdc, gw, bnd, ↓reduceIte, Nat.reduceEqDiff, rsvs, rsv, oneOf, rdN, ne_eq, Nat.reduceAdd, Nat.reduceMul, Nat.reduceLT, reduceCtorEq, Value.cells, setN, Value.oneCell', Nat.reduceLeDiff, undef, fcT, g0, g1', g2', g4, g5, g6, g7, g8, g20, g21, g22, d2, ca1, Nat.mul_one]))
            all_goals first | (rw [hnext]; done) | exact vi (by omega)
        · have ew : wC (n : Int) m f true (rowOf ls k) = ((rowOf ls k).length : Int) := if_pos rfl
          simp only [ew] at hsub9 hwk hnext
          simp (disch := omega) only [bsW, WOp, WOq, WV, bo, gdc, gw, bnd, ↓reduceIte, Nat.reduceEqDiff, rsvs, rsv, oneOf, rdN, ne_eq, Nat.reduceAdd, Nat.reduceMul, Nat.reduceLT, reduceCtorEq, Value.cells, setN, Value.oneCell', Nat.reduceLeDiff, undef, fcT, g0, g1', g2', g4, g5, g6, g7, g8, g20, g21, g22, d2, ca1, Nat.mul_one]
          (repeat' (first | ((with_reducible refine gif_split (fun hs_ => ?_) (fun hs_ => ?_)) <;> (have hp_ := hs_; (try simp only [hpL, ne_eq] at hp_); (try simp (disch := omega) only [bsW, WOp, WOq, WV, bo, gdc, gw, bnd, ↓reduceIte, Nat.reduceEqDiff, rsvs, rsv, oneOf, rdN, ne_eq, Nat.reduceAdd, Nat.reduceMul, Nat.reduceLT, reduceCtorEq, Value.cells, setN, Value.oneCell', Nat.reduceLeDiff, undef, fcT, g0, g1', g2', g4, g5, g6, g7, g8, g20, g21, g22, d2, ca1, Nat.mul_one, hs_]))) | ((with_reducible refine newB_i (fun nb_ hb_ => ?_)); (try simp (disch := omega) only [bsW, WOp, WOq, WV, bo, gdc, gw, bnd, ↓reduceIte, Nat.reduceEqDiff, rsvs, rsv, oneOf, rdN, ne_eq, Nat.reduceAdd, Nat.reduceMul, Nat.reduceLT, reduceCtorEq, Value.cells, setN, Value.oneCell', Nat.reduceLeDiff, undef, fcT, g0, g1', g2', g4, g5, g6, g7, g8, g20, g21, g22, d2, ca1, Nat.mul_one])) | ((first | ((with_reducible show QC _ _ _ _ _ _); (first | (refine QC_i (l20Sum (n : Int) _ _ _ _ f (rowOf ls k) _ _ _ _ hok (hw.sub hs) rfl (by omega) hRa) ?_))) | ((with_reducible show AC _ _ _ _ _ _); (first | (refine PC.ac (l20Sum (n : Int) _ _ _ _ f (rowOf ls k) _ _ _ _ hok (hw.sub hs) rfl (by omega) hRa) ?_)))); (try simp (disch := omega) only [bsW, WOp, WOq, WV, bo, gdc, gw, bnd, ↓reduceIte, Nat.reduceEqDiff, rsvs, rsv, oneOf, rdN, ne_eq, Nat.reduceAdd, Nat.reduceMul, Nat.reduceLT, reduceCtorEq, Value.cells, setN, Value.oneCell', Nat.reduceLeDiff, undef, fcT, g0, g1', g2', g4, g5, g6, g7, g8, g20, g21, g22, d2, ca1, Nat.mul_one])) | (with_reducible refine fun (hBd_ : Bd _ _) => ?_) | ((with_reducible refine @And.intro (Sub _ _) _ ?_ ?_); (exact sbX)) | ((with_reducible refine @And.intro (Sub _ _ ∧ _) _ ?_ ?_); (with_reducible refine @And.intro (Sub _ _) _ ?_ ?_); (exact sbX)) | ((with_reducible refine And.intro ?_ ?_); omega)))
          obtain ⟨Qg, dg, hgV, hgR⟩ := hb.ex
          refine RgE_w (Sub.refl _) (fun _ => ?_)
          simp (disch := omega) only [bsW, WOp, WOq, WV, bo, gdc, gw, bnd, ↓reduceIte, Nat.reduceEqDiff, rsvs, rsv, oneOf, rdN, ne_eq, Nat.reduceAdd, Nat.reduceMul, Nat.reduceLT, reduceCtorEq, Value.cells, setN, Value.oneCell', Nat.reduceLeDiff, undef, fcT, g0, g1', g2', g4, g5, g6, g7, g8, g20, g21, g22, d2, ca1, Nat.mul_one]
          (repeat' (first | ((with_reducible refine gif_split (fun hs_ => ?_) (fun hs_ => ?_)) <;> (have hp_ := hs_; (try simp only [hpL, ne_eq] at hp_); (try simp (disch := omega) only [bsW, WOp, WOq, WV, bo, gdc, gw, bnd, ↓reduceIte, Nat.reduceEqDiff, rsvs, rsv, oneOf, rdN, ne_eq, Nat.reduceAdd, Nat.reduceMul, Nat.reduceLT, reduceCtorEq, Value.cells, setN, Value.oneCell', Nat.reduceLeDiff, undef, fcT, g0, g1', g2', g4, g5, g6, g7, g8, g20, g21, g22, d2, ca1, Nat.mul_one, hs_]))) | ((with_reducible refine newB_i (fun nb_ hb_ => ?_)); (try simp (disch := omega) only [bsW, WOp, WOq, WV, bo, gdc, gw, bnd, ↓reduceIte, Nat.reduceEqDiff, rsvs, rsv, oneOf, rdN, ne_eq, Nat.reduceAdd, Nat.reduceMul, Nat.reduceLT, reduceCtorEq, Value.cells, setN, Value.oneCell', Nat.reduceLeDiff, undef, fcT, g0, g1', g2', g4, g5, g6, g7, g8, g20, g21, g22, d2, ca1, Nat.mul_one])) | ((with_reducible refine RgE_i (fun (hBd_ : Bd _ _) => ?_)); (try simp (disch := omega) only [bsW, WOp, WOq, WV, bo, gdc, gw, bnd, ↓reduceIte, Nat.reduceEqDiff, rsvs, rsv, oneOf, rdN, ne_eq, Nat.reduceAdd, Nat.reduceMul, Nat.reduceLT, reduceCtorEq, Value.cells, setN, Value.oneCell', Nat.reduceLeDiff, undef, fcT, g0, g1', g2', g4, g5, g6, g7, g8, g20, g21, g22, d2, ca1, Nat.mul_one])) | (with_reducible refine fun (hBd_ : Bd _ _) => ?_) | ((with_reducible refine @And.intro (Sub _ _) _ ?_ ?_); (exact sbX)) | ((with_reducible refine @And.intro (Sub _ _ ∧ _) _ ?_ ?_); (with_reducible refine @And.intro (Sub _ _) _ ?_ ?_); (exact sbX)) | ((with_reducible refine And.intro ?_ ?_); omega)))
          refine ⟨?_, ?_⟩
          · refine newB_i fun z1 hz1 => ?_
            simp (disch := omega) only [bsW, WOp, WOq, WV, bo, gdc, gw, bnd, ↓reduceIte, Nat.reduceEqDiff, rsvs, rsv, oneOf, rdN, ne_eq, Nat.reduceAdd, Nat.reduceMul, Nat.reduceLT, reduceCtorEq, Value.cells, setN, Value.oneCell', Nat.reduceLeDiff, undef, fcT, g0, g1', g2', g4, g5, g6, g7, g8, g20, g21, g22, d2, ca1, Nat.mul_one]
            refine ⟨sub_new hB2 hz1, ?_, ?_⟩
            · skip
              refine app_heads (bytes := 24) (lo := nx2) (H0 := H2) heE hsE hbE ⟨_, qz23, rfl⟩ hz1 (Nat.lt_succ_self _) (upd_same _ _ _) ((RdV.sub hgV hs).sub (sub_new hB2 hz1)) (rowsV_one _ _ _ _) (Bd.up hB2 hz1) (by omega) (by unfold maxLen; omega) hB2 (sub_new hB2 hz1) ?_
              intro v5 H5 nx5 hO5 hk5 hx5 hB5 hs5
              simp (disch := omega) only [bsW, WOp, WOq, WV, bo, gdc, gw, bnd, ↓reduceIte, Nat.reduceEqDiff, rsvs, rsv, oneOf, rdN, ne_eq, Nat.reduceAdd, Nat.reduceMul, Nat.reduceLT, reduceCtorEq, Value.cells, setN, Value.oneCell', Nat.reduceLeDiff, undef, fcT, g0, g1', g2', g4, g5, g6, g7, g8, g20, g21, g22, d2, ca1, Nat.mul_one]
              (try refine ⟨hs5, ?_⟩)
              refine newB_i fun z2 hz2 => ?_
              simp (disch := omega) only [bsW, WOp, WOq, WV, bo, gdc, gw, bnd, ↓reduceIte, Nat.reduceEqDiff, rsvs, rsv, oneOf, rdN, ne_eq, Nat.reduceAdd, Nat.reduceMul, Nat.reduceLT, reduceCtorEq, Value.cells, setN, Value.oneCell', Nat.reduceLeDiff, undef, fcT, g0, g1', g2', g4, g5, g6, g7, g8, g20, g21, g22, d2, ca1, Nat.mul_one]
              (try refine ⟨hs5.trans (sub_new hB5 hz2), ?_⟩)
              refine app_head1 (bytes := 24) (lo := nx2) (H0 := H2) heE hsE hbE ⟨_, qz23, rfl⟩ (hO5.new hz2) (upd_same _ _ _) (by omega) (by omega) (by unfold maxLen; omega) hB2 (hs5.trans (sub_new hB5 hz2)) (fun i hi => ⟨(hgR i hi).1, Rd.sub (hgR i hi).2 hs⟩) hda hRa ?_
              intro An cn H7 nx7 hR7 hc7 hx7 hs7
              simp (disch := omega) only [bsW, WOp, WOq, WV, bo, gdc, gw, bnd, ↓reduceIte, Nat.reduceEqDiff, rsvs, rsv, oneOf, rdN, ne_eq, Nat.reduceAdd, Nat.reduceMul, Nat.reduceLT, reduceCtorEq, Value.cells, setN, Value.oneCell', Nat.reduceLeDiff, undef, fcT, g0, g1', g2', g4, g5, g6, g7, g8, g20, g21, g22, d2, ca1, Nat.mul_one]
              refine (hsub9 An A cn c H7 nx7 hTj (hw.sub (hs.trans hs7)) (ha.sub (hs.trans hs7)) hR7 (hR.sub hs7) hc7 hc).monoC ?_
              rintro v8 H8 nx8 hB8 hx8 ⟨⟨A8, c8, rfl, hc8, hR8⟩, hs8⟩
              simp (disch := omega) only [bsW, WOp, WOq, WV, bo, gdc, gw, bnd, ↓reduceIte, Nat.reduceEqDiff, rsvs, rsv, oneOf, rdN, ne_eq, Nat.reduceAdd, Nat.reduceMul, Nat.reduceLT, reduceCtorEq, Value.cells, setN, Value.oneCell', Nat.reduceLeDiff, undef, fcT, g0, g1', g2', g4, g5, g6, g7, g8, g20, g21, g22, d2, ca1, Nat.mul_one]
              refine hK _ _ _ ⟨j + 1, A8, c8, by omega, by omega, ?_, ?_, ?_, ?_, ?_, ?_, ?_, ?_, ?_, hs.trans (hs7.trans hs8), by omega, by rw [hnext]; exact hc8, by rw [hnext]; exact hR8⟩
              all_goals (try (simp (disch := omega) only [bsW, WOp, WOq, WV, bo, gdc, gw, bnd, ↓reduceIte, Nat.reduceEqDiff, rsvs, rsv, oneOf, rdN, ne_eq, Nat.reduceAdd, Nat.reduceMul, Nat.reduceLT, reduceCtorEq, Value.cells, setN, Value.oneCell', Nat.reduceLeDiff, undef, fcT, g0, g1', g2', g4, g5, g6, g7, g8, g20, g21, g22, d2, ca1, Nat.mul_one]))
              all_goals first | (rw [hnext]; done) | exact vi (by omega)
            · skip
              refine newB_i fun z2 hz2 => ?_
              simp (disch := omega) only [bsW, WOp, WOq, WV, bo, gdc, gw, bnd, ↓reduceIte, Nat.reduceEqDiff, rsvs, rsv, oneOf, rdN, ne_eq, Nat.reduceAdd, Nat.reduceMul, Nat.reduceLT, reduceCtorEq, Value.cells, setN, Value.oneCell', Nat.reduceLeDiff, undef, fcT, g0, g1', g2', g4, g5, g6, g7, g8, g20, g21, g22, d2, ca1, Nat.mul_one]
              (try refine ⟨((sub_new hB2 hz1).trans (sub_new (Bd.up hB2 hz1) hz2)), ?_⟩)
              have hzz : z1 ≠ z2 := by omega
              refine app_heads (bytes := 24) (lo := nx2) (H0 := H2) heE hsE hbE ⟨_, qz23, rfl⟩ hz1 (by omega) ((upd_ne hzz).trans (upd_same _ _ _)) ((RdV.sub hgV hs).sub ((sub_new hB2 hz1).trans (sub_new (Bd.up hB2 hz1) hz2))) (rowsV_one _ _ _ _) (Bd.up (Bd.up hB2 hz1) hz2) (by omega) (by unfold maxLen; omega) hB2 ((sub_new hB2 hz1).trans (sub_new (Bd.up hB2 hz1) hz2)) ?_
              intro v5 H5 nx5 hO5 hk5 hx5 hB5 hs5
              simp (disch := omega) only [bsW, WOp, WOq, WV, bo, gdc, gw, bnd, ↓reduceIte, Nat.reduceEqDiff, rsvs, rsv, oneOf, rdN, ne_eq, Nat.reduceAdd, Nat.reduceMul, Nat.reduceLT, reduceCtorEq, Value.cells, setN, Value.oneCell', Nat.reduceLeDiff, undef, fcT, g0, g1', g2', g4, g5, g6, g7, g8, g20, g21, g22, d2, ca1, Nat.mul_one]
              (try refine ⟨hs5, ?_⟩)
              refine app_head1 (bytes := 24) (lo := nx2) (H0 := H2) heE hsE hbE ⟨_, qz23, rfl⟩ hO5 ((hk5 z2 (Nat.lt_succ_self _) (Ne.symm hzz)).trans (upd_same _ _ _)) (by omega) (by omega) (by unfold maxLen; omega) hB2 hs5 (fun i hi => ⟨(hgR i hi).1, Rd.sub (hgR i hi).2 hs⟩) hda hRa ?_
              intro An cn H7 nx7 hR7 hc7 hx7 hs7
              simp (disch := omega) only [bsW, WOp, WOq, WV, bo, gdc, gw, bnd, ↓reduceIte, Nat.reduceEqDiff, rsvs, rsv, oneOf, rdN, ne_eq, Nat.reduceAdd, Nat.reduceMul, Nat.reduceLT, reduceCtorEq, Value.cells, setN, Value.oneCell', Nat.reduceLeDiff, undef, fcT, g0, g1', g2', g4, g5, g6, g7, g8, g20, g21, g22, d2, ca1, Nat.mul_one]
              refine (hsub9 An A cn c H7 nx7 hTj (hw.sub (hs.trans hs7)) (ha.sub (hs.trans hs7)) hR7 (hR.sub hs7) hc7 hc).monoC ?_
              rintro v8 H8 nx8 hB8 hx8 ⟨⟨A8, c8, rfl, hc8, hR8⟩, hs8⟩
              simp (disch := omega) only [bsW, WOp, WOq, WV, bo, gdc, gw, bnd, ↓reduceIte, Nat.reduceEqDiff, rsvs, rsv, oneOf, rdN, ne_eq, Nat.reduceAdd, Nat.reduceMul, Nat.reduceLT, reduceCtorEq, Value.cells, setN, Value.oneCell', Nat.reduceLeDiff, undef, fcT, g0, g1', g2', g4, g5, g6, g7, g8, g20, g21, g22, d2, ca1, Nat.mul_one]
              refine hK _ _ _ ⟨j + 1, A8, c8, by omega, by omega, ?_, ?_, ?_, ?_, ?_, ?_, ?_, ?_, ?_, hs.trans (hs7.trans hs8), by omega, by rw [hnext]; exact hc8, by rw [hnext]; exact hR8⟩
              all_goals (try (simp (disch := omega) only [bsW, WOp, WOq, WV, bo, gdc, gw, bnd, ↓reduceIte, Nat.reduceEqDiff, rsvs, rsv, oneOf, rdN, ne_eq, Nat.reduceAdd, Nat.reduceMul, Nat.reduceLT, reduceCtorEq, Value.cells, setN, Value.oneCell', Nat.reduceLeDiff, undef, fcT, g0, g1', g2', g4, g5, g6, g7, g8, g20, g21, g22, d2, ca1, Nat.mul_one]))
              all_goals first | (rw [hnext]; done) | exact vi (by omega)
          · skip
            refine newB_i fun z2 hz2 => ?_
            simp (disch := omega) only [bsW, WOp, WOq, WV, bo, gdc, gw, bnd, ↓reduceIte, Nat.reduceEqDiff, rsvs, rsv, oneOf, rdN, ne_eq, Nat.reduceAdd, Nat.reduceMul, Nat.reduceLT, reduceCtorEq, Value.cells, setN, Value.oneCell', Nat.reduceLeDiff, undef, fcT, g0, g1', g2', g4, g5, g6, g7, g8, g20, g21, g22, d2, ca1, Nat.mul_one]
            (try refine ⟨sub_new hB2 hz2, ?_⟩)
            refine newB_i fun z1 hz1 => ?_
            simp (disch := omega) only [bsW, WOp, WOq, WV, bo, gdc, gw, bnd, ↓reduceIte, Nat.reduceEqDiff, rsvs, rsv, oneOf, rdN, ne_eq, Nat.reduceAdd, Nat.reduceMul, Nat.reduceLT, reduceCtorEq, Value.cells, setN, Value.oneCell', Nat.reduceLeDiff, undef, fcT, g0, g1', g2', g4, g5, g6, g7, g8, g20, g21, g22, d2, ca1, Nat.mul_one]
            (try refine ⟨((sub_new hB2 hz2).trans (sub_new (Bd.up hB2 hz2) hz1)), ?_⟩)
            have hzz : z2 ≠ z1 := by omega
            refine app_heads (bytes := 24) (lo := nx2) (H0 := H2) heE hsE hbE ⟨_, qz23, rfl⟩ (by omega) (Nat.lt_succ_self _) (upd_same _ _ _) ((RdV.sub hgV hs).sub ((sub_new hB2 hz2).trans (sub_new (Bd.up hB2 hz2) hz1))) (rowsV_one _ _ _ _) (Bd.up (Bd.up hB2 hz2) hz1) (by omega) (by unfold maxLen; omega) hB2 ((sub_new hB2 hz2).trans (sub_new (Bd.up hB2 hz2) hz1)) ?_
            intro v5 H5 nx5 hO5 hk5 hx5 hB5 hs5
            simp (disch := omega) only [bsW, WOp, WOq, WV, bo, gdc, gw, bnd, ↓reduceIte, Nat.reduceEqDiff, rsvs, rsv, oneOf, rdN, ne_eq, Nat.reduceAdd, Nat.reduceMul, Nat.reduceLT, reduceCtorEq, Value.cells, setN, Value.oneCell', Nat.reduceLeDiff, undef, fcT, g0, g1', g2', g4, g5, g6, g7, g8, g20, g21, g22, d2, ca1, Nat.mul_one]
            (try refine ⟨hs5, ?_⟩)
            refine app_head1 (bytes := 24) (lo := nx2) (H0 := H2) heE hsE hbE ⟨_, qz23, rfl⟩ hO5 ((hk5 z2 (by omega) hzz).trans ((upd_ne hzz).trans (upd_same _ _ _))) (by omega) (by omega) (by unfold maxLen; omega) hB2 hs5 (fun i hi => ⟨(hgR i hi).1, Rd.sub (hgR i hi).2 hs⟩) hda hRa ?_
            intro An cn H7 nx7 hR7 hc7 hx7 hs7
            simp (disch := omega) only [bsW, WOp, WOq, WV, bo, gdc, gw, bnd, ↓reduceIte, Nat.reduceEqDiff, rsvs, rsv, oneOf, rdN, ne_eq, Nat.reduceAdd, Nat.reduceMul, Nat.reduceLT, reduceCtorEq, Value.cells, setN, Value.oneCell', Nat.reduceLeDiff, undef, fcT, g0, g1', g2', g4, g5, g6, g7, g8, g20, g21, g22, d2, ca1, Nat.mul_one]
            refine (hsub9 An A cn c H7 nx7 hTj (hw.sub (hs.trans hs7)) (ha.sub (hs.trans hs7)) hR7 (hR.sub hs7) hc7 hc).monoC ?_
            rintro v8 H8 nx8 hB8 hx8 ⟨⟨A8, c8, rfl, hc8, hR8⟩, hs8⟩
            simp (disch := omega) only [bsW, WOp, WOq, WV, bo, gdc, gw, bnd, ↓reduceIte, Nat.reduceEqDiff, rsvs, rsv, oneOf, rdN, ne_eq, Nat.reduceAdd, Nat.reduceMul, Nat.reduceLT, reduceCtorEq, Value.cells, setN, Value.oneCell', Nat.reduceLeDiff, undef, fcT, g0, g1', g2', g4, g5, g6, g7, g8, g20, g21, g22, d2, ca1, Nat.mul_one]
            refine hK _ _ _ ⟨j + 1, A8, c8, by omega, by omega, ?_, ?_, ?_, ?_, ?_, ?_, ?_, ?_, ?_, hs.trans (hs7.trans hs8), by omega, by rw [hnext]; exact hc8, by rw [hnext]; exact hR8⟩
            all_goals (try (simp (disch := omega) only [bsW, WOp, WOq, WV, bo, gdc, gw, bnd, ↓reduceIte, Nat.reduceEqDiff, rsvs, rsv, oneOf, rdN, ne_eq, Nat.reduceAdd, Nat.reduceMul, Nat.reduceLT, reduceCtorEq, Value.cells, setN, Value.oneCell', Nat.reduceLeDiff, undef, fcT, g0, g1', g2', g4, g5, g6, g7, g8, g20, g21, g22, d2, ca1, Nat.mul_one]))
            all_goals first | (rw [hnext]; done) | exact vi (by omega)

      · rintro fr2 H2 nx2 ⟨q, hm2, _⟩; omega
      · refine ⟨0, by omega, by omega, ?_, ?_, ?_, ?_, ?_, ?_, ?_, ?_, ?_, ?_, ?_, rfl, rfl⟩
        all_goals (simp (disch := omega) only [bsW, WOp, WOq, WV, bo, gdc, gw, bnd, ↓reduceIte, Nat.reduceEqDiff, rsvs, rsv, oneOf, rdN, ne_eq, Nat.reduceAdd, Nat.reduceMul, Nat.reduceLT, reduceCtorEq, Value.cells, setN, Value.oneCell', Nat.reduceLeDiff, undef, fcT, f0, f1, f2, f4, f5, f6, f7, f8, f20, List.take_zero, List.all_nil, Int.natCast_zero])
    · rintro fr H' nx' ⟨j, A, c, hmm, _⟩; omega
    · first
      | exact ⟨0, Ab, cb, by omega, by omega, by simp (disch := omega) only [bsW, WOp, WOq, WV, bo, gdc, gw, bnd, ↓reduceIte, Nat.reduceEqDiff, rsvs, rsv, oneOf, rdN, ne_eq, Nat.reduceAdd, Nat.reduceMul, Nat.reduceLT, reduceCtorEq, Value.cells, setN, Value.oneCell', Nat.reduceLeDiff, undef, fcT], by simp (disch := omega) only [bsW, WOp, WOq, WV, bo, gdc, gw, bnd, ↓reduceIte, Nat.reduceEqDiff, rsvs, rsv, oneOf, rdN, ne_eq, Nat.reduceAdd, Nat.reduceMul, Nat.reduceLT, reduceCtorEq, Value.cells, setN, Value.oneCell', Nat.reduceLeDiff, undef, fcT], by simp (disch := omega) only [bsW, WOp, WOq, WV, bo, gdc, gw, bnd, ↓reduceIte, Nat.reduceEqDiff, rsvs, rsv, oneOf, rdN, ne_eq, Nat.reduceAdd, Nat.reduceMul, Nat.reduceLT, reduceCtorEq, Value.cells, setN, Value.oneCell', Nat.reduceLeDiff, undef, fcT], by simp (disch := omega) only [bsW, WOp, WOq, WV, bo, gdc, gw, bnd, ↓reduceIte, Nat.reduceEqDiff, rsvs, rsv, oneOf, rdN, ne_eq, Nat.reduceAdd, Nat.reduceMul, Nat.reduceLT, reduceCtorEq, Value.cells, setN, Value.oneCell', Nat.reduceLeDiff, undef, fcT], by simp (disch := omega) only [bsW, WOp, WOq, WV, bo, gdc, gw, bnd, ↓reduceIte, Nat.reduceEqDiff, rsvs, rsv, oneOf, rdN, ne_eq, Nat.reduceAdd, Nat.reduceMul, Nat.reduceLT, reduceCtorEq, Value.cells, setN, Value.oneCell', Nat.reduceLeDiff, undef, fcT], by (simp (disch := omega) only [bsW, WOp, WOq, WV, bo, gdc, gw, bnd, ↓reduceIte, Nat.reduceEqDiff, rsvs, rsv, oneOf, rdN, ne_eq, Nat.reduceAdd, Nat.reduceMul, Nat.reduceLT, reduceCtorEq, Value.cells, setN, Value.oneCell', Nat.reduceLeDiff, undef, fcT]) <;> rw [restS, eU], by (simp (disch := omega) only [bsW, WOp, WOq, WV, bo, gdc, gw, bnd, ↓reduceIte, Nat.reduceEqDiff, rsvs, rsv, oneOf, rdN, ne_eq, Nat.reduceAdd, Nat.reduceMul, Nat.reduceLT, reduceCtorEq, Value.cells, setN, Value.oneCell', Nat.reduceLeDiff, undef, fcT]) <;> rw [restS, eU], by simp (disch := omega) only [bsW, WOp, WOq, WV, bo, gdc, gw, bnd, ↓reduceIte, Nat.reduceEqDiff, rsvs, rsv, oneOf, rdN, ne_eq, Nat.reduceAdd, Nat.reduceMul, Nat.reduceLT, reduceCtorEq, Value.cells, setN, Value.oneCell', Nat.reduceLeDiff, undef, fcT], by simp (disch := omega) only [bsW, WOp, WOq, WV, bo, gdc, gw, bnd, ↓reduceIte, Nat.reduceEqDiff, rsvs, rsv, oneOf, rdN, ne_eq, Nat.reduceAdd, Nat.reduceMul, Nat.reduceLT, reduceCtorEq, Value.cells, setN, Value.oneCell', Nat.reduceLeDiff, undef, fcT, Nat.add_zero], Sub.refl _, Nat.le_refl _, by rw [restS, eU]; exact hcb, by rw [restS, eU]; exact hb⟩
      | exact ⟨0, At, ct, by omega, by omega, by simp (disch := omega) only [bsW, WOp, WOq, WV, bo, gdc, gw, bnd, ↓reduceIte, Nat.reduceEqDiff, rsvs, rsv, oneOf, rdN, ne_eq, Nat.reduceAdd, Nat.reduceMul, Nat.reduceLT, reduceCtorEq, Value.cells, setN, Value.oneCell', Nat.reduceLeDiff, undef, fcT], by simp (disch := omega) only [bsW, WOp, WOq, WV, bo, gdc, gw, bnd, ↓reduceIte, Nat.reduceEqDiff, rsvs, rsv, oneOf, rdN, ne_eq, Nat.reduceAdd, Nat.reduceMul, Nat.reduceLT, reduceCtorEq, Value.cells, setN, Value.oneCell', Nat.reduceLeDiff, undef, fcT], by simp (disch := omega) only [bsW, WOp, WOq, WV, bo, gdc, gw, bnd, ↓reduceIte, Nat.reduceEqDiff, rsvs, rsv, oneOf, rdN, ne_eq, Nat.reduceAdd, Nat.reduceMul, Nat.reduceLT, reduceCtorEq, Value.cells, setN, Value.oneCell', Nat.reduceLeDiff, undef, fcT], by simp (disch := omega) only [bsW, WOp, WOq, WV, bo, gdc, gw, bnd, ↓reduceIte, Nat.reduceEqDiff, rsvs, rsv, oneOf, rdN, ne_eq, Nat.reduceAdd, Nat.reduceMul, Nat.reduceLT, reduceCtorEq, Value.cells, setN, Value.oneCell', Nat.reduceLeDiff, undef, fcT], by simp (disch := omega) only [bsW, WOp, WOq, WV, bo, gdc, gw, bnd, ↓reduceIte, Nat.reduceEqDiff, rsvs, rsv, oneOf, rdN, ne_eq, Nat.reduceAdd, Nat.reduceMul, Nat.reduceLT, reduceCtorEq, Value.cells, setN, Value.oneCell', Nat.reduceLeDiff, undef, fcT], by (simp (disch := omega) only [bsW, WOp, WOq, WV, bo, gdc, gw, bnd, ↓reduceIte, Nat.reduceEqDiff, rsvs, rsv, oneOf, rdN, ne_eq, Nat.reduceAdd, Nat.reduceMul, Nat.reduceLT, reduceCtorEq, Value.cells, setN, Value.oneCell', Nat.reduceLeDiff, undef, fcT]) <;> rw [restS, eU], by (simp (disch := omega) only [bsW, WOp, WOq, WV, bo, gdc, gw, bnd, ↓reduceIte, Nat.reduceEqDiff, rsvs, rsv, oneOf, rdN, ne_eq, Nat.reduceAdd, Nat.reduceMul, Nat.reduceLT, reduceCtorEq, Value.cells, setN, Value.oneCell', Nat.reduceLeDiff, undef, fcT]) <;> rw [restS, eU], by simp (disch := omega) only [bsW, WOp, WOq, WV, bo, gdc, gw, bnd, ↓reduceIte, Nat.reduceEqDiff, rsvs, rsv, oneOf, rdN, ne_eq, Nat.reduceAdd, Nat.reduceMul, Nat.reduceLT, reduceCtorEq, Value.cells, setN, Value.oneCell', Nat.reduceLeDiff, undef, fcT], by simp (disch := omega) only [bsW, WOp, WOq, WV, bo, gdc, gw, bnd, ↓reduceIte, Nat.reduceEqDiff, rsvs, rsv, oneOf, rdN, ne_eq, Nat.reduceAdd, Nat.reduceMul, Nat.reduceLT, reduceCtorEq, Value.cells, setN, Value.oneCell', Nat.reduceLeDiff, undef, fcT, Nat.add_zero], Sub.refl _, Nat.le_refl _, by rw [restS, eU]; exact hct, by rw [restS, eU]; exact ht⟩
end Go.Proofs.Ytnaldmmdhpobgaa
