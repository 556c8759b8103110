/- The reference's best exchange. -/
import Derived.Test.YtnaldmmdhpobgaaV20
import Derived.Test.YtnaldmmdhpobgaaV13
set_option linter.unusedVariables false
set_option linter.unusedSimpArgs false
set_option maxRecDepth 100000
set_option maxHeartbeats 1000000
namespace Go.Proofs.Ytnaldmmdhpobgaa
open Go Go.RowKit Go.Proofs

theorem l20Search (n m : Nat) (f : Nat → Nat → Int) (Aw Aa : Option Addr) (cw ca : Nat) (ls : List (List Int)) (cnt : Bool)
    (hok : wssOk (n : Int) m f) (hwb : ∀ k, k < ls.length → (rowOf ls k).length ≤ 8 ∧ 0 ≤ wC (n : Int) m f cnt (rowOf ls k) ∧ wC (n : Int) m f cnt (rowOf ls k) ≤ 8000) (hls : ls.length ≤ 1000000) (hcr : ∀ i, i < ls.length → crOk (n : Int) m f (rowOf ls i).length (rowL (rowOf ls i))) :
    ∀ (u first : Nat) (bg : List (List Int)) (val : Int) (t : List (List Int) × Int) (Ab At : Option Addr) (cb ct : Nat) (H : Hp) (nx : Nat), ls.length - first ≤ u → SrP ls bg first val → TP ls t →
      Rd H Aw m 3 f → RdLL H Aa ls → RdLL H Ab bg → RdLL H At t.1 → bg.length ≤ cb → t.1.length ≤ ct →
      AC Try.prog 62 #[.int .i64 n, .slice Aw m cw, .slice Aa ls.length ca, .int .i64 first, .slice Ab bg.length cb, .int .i64 val, .slice At t.1.length ct, .int .i64 t.2, .bool cnt] H nx (SrK H (srch ls (wC n m f cnt) updS u first bg val t)) := by
  intro u
  induction u with
  | zero =>
    intro first bg val t Ab At cb ct H nx hu hp htp hw ha hb ht hcb hct
    have := l20Search_step n m f Aw Aa cw ca ls cnt (fun _ _ _ t => t) hok hwb hls hcr first bg val t Ab At cb ct H nx hp htp (fun k h1 h2 => by omega) (fun k h1 h2 => by omega) hw ha hb ht hcb hct
    rw [show ls.length - first = 0 by omega] at this
    exact this
  | succ u ih =>
    intro first bg val t Ab At cb ct H nx hu hp htp hw ha hb ht hcb hct
    refine l20Search_step n m f Aw Aa cw ca ls cnt (srch ls (wC n m f cnt) updS u) hok hwb hls hcr first bg val t Ab At cb ct H nx hp htp (fun k h1 h2 t' ht' => srch_TP hwb u (k + 1) _ _ t' (hp.next h1 h2 (hwb k h2).1 (hwb k h2).2) ht') (fun k h1 h2 t' Ab At cb ct H nx ht' hw ha hb ht hcb hct => ?_) hw ha hb ht hcb hct
    have := ih (k + 1) (bg ++ [rowOf ls k]) (val + wC (n : Int) m f cnt (rowOf ls k)) t' Ab At cb ct H nx (by omega) (hp.next h1 h2 (hwb k h2).1 (hwb k h2).2) ht' hw ha hb ht hcb hct
    rw [Int.natCast_add, Int.natCast_one] at this
    exact this
/-- What is known of all circles. -/
theorem allC_all {n m : Nat} {f : Nat → Nat → Int} (hok : wssOk (n : Int) m f) : (allC n m f n).length ≤ 1000000 ∧ (∀ i, i < (allC n m f n).length → crOk (n : Int) m f (rowOf (allC n m f n) i).length (rowL (rowOf (allC n m f n) i))) ∧ ∀ i, i < (allC n m f n).length → (rowOf (allC n m f n) i).length ≤ 8 := by
  have h1 := allC_len (m := m) (f := f) (show n ≤ 8 by have := hok.1; omega) n (Nat.le_refl _)
  have h8 := hok.1
  have hcr : ∀ i, i < (allC n m f n).length → crOk (n : Int) m f (rowOf (allC n m f n) i).length (rowL (rowOf (allC n m f n) i)) := fun i hi => allC_ok n (Nat.le_refl _) _ (rowOf_mem hi)
  exact ⟨by omega, hcr, fun i hi => by have := (hcr i hi).1.2.2; omega⟩
theorem wC_bd {n m : Nat} {f : Nat → Nat → Int} (hok : wssOk (n : Int) m f) (cnt : Bool) : ∀ k, k < (allC n m f n).length → (rowOf (allC n m f n) k).length ≤ 8 ∧ 0 ≤ wC (n : Int) m f cnt (rowOf (allC n m f n) k) ∧ wC (n : Int) m f cnt (rowOf (allC n m f n) k) ≤ 8000 := by
  intro k hk
  have h8 := (allC_all hok).2.2 k hk
  refine ⟨h8, ?_⟩
  unfold wC
  cases cnt
  · rw [if_neg (by simp)]
    exact sumV_bd hok
  · rw [if_pos rfl]
    omega
theorem SrP.zero {ls : List (List Int)} : SrP ls [] 0 0 := ⟨Nat.zero_le _, Nat.le_refl _, fun i hi => by simp at hi, by omega⟩
theorem TP.zero {ls : List (List Int)} : TP ls ([], 0) := ⟨Nat.zero_le _, fun i hi => by simp at hi, by omega⟩
theorem RdLL.nil {H : Hp} {A : Option Addr} : RdLL H A [] := ⟨⟨fun _ => none, fun _ => 0, RdV.zero, fun i hi => by simp at hi⟩⟩
/-- The best exchange and its value. -/
noncomputable def bestX (n m : Nat) (f : Nat → Nat → Int) (cnt : Bool) : List (List Int) × Int := srch (allC n m f n) (wC n m f cnt) updS (allC n m f n).length 0 [] 0 ([], 0)
noncomputable def vMost (N : Int) (m : Nat) (f : Nat → Nat → Int) : Value := if wssB N m f = true ∧ N ≤ 6 then .tuple #[.int .i64 (bestX N.toNat m f true).2, .bool true] else .tuple #[.int .i64 0, .bool false]
theorem sMostPeople (N : Int) (Aw : Option Addr) (m cw : Nat) (f : Nat → Nat → Int) (H : Hp) (nx : Nat) (hN : -9223372036854775808 ≤ N ∧ N ≤ 9223372036854775807) (hm : m ≤ 9223372036854775807) (hw : Rd H Aw m 3 f) :
    PC Try.prog 37 #[.int .i64 N, .slice Aw m cw] H nx (vMost N m f) := by
  refine AC_of x_spec_MostPeople rfl fun hB => ?_
  by_cases hok : wssOk N m f
  case neg =>
    have e := wssB_no hok
    rw [vMost, if_neg (by rw [e]; simp)]
    simp (disch := omega) only [bsW, WOp, WOq, WV, bo, gdc, gw, bnd, ↓reduceIte, Nat.reduceEqDiff, rsvs, rsv, oneOf, rdN, ne_eq, Nat.reduceAdd, Nat.reduceMul, Nat.reduceLT, reduceCtorEq, Value.cells, setN, Value.oneCell', Nat.reduceLeDiff, undef, fcT, e, Bool.not_false, c_spec_MostPeople]
    (repeat' (first | ((with_reducible refine gif_split (fun hs_ => ?_) (fun hs_ => ?_)) <;> (have hp_ := hs_; (try simp only [hpL, ne_eq] at hp_); (try simp (disch := omega) only [bsW, WOp, WOq, WV, bo, gdc, gw, bnd, ↓reduceIte, Nat.reduceEqDiff, rsvs, rsv, oneOf, rdN, ne_eq, Nat.reduceAdd, Nat.reduceMul, Nat.reduceLT, reduceCtorEq, Value.cells, setN, Value.oneCell', Nat.reduceLeDiff, undef, fcT, e, Bool.not_false, hs_]))) | ((first | (with_reducible refine newB_i (fun nb_ hb_ => ?_)) | ((with_reducible show QC _ _ _ _ _ _); (first | (refine QC_i (l20Good N _ _ _ f _ _ hm hN hw) ?_))) | ((with_reducible show AC _ _ _ _ _ _); (first | (refine PC.ac (l20Good N _ _ _ f _ _ hm hN hw) ?_))) | (with_reducible refine RgE_i (fun (hBd_ : Bd _ _) => ?_))); (try simp (disch := omega) only [bsW, WOp, WOq, WV, bo, gdc, gw, bnd, ↓reduceIte, Nat.reduceEqDiff, rsvs, rsv, oneOf, rdN, ne_eq, Nat.reduceAdd, Nat.reduceMul, Nat.reduceLT, reduceCtorEq, Value.cells, setN, Value.oneCell', Nat.reduceLeDiff, undef, fcT, e, Bool.not_false])) | (with_reducible refine fun (hBd_ : Bd _ _) => ?_) | ((first | (with_reducible refine @And.intro (Sub _ _) _ ?_ ?_) | ((with_reducible refine @And.intro (Sub _ _ ∧ _) _ ?_ ?_); (with_reducible refine @And.intro (Sub _ _) _ ?_ ?_))); exact sbX) | ((with_reducible refine And.intro ?_ ?_); omega)))
    exact Is_i (Sub.refl _)
  have e := wssB_iff.2 hok
  have hN8 := hok.1
  by_cases h6 : N ≤ 6
  case neg =>
    have d1 : decide ((6 : Int) < N) = true := decide_eq_true (by omega)
    rw [vMost, if_neg (fun h => h6 h.2)]
    simp (disch := omega) only [bsW, WOp, WOq, WV, bo, gdc, gw, bnd, ↓reduceIte, Nat.reduceEqDiff, rsvs, rsv, oneOf, rdN, ne_eq, Nat.reduceAdd, Nat.reduceMul, Nat.reduceLT, reduceCtorEq, Value.cells, setN, Value.oneCell', Nat.reduceLeDiff, undef, fcT, e, Bool.not_true, d1, c_spec_MostPeople]
    (repeat' (first | ((with_reducible refine gif_split (fun hs_ => ?_) (fun hs_ => ?_)) <;> (have hp_ := hs_; (try simp only [hpL, ne_eq] at hp_); (try simp (disch := omega) only [bsW, WOp, WOq, WV, bo, gdc, gw, bnd, ↓reduceIte, Nat.reduceEqDiff, rsvs, rsv, oneOf, rdN, ne_eq, Nat.reduceAdd, Nat.reduceMul, Nat.reduceLT, reduceCtorEq, Value.cells, setN, Value.oneCell', Nat.reduceLeDiff, undef, fcT, e, Bool.not_true, d1, hs_]))) | ((first | (with_reducible refine newB_i (fun nb_ hb_ => ?_)) | ((with_reducible show QC _ _ _ _ _ _); (first | (refine QC_i (l20Good N _ _ _ f _ _ hm hN hw) ?_))) | ((with_reducible show AC _ _ _ _ _ _); (first | (refine PC.ac (l20Good N _ _ _ f _ _ hm hN hw) ?_))) | (with_reducible refine RgE_i (fun (hBd_ : Bd _ _) => ?_))); (try simp (disch := omega) only [bsW, WOp, WOq, WV, bo, gdc, gw, bnd, ↓reduceIte, Nat.reduceEqDiff, rsvs, rsv, oneOf, rdN, ne_eq, Nat.reduceAdd, Nat.reduceMul, Nat.reduceLT, reduceCtorEq, Value.cells, setN, Value.oneCell', Nat.reduceLeDiff, undef, fcT, e, Bool.not_true, d1])) | (with_reducible refine fun (hBd_ : Bd _ _) => ?_) | ((first | (with_reducible refine @And.intro (Sub _ _) _ ?_ ?_) | ((with_reducible refine @And.intro (Sub _ _ ∧ _) _ ?_ ?_); (with_reducible refine @And.intro (Sub _ _) _ ?_ ?_))); exact sbX) | ((with_reducible refine And.intro ?_ ?_); omega)))
    exact Is_i (Sub.refl _)
  have d1 : decide ((6 : Int) < N) = false := decide_eq_false (by omega)
  rw [vMost, if_pos ⟨e, h6⟩]
  obtain ⟨n, rfl⟩ : ∃ n : Nat, N = (n : Int) := ⟨N.toNat, by omega⟩
  rw [Int.toNat_natCast]
  obtain ⟨hl, hcr, hr8⟩ := allC_all hok
  simp (disch := omega) only [bsW, WOp, WOq, WV, bo, gdc, gw, bnd, ↓reduceIte, Nat.reduceEqDiff, rsvs, rsv, oneOf, rdN, ne_eq, Nat.reduceAdd, Nat.reduceMul, Nat.reduceLT, reduceCtorEq, Value.cells, setN, Value.oneCell', Nat.reduceLeDiff, undef, fcT, e, Bool.not_true, d1, c_spec_MostPeople]
  (repeat' (first | ((with_reducible refine gif_split (fun hs_ => ?_) (fun hs_ => ?_)) <;> (have hp_ := hs_; (try simp only [hpL, ne_eq] at hp_); (try simp (disch := omega) only [bsW, WOp, WOq, WV, bo, gdc, gw, bnd, ↓reduceIte, Nat.reduceEqDiff, rsvs, rsv, oneOf, rdN, ne_eq, Nat.reduceAdd, Nat.reduceMul, Nat.reduceLT, reduceCtorEq, Value.cells, setN, Value.oneCell', Nat.reduceLeDiff, undef, fcT, e, Bool.not_true, d1, hs_]))) | ((first | (with_reducible refine newB_i (fun nb_ hb_ => ?_)) | ((with_reducible show QC _ _ _ _ _ _); (first | (refine QC_i (l20Good (n : Int) _ _ _ f _ _ hm hN hw) ?_))) | ((with_reducible show AC _ _ _ _ _ _); (first | (refine PC.ac (l20Good (n : Int) _ _ _ f _ _ hm hN hw) ?_))) | (with_reducible refine RgE_i (fun (hBd_ : Bd _ _) => ?_))); (try simp (disch := omega) only [bsW, WOp, WOq, WV, bo, gdc, gw, bnd, ↓reduceIte, Nat.reduceEqDiff, rsvs, rsv, oneOf, rdN, ne_eq, Nat.reduceAdd, Nat.reduceMul, Nat.reduceLT, reduceCtorEq, Value.cells, setN, Value.oneCell', Nat.reduceLeDiff, undef, fcT, e, Bool.not_true, d1])) | (with_reducible refine fun (hBd_ : Bd _ _) => ?_) | ((first | (with_reducible refine @And.intro (Sub _ _) _ ?_ ?_) | ((with_reducible refine @And.intro (Sub _ _ ∧ _) _ ?_ ?_); (with_reducible refine @And.intro (Sub _ _) _ ?_ ?_))); exact sbX) | ((with_reducible refine And.intro ?_ ?_); omega)))
  refine (l20All n m f Aw cw hok H nx hw).monoC ?_
  rintro v3 H3 nx3 hB3 hx3 ⟨hO3, ht3⟩
  obtain ⟨A3, q3, rfl, hq3, hR3⟩ := hO3.rd
  simp (disch := omega) only [bsW, WOp, WOq, WV, bo, gdc, gw, bnd, ↓reduceIte, Nat.reduceEqDiff, rsvs, rsv, oneOf, rdN, ne_eq, Nat.reduceAdd, Nat.reduceMul, Nat.reduceLT, reduceCtorEq, Value.cells, setN, Value.oneCell', Nat.reduceLeDiff, undef, fcT]
  (repeat' (first | ((with_reducible refine gif_split (fun hs_ => ?_) (fun hs_ => ?_)) <;> (have hp_ := hs_; (try simp only [hpL, ne_eq] at hp_); (try simp (disch := omega) only [bsW, WOp, WOq, WV, bo, gdc, gw, bnd, ↓reduceIte, Nat.reduceEqDiff, rsvs, rsv, oneOf, rdN, ne_eq, Nat.reduceAdd, Nat.reduceMul, Nat.reduceLT, reduceCtorEq, Value.cells, setN, Value.oneCell', Nat.reduceLeDiff, undef, fcT, hs_]))) | ((first | (with_reducible refine newB_i (fun nb_ hb_ => ?_)) | (with_reducible refine RgE_i (fun (hBd_ : Bd _ _) => ?_))); (try simp (disch := omega) only [bsW, WOp, WOq, WV, bo, gdc, gw, bnd, ↓reduceIte, Nat.reduceEqDiff, rsvs, rsv, oneOf, rdN, ne_eq, Nat.reduceAdd, Nat.reduceMul, Nat.reduceLT, reduceCtorEq, Value.cells, setN, Value.oneCell', Nat.reduceLeDiff, undef, fcT])) | (with_reducible refine fun (hBd_ : Bd _ _) => ?_) | ((first | (with_reducible refine @And.intro (Sub _ _) _ ?_ ?_) | ((with_reducible refine @And.intro (Sub _ _ ∧ _) _ ?_ ?_); (with_reducible refine @And.intro (Sub _ _) _ ?_ ?_))); exact sbX) | ((with_reducible refine And.intro ?_ ?_); omega)))
  rename_i z1 hz1
  have ht8 : Sub H3 (upd (upd H3 z1 (.rw [] 23)) nb_ (.rw [] 23)) := (sub_new hB3 hz1).trans (sub_new (Bd.up hB3 hz1) hb_)
  have ht9 := ht3.trans ht8
  refine (l20Search n m f Aw A3 cw q3 (allC n m f n) true hok (wC_bd hok true) hl hcr (allC n m f n).length 0 [] 0 ([], 0) (some ⟨z1, 0, none⟩) (some ⟨nb_, 0, none⟩) 0 0 _ _ (by omega) .zero .zero (hw.sub ht9) (hR3.sub ht8) .nil .nil (Nat.le_refl _) (Nat.le_refl _)).monoC ?_
  rintro v5 H5 nx5 hB5 hx5 ⟨⟨A5, c5, rfl, hc5, hR5⟩, hs5⟩
  simp (disch := omega) only [bsW, WOp, WOq, WV, bo, gdc, gw, bnd, ↓reduceIte, Nat.reduceEqDiff, rsvs, rsv, oneOf, rdN, ne_eq, Nat.reduceAdd, Nat.reduceMul, Nat.reduceLT, reduceCtorEq, Value.cells, setN, Value.oneCell', Nat.reduceLeDiff, undef, fcT]
  (repeat' (first | ((with_reducible refine gif_split (fun hs_ => ?_) (fun hs_ => ?_)) <;> (have hp_ := hs_; (try simp only [hpL, ne_eq] at hp_); (try simp (disch := omega) only [bsW, WOp, WOq, WV, bo, gdc, gw, bnd, ↓reduceIte, Nat.reduceEqDiff, rsvs, rsv, oneOf, rdN, ne_eq, Nat.reduceAdd, Nat.reduceMul, Nat.reduceLT, reduceCtorEq, Value.cells, setN, Value.oneCell', Nat.reduceLeDiff, undef, fcT, hs_]))) | ((first | (with_reducible refine newB_i (fun nb_ hb_ => ?_)) | (with_reducible refine RgE_i (fun (hBd_ : Bd _ _) => ?_))); (try simp (disch := omega) only [bsW, WOp, WOq, WV, bo, gdc, gw, bnd, ↓reduceIte, Nat.reduceEqDiff, rsvs, rsv, oneOf, rdN, ne_eq, Nat.reduceAdd, Nat.reduceMul, Nat.reduceLT, reduceCtorEq, Value.cells, setN, Value.oneCell', Nat.reduceLeDiff, undef, fcT])) | (with_reducible refine fun (hBd_ : Bd _ _) => ?_) | ((first | (with_reducible refine @And.intro (Sub _ _) _ ?_ ?_) | ((with_reducible refine @And.intro (Sub _ _ ∧ _) _ ?_ ?_); (with_reducible refine @And.intro (Sub _ _) _ ?_ ?_))); exact sbX) | ((with_reducible refine And.intro ?_ ?_); omega)))
  exact Is_i (ht9.trans hs5)
end Go.Proofs.Ytnaldmmdhpobgaa
