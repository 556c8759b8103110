/- The law BasketIn: the call gives true. -/
import Derived.Test.YtgjkjibllgpnjaaP8
import Derived.Test.YtgjkjibllgpnjaaE
import Derived.Test.YtgjkjibllgpnjaaS5
import Derived.Test.YtgjkjibllgpnjaaRows
set_option linter.unusedVariables false
set_option linter.unusedSimpArgs false
set_option maxRecDepth 100000
set_option maxHeartbeats 1000000
namespace Go.Proofs.Ytgjkjibllgpnjaa
open Go Go.RowKit Go.Proofs
theorem lawBasketIn (H : Hp) (nx : Nat) (A0 : Option Addr) (n0 c0 : Nat) (f0 : Nat → Nat → Int) (hn0 : n0 ≤ 17592186044416) (h0 : Rd H A0 n0 3 f0) (A1 : Option Addr) (n1 c1 : Nat) (f1 : Nat → Nat → Int) (hn1 : n1 ≤ 17592186044416) (h1 : Rd H A1 n1 1 f1) (b2 : Int) (hb2 : -9223372036854775808 ≤ b2 ∧ b2 ≤ 9223372036854775807) :
    PC Try.prog 10 #[.slice A0 n0 c0, .slice A1 n1 c1, .int .i64 b2] H nx (.bool true) := by
  obtain ⟨x0, x1, x2, hv⟩ : ∃ x0 x1 x2, vBasket n0 f0 n1 f1 b2 = .tuple #[.int .i64 x0, .int .i64 x1, .bool x2] := by unfold vBasket; split <;> exact ⟨_, _, _, rfl⟩
  have hS : ∀ (H' : Hp) (nx' : Nat) (A0' : Option Addr) (A1' : Option Addr) (h0' : Rd H' A0' n0 3 f0) (h1' : Rd H' A1' n1 1 f1), PC Try.prog 33 #[.slice A0' n0 n0, .slice A1' n1 n1, .int .i64 b2] H' nx' (.tuple #[.int .i64 x0, .int .i64 x1, .bool x2]) := by
    intro H' nx' A0' A1' h0' h1'
    rw [← hv]
    exact sBasketIn A0' A1' n0 n0 n1 n1 f0 f1 b2 H' nx' hn0 hn1 h0' h1'
  have hI : ∀ (H' : Hp) (nx' : Nat) (A0' : Option Addr) (A1' : Option Addr) (h0' : Rd H' A0' n0 3 f0) (h1' : Rd H' A1' n1 1 f1), PC Try.prog 35 #[.slice A0' n0 n0, .slice A1' n1 n1, .int .i64 b2] H' nx' (.tuple #[.int .i64 x0, .int .i64 x1, .bool x2]) := by
    intro H' nx' A0' A1' h0' h1'
    rw [← hv]
    exact BasketIn A0' A1' n0 n0 n1 n1 f0 f1 b2 H' nx' hn0 hn1 h0' h1'
  refine AC_of x_laws_FnExactBasketIn rfl fun hB => ?_
  simp (disch := omega) only [bsW, WOp, WOq, WV, bo, gdc, gw, bnd, ↓reduceIte, Nat.reduceEqDiff, rsvs, rsv, oneOf, rdN, ne_eq, Nat.reduceAdd, Nat.reduceMul, Nat.reduceLT, reduceCtorEq, Value.cells, setN, Value.oneCell', Nat.reduceLeDiff, undef, fcT, c_laws_FnExactBasketIn]
  (repeat' (first | ((refine gif_split (fun hs_ => ?_) (fun hs_ => ?_)) <;> (have hp_ := hs_; (try simp only [decide_eq_true_eq, decide_eq_false_iff_not, beq_iff_eq, bne_iff_ne, beq_eq_false_iff_ne, Bool.not_eq_true, Bool.and_eq_true, Bool.or_eq_true, Bool.and_eq_false_iff, Bool.or_eq_false_iff, bne_eq_false_iff_eq, ne_eq] at hp_); (try simp (disch := omega) only [bsW, WOp, WOq, WV, bo, gdc, gw, bnd, ↓reduceIte, Nat.reduceEqDiff, rsvs, rsv, oneOf, rdN, ne_eq, Nat.reduceAdd, Nat.reduceMul, Nat.reduceLT, reduceCtorEq, Value.cells, setN, Value.oneCell', Nat.reduceLeDiff, undef, fcT, hs_]))) | ((refine newB_i (fun nb_ hb_ => ?_)); (try simp (disch := omega) only [bsW, WOp, WOq, WV, bo, gdc, gw, bnd, ↓reduceIte, Nat.reduceEqDiff, rsvs, rsv, oneOf, rdN, ne_eq, Nat.reduceAdd, Nat.reduceMul, Nat.reduceLT, reduceCtorEq, Value.cells, setN, Value.oneCell', Nat.reduceLeDiff, undef, fcT])) | ((first | (refine QC_i (szPriceRow A0 n0 c0 _ _ _ hn0 (by omega)) ?_) | (refine PC.ac (szPriceRow A0 n0 c0 _ _ _ hn0 (by omega)) ?_)); (try simp (disch := omega) only [bsW, WOp, WOq, WV, bo, gdc, gw, bnd, ↓reduceIte, Nat.reduceEqDiff, rsvs, rsv, oneOf, rdN, ne_eq, Nat.reduceAdd, Nat.reduceMul, Nat.reduceLT, reduceCtorEq, Value.cells, setN, Value.oneCell', Nat.reduceLeDiff, undef, fcT])) | (refine fun (hBd_ : Bd _ _) => ?_) | (refine And.intro (Sub.refl _) ?_) | (refine And.intro (sub_new (by assumption) (by assumption)) ?_) | (refine And.intro ?_ ?_; omega)))
  · exact Is_i (Sub.refl H)
  · exact Is_i (Sub.refl H)
  · have hn0' : n0 ≤ 1048576 := sz1 (by with_reducible assumption)
    have hn1' : n1 ≤ 1048576 := by omega
    have hs0 : Sub H H := Sub.refl H
    refine (toPriceRowS _ _ _ _ _ _ hn0' (h0.sub hs0)).mono ?_
    rintro v1 H1 nx1 ⟨⟨q1, rfl, hq1, hl1, hc1⟩, ht1⟩
    have hs1 := hs0.trans ht1
    simp (disch := omega) only [bsW, WOp, WOq, WV, bo, gdc, gw, bnd, ↓reduceIte, Nat.reduceEqDiff, rsvs, rsv, oneOf, rdN, ne_eq, Nat.reduceAdd, Nat.reduceMul, Nat.reduceLT, reduceCtorEq, Value.cells, setN, Value.oneCell', Nat.reduceLeDiff, undef, fcT]
    refine (toIntS _ _ _ _ _ _ hn1' (h1.sub hs1)).mono ?_
    rintro v2 H2 nx2 ⟨⟨q2, rfl, hq2, hl2, hc2⟩, ht2⟩
    have hs2 := hs1.trans ht2
    replace hc1 := ht2 _ _ hc1
    simp (disch := omega) only [bsW, WOp, WOq, WV, bo, gdc, gw, bnd, ↓reduceIte, Nat.reduceEqDiff, rsvs, rsv, oneOf, rdN, ne_eq, Nat.reduceAdd, Nat.reduceMul, Nat.reduceLT, reduceCtorEq, Value.cells, setN, Value.oneCell', Nat.reduceLeDiff, undef, fcT]
    (repeat' (first | ((refine gif_split (fun hs_ => ?_) (fun hs_ => ?_)) <;> (have hp_ := hs_; (try simp only [decide_eq_true_eq, decide_eq_false_iff_not, beq_iff_eq, bne_iff_ne, beq_eq_false_iff_ne, Bool.not_eq_true, Bool.and_eq_true, Bool.or_eq_true, Bool.and_eq_false_iff, Bool.or_eq_false_iff, bne_eq_false_iff_eq, ne_eq] at hp_); (try simp (disch := omega) only [bsW, WOp, WOq, WV, bo, gdc, gw, bnd, ↓reduceIte, Nat.reduceEqDiff, rsvs, rsv, oneOf, rdN, ne_eq, Nat.reduceAdd, Nat.reduceMul, Nat.reduceLT, reduceCtorEq, Value.cells, setN, Value.oneCell', Nat.reduceLeDiff, undef, fcT, hs_]))) | ((refine newB_i (fun nb_ hb_ => ?_)); (try simp (disch := omega) only [bsW, WOp, WOq, WV, bo, gdc, gw, bnd, ↓reduceIte, Nat.reduceEqDiff, rsvs, rsv, oneOf, rdN, ne_eq, Nat.reduceAdd, Nat.reduceMul, Nat.reduceLT, reduceCtorEq, Value.cells, setN, Value.oneCell', Nat.reduceLeDiff, undef, fcT])) | ((first | (refine QC_i (hS _ _ _ _ (Rd.of hc1) (Rd.of hc2)) ?_) | (refine PC.ac (hS _ _ _ _ (Rd.of hc1) (Rd.of hc2)) ?_)); (try simp (disch := omega) only [bsW, WOp, WOq, WV, bo, gdc, gw, bnd, ↓reduceIte, Nat.reduceEqDiff, rsvs, rsv, oneOf, rdN, ne_eq, Nat.reduceAdd, Nat.reduceMul, Nat.reduceLT, reduceCtorEq, Value.cells, setN, Value.oneCell', Nat.reduceLeDiff, undef, fcT])) | (refine fun (hBd_ : Bd _ _) => ?_) | (refine And.intro (Sub.refl _) ?_) | (refine And.intro (sub_new (by assumption) (by assumption)) ?_) | (refine And.intro ?_ ?_; omega)))
    refine (toPriceRowS _ _ _ _ _ _ hn0' (h0.sub hs2)).mono ?_
    rintro v3 H3 nx3 ⟨⟨q3, rfl, hq3, hl3, hc3⟩, ht3⟩
    have hs3 := hs2.trans ht3
    simp (disch := omega) only [bsW, WOp, WOq, WV, bo, gdc, gw, bnd, ↓reduceIte, Nat.reduceEqDiff, rsvs, rsv, oneOf, rdN, ne_eq, Nat.reduceAdd, Nat.reduceMul, Nat.reduceLT, reduceCtorEq, Value.cells, setN, Value.oneCell', Nat.reduceLeDiff, undef, fcT]
    refine (toIntS _ _ _ _ _ _ hn1' (h1.sub hs3)).mono ?_
    rintro v4 H4 nx4 ⟨⟨q4, rfl, hq4, hl4, hc4⟩, ht4⟩
    have hs4 := hs3.trans ht4
    replace hc3 := ht4 _ _ hc3
    simp (disch := omega) only [bsW, WOp, WOq, WV, bo, gdc, gw, bnd, ↓reduceIte, Nat.reduceEqDiff, rsvs, rsv, oneOf, rdN, ne_eq, Nat.reduceAdd, Nat.reduceMul, Nat.reduceLT, reduceCtorEq, Value.cells, setN, Value.oneCell', Nat.reduceLeDiff, undef, fcT]
    (repeat' (first | ((refine gif_split (fun hs_ => ?_) (fun hs_ => ?_)) <;> (have hp_ := hs_; (try simp only [decide_eq_true_eq, decide_eq_false_iff_not, beq_iff_eq, bne_iff_ne, beq_eq_false_iff_ne, Bool.not_eq_true, Bool.and_eq_true, Bool.or_eq_true, Bool.and_eq_false_iff, Bool.or_eq_false_iff, bne_eq_false_iff_eq, ne_eq] at hp_); (try simp (disch := omega) only [bsW, WOp, WOq, WV, bo, gdc, gw, bnd, ↓reduceIte, Nat.reduceEqDiff, rsvs, rsv, oneOf, rdN, ne_eq, Nat.reduceAdd, Nat.reduceMul, Nat.reduceLT, reduceCtorEq, Value.cells, setN, Value.oneCell', Nat.reduceLeDiff, undef, fcT, hs_]))) | ((refine newB_i (fun nb_ hb_ => ?_)); (try simp (disch := omega) only [bsW, WOp, WOq, WV, bo, gdc, gw, bnd, ↓reduceIte, Nat.reduceEqDiff, rsvs, rsv, oneOf, rdN, ne_eq, Nat.reduceAdd, Nat.reduceMul, Nat.reduceLT, reduceCtorEq, Value.cells, setN, Value.oneCell', Nat.reduceLeDiff, undef, fcT])) | ((first | (refine QC_i (hI _ _ _ _ (Rd.of hc3) (Rd.of hc4)) ?_) | (refine PC.ac (hI _ _ _ _ (Rd.of hc3) (Rd.of hc4)) ?_)); (try simp (disch := omega) only [bsW, WOp, WOq, WV, bo, gdc, gw, bnd, ↓reduceIte, Nat.reduceEqDiff, rsvs, rsv, oneOf, rdN, ne_eq, Nat.reduceAdd, Nat.reduceMul, Nat.reduceLT, reduceCtorEq, Value.cells, setN, Value.oneCell', Nat.reduceLeDiff, undef, fcT])) | (refine fun (hBd_ : Bd _ _) => ?_) | (refine And.intro (Sub.refl _) ?_) | (refine And.intro (sub_new (by assumption) (by assumption)) ?_) | (refine And.intro ?_ ?_; omega)))
    refine (toPriceRowS _ _ _ _ _ _ hn0' (h0.sub hs4)).mono ?_
    rintro v5 H5 nx5 ⟨⟨q5, rfl, hq5, hl5, hc5⟩, ht5⟩
    have hs5 := hs4.trans ht5
    replace hc3 := ht5 _ _ hc3
    replace hc4 := ht5 _ _ hc4
    simp (disch := omega) only [bsW, WOp, WOq, WV, bo, gdc, gw, bnd, ↓reduceIte, Nat.reduceEqDiff, rsvs, rsv, oneOf, rdN, ne_eq, Nat.reduceAdd, Nat.reduceMul, Nat.reduceLT, reduceCtorEq, Value.cells, setN, Value.oneCell', Nat.reduceLeDiff, undef, fcT]
    (repeat' (first | ((refine gif_split (fun hs_ => ?_) (fun hs_ => ?_)) <;> (have hp_ := hs_; (try simp only [decide_eq_true_eq, decide_eq_false_iff_not, beq_iff_eq, bne_iff_ne, beq_eq_false_iff_ne, Bool.not_eq_true, Bool.and_eq_true, Bool.or_eq_true, Bool.and_eq_false_iff, Bool.or_eq_false_iff, bne_eq_false_iff_eq, ne_eq] at hp_); (try simp (disch := omega) only [bsW, WOp, WOq, WV, bo, gdc, gw, bnd, ↓reduceIte, Nat.reduceEqDiff, rsvs, rsv, oneOf, rdN, ne_eq, Nat.reduceAdd, Nat.reduceMul, Nat.reduceLT, reduceCtorEq, Value.cells, setN, Value.oneCell', Nat.reduceLeDiff, undef, fcT, hs_]))) | ((refine newB_i (fun nb_ hb_ => ?_)); (try simp (disch := omega) only [bsW, WOp, WOq, WV, bo, gdc, gw, bnd, ↓reduceIte, Nat.reduceEqDiff, rsvs, rsv, oneOf, rdN, ne_eq, Nat.reduceAdd, Nat.reduceMul, Nat.reduceLT, reduceCtorEq, Value.cells, setN, Value.oneCell', Nat.reduceLeDiff, undef, fcT])) | ((first | (refine QC_i (eqPriceRowS _ _ _ _ _ _ _ _ (by omega) (Rd.of hc3) (Rd.of hc5)) ?_) | (refine PC.ac (eqPriceRowS _ _ _ _ _ _ _ _ (by omega) (Rd.of hc3) (Rd.of hc5)) ?_)); (try simp (disch := omega) only [bsW, WOp, WOq, WV, bo, gdc, gw, bnd, ↓reduceIte, Nat.reduceEqDiff, rsvs, rsv, oneOf, rdN, ne_eq, Nat.reduceAdd, Nat.reduceMul, Nat.reduceLT, reduceCtorEq, Value.cells, setN, Value.oneCell', Nat.reduceLeDiff, undef, fcT])) | (refine fun (hBd_ : Bd _ _) => ?_) | (refine And.intro (Sub.refl _) ?_) | (refine And.intro (sub_new (by assumption) (by assumption)) ?_) | (refine And.intro ?_ ?_; omega)))
    refine (toIntS _ _ _ _ _ _ hn1' (h1.sub hs5)).mono ?_
    rintro v6 H6 nx6 ⟨⟨q6, rfl, hq6, hl6, hc6⟩, ht6⟩
    have hs6 := hs5.trans ht6
    replace hc3 := ht6 _ _ hc3
    replace hc4 := ht6 _ _ hc4
    replace hc5 := ht6 _ _ hc5
    simp (disch := omega) only [bsW, WOp, WOq, WV, bo, gdc, gw, bnd, ↓reduceIte, Nat.reduceEqDiff, rsvs, rsv, oneOf, rdN, ne_eq, Nat.reduceAdd, Nat.reduceMul, Nat.reduceLT, reduceCtorEq, Value.cells, setN, Value.oneCell', Nat.reduceLeDiff, undef, fcT]
    (repeat' (first | ((refine gif_split (fun hs_ => ?_) (fun hs_ => ?_)) <;> (have hp_ := hs_; (try simp only [decide_eq_true_eq, decide_eq_false_iff_not, beq_iff_eq, bne_iff_ne, beq_eq_false_iff_ne, Bool.not_eq_true, Bool.and_eq_true, Bool.or_eq_true, Bool.and_eq_false_iff, Bool.or_eq_false_iff, bne_eq_false_iff_eq, ne_eq] at hp_); (try simp (disch := omega) only [bsW, WOp, WOq, WV, bo, gdc, gw, bnd, ↓reduceIte, Nat.reduceEqDiff, rsvs, rsv, oneOf, rdN, ne_eq, Nat.reduceAdd, Nat.reduceMul, Nat.reduceLT, reduceCtorEq, Value.cells, setN, Value.oneCell', Nat.reduceLeDiff, undef, fcT, hs_]))) | ((refine newB_i (fun nb_ hb_ => ?_)); (try simp (disch := omega) only [bsW, WOp, WOq, WV, bo, gdc, gw, bnd, ↓reduceIte, Nat.reduceEqDiff, rsvs, rsv, oneOf, rdN, ne_eq, Nat.reduceAdd, Nat.reduceMul, Nat.reduceLT, reduceCtorEq, Value.cells, setN, Value.oneCell', Nat.reduceLeDiff, undef, fcT])) | ((first | (refine QC_i (eqIntS _ _ _ _ _ _ _ _ (by omega) (Rd.of hc4) (Rd.of hc6)) ?_) | (refine PC.ac (eqIntS _ _ _ _ _ _ _ _ (by omega) (Rd.of hc4) (Rd.of hc6)) ?_)); (try simp (disch := omega) only [bsW, WOp, WOq, WV, bo, gdc, gw, bnd, ↓reduceIte, Nat.reduceEqDiff, rsvs, rsv, oneOf, rdN, ne_eq, Nat.reduceAdd, Nat.reduceMul, Nat.reduceLT, reduceCtorEq, Value.cells, setN, Value.oneCell', Nat.reduceLeDiff, undef, fcT])) | (refine fun (hBd_ : Bd _ _) => ?_) | (refine And.intro (Sub.refl _) ?_) | (refine And.intro (sub_new (by assumption) (by assumption)) ?_) | (refine And.intro ?_ ?_; omega)))
    exact Is_i hs6
theorem FnExactBasketIn_lifted (os : Os) (started : os.Started) (H : Type) (enc : TypeId × Value → H) :
    ReturnsInHanded {} Try.checked os 10 .any (Rows.fnExactBasketInSpec.pre6 enc Try.prog Try.f10 Rows.fnExactBasketInRow.domain false) (Rows.fnExactBasketInSpec.post enc Try.prog Try.f10 false true false false) := by
  refine law_lifted (C := Try.checked) (tb := 4) (by kernel_rfl) started (by kernel_rfl) (by kernel_rfl) Try.func10 rfl (by kernel_rfl) (by kernel_rfl) (by kernel_rfl) ?_
    (ChangeSpec.witness6 (enc := enc) (C := Try.checked) false ⟨#[], #[.slice none 0 0, .slice none 0 0, .int .i64 0], []⟩ 8 (by kernel_rfl) (by kernel_rfl) (by kernel_rfl) (by kernel_rfl)) ?_
  · intro ds hd
    match ds, hd with
    | [d0, d1, d2], _ => rfl
  · intro W base args ha
    have hr : ArgsOK enc Try.prog W base Try.f10.params.toList args.toList := ha
    rw [Try.params10] at hr
    obtain ⟨u0, l0, e0, a0, hr⟩ := hr
    obtain ⟨A0, n0, c0, f0, rfl, hz0, _, hR0, _⟩ := arg_rows (k := 3) Try.underlying22 Try.underlying58 (by kernel_rfl) (by kernel_rfl) rfl (by omega) (by kernel_rfl) a0
    obtain ⟨u1, l1, e1, a1, hr⟩ := hr
    obtain ⟨A1, n1, c1, f1, rfl, hz1, _, hR1, _⟩ := arg_ints Try.underlying40 Try.underlying3 (by kernel_rfl) a1
    obtain ⟨u2, l2, e2, a2, hr⟩ := hr
    obtain ⟨b2, rfl, hb2⟩ := arg_int Try.underlying3 a2
    have hr : l2 = [] := hr
    have ea : args = #[.slice A0 n0 c0, .slice A1 n1 c1, .int .i64 b2] := by
      apply Array.ext'
      rw [e0, e1, e2, hr]
    subst ea
    have hby0 : Try.prog.bytesOf 58 = 24 := by kernel_rfl
    rw [hby0] at hz0
    simp only [reachBytes] at hz0
    have hby1 : Try.prog.bytesOf 3 = 8 := by kernel_rfl
    rw [hby1] at hz1
    simp only [reachBytes] at hz1
    exact lawBasketIn _ _ A0 n0 c0 f0 (by omega) hR0 A1 n1 c1 f1 (by omega) hR1 b2 hb2
theorem FnExactBasketIn_holds : Rows.FnExactBasketInSaid :=
  OpenClaim.holds_of_wide 10 Try.f10 rfl rfl rfl rfl rfl rfl rfl ⟨rfl, rfl, rfl, rfl, rfl⟩ rfl rfl rfl rfl rfl (by kernel_rfl) Try.func10 (by kernel_rfl)
    (of_decide_eq_true (by kernel_rfl)) (by unfold Func.isWrapper; first | (rw [if_pos (by decide +kernel)]; kernel_rfl) | (rw [if_neg (by decide +kernel)]; exact ⟨rfl, rfl⟩))
    (fun os started H enc _ => FnExactBasketIn_lifted os started H enc)
end Go.Proofs.Ytgjkjibllgpnjaa
