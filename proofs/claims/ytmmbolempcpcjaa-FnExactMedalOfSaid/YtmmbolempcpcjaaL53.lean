/- The law MedalOf: the call gives true. -/
import Derived.Test.YtmmbolempcpcjaaR4
import Derived.Test.YtmmbolempcpcjaaE2
import Derived.Test.YtmmbolempcpcjaaS23
import Derived.Test.YtmmbolempcpcjaaRows
set_option linter.unusedVariables false
set_option linter.unusedSimpArgs false
set_option maxRecDepth 100000
set_option maxHeartbeats 1000000
namespace Go.Proofs.Ytmmbolempcpcjaa
open Go Go.RowKit Go.Proofs
theorem lawMedalOf (H : Hp) (nx : Nat) (id0 : Int) (t0 : ByteArray) (fr0 : Int) (B0 : Option Addr) (m0 d0 : Nat) (mk0 : Nat → Int) (ht0 : t0.size ≤ 9223372036854775807) (hn0 : m0 ≤ 9223372036854775807) (h0 : Rd H B0 m0 1 (fun q _ => mk0 q)) :
    PC Try.prog 5 #[.agg #[.int .i64 id0, .string t0, .int .i64 fr0, .slice B0 m0 d0]] H nx (.bool true) := by
  obtain ⟨x0, x1, hv⟩ : ∃ x0 x1, vMedal id0 t0 fr0 m0 mk0 = .tuple #[.int .i64 x0, .bool x1] := by unfold vMedal; split <;> exact ⟨_, _, rfl⟩
  have hS : ∀ (H' : Hp) (nx' : Nat) (B0' : Option Addr) (h0' : Rd H' B0' m0 1 (fun q _ => mk0 q)), PC Try.prog 24 #[.agg #[.int .i64 id0, .string t0, .int .i64 fr0, .slice B0' m0 m0]] H' nx' (.tuple #[.int .i64 x0, .bool x1]) := by
    intro H' nx' B0' h0'
    rw [← hv]
    exact sMedalOf id0 t0 fr0 B0' m0 m0 mk0 H' nx' ht0 hn0 h0'
  have hI : ∀ (H' : Hp) (nx' : Nat) (B0' : Option Addr) (h0' : Rd H' B0' m0 1 (fun q _ => mk0 q)), PC Try.prog 25 #[.agg #[.int .i64 id0, .string t0, .int .i64 fr0, .slice B0' m0 m0]] H' nx' (.tuple #[.int .i64 x0, .bool x1]) := by
    intro H' nx' B0' h0'
    rw [← hv]
    exact MedalOf id0 t0 fr0 B0' m0 m0 mk0 H' nx' ht0 hn0 h0'
  refine AC_of x_laws_FnExactMedalOf rfl fun hB => ?_
  simp (disch := omega) only [bsW, WOp, WOq, WV, bo, gdc, gw, bnd, ↓reduceIte, Nat.reduceEqDiff, rsvs, rsv, oneOf, rdN, ne_eq, Nat.reduceAdd, Nat.reduceMul, Nat.reduceLT, reduceCtorEq, Value.cells, setN, Value.oneCell', Nat.reduceLeDiff, undef, fcT, c_laws_FnExactMedalOf]
  (repeat' (first | ((refine gif_split (fun hs_ => ?_) (fun hs_ => ?_)) <;> (have hp_ := hs_; (try simp only [decide_eq_true_eq, decide_eq_false_iff_not, beq_iff_eq, bne_iff_ne, beq_eq_false_iff_ne, Bool.not_eq_true, Bool.and_eq_true, Bool.or_eq_true, Bool.and_eq_false_iff, Bool.or_eq_false_iff, bne_eq_false_iff_eq, ne_eq] at hp_); (try simp (disch := omega) only [bsW, WOp, WOq, WV, bo, gdc, gw, bnd, ↓reduceIte, Nat.reduceEqDiff, rsvs, rsv, oneOf, rdN, ne_eq, Nat.reduceAdd, Nat.reduceMul, Nat.reduceLT, reduceCtorEq, Value.cells, setN, Value.oneCell', Nat.reduceLeDiff, undef, fcT, hs_]))) | ((refine newB_i (fun nb_ hb_ => ?_)); (try simp (disch := omega) only [bsW, WOp, WOq, WV, bo, gdc, gw, bnd, ↓reduceIte, Nat.reduceEqDiff, rsvs, rsv, oneOf, rdN, ne_eq, Nat.reduceAdd, Nat.reduceMul, Nat.reduceLT, reduceCtorEq, Value.cells, setN, Value.oneCell', Nat.reduceLeDiff, undef, fcT])) | ((first | (refine QC_i (szShowFrame id0 t0 fr0 B0 m0 d0 _ _ _ hn0 ht0 (by omega)) ?_) | (refine PC.ac (szShowFrame id0 t0 fr0 B0 m0 d0 _ _ _ hn0 ht0 (by omega)) ?_)); (try simp (disch := omega) only [bsW, WOp, WOq, WV, bo, gdc, gw, bnd, ↓reduceIte, Nat.reduceEqDiff, rsvs, rsv, oneOf, rdN, ne_eq, Nat.reduceAdd, Nat.reduceMul, Nat.reduceLT, reduceCtorEq, Value.cells, setN, Value.oneCell', Nat.reduceLeDiff, undef, fcT])) | (refine fun (hBd_ : Bd _ _) => ?_) | (refine And.intro (Sub.refl _) ?_) | (refine And.intro (sub_new (by assumption) (by assumption)) ?_) | (refine And.intro ?_ ?_; omega)))
  · exact Is_i (by (repeat (first | assumption | exact Sub.refl _ | (refine sub_up (nx := nx) ?_ hB ?_; omega))))
  · have hn0' : m0 ≤ 1048576 := szV_ok (by with_reducible assumption)
    have hs0 : Sub H (upd H nb_ (.rw [.int .i64 id0, .string t0, .int .i64 fr0, .slice B0 m0 d0] 31)) := by (repeat (first | assumption | exact Sub.refl _ | (refine sub_up (nx := nx) ?_ hB ?_; omega)))
    have z0 : ∀ j v, [Value.int .i64 id0, .string t0, .int .i64 fr0, .slice B0 m0 d0][j]? = some v → rd (upd H nb_ (.rw [.int .i64 id0, .string t0, .int .i64 fr0, .slice B0 m0 d0] 31)) nb_ j = some v := fun j v hv => by rw [rd_upd_same]; exact hv
    generalize (upd H nb_ (.rw [.int .i64 id0, .string t0, .int .i64 fr0, .slice B0 m0 d0] 31)) = H0 at *
    generalize nb_ = bA at *
    refine AC.monoB (toShowFrame _ _ _ _ _ _ _ _ _ hn0' (h0.sub hs0)) ?_
    rintro v1 H1 nx1 hB1 hx1 ⟨⟨q1, rfl, _, _, hc1⟩, ht1⟩
    have hs1 := hs0.trans ht1
    have y0 := rd_sub ht1 (z0 0 _ rfl)
    have y1 := rd_sub ht1 (z0 1 _ rfl)
    have y2 := rd_sub ht1 (z0 2 _ rfl)
    have y3 := rd_sub ht1 (z0 3 _ rfl)
    simp (disch := omega) only [bsW, WOp, WOq, WV, bo, gdc, gw, bnd, ↓reduceIte, Nat.reduceEqDiff, rsvs, rsv, oneOf, rdN, ne_eq, Nat.reduceAdd, Nat.reduceMul, Nat.reduceLT, reduceCtorEq, Value.cells, setN, Value.oneCell', Nat.reduceLeDiff, undef, fcT, y0, y1, y2, y3]
    (repeat' (first | ((refine gif_split (fun hs_ => ?_) (fun hs_ => ?_)) <;> (have hp_ := hs_; (try simp only [decide_eq_true_eq, decide_eq_false_iff_not, beq_iff_eq, bne_iff_ne, beq_eq_false_iff_ne, Bool.not_eq_true, Bool.and_eq_true, Bool.or_eq_true, Bool.and_eq_false_iff, Bool.or_eq_false_iff, bne_eq_false_iff_eq, ne_eq] at hp_); (try simp (disch := omega) only [bsW, WOp, WOq, WV, bo, gdc, gw, bnd, ↓reduceIte, Nat.reduceEqDiff, rsvs, rsv, oneOf, rdN, ne_eq, Nat.reduceAdd, Nat.reduceMul, Nat.reduceLT, reduceCtorEq, Value.cells, setN, Value.oneCell', Nat.reduceLeDiff, undef, fcT, y0, y1, y2, y3, hs_]))) | ((refine newB_i (fun nb_ hb_ => ?_)); (try simp (disch := omega) only [bsW, WOp, WOq, WV, bo, gdc, gw, bnd, ↓reduceIte, Nat.reduceEqDiff, rsvs, rsv, oneOf, rdN, ne_eq, Nat.reduceAdd, Nat.reduceMul, Nat.reduceLT, reduceCtorEq, Value.cells, setN, Value.oneCell', Nat.reduceLeDiff, undef, fcT, y0, y1, y2, y3])) | ((first | (refine QC_i (hS _ _ _ (Rd.of hc1)) ?_) | (refine PC.ac (hS _ _ _ (Rd.of hc1)) ?_)); (try simp (disch := omega) only [bsW, WOp, WOq, WV, bo, gdc, gw, bnd, ↓reduceIte, Nat.reduceEqDiff, rsvs, rsv, oneOf, rdN, ne_eq, Nat.reduceAdd, Nat.reduceMul, Nat.reduceLT, reduceCtorEq, Value.cells, setN, Value.oneCell', Nat.reduceLeDiff, undef, fcT, y0, y1, y2, y3])) | (refine fun (hBd_ : Bd _ _) => ?_) | (refine And.intro (Sub.refl _) ?_) | (refine And.intro (sub_new (by assumption) (by assumption)) ?_) | (refine And.intro ?_ ?_; omega)))
    refine AC.monoB (toShowFrame _ _ _ _ _ _ _ _ _ hn0' (h0.sub hs1)) ?_
    rintro v2 H2 nx2 hB2 hx2 ⟨⟨q2, rfl, _, _, hc2⟩, ht2⟩
    have hs2 := hs1.trans ht2
    have hlt : bA < nx2 := by omega
    have y0 := rd_sub ht2 y0
    have y1 := rd_sub ht2 y1
    have y2 := rd_sub ht2 y2
    have y3 := rd_sub ht2 y3
    simp (disch := omega) only [bsW, WOp, WOq, WV, bo, gdc, gw, bnd, ↓reduceIte, Nat.reduceEqDiff, rsvs, rsv, oneOf, rdN, ne_eq, Nat.reduceAdd, Nat.reduceMul, Nat.reduceLT, reduceCtorEq, Value.cells, setN, Value.oneCell', Nat.reduceLeDiff, undef, fcT, y0, y1, y2, y3]
    (repeat' (first | ((refine gif_split (fun hs_ => ?_) (fun hs_ => ?_)) <;> (have hp_ := hs_; (try simp only [decide_eq_true_eq, decide_eq_false_iff_not, beq_iff_eq, bne_iff_ne, beq_eq_false_iff_ne, Bool.not_eq_true, Bool.and_eq_true, Bool.or_eq_true, Bool.and_eq_false_iff, Bool.or_eq_false_iff, bne_eq_false_iff_eq, ne_eq] at hp_); (try simp (disch := omega) only [bsW, WOp, WOq, WV, bo, gdc, gw, bnd, ↓reduceIte, Nat.reduceEqDiff, rsvs, rsv, oneOf, rdN, ne_eq, Nat.reduceAdd, Nat.reduceMul, Nat.reduceLT, reduceCtorEq, Value.cells, setN, Value.oneCell', Nat.reduceLeDiff, undef, fcT, y0, y1, y2, y3, hs_]))) | ((refine newB_i (fun nb_ hb_ => ?_)); (try simp (disch := omega) only [bsW, WOp, WOq, WV, bo, gdc, gw, bnd, ↓reduceIte, Nat.reduceEqDiff, rsvs, rsv, oneOf, rdN, ne_eq, Nat.reduceAdd, Nat.reduceMul, Nat.reduceLT, reduceCtorEq, Value.cells, setN, Value.oneCell', Nat.reduceLeDiff, undef, fcT, y0, y1, y2, y3])) | ((first | (refine QC_i (hI _ _ _ ((Rd.of hc2).sub (sub_up (nx := nx2) (by omega) hB2 (Sub.refl _)))) ?_) | (refine PC.ac (hI _ _ _ ((Rd.of hc2).sub (sub_up (nx := nx2) (by omega) hB2 (Sub.refl _)))) ?_)); (try simp (disch := omega) only [bsW, WOp, WOq, WV, bo, gdc, gw, bnd, ↓reduceIte, Nat.reduceEqDiff, rsvs, rsv, oneOf, rdN, ne_eq, Nat.reduceAdd, Nat.reduceMul, Nat.reduceLT, reduceCtorEq, Value.cells, setN, Value.oneCell', Nat.reduceLeDiff, undef, fcT, y0, y1, y2, y3])) | (refine fun (hBd_ : Bd _ _) => ?_) | (refine And.intro (Sub.refl _) ?_) | (refine And.intro (sub_new (by assumption) (by assumption)) ?_) | (refine And.intro ?_ ?_; omega)))
    have hu : Sub H2 (upd H2 nb_ (.rw [.int .i64 id0, .string t0, .int .i64 fr0, .slice (some ⟨q2, 0, none⟩) m0 m0] 35)) := sub_up (nx := nx2) (by omega) hB2 (Sub.refl _)
    refine AC.monoB (toShowFrame _ _ _ _ _ _ _ _ _ hn0' (h0.sub (hs2.trans hu))) ?_
    rintro v3 H3 nx3 hB3 hx3 ⟨⟨q3, rfl, _, _, hc3⟩, ht3⟩
    have hs3 := (hs2.trans hu).trans ht3
    simp (disch := omega) only [bsW, WOp, WOq, WV, bo, gdc, gw, bnd, ↓reduceIte, Nat.reduceEqDiff, rsvs, rsv, oneOf, rdN, ne_eq, Nat.reduceAdd, Nat.reduceMul, Nat.reduceLT, reduceCtorEq, Value.cells, setN, Value.oneCell', Nat.reduceLeDiff, undef, fcT]
    (repeat' (first | ((refine gif_split (fun hs_ => ?_) (fun hs_ => ?_)) <;> (have hp_ := hs_; (try simp only [decide_eq_true_eq, decide_eq_false_iff_not, beq_iff_eq, bne_iff_ne, beq_eq_false_iff_ne, Bool.not_eq_true, Bool.and_eq_true, Bool.or_eq_true, Bool.and_eq_false_iff, Bool.or_eq_false_iff, bne_eq_false_iff_eq, ne_eq] at hp_); (try simp (disch := omega) only [bsW, WOp, WOq, WV, bo, gdc, gw, bnd, ↓reduceIte, Nat.reduceEqDiff, rsvs, rsv, oneOf, rdN, ne_eq, Nat.reduceAdd, Nat.reduceMul, Nat.reduceLT, reduceCtorEq, Value.cells, setN, Value.oneCell', Nat.reduceLeDiff, undef, fcT, hs_]))) | ((refine newB_i (fun nb_ hb_ => ?_)); (try simp (disch := omega) only [bsW, WOp, WOq, WV, bo, gdc, gw, bnd, ↓reduceIte, Nat.reduceEqDiff, rsvs, rsv, oneOf, rdN, ne_eq, Nat.reduceAdd, Nat.reduceMul, Nat.reduceLT, reduceCtorEq, Value.cells, setN, Value.oneCell', Nat.reduceLeDiff, undef, fcT])) | ((first | (refine QC_i (eqShowFrame _ _ _ _ _ _ _ _ _ _ _ (by omega) (Rd.of (ht3 _ _ (hu _ _ hc2))) (Rd.of hc3)) ?_) | (refine PC.ac (eqShowFrame _ _ _ _ _ _ _ _ _ _ _ (by omega) (Rd.of (ht3 _ _ (hu _ _ hc2))) (Rd.of hc3)) ?_)); (try simp (disch := omega) only [bsW, WOp, WOq, WV, bo, gdc, gw, bnd, ↓reduceIte, Nat.reduceEqDiff, rsvs, rsv, oneOf, rdN, ne_eq, Nat.reduceAdd, Nat.reduceMul, Nat.reduceLT, reduceCtorEq, Value.cells, setN, Value.oneCell', Nat.reduceLeDiff, undef, fcT])) | (refine fun (hBd_ : Bd _ _) => ?_) | (refine And.intro (Sub.refl _) ?_) | (refine And.intro (sub_new (by assumption) (by assumption)) ?_) | (refine And.intro ?_ ?_; omega)))
    exact Is_i hs3
theorem FnExactMedalOf_lifted (os : Os) (started : os.Started) (H : Type) (enc : TypeId × Value → H) :
    ReturnsInHanded {} Try.checked os 5 .any (Rows.fnExactMedalOfSpec.pre6 enc Try.prog Try.f5 Rows.fnExactMedalOfRow.domain false) (Rows.fnExactMedalOfSpec.post enc Try.prog Try.f5 false true false false) := by
  refine law_lifted (C := Try.checked) (tb := 4) (by kernel_rfl) started (by kernel_rfl) (by kernel_rfl) Try.func5 rfl (by kernel_rfl) (by kernel_rfl) (by kernel_rfl) ?_
    (ChangeSpec.witness6 (enc := enc) (C := Try.checked) false ⟨#[], #[.agg #[.int .i64 0, .string ByteArray.empty, .int .i64 0, .slice none 0 0]], []⟩ 8 (by kernel_rfl) (by kernel_rfl) (by kernel_rfl) (by kernel_rfl)) ?_
  · intro ds hd
    match ds, hd with
    | [d0], _ => rfl
  · intro W base args ha
    have hr : ArgsOK enc Try.prog W base Try.f5.params.toList args.toList := ha
    rw [Try.params5] at hr
    obtain ⟨u0, l0, e0, a0, hr⟩ := hr
    obtain ⟨id0, t0, fr0, B0, m0, d0, mk0, rfl, hT0, hz0, hR0⟩ := arg_show Try.underlying31 (by kernel_rfl) (by kernel_rfl) Try.underlying29 Try.underlying3 (by kernel_rfl) a0
    have hr : l0 = [] := hr
    have ea : args = #[.agg #[.int .i64 id0, .string t0, .int .i64 fr0, .slice B0 m0 d0]] := by
      apply Array.ext'
      rw [e0, hr]
    subst ea
    exact lawMedalOf _ _ id0 t0 fr0 B0 m0 d0 mk0 hT0 (by omega) hR0
theorem FnExactMedalOf_holds : Rows.FnExactMedalOfSaid :=
  OpenClaim.holds_of_wide 5 Try.f5 rfl rfl rfl rfl rfl rfl rfl ⟨rfl, rfl, rfl, rfl, rfl⟩ rfl rfl rfl rfl rfl (by kernel_rfl) Try.func5 (by kernel_rfl)
    (of_decide_eq_true (by kernel_rfl)) (by unfold Func.isWrapper; first | (rw [if_pos (by decide +kernel)]; kernel_rfl) | (rw [if_neg (by decide +kernel)]; exact ⟨rfl, rfl⟩))
    (fun os started H enc _ => FnExactMedalOf_lifted os started H enc)
end Go.Proofs.Ytmmbolempcpcjaa
