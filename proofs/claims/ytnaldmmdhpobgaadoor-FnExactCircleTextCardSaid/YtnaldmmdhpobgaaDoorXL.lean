/- The law CircleText: the call gives true; the card. -/
import Derived.Test.YtnaldmmdhpobgaaDoorXC
import Derived.Test.YtnaldmmdhpobgaaDoorS3d
import Derived.Test.YtnaldmmdhpobgaaDoorRows
import Derived.Test.YtnaldmmdhpobgaaDoorCards
import Derived.Test.YtnaldmmdhpobgaaDoorTie
set_option linter.unusedVariables false
set_option linter.unusedSimpArgs false
set_option maxRecDepth 100000
set_option maxHeartbeats 1000000
namespace Go.Proofs.YtnaldmmdhpobgaaDoor
open Go Go.RowKit Go.Proofs Go.ChangeShapes Go.WideShapes Go.ChangeAt
/-- A row as a list. -/
def lstD (n : Nat) (f : Nat → Nat → Int) : List Int := (List.range n).map fun i => f i 0
theorem lstD_len (n : Nat) (f : Nat → Nat → Int) : (lstD n f).length = n := by simp [lstD]
theorem RdL.lstD {H : Hp} {A : Option Addr} {n : Nat} {f : Nat → Nat → Int} (h : Rd H A n 1 f) : RdL H A (lstD n f) := by
  unfold RdL
  rw [lstD_len]
  refine h.congr fun i j hi hj => ?_
  have : j = 0 := by omega
  subst this
  simp [rowL, Go.Proofs.YtnaldmmdhpobgaaDoor.lstD, List.getD_eq_getElem?_getD, hi]
theorem lawCircleText (H : Hp) (nx : Nat) (gT : Nat) (tyT : TypeId) (hgT : gT = 0) (hT : H gT = some (.rw powCells tyT)) (A0 : Option Addr) (n0 c0 : Nat) (f0 : Nat → Nat → Int) (hn0 : n0 ≤ 17592186044416) (h0 : Rd H A0 n0 1 f0) :
    PC Tryd.prog 3 #[.slice A0 n0 c0] H nx (.bool true) := by
  obtain ⟨x0, x1, hv⟩ : ∃ x0 x1, vCircleText (lstD n0 f0) = .tuple #[.string x0, .bool x1] := by unfold vCircleText; split <;> exact ⟨_, _, rfl⟩
  have hS : ∀ (H' : Hp) (nx' : Nat) (A0' : Option Addr) (h0' : Rd H' A0' n0 1 f0), PC Tryd.prog 5 #[.slice A0' n0 n0] H' nx' (.tuple #[.string x0, .bool x1]) := by
    intro H' nx' A0' h0'
    rw [← hv]
    exact sCircleText A0' (lstD n0 f0) n0 n0 H' nx' (lstD_len _ _) (by omega) (RdL.lstD h0')
  have hI : ∀ (H' : Hp) (nx' : Nat) (A0' : Option Addr) (h0' : Rd H' A0' n0 1 f0) (hs' : Sub H H'), PC Tryd.prog 7 #[.slice A0' n0 n0] H' nx' (.tuple #[.string x0, .bool x1]) := by
    intro H' nx' A0' h0' hs'
    rw [← hv]
    exact CircleText gT tyT A0' (lstD n0 f0) n0 n0 H' nx' hgT (hs' _ _ hT) (lstD_len _ _) (by omega) (Nat.le_refl _) (RdL.lstD h0')
  refine AC_of x_laws_FnExactCircleText rfl fun hB => ?_
  simp (disch := omega) only [bsW, WOp, WOq, WV, bo, gdc, gw, bnd, ↓reduceIte, Nat.reduceEqDiff, rsvs, rsv, oneOf, rdN, ne_eq, Nat.reduceAdd, Nat.reduceMul, Nat.reduceLT, reduceCtorEq, Value.cells, setN, Value.oneCell', Nat.reduceLeDiff, undef, fcT, c_laws_FnExactCircleText]
  (repeat' (first | ((with_reducible refine gif_split (fun hs_ => ?_) (fun hs_ => ?_)) <;> (have hp_ := hs_; (try simp only [decide_eq_true_eq, decide_eq_false_iff_not, beq_iff_eq, bne_iff_ne, beq_eq_false_iff_ne, Bool.not_eq_true, Bool.and_eq_true, Bool.or_eq_true, Bool.and_eq_false_iff, Bool.or_eq_false_iff, bne_eq_false_iff_eq, ne_eq] at hp_); (try simp (disch := omega) only [bsW, WOp, WOq, WV, bo, gdc, gw, bnd, ↓reduceIte, Nat.reduceEqDiff, rsvs, rsv, oneOf, rdN, ne_eq, Nat.reduceAdd, Nat.reduceMul, Nat.reduceLT, reduceCtorEq, Value.cells, setN, Value.oneCell', Nat.reduceLeDiff, undef, fcT, hs_]))) | ((with_reducible refine newB_i (fun nb_ hb_ => ?_)); (try simp (disch := omega) only [bsW, WOp, WOq, WV, bo, gdc, gw, bnd, ↓reduceIte, Nat.reduceEqDiff, rsvs, rsv, oneOf, rdN, ne_eq, Nat.reduceAdd, Nat.reduceMul, Nat.reduceLT, reduceCtorEq, Value.cells, setN, Value.oneCell', Nat.reduceLeDiff, undef, fcT])) | ((with_reducible refine RgE_i (fun (hBd_ : Bd _ _) => ?_)); (try simp (disch := omega) only [bsW, WOp, WOq, WV, bo, gdc, gw, bnd, ↓reduceIte, Nat.reduceEqDiff, rsvs, rsv, oneOf, rdN, ne_eq, Nat.reduceAdd, Nat.reduceMul, Nat.reduceLT, reduceCtorEq, Value.cells, setN, Value.oneCell', Nat.reduceLeDiff, undef, fcT])) | (with_reducible refine fun (hBd_ : Bd _ _) => ?_) | ((with_reducible refine @And.intro (Sub _ _) _ ?_ ?_); (first | exact Sub.refl _ | exact sub_del _ _ | exact sub_del_upd (Sub.refl _) | exact sub_del_upd (by with_reducible assumption) | with_reducible assumption | exact Sub.trans (sub_del _ _) (by with_reducible assumption) | exact sub_new (by with_reducible assumption) (by with_reducible assumption) | exact sub_up2 (by with_reducible assumption) (by with_reducible assumption) (by omega) | exact sub_up2 (by with_reducible assumption) (sub_up2 (by with_reducible assumption) (Sub.refl _) (by omega)) (by omega))) | ((with_reducible refine @And.intro (Sub _ _ ∧ _) _ ?_ ?_); (with_reducible refine @And.intro (Sub _ _) _ ?_ ?_); (first | exact Sub.refl _ | exact sub_del _ _ | exact sub_del_upd (Sub.refl _) | exact sub_del_upd (by with_reducible assumption) | with_reducible assumption | exact Sub.trans (sub_del _ _) (by with_reducible assumption) | exact sub_new (by with_reducible assumption) (by with_reducible assumption) | exact sub_up2 (by with_reducible assumption) (by with_reducible assumption) (by omega) | exact sub_up2 (by with_reducible assumption) (sub_up2 (by with_reducible assumption) (Sub.refl _) (by omega)) (by omega))) | ((with_reducible refine And.intro ?_ ?_); omega)))
  · exact Is_i (Sub.refl H)
  · have hn0' : n0 ≤ 1048576 := by omega
    have hs0 : Sub H H := Sub.refl H
    refine (toIntS _ _ _ _ _ _ hn0' (h0.sub hs0)).mono ?_
    rintro v1 H1 nx1 ⟨⟨q1, rfl, hq1, hl1, hc1⟩, ht1⟩
    have hs1 := hs0.trans ht1
    simp (disch := omega) only [bsW, WOp, WOq, WV, bo, gdc, gw, bnd, ↓reduceIte, Nat.reduceEqDiff, rsvs, rsv, oneOf, rdN, ne_eq, Nat.reduceAdd, Nat.reduceMul, Nat.reduceLT, reduceCtorEq, Value.cells, setN, Value.oneCell', Nat.reduceLeDiff, undef, fcT]
    (repeat' (first | ((with_reducible refine gif_split (fun hs_ => ?_) (fun hs_ => ?_)) <;> (have hp_ := hs_; (try simp only [decide_eq_true_eq, decide_eq_false_iff_not, beq_iff_eq, bne_iff_ne, beq_eq_false_iff_ne, Bool.not_eq_true, Bool.and_eq_true, Bool.or_eq_true, Bool.and_eq_false_iff, Bool.or_eq_false_iff, bne_eq_false_iff_eq, ne_eq] at hp_); (try simp (disch := omega) only [bsW, WOp, WOq, WV, bo, gdc, gw, bnd, ↓reduceIte, Nat.reduceEqDiff, rsvs, rsv, oneOf, rdN, ne_eq, Nat.reduceAdd, Nat.reduceMul, Nat.reduceLT, reduceCtorEq, Value.cells, setN, Value.oneCell', Nat.reduceLeDiff, undef, fcT, hs_]))) | ((with_reducible refine newB_i (fun nb_ hb_ => ?_)); (try simp (disch := omega) only [bsW, WOp, WOq, WV, bo, gdc, gw, bnd, ↓reduceIte, Nat.reduceEqDiff, rsvs, rsv, oneOf, rdN, ne_eq, Nat.reduceAdd, Nat.reduceMul, Nat.reduceLT, reduceCtorEq, Value.cells, setN, Value.oneCell', Nat.reduceLeDiff, undef, fcT])) | ((first | ((with_reducible show QC _ _ _ _ _ _); (first | (refine QC_i (hS _ _ _ (Rd.of hc1)) ?_))) | ((with_reducible show AC _ _ _ _ _ _); (first | (refine PC.ac (hS _ _ _ (Rd.of hc1)) ?_)))); (try simp (disch := omega) only [bsW, WOp, WOq, WV, bo, gdc, gw, bnd, ↓reduceIte, Nat.reduceEqDiff, rsvs, rsv, oneOf, rdN, ne_eq, Nat.reduceAdd, Nat.reduceMul, Nat.reduceLT, reduceCtorEq, Value.cells, setN, Value.oneCell', Nat.reduceLeDiff, undef, fcT])) | ((with_reducible refine RgE_i (fun (hBd_ : Bd _ _) => ?_)); (try simp (disch := omega) only [bsW, WOp, WOq, WV, bo, gdc, gw, bnd, ↓reduceIte, Nat.reduceEqDiff, rsvs, rsv, oneOf, rdN, ne_eq, Nat.reduceAdd, Nat.reduceMul, Nat.reduceLT, reduceCtorEq, Value.cells, setN, Value.oneCell', Nat.reduceLeDiff, undef, fcT])) | (with_reducible refine fun (hBd_ : Bd _ _) => ?_) | ((with_reducible refine @And.intro (Sub _ _) _ ?_ ?_); (first | exact Sub.refl _ | exact sub_del _ _ | exact sub_del_upd (Sub.refl _) | exact sub_del_upd (by with_reducible assumption) | with_reducible assumption | exact Sub.trans (sub_del _ _) (by with_reducible assumption) | exact sub_new (by with_reducible assumption) (by with_reducible assumption) | exact sub_up2 (by with_reducible assumption) (by with_reducible assumption) (by omega) | exact sub_up2 (by with_reducible assumption) (sub_up2 (by with_reducible assumption) (Sub.refl _) (by omega)) (by omega))) | ((with_reducible refine @And.intro (Sub _ _ ∧ _) _ ?_ ?_); (with_reducible refine @And.intro (Sub _ _) _ ?_ ?_); (first | exact Sub.refl _ | exact sub_del _ _ | exact sub_del_upd (Sub.refl _) | exact sub_del_upd (by with_reducible assumption) | with_reducible assumption | exact Sub.trans (sub_del _ _) (by with_reducible assumption) | exact sub_new (by with_reducible assumption) (by with_reducible assumption) | exact sub_up2 (by with_reducible assumption) (by with_reducible assumption) (by omega) | exact sub_up2 (by with_reducible assumption) (sub_up2 (by with_reducible assumption) (Sub.refl _) (by omega)) (by omega))) | ((with_reducible refine And.intro ?_ ?_); omega)))
    refine (toIntS _ _ _ _ _ _ hn0' (h0.sub hs1)).mono ?_
    rintro v2 H2 nx2 ⟨⟨q2, rfl, hq2, hl2, hc2⟩, ht2⟩
    have hs2 := hs1.trans ht2
    simp (disch := omega) only [bsW, WOp, WOq, WV, bo, gdc, gw, bnd, ↓reduceIte, Nat.reduceEqDiff, rsvs, rsv, oneOf, rdN, ne_eq, Nat.reduceAdd, Nat.reduceMul, Nat.reduceLT, reduceCtorEq, Value.cells, setN, Value.oneCell', Nat.reduceLeDiff, undef, fcT]
    (repeat' (first | ((with_reducible refine gif_split (fun hs_ => ?_) (fun hs_ => ?_)) <;> (have hp_ := hs_; (try simp only [decide_eq_true_eq, decide_eq_false_iff_not, beq_iff_eq, bne_iff_ne, beq_eq_false_iff_ne, Bool.not_eq_true, Bool.and_eq_true, Bool.or_eq_true, Bool.and_eq_false_iff, Bool.or_eq_false_iff, bne_eq_false_iff_eq, ne_eq] at hp_); (try simp (disch := omega) only [bsW, WOp, WOq, WV, bo, gdc, gw, bnd, ↓reduceIte, Nat.reduceEqDiff, rsvs, rsv, oneOf, rdN, ne_eq, Nat.reduceAdd, Nat.reduceMul, Nat.reduceLT, reduceCtorEq, Value.cells, setN, Value.oneCell', Nat.reduceLeDiff, undef, fcT, hs_]))) | ((with_reducible refine newB_i (fun nb_ hb_ => ?_)); (try simp (disch := omega) only [bsW, WOp, WOq, WV, bo, gdc, gw, bnd, ↓reduceIte, Nat.reduceEqDiff, rsvs, rsv, oneOf, rdN, ne_eq, Nat.reduceAdd, Nat.reduceMul, Nat.reduceLT, reduceCtorEq, Value.cells, setN, Value.oneCell', Nat.reduceLeDiff, undef, fcT])) | ((first | ((with_reducible show QC _ _ _ _ _ _); (first | (refine QC_i (hI _ _ _ (Rd.of hc2) hs2) ?_))) | ((with_reducible show AC _ _ _ _ _ _); (first | (refine PC.ac (hI _ _ _ (Rd.of hc2) hs2) ?_)))); (try simp (disch := omega) only [bsW, WOp, WOq, WV, bo, gdc, gw, bnd, ↓reduceIte, Nat.reduceEqDiff, rsvs, rsv, oneOf, rdN, ne_eq, Nat.reduceAdd, Nat.reduceMul, Nat.reduceLT, reduceCtorEq, Value.cells, setN, Value.oneCell', Nat.reduceLeDiff, undef, fcT])) | ((with_reducible refine RgE_i (fun (hBd_ : Bd _ _) => ?_)); (try simp (disch := omega) only [bsW, WOp, WOq, WV, bo, gdc, gw, bnd, ↓reduceIte, Nat.reduceEqDiff, rsvs, rsv, oneOf, rdN, ne_eq, Nat.reduceAdd, Nat.reduceMul, Nat.reduceLT, reduceCtorEq, Value.cells, setN, Value.oneCell', Nat.reduceLeDiff, undef, fcT])) | (with_reducible refine fun (hBd_ : Bd _ _) => ?_) | ((with_reducible refine @And.intro (Sub _ _) _ ?_ ?_); (first | exact Sub.refl _ | exact sub_del _ _ | exact sub_del_upd (Sub.refl _) | exact sub_del_upd (by with_reducible assumption) | with_reducible assumption | exact Sub.trans (sub_del _ _) (by with_reducible assumption) | exact sub_new (by with_reducible assumption) (by with_reducible assumption) | exact sub_up2 (by with_reducible assumption) (by with_reducible assumption) (by omega) | exact sub_up2 (by with_reducible assumption) (sub_up2 (by with_reducible assumption) (Sub.refl _) (by omega)) (by omega))) | ((with_reducible refine @And.intro (Sub _ _ ∧ _) _ ?_ ?_); (with_reducible refine @And.intro (Sub _ _) _ ?_ ?_); (first | exact Sub.refl _ | exact sub_del _ _ | exact sub_del_upd (Sub.refl _) | exact sub_del_upd (by with_reducible assumption) | with_reducible assumption | exact Sub.trans (sub_del _ _) (by with_reducible assumption) | exact sub_new (by with_reducible assumption) (by with_reducible assumption) | exact sub_up2 (by with_reducible assumption) (by with_reducible assumption) (by omega) | exact sub_up2 (by with_reducible assumption) (sub_up2 (by with_reducible assumption) (Sub.refl _) (by omega)) (by omega))) | ((with_reducible refine And.intro ?_ ?_); omega)))
    refine (toIntS _ _ _ _ _ _ hn0' (h0.sub hs2)).mono ?_
    rintro v3 H3 nx3 ⟨⟨q3, rfl, hq3, hl3, hc3⟩, ht3⟩
    have hs3 := hs2.trans ht3
    replace hc2 := ht3 _ _ hc2
    simp (disch := omega) only [bsW, WOp, WOq, WV, bo, gdc, gw, bnd, ↓reduceIte, Nat.reduceEqDiff, rsvs, rsv, oneOf, rdN, ne_eq, Nat.reduceAdd, Nat.reduceMul, Nat.reduceLT, reduceCtorEq, Value.cells, setN, Value.oneCell', Nat.reduceLeDiff, undef, fcT]
    (repeat' (first | ((with_reducible refine gif_split (fun hs_ => ?_) (fun hs_ => ?_)) <;> (have hp_ := hs_; (try simp only [decide_eq_true_eq, decide_eq_false_iff_not, beq_iff_eq, bne_iff_ne, beq_eq_false_iff_ne, Bool.not_eq_true, Bool.and_eq_true, Bool.or_eq_true, Bool.and_eq_false_iff, Bool.or_eq_false_iff, bne_eq_false_iff_eq, ne_eq] at hp_); (try simp (disch := omega) only [bsW, WOp, WOq, WV, bo, gdc, gw, bnd, ↓reduceIte, Nat.reduceEqDiff, rsvs, rsv, oneOf, rdN, ne_eq, Nat.reduceAdd, Nat.reduceMul, Nat.reduceLT, reduceCtorEq, Value.cells, setN, Value.oneCell', Nat.reduceLeDiff, undef, fcT, hs_]))) | ((with_reducible refine newB_i (fun nb_ hb_ => ?_)); (try simp (disch := omega) only [bsW, WOp, WOq, WV, bo, gdc, gw, bnd, ↓reduceIte, Nat.reduceEqDiff, rsvs, rsv, oneOf, rdN, ne_eq, Nat.reduceAdd, Nat.reduceMul, Nat.reduceLT, reduceCtorEq, Value.cells, setN, Value.oneCell', Nat.reduceLeDiff, undef, fcT])) | ((first | ((with_reducible show QC _ _ _ _ _ _); (first | (refine QC_i (eqIntS _ _ _ _ _ _ _ _ (by omega) (Rd.of hc2) (Rd.of hc3)) ?_))) | ((with_reducible show AC _ _ _ _ _ _); (first | (refine PC.ac (eqIntS _ _ _ _ _ _ _ _ (by omega) (Rd.of hc2) (Rd.of hc3)) ?_)))); (try simp (disch := omega) only [bsW, WOp, WOq, WV, bo, gdc, gw, bnd, ↓reduceIte, Nat.reduceEqDiff, rsvs, rsv, oneOf, rdN, ne_eq, Nat.reduceAdd, Nat.reduceMul, Nat.reduceLT, reduceCtorEq, Value.cells, setN, Value.oneCell', Nat.reduceLeDiff, undef, fcT])) | ((with_reducible refine RgE_i (fun (hBd_ : Bd _ _) => ?_)); (try simp (disch := omega) only [bsW, WOp, WOq, WV, bo, gdc, gw, bnd, ↓reduceIte, Nat.reduceEqDiff, rsvs, rsv, oneOf, rdN, ne_eq, Nat.reduceAdd, Nat.reduceMul, Nat.reduceLT, reduceCtorEq, Value.cells, setN, Value.oneCell', Nat.reduceLeDiff, undef, fcT])) | (with_reducible refine fun (hBd_ : Bd _ _) => ?_) | ((with_reducible refine @And.intro (Sub _ _) _ ?_ ?_); (first | exact Sub.refl _ | exact sub_del _ _ | exact sub_del_upd (Sub.refl _) | exact sub_del_upd (by with_reducible assumption) | with_reducible assumption | exact Sub.trans (sub_del _ _) (by with_reducible assumption) | exact sub_new (by with_reducible assumption) (by with_reducible assumption) | exact sub_up2 (by with_reducible assumption) (by with_reducible assumption) (by omega) | exact sub_up2 (by with_reducible assumption) (sub_up2 (by with_reducible assumption) (Sub.refl _) (by omega)) (by omega))) | ((with_reducible refine @And.intro (Sub _ _ ∧ _) _ ?_ ?_); (with_reducible refine @And.intro (Sub _ _) _ ?_ ?_); (first | exact Sub.refl _ | exact sub_del _ _ | exact sub_del_upd (Sub.refl _) | exact sub_del_upd (by with_reducible assumption) | with_reducible assumption | exact Sub.trans (sub_del _ _) (by with_reducible assumption) | exact sub_new (by with_reducible assumption) (by with_reducible assumption) | exact sub_up2 (by with_reducible assumption) (by with_reducible assumption) (by omega) | exact sub_up2 (by with_reducible assumption) (sub_up2 (by with_reducible assumption) (Sub.refl _) (by omega)) (by omega))) | ((with_reducible refine And.intro ?_ ?_); omega)))
    exact Is_i hs3
theorem fnExactCircleText_mem : ((("internal/strconv.uint64pow10", Lib.tabData .u64 Lib.pow10Tab) : String × DataW Unit)) ∈ Rows.fnExactCircleTextRow.laid := (List.Mem.tail _ (List.Mem.tail _ (List.Mem.head _)))
theorem FnExactCircleText_pc {H : Type} (enc : TypeId × Value → H) : LaidPC enc Tryd.prog 3 Tryd.f3.params.toList 0 powCells := by
  intro W base args Hp0 tyT hBd hrd hT ha
  have hr : ArgsOK enc Tryd.prog W base Tryd.f3.params.toList args.toList := ha
  rw [Tryd.params3] at hr
  obtain ⟨u0, l0, e0, a0, hr⟩ := hr
  obtain ⟨A0, n0, c0, f0, rfl, hz0, _, hR0, _⟩ := arg_ints Tryd.underlying22 Tryd.underlying3 (by kernel_rfl) a0
  have hr : l0 = [] := hr
  have ea : args = #[.slice A0 n0 c0] := by
    apply Array.ext'
    rw [e0, hr]
  subst ea
  have hby0 : Tryd.prog.bytesOf 3 = 8 := by kernel_rfl
  rw [hby0] at hz0
  simp only [reachBytes] at hz0
  exact lawCircleText _ _ _ tyT rfl hT A0 n0 c0 f0 (by omega) (hR0.tr hrd)
theorem FnExactCircleText_lifted (os : Os) (started : os.Started) (H : Type) (enc : TypeId × Value → H) :
    ReturnsInHanded {} Tryd.checked os 3 .any (fun w args => (Rows.fnExactCircleTextSpec.pre enc Tryd.prog Tryd.f3 Rows.fnExactCircleTextRow.domain false w args ∧ laidMetH Tryd.prog Rows.fnExactCircleTextRow.laid w) ∧ sizedMet enc Tryd.prog Tryd.f3 (OpenSpec.ofChange Rows.fnExactCircleTextSpec) false w args) (Rows.fnExactCircleTextSpec.post enc Tryd.prog Tryd.f3 false true false false) := by
  refine law_lifted_laid (C := Tryd.checked) (tb := 4) (laid := Rows.fnExactCircleTextRow.laid) (g := 0) (cs := powCells) x_laws_FnExactCircleText.call (by kernel_rfl) started (by kernel_rfl) (by kernel_rfl) Tryd.func3 rfl (by kernel_rfl) (by kernel_rfl) (by kernel_rfl) ?_
    (ChangeSpec.witness_shaped (enc := enc) (C := Tryd.checked) (os := os) (X := fun w _ => laidMetH Tryd.prog Rows.fnExactCircleTextRow.laid w) false (World.laidAll Tryd.prog os Rows.fnExactCircleTextRow.laid) #[.slice none 0 0] 8 (World.laidAll_os _ _ _)
      (World.shaped_of_ZipB (by kernel_rfl) (by kernel_rfl)) (by kernel_rfl) (by kernel_rfl) (by kernel_rfl)
      (by rw [MakeChecks.laidMetH_plain _ _ _ (by kernel_rfl)]; exact laidMet_laidAll _ (by kernel_rfl) (by kernel_rfl))) ?_ (FnExactCircleText_pc enc)
  · intro ds hd
    match ds, hd with
    | [d0], _ => rfl
  · intro W h
    rw [MakeChecks.laidMetH_plain _ _ _ (by kernel_rfl)] at h
    exact tab_heap (zs := Lib.pow10Tab) (by kernel_rfl) (by kernel_rfl) Tryd.underlying103 Tryd.underlying54 (by kernel_rfl) (by kernel_rfl) (by decide) fnExactCircleText_mem h
theorem FnExactCircleText_bare : Rows.FnExactCircleTextSaid :=
  OpenClaim.holds_of_wide 3 Tryd.f3 rfl rfl rfl rfl rfl rfl rfl ⟨rfl, rfl, rfl, rfl, rfl⟩ rfl rfl rfl rfl rfl (by kernel_rfl) Tryd.func3 (by kernel_rfl)
    (of_decide_eq_true (by kernel_rfl)) (by unfold Func.isWrapper; first | (rw [if_pos (by decide +kernel)]; kernel_rfl) | (rw [if_neg (by decide +kernel)]; exact ⟨rfl, rfl⟩))
    (fun os started H enc _ => FnExactCircleText_lifted os started H enc)
theorem FnExactCircleTextCardSaid_holds : Rows.FnExactCircleTextCardSaid :=
  Claim7.holds_tied_plain_at .later [] [.data, .data, .data] true (true, "4689b70bd4136b23b114abaac7a61f819bf1caa0c84fcb9081cdaf4ba4fd517f") false FnExactCircleText_bare (fun _ h => by cases h) (by kernel_rfl) (fun _ h => by cases h) fnExactCircleText_row_tie rfl ⟨rfl, rfl⟩ (by kernel_rfl) rfl
    (fun f fn hf hfn => by
      obtain rfl : f = 3 := Option.some.inj ((show Tryd.prog.funcNamed Rows.fnExactCircleTextRow.func = some 3 by kernel_rfl).symm.trans hf) |>.symm
      obtain rfl : fn = Tryd.f3 := (Option.some.inj (Tryd.func3.symm.trans hfn)).symm
      exact ⟨by kernel_rfl, fun j t ht => by
        rw [Tryd.params3] at ht
        have hm : t ∈ [22] := by simpa using Array.mem_of_getElem? ht
        have hall : ([22].all fun u => !Tryd.prog.wantsStandIn u) = true := by kernel_rfl
        exact (show Tryd.prog.wantsStandIn t = false by simpa using List.all_eq_true.1 hall t hm)⟩)
    (by kernel_rfl)
end Go.Proofs.YtnaldmmdhpobgaaDoor
