/- The law ShowText: the call gives true; the card. -/
import Derived.Test.YtmmbolempcpcjaaDoorXS
import Derived.Test.YtmmbolempcpcjaaDoorS23
import Derived.Test.YtmmbolempcpcjaaDoorE2
import Derived.Test.YtmmbolempcpcjaaDoorRows
import Derived.Test.YtmmbolempcpcjaaDoorCards
import Derived.Test.YtmmbolempcpcjaaDoorTie
set_option linter.unusedVariables false
set_option linter.unusedSimpArgs false
set_option maxRecDepth 100000
set_option maxHeartbeats 1000000
namespace Go.Proofs.YtmmbolempcpcjaaDoor
open Go Go.RowKit Go.Proofs Go.ChangeShapes Go.WideShapes Go.ChangeAt
theorem lawShowText (H : Hp) (nx : Nat) (gT : Nat) (tyT : TypeId) (hgT : gT = 0) (hT : H gT = some (.rw powCells tyT)) (id0 : Int) (t0 : ByteArray) (fr0 : Int) (B0 : Option Addr) (m0 d0 : Nat) (mk0 : Nat → Int) (ht0 : t0.size ≤ 9223372036854775807) (hn0 : m0 ≤ 9223372036854775807) (h0 : Rd H B0 m0 1 (fun q _ => mk0 q)) :
    PC Tryd.prog 3 #[.agg #[.int .i64 id0, .string t0, .int .i64 fr0, .slice B0 m0 d0]] H nx (.bool true) := by
  obtain ⟨x0, x1, hv⟩ : ∃ x0 x1, vShowText id0 t0 fr0 m0 mk0 = .tuple #[.string x0, .bool x1] := by unfold vShowText; split <;> exact ⟨_, _, rfl⟩
  have hS : ∀ (H' : Hp) (nx' : Nat) (B0' : Option Addr) (h0' : Rd H' B0' m0 1 (fun q _ => mk0 q)), PC Tryd.prog 5 #[.agg #[.int .i64 id0, .string t0, .int .i64 fr0, .slice B0' m0 m0]] H' nx' (.tuple #[.string x0, .bool x1]) := by
    intro H' nx' B0' h0'
    rw [← hv]
    exact sShowText id0 t0 fr0 B0' m0 m0 mk0 H' nx' ht0 hn0 h0'
  have hI : ∀ (H' : Hp) (nx' : Nat) (B0' : Option Addr) (h0' : Rd H' B0' m0 1 (fun q _ => mk0 q)) (hs' : Sub H H'), PC Tryd.prog 7 #[.agg #[.int .i64 id0, .string t0, .int .i64 fr0, .slice B0' m0 m0]] H' nx' (.tuple #[.string x0, .bool x1]) := by
    intro H' nx' B0' h0' hs'
    rw [← hv]
    exact ShowText gT tyT id0 t0 fr0 B0' m0 m0 mk0 H' nx' hgT (hs' _ _ hT) ht0 hn0 h0'
  refine AC_of x_laws_FnExactShowText rfl fun hB => ?_
  simp (disch := omega) only [bsW, WOp, WOq, WV, bo, eqN, gdc, gw, bnd, ↓reduceIte, Nat.reduceEqDiff, rsvs, rsv, oneOf, rdN, ne_eq, Nat.reduceAdd, Nat.reduceMul, Nat.reduceLT, reduceCtorEq, Value.cells, setN, Value.oneCell', Nat.reduceLeDiff, undef, fcT, c_laws_FnExactShowText]
  (repeat' (first | ((with_reducible refine gif_split (fun hs_ => ?_) (fun hs_ => ?_)) <;> (have hp_ := hs_; (try simp only [hpL, ne_eq] at hp_); (try simp (disch := omega) only [bsW, WOp, WOq, WV, bo, eqN, gdc, gw, bnd, ↓reduceIte, Nat.reduceEqDiff, rsvs, rsv, oneOf, rdN, ne_eq, Nat.reduceAdd, Nat.reduceMul, Nat.reduceLT, reduceCtorEq, Value.cells, setN, Value.oneCell', Nat.reduceLeDiff, undef, fcT, hs_]))) | ((first | (with_reducible refine newB_i (fun nb_ hb_ => ?_)) | ((with_reducible show QC _ _ _ _ _ _); (first | (refine QC_i (szShowFrame id0 t0 fr0 B0 m0 d0 _ _ _ hn0 ht0 (by omega)) ?_))) | ((with_reducible show AC _ _ _ _ _ _); (first | (refine PC.ac (szShowFrame id0 t0 fr0 B0 m0 d0 _ _ _ hn0 ht0 (by omega)) ?_))) | (with_reducible refine RgE_i (fun (hBd_ : Bd _ _) => ?_))); (try simp (disch := omega) only [bsW, WOp, WOq, WV, bo, eqN, gdc, gw, bnd, ↓reduceIte, Nat.reduceEqDiff, rsvs, rsv, oneOf, rdN, ne_eq, Nat.reduceAdd, Nat.reduceMul, Nat.reduceLT, reduceCtorEq, Value.cells, setN, Value.oneCell', Nat.reduceLeDiff, undef, fcT])) | (with_reducible refine fun (hBd_ : Bd _ _) => ?_) | ((first | (with_reducible refine @And.intro (Sub _ _) _ ?_ ?_) | ((with_reducible refine @And.intro (Sub _ _ ∧ _) _ ?_ ?_); (with_reducible refine @And.intro (Sub _ _) _ ?_ ?_))); exact sbX) | ((with_reducible refine And.intro ?_ ?_); omega)))
  · exact Is_i (by (repeat (first | assumption | exact Sub.refl _ | (refine sub_up (nx := nx) ?_ hB ?_; omega))))
  · have hn0' : m0 ≤ 1048576 := szV_ok (by with_reducible assumption)
    have hs0 : Sub H (upd H nb_ (.rw [.int .i64 id0, .string t0, .int .i64 fr0, .slice B0 m0 d0] 24)) := by (repeat (first | assumption | exact Sub.refl _ | (refine sub_up (nx := nx) ?_ hB ?_; omega)))
    have z0 : ∀ j v, [Value.int .i64 id0, .string t0, .int .i64 fr0, .slice B0 m0 d0][j]? = some v → rd (upd H nb_ (.rw [.int .i64 id0, .string t0, .int .i64 fr0, .slice B0 m0 d0] 24)) nb_ j = some v := fun j v hv => by rw [rd_upd_same]; exact hv
    generalize (upd H nb_ (.rw [.int .i64 id0, .string t0, .int .i64 fr0, .slice B0 m0 d0] 24)) = H0 at *
    generalize nb_ = bA at *
    refine AC.monoB (toShowFrame _ _ _ _ _ _ _ _ _ hn0' (h0.sub hs0)) ?_
    rintro v1 H1 nx1 hB1 hx1 ⟨⟨q1, rfl, _, _, hc1⟩, ht1⟩
    have hs1 := hs0.trans ht1
    have y0 := rd_sub ht1 (z0 0 _ rfl)
    have y1 := rd_sub ht1 (z0 1 _ rfl)
    have y2 := rd_sub ht1 (z0 2 _ rfl)
    have y3 := rd_sub ht1 (z0 3 _ rfl)
    simp (disch := omega) only [bsW, WOp, WOq, WV, bo, eqN, gdc, gw, bnd, ↓reduceIte, Nat.reduceEqDiff, rsvs, rsv, oneOf, rdN, ne_eq, Nat.reduceAdd, Nat.reduceMul, Nat.reduceLT, reduceCtorEq, Value.cells, setN, Value.oneCell', Nat.reduceLeDiff, undef, fcT, y0, y1, y2, y3]
    (repeat' (first | ((with_reducible refine gif_split (fun hs_ => ?_) (fun hs_ => ?_)) <;> (have hp_ := hs_; (try simp only [hpL, ne_eq] at hp_); (try simp (disch := omega) only [bsW, WOp, WOq, WV, bo, eqN, gdc, gw, bnd, ↓reduceIte, Nat.reduceEqDiff, rsvs, rsv, oneOf, rdN, ne_eq, Nat.reduceAdd, Nat.reduceMul, Nat.reduceLT, reduceCtorEq, Value.cells, setN, Value.oneCell', Nat.reduceLeDiff, undef, fcT, y0, y1, y2, y3, hs_]))) | ((first | (with_reducible refine newB_i (fun nb_ hb_ => ?_)) | ((with_reducible show QC _ _ _ _ _ _); (first | (refine QC_i (hS _ _ _ (Rd.of hc1)) ?_))) | ((with_reducible show AC _ _ _ _ _ _); (first | (refine PC.ac (hS _ _ _ (Rd.of hc1)) ?_))) | (with_reducible refine RgE_i (fun (hBd_ : Bd _ _) => ?_))); (try simp (disch := omega) only [bsW, WOp, WOq, WV, bo, eqN, gdc, gw, bnd, ↓reduceIte, Nat.reduceEqDiff, rsvs, rsv, oneOf, rdN, ne_eq, Nat.reduceAdd, Nat.reduceMul, Nat.reduceLT, reduceCtorEq, Value.cells, setN, Value.oneCell', Nat.reduceLeDiff, undef, fcT, y0, y1, y2, y3])) | (with_reducible refine fun (hBd_ : Bd _ _) => ?_) | ((first | (with_reducible refine @And.intro (Sub _ _) _ ?_ ?_) | ((with_reducible refine @And.intro (Sub _ _ ∧ _) _ ?_ ?_); (with_reducible refine @And.intro (Sub _ _) _ ?_ ?_))); exact sbX) | ((with_reducible refine And.intro ?_ ?_); omega)))
    refine AC.monoB (toShowFrame _ _ _ _ _ _ _ _ _ hn0' (h0.sub hs1)) ?_
    rintro v2 H2 nx2 hB2 hx2 ⟨⟨q2, rfl, _, _, hc2⟩, ht2⟩
    have hs2 := hs1.trans ht2
    have hlt : bA < nx2 := by omega
    have y0 := rd_sub ht2 y0
    have y1 := rd_sub ht2 y1
    have y2 := rd_sub ht2 y2
    have y3 := rd_sub ht2 y3
    simp (disch := omega) only [bsW, WOp, WOq, WV, bo, eqN, gdc, gw, bnd, ↓reduceIte, Nat.reduceEqDiff, rsvs, rsv, oneOf, rdN, ne_eq, Nat.reduceAdd, Nat.reduceMul, Nat.reduceLT, reduceCtorEq, Value.cells, setN, Value.oneCell', Nat.reduceLeDiff, undef, fcT, y0, y1, y2, y3]
    (repeat' (first | ((with_reducible refine gif_split (fun hs_ => ?_) (fun hs_ => ?_)) <;> (have hp_ := hs_; (try simp only [hpL, ne_eq] at hp_); (try simp (disch := omega) only [bsW, WOp, WOq, WV, bo, eqN, gdc, gw, bnd, ↓reduceIte, Nat.reduceEqDiff, rsvs, rsv, oneOf, rdN, ne_eq, Nat.reduceAdd, Nat.reduceMul, Nat.reduceLT, reduceCtorEq, Value.cells, setN, Value.oneCell', Nat.reduceLeDiff, undef, fcT, y0, y1, y2, y3, hs_]))) | ((first | (with_reducible refine newB_i (fun nb_ hb_ => ?_)) | ((with_reducible show QC _ _ _ _ _ _); (first | (refine QC_i (hI _ _ _ ((Rd.of hc2).sub (sub_up (nx := nx2) (by omega) hB2 (Sub.refl _))) (hs2.trans (sub_up (nx := nx2) (by omega) hB2 (Sub.refl _)))) ?_) | (refine QC_i (hI _ _ _ (Rd.of hc2) hs2) ?_))) | ((with_reducible show AC _ _ _ _ _ _); (first | (refine PC.ac (hI _ _ _ ((Rd.of hc2).sub (sub_up (nx := nx2) (by omega) hB2 (Sub.refl _))) (hs2.trans (sub_up (nx := nx2) (by omega) hB2 (Sub.refl _)))) ?_) | (refine PC.ac (hI _ _ _ (Rd.of hc2) hs2) ?_))) | (with_reducible refine RgE_i (fun (hBd_ : Bd _ _) => ?_))); (try simp (disch := omega) only [bsW, WOp, WOq, WV, bo, eqN, gdc, gw, bnd, ↓reduceIte, Nat.reduceEqDiff, rsvs, rsv, oneOf, rdN, ne_eq, Nat.reduceAdd, Nat.reduceMul, Nat.reduceLT, reduceCtorEq, Value.cells, setN, Value.oneCell', Nat.reduceLeDiff, undef, fcT, y0, y1, y2, y3])) | (with_reducible refine fun (hBd_ : Bd _ _) => ?_) | ((first | (with_reducible refine @And.intro (Sub _ _) _ ?_ ?_) | ((with_reducible refine @And.intro (Sub _ _ ∧ _) _ ?_ ?_); (with_reducible refine @And.intro (Sub _ _) _ ?_ ?_))); exact sbX) | ((with_reducible refine And.intro ?_ ?_); omega)))
    have hu : Sub H2 (upd H2 nb_ (.rw [.int .i64 id0, .string t0, .int .i64 fr0, .slice (some ⟨q2, 0, none⟩) m0 m0] 28)) := sub_up (nx := nx2) (by omega) hB2 (Sub.refl _)
    refine AC.monoB (toShowFrame _ _ _ _ _ _ _ _ _ hn0' (h0.sub (hs2.trans hu))) ?_
    rintro v3 H3 nx3 hB3 hx3 ⟨⟨q3, rfl, _, _, hc3⟩, ht3⟩
    have hs3 := (hs2.trans hu).trans ht3
    simp (disch := omega) only [bsW, WOp, WOq, WV, bo, eqN, gdc, gw, bnd, ↓reduceIte, Nat.reduceEqDiff, rsvs, rsv, oneOf, rdN, ne_eq, Nat.reduceAdd, Nat.reduceMul, Nat.reduceLT, reduceCtorEq, Value.cells, setN, Value.oneCell', Nat.reduceLeDiff, undef, fcT]
    (repeat' (first | ((with_reducible refine gif_split (fun hs_ => ?_) (fun hs_ => ?_)) <;> (have hp_ := hs_; (try simp only [hpL, ne_eq] at hp_); (try simp (disch := omega) only [bsW, WOp, WOq, WV, bo, eqN, gdc, gw, bnd, ↓reduceIte, Nat.reduceEqDiff, rsvs, rsv, oneOf, rdN, ne_eq, Nat.reduceAdd, Nat.reduceMul, Nat.reduceLT, reduceCtorEq, Value.cells, setN, Value.oneCell', Nat.reduceLeDiff, undef, fcT, hs_]))) | ((first | (with_reducible refine newB_i (fun nb_ hb_ => ?_)) | ((with_reducible show QC _ _ _ _ _ _); (first | (refine QC_i (eqShowFrame _ _ _ _ _ _ _ _ _ _ _ (by omega) (Rd.of (ht3 _ _ (hu _ _ hc2))) (Rd.of hc3)) ?_))) | ((with_reducible show AC _ _ _ _ _ _); (first | (refine PC.ac (eqShowFrame _ _ _ _ _ _ _ _ _ _ _ (by omega) (Rd.of (ht3 _ _ (hu _ _ hc2))) (Rd.of hc3)) ?_))) | (with_reducible refine RgE_i (fun (hBd_ : Bd _ _) => ?_))); (try simp (disch := omega) only [bsW, WOp, WOq, WV, bo, eqN, gdc, gw, bnd, ↓reduceIte, Nat.reduceEqDiff, rsvs, rsv, oneOf, rdN, ne_eq, Nat.reduceAdd, Nat.reduceMul, Nat.reduceLT, reduceCtorEq, Value.cells, setN, Value.oneCell', Nat.reduceLeDiff, undef, fcT])) | (with_reducible refine fun (hBd_ : Bd _ _) => ?_) | ((first | (with_reducible refine @And.intro (Sub _ _) _ ?_ ?_) | ((with_reducible refine @And.intro (Sub _ _ ∧ _) _ ?_ ?_); (with_reducible refine @And.intro (Sub _ _) _ ?_ ?_))); exact sbX) | ((with_reducible refine And.intro ?_ ?_); omega)))
    exact Is_i hs3
theorem fnExactShowText_mem : ((("internal/strconv.uint64pow10", Lib.tabData .u64 Lib.pow10Tab) : String × DataW Unit)) ∈ Rows.fnExactShowTextRow.laid := (List.Mem.tail _ (List.Mem.tail _ (List.Mem.head _)))
theorem FnExactShowText_pc {H : Type} (enc : TypeId × Value → H) : LaidPC enc Tryd.prog 3 Tryd.f3.params.toList 0 powCells := by
  intro W base args Hp0 tyT hBd hrd hT ha
  have hr : ArgsOK enc Tryd.prog W base Tryd.f3.params.toList args.toList := ha
  rw [Tryd.params3] at hr
  obtain ⟨u0, l0, e0, a0, hr⟩ := hr
  obtain ⟨id0, t0, fr0, B0, m0, d0, mk0, rfl, hT0, hz0, hR0⟩ := arg_show Tryd.underlying24 (by kernel_rfl) (by kernel_rfl) Tryd.underlying22 Tryd.underlying3 (by kernel_rfl) a0
  have hr : l0 = [] := hr
  have ea : args = #[.agg #[.int .i64 id0, .string t0, .int .i64 fr0, .slice B0 m0 d0]] := by
    apply Array.ext'
    rw [e0, hr]
  subst ea
  exact lawShowText _ _ _ tyT rfl hT id0 t0 fr0 B0 m0 d0 mk0 hT0 (by omega) (hR0.tr hrd)
theorem FnExactShowText_lifted (os : Os) (started : os.Started) (H : Type) (enc : TypeId × Value → H) :
    ReturnsInHanded {} Tryd.checked os 3 .any (fun w args => (Rows.fnExactShowTextSpec.pre enc Tryd.prog Tryd.f3 Rows.fnExactShowTextRow.domain false w args ∧ laidMetH Tryd.prog Rows.fnExactShowTextRow.laid w) ∧ sizedMet enc Tryd.prog Tryd.f3 (OpenSpec.ofChange Rows.fnExactShowTextSpec) false w args) (Rows.fnExactShowTextSpec.post enc Tryd.prog Tryd.f3 false true false false) := by
  refine law_lifted_laid (C := Tryd.checked) (tb := 4) (laid := Rows.fnExactShowTextRow.laid) (g := 0) (cs := powCells) x_laws_FnExactShowText.call (by kernel_rfl) started (by kernel_rfl) (by kernel_rfl) Tryd.func3 rfl (by kernel_rfl) (by kernel_rfl) (by kernel_rfl) ?_
    (ChangeSpec.witness_shaped (enc := enc) (C := Tryd.checked) (os := os) (X := fun w _ => laidMetH Tryd.prog Rows.fnExactShowTextRow.laid w) false (World.laidAll Tryd.prog os Rows.fnExactShowTextRow.laid) #[.agg #[.int .i64 0, .string ByteArray.empty, .int .i64 0, .slice none 0 0]] 8 (World.laidAll_os _ _ _)
      (World.shaped_of_ZipB (by kernel_rfl) (by kernel_rfl)) (by kernel_rfl) (by kernel_rfl) (by kernel_rfl)
      (by rw [MakeChecks.laidMetH_plain _ _ _ (by kernel_rfl)]; exact laidMet_laidAll _ (by kernel_rfl) (by kernel_rfl))) ?_ (FnExactShowText_pc enc)
  · intro ds hd
    match ds, hd with
    | [d0], _ => rfl
  · intro W h
    rw [MakeChecks.laidMetH_plain _ _ _ (by kernel_rfl)] at h
    exact tab_heap (zs := Lib.pow10Tab) (by kernel_rfl) (by kernel_rfl) Tryd.underlying60 Tryd.underlying52 (by kernel_rfl) (by kernel_rfl) (by decide) fnExactShowText_mem h
theorem FnExactShowText_bare : Rows.FnExactShowTextSaid :=
  OpenClaim.holds_of_wide 3 Tryd.f3 rfl rfl rfl rfl rfl rfl rfl ⟨rfl, rfl, rfl, rfl, rfl⟩ rfl rfl rfl rfl rfl (by kernel_rfl) Tryd.func3 (by kernel_rfl)
    (of_decide_eq_true (by kernel_rfl)) (by unfold Func.isWrapper; first | (rw [if_pos (by decide +kernel)]; kernel_rfl) | (rw [if_neg (by decide +kernel)]; exact ⟨rfl, rfl⟩))
    (fun os started H enc _ => FnExactShowText_lifted os started H enc)
theorem FnExactShowTextCardSaid_holds : Rows.FnExactShowTextCardSaid :=
  Claim7.holds_tied_plain_at .later [] [.data, .data, .data] true (true, "3bb49bc24a37ec2a55537557fc6595ad6bb638efa285e20ec65fa7fda0821a8f") false FnExactShowText_bare (fun _ h => by cases h) (by kernel_rfl) (fun _ h => by cases h) fnExactShowText_row_tie rfl ⟨rfl, rfl⟩ (by kernel_rfl) rfl
    (fun f fn hf hfn => by
      obtain rfl : f = 3 := Option.some.inj ((show Tryd.prog.funcNamed Rows.fnExactShowTextRow.func = some 3 by kernel_rfl).symm.trans hf) |>.symm
      obtain rfl : fn = Tryd.f3 := (Option.some.inj (Tryd.func3.symm.trans hfn)).symm
      exact ⟨by kernel_rfl, fun j t ht => by
        rw [Tryd.params3] at ht
        have hm : t ∈ [24] := by simpa using Array.mem_of_getElem? ht
        have hall : ([24].all fun u => !Tryd.prog.wantsStandIn u) = true := by kernel_rfl
        exact (show Tryd.prog.wantsStandIn t = false by simpa using List.all_eq_true.1 hall t hm)⟩)
    (by kernel_rfl)
end Go.Proofs.YtmmbolempcpcjaaDoor
