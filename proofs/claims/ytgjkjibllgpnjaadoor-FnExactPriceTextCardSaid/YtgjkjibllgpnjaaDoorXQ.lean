/- The law PriceText: the call gives true; the card. -/
import Derived.Test.YtgjkjibllgpnjaaDoorXP
import Derived.Test.YtgjkjibllgpnjaaDoorE3
import Derived.Test.YtgjkjibllgpnjaaDoorRows
import Derived.Test.YtgjkjibllgpnjaaDoorCards
import Derived.Test.YtgjkjibllgpnjaaDoorTie
set_option linter.unusedVariables false
set_option linter.unusedSimpArgs false
set_option maxRecDepth 100000
set_option maxHeartbeats 1000000
namespace Go.Proofs.YtgjkjibllgpnjaaDoor
open Go Go.RowKit Go.Proofs Go.ChangeShapes Go.WideShapes Go.ChangeAt

theorem lawPriceText (H : Hp) (nx : Nat) (gT : Nat) (tyT : TypeId) (hgT : gT = 0) (hT : H gT = some (.rw powCells tyT)) (x0 x1 x2 : Int) :
    PC Tryd.prog 3 #[.agg #[.int .i64 x0, .int .i64 x1, .int .i64 x2]] H nx (.bool true) := by
  obtain ⟨y0, y1, hv⟩ : ∃ y0 y1, vPriceText x0 x1 x2 = .tuple #[.string y0, .bool y1] := by unfold vPriceText; split <;> exact ⟨_, _, rfl⟩
  have hS : ∀ (H' : Hp) (nx' : Nat), PC Tryd.prog 4 #[.agg #[.int .i64 x0, .int .i64 x1, .int .i64 x2]] H' nx' (.tuple #[.string y0, .bool y1]) := fun H' nx' => by rw [← hv]; exact sPriceText x0 x1 x2 H' nx'
  have hI : ∀ (H' : Hp) (nx' : Nat), H' gT = some (.rw powCells tyT) → PC Tryd.prog 6 #[.agg #[.int .i64 x0, .int .i64 x1, .int .i64 x2]] H' nx' (.tuple #[.string y0, .bool y1]) := fun H' nx' hT' => by rw [← hv]; exact PriceText gT tyT x0 x1 x2 H' nx' hgT hT'
  refine AC_of x_laws_FnExactPriceText rfl fun hB => ?_
  simp (disch := omega) only [bsW, WOp, WOq, WV, bo, gdc, gw, bnd, ↓reduceIte, Nat.reduceEqDiff, rsvs, rsv, oneOf, rdN, ne_eq, Nat.reduceAdd, Nat.reduceMul, Nat.reduceLT, reduceCtorEq, Value.cells, setN, Value.oneCell', Nat.reduceLeDiff, undef, fcT, c_laws_FnExactPriceText]
  (repeat' (first | ((with_reducible refine gif_split (fun hs_ => ?_) (fun hs_ => ?_)) <;> (have hp_ := hs_; (try simp only [decide_eq_true_eq, decide_eq_false_iff_not, beq_iff_eq, bne_iff_ne, beq_eq_false_iff_ne, Bool.not_eq_true, Bool.and_eq_true, Bool.or_eq_true, Bool.and_eq_false_iff, Bool.or_eq_false_iff, bne_eq_false_iff_eq, ne_eq] at hp_); (try simp (disch := omega) only [bsW, WOp, WOq, WV, bo, gdc, gw, bnd, ↓reduceIte, Nat.reduceEqDiff, rsvs, rsv, oneOf, rdN, ne_eq, Nat.reduceAdd, Nat.reduceMul, Nat.reduceLT, reduceCtorEq, Value.cells, setN, Value.oneCell', Nat.reduceLeDiff, undef, fcT, hs_]))) | ((with_reducible refine newB_i (fun nb_ hb_ => ?_)); (try simp (disch := omega) only [bsW, WOp, WOq, WV, bo, gdc, gw, bnd, ↓reduceIte, Nat.reduceEqDiff, rsvs, rsv, oneOf, rdN, ne_eq, Nat.reduceAdd, Nat.reduceMul, Nat.reduceLT, reduceCtorEq, Value.cells, setN, Value.oneCell', Nat.reduceLeDiff, undef, fcT])) | ((first | ((with_reducible show QC _ _ _ _ _ _); (first | (refine QC_i (toPriceRow _ _ _ _ _) ?_) | (refine QC_i (hS _ _) ?_) | (refine QC_i (hI _ _ (by have := hB _ _ hT; rw [upd_ne (by omega)]; exact hT)) ?_))) | ((with_reducible show AC _ _ _ _ _ _); (first | (refine PC.ac (toPriceRow _ _ _ _ _) ?_) | (refine PC.ac (hS _ _) ?_) | (refine PC.ac (hI _ _ (by have := hB _ _ hT; rw [upd_ne (by omega)]; exact hT)) ?_)))); (try simp (disch := omega) only [bsW, WOp, WOq, WV, bo, gdc, gw, bnd, ↓reduceIte, Nat.reduceEqDiff, rsvs, rsv, oneOf, rdN, ne_eq, Nat.reduceAdd, Nat.reduceMul, Nat.reduceLT, reduceCtorEq, Value.cells, setN, Value.oneCell', Nat.reduceLeDiff, undef, fcT])) | ((with_reducible refine RgE_i (fun (hBd_ : Bd _ _) => ?_)); (try simp (disch := omega) only [bsW, WOp, WOq, WV, bo, gdc, gw, bnd, ↓reduceIte, Nat.reduceEqDiff, rsvs, rsv, oneOf, rdN, ne_eq, Nat.reduceAdd, Nat.reduceMul, Nat.reduceLT, reduceCtorEq, Value.cells, setN, Value.oneCell', Nat.reduceLeDiff, undef, fcT])) | (with_reducible refine fun (hBd_ : Bd _ _) => ?_) | ((with_reducible refine @And.intro (Sub _ _) _ ?_ ?_); (first | exact Sub.refl _ | exact sub_del _ _ | exact sub_del_upd (Sub.refl _) | exact sub_del_upd (by with_reducible assumption) | with_reducible assumption | exact Sub.trans (sub_del _ _) (by with_reducible assumption) | exact sub_new (by with_reducible assumption) (by with_reducible assumption) | exact sub_up2 (by with_reducible assumption) (by with_reducible assumption) (by omega) | exact sub_up2 (by with_reducible assumption) (sub_up2 (by with_reducible assumption) (Sub.refl _) (by omega)) (by omega))) | ((with_reducible refine @And.intro (Sub _ _ ∧ _) _ ?_ ?_); (with_reducible refine @And.intro (Sub _ _) _ ?_ ?_); (first | exact Sub.refl _ | exact sub_del _ _ | exact sub_del_upd (Sub.refl _) | exact sub_del_upd (by with_reducible assumption) | with_reducible assumption | exact Sub.trans (sub_del _ _) (by with_reducible assumption) | exact sub_new (by with_reducible assumption) (by with_reducible assumption) | exact sub_up2 (by with_reducible assumption) (by with_reducible assumption) (by omega) | exact sub_up2 (by with_reducible assumption) (sub_up2 (by with_reducible assumption) (Sub.refl _) (by omega)) (by omega))) | ((with_reducible refine And.intro ?_ ?_); omega)))
  exact Is_i (sub_new hB (by assumption))
theorem fnExactPriceText_mem : ((("internal/strconv.uint64pow10", Lib.tabData .u64 Lib.pow10Tab) : String × DataW Unit)) ∈ Rows.fnExactPriceTextRow.laid := (List.Mem.tail _ (List.Mem.tail _ (List.Mem.head _)))
theorem FnExactPriceText_pc {H : Type} (enc : TypeId × Value → H) : LaidPC enc Tryd.prog 3 Tryd.f3.params.toList 0 powCells := by
  intro W base args Hp0 tyT hBd hrd hT ha
  have hr : ArgsOK enc Tryd.prog W base Tryd.f3.params.toList args.toList := ha
  rw [Tryd.params3] at hr
  obtain ⟨u0, l0, e0, a0, hr⟩ := hr
  obtain ⟨f0, rfl, _⟩ := arg_struct (k := 3) Tryd.underlying23 (by kernel_rfl) (by kernel_rfl) a0
  have hr : l0 = [] := hr
  have ea : args = #[.agg #[.int .i64 (f0 0), .int .i64 (f0 1), .int .i64 (f0 2)]] := by
    apply Array.ext'
    rw [e0, hr]
    rfl
  subst ea
  exact lawPriceText _ _ _ tyT rfl hT _ _ _
theorem FnExactPriceText_lifted (os : Os) (started : os.Started) (H : Type) (enc : TypeId × Value → H) :
    ReturnsInHanded {} Tryd.checked os 3 .any (fun w args => (Rows.fnExactPriceTextSpec.pre enc Tryd.prog Tryd.f3 Rows.fnExactPriceTextRow.domain false w args ∧ laidMetH Tryd.prog Rows.fnExactPriceTextRow.laid w) ∧ sizedMet enc Tryd.prog Tryd.f3 (OpenSpec.ofChange Rows.fnExactPriceTextSpec) false w args) (Rows.fnExactPriceTextSpec.post enc Tryd.prog Tryd.f3 false true false false) := by
  refine law_lifted_laid (C := Tryd.checked) (tb := 4) (laid := Rows.fnExactPriceTextRow.laid) (g := 0) (cs := powCells) x_laws_FnExactPriceText.call (by kernel_rfl) started (by kernel_rfl) (by kernel_rfl) Tryd.func3 rfl (by kernel_rfl) (by kernel_rfl) (by kernel_rfl) ?_
    (ChangeSpec.witness_shaped (enc := enc) (C := Tryd.checked) (os := os) (X := fun w _ => laidMetH Tryd.prog Rows.fnExactPriceTextRow.laid w) false (World.laidAll Tryd.prog os Rows.fnExactPriceTextRow.laid) #[.agg #[.int .i64 0, .int .i64 0, .int .i64 0]] 8 (World.laidAll_os _ _ _)
      (World.shaped_of_ZipB (by kernel_rfl) (by kernel_rfl)) (by kernel_rfl) (by kernel_rfl) (by kernel_rfl)
      (by rw [MakeChecks.laidMetH_plain _ _ _ (by kernel_rfl)]; exact laidMet_laidAll _ (by kernel_rfl) (by kernel_rfl))) ?_ (FnExactPriceText_pc enc)
  · intro ds hd
    match ds, hd with
    | [d0], _ => rfl
  · intro W h
    rw [MakeChecks.laidMetH_plain _ _ _ (by kernel_rfl)] at h
    exact tab_heap (zs := Lib.pow10Tab) (by kernel_rfl) (by kernel_rfl) Tryd.underlying43 Tryd.underlying35 (by kernel_rfl) (by kernel_rfl) (by decide) fnExactPriceText_mem h
theorem FnExactPriceText_bare : Rows.FnExactPriceTextSaid :=
  OpenClaim.holds_of_wide 3 Tryd.f3 rfl rfl rfl rfl rfl rfl rfl ⟨rfl, rfl, rfl, rfl, rfl⟩ rfl rfl rfl rfl rfl (by kernel_rfl) Tryd.func3 (by kernel_rfl)
    (of_decide_eq_true (by kernel_rfl)) (by unfold Func.isWrapper; first | (rw [if_pos (by decide +kernel)]; kernel_rfl) | (rw [if_neg (by decide +kernel)]; exact ⟨rfl, rfl⟩))
    (fun os started H enc _ => FnExactPriceText_lifted os started H enc)
theorem FnExactPriceTextCardSaid_holds : Rows.FnExactPriceTextCardSaid :=
  Claim7.holds_tied_plain_at .later [] [.data, .data, .data] true (true, "bf346e784d9700262e01c3c15dd130fca68a1ec2bc4a1111c6463eadaffc6369") false FnExactPriceText_bare (fun _ h => by cases h) (by kernel_rfl) (fun _ h => by cases h) fnExactPriceText_row_tie rfl ⟨rfl, rfl⟩ (by kernel_rfl) rfl
    (fun f fn hf hfn => by
      obtain rfl : f = 3 := Option.some.inj ((show Tryd.prog.funcNamed Rows.fnExactPriceTextRow.func = some 3 by kernel_rfl).symm.trans hf) |>.symm
      obtain rfl : fn = Tryd.f3 := (Option.some.inj (Tryd.func3.symm.trans hfn)).symm
      exact ⟨by kernel_rfl, fun j t ht => by
        rw [Tryd.params3] at ht
        have hm : t ∈ [23] := by simpa using Array.mem_of_getElem? ht
        have hall : ([23].all fun u => !Tryd.prog.wantsStandIn u) = true := by kernel_rfl
        exact (show Tryd.prog.wantsStandIn t = false by simpa using List.all_eq_true.1 hall t hm)⟩)
    (by kernel_rfl)
end Go.Proofs.YtgjkjibllgpnjaaDoor
