/- PriceIn and GrowthIn. -/
import Derived.Test.YtnjlleopgjggpaaDoorP3
import Derived.Test.YtnjlleopgjggpaaDoorP5
set_option linter.unusedVariables false
set_option linter.unusedSimpArgs false
set_option maxRecDepth 100000
set_option maxHeartbeats 1000000
namespace Go.Proofs.YtnjlleopgjggpaaDoor
open Go Go.RowKit Go.Proofs

theorem yr {y : Int} (h : inR y 1840 2100 = true) : 0 ≤ y ∧ y ≤ 4000 := by have := inR_true.1 h; omega
noncomputable def vPriceIn (n : Nat) (f : Nat → Nat → Int) (item year : Int) : Value :=
  if prsB n f = true ∧ inR item 1 999 = true ∧ inR year 1840 2100 = true then .tuple #[.int .i64 (priceV n f item year), .bool (decide (0 < priceV n f item year))] else .tuple #[.int .i64 0, .bool false]

theorem PriceIn (A : Option Addr) (n c : Nat) (f : Nat → Nat → Int) (item year : Int) (H : Hp) (nx : Nat) (hn : n ≤ 17592186044416) (h : Rd H A n 3 f) :
    PC Tryd.prog 30 #[.slice A n c, .int .i64 item, .int .i64 year] H nx (vPriceIn n f item year) := by
  refine AC_of x_impl_PriceIn rfl fun hB => ?_
  simp (disch := omega) only [bsW, WOp, WOq, WV, bo, eqN, gdc, gw, bnd, ↓reduceIte, Nat.reduceEqDiff, rsvs, rsv, oneOf, rdN, ne_eq, Nat.reduceAdd, Nat.reduceMul, Nat.reduceLT, reduceCtorEq, Value.cells, setN, Value.oneCell', Nat.reduceLeDiff, undef, fcT, c_impl_PriceIn]
  (repeat' (first | ((with_reducible refine gif_split (fun hs_ => ?_) (fun hs_ => ?_)) <;> (have hp_ := hs_; (try simp only [hpL, ne_eq] at hp_); (try simp (disch := omega) only [bsW, WOp, WOq, WV, bo, eqN, gdc, gw, bnd, ↓reduceIte, Nat.reduceEqDiff, rsvs, rsv, oneOf, rdN, ne_eq, Nat.reduceAdd, Nat.reduceMul, Nat.reduceLT, reduceCtorEq, Value.cells, setN, Value.oneCell', Nat.reduceLeDiff, undef, fcT, hs_]))) | ((first | (with_reducible refine newB_i (fun nb_ hb_ => ?_)) | ((with_reducible show QC _ _ _ _ _ _); (first | (refine QC_i (arePrices A n c f _ _ hn h) ?_) | (refine QC_i (isItem _ _ _) ?_) | (refine QC_i (isYear _ _ _) ?_) | (refine QC_i (priceIn A n c f _ _ _ _ (prsB_iff.1 (by with_reducible assumption)) (yr (by with_reducible assumption)) h) ?_))) | ((with_reducible show AC _ _ _ _ _ _); (first | (refine PC.ac (arePrices A n c f _ _ hn h) ?_) | (refine PC.ac (isItem _ _ _) ?_) | (refine PC.ac (isYear _ _ _) ?_) | (refine PC.ac (priceIn A n c f _ _ _ _ (prsB_iff.1 (by with_reducible assumption)) (yr (by with_reducible assumption)) h) ?_))) | (with_reducible refine RgE_i (fun (hBd_ : Bd _ _) => ?_))); (try simp (disch := omega) only [bsW, WOp, WOq, WV, bo, eqN, gdc, gw, bnd, ↓reduceIte, Nat.reduceEqDiff, rsvs, rsv, oneOf, rdN, ne_eq, Nat.reduceAdd, Nat.reduceMul, Nat.reduceLT, reduceCtorEq, Value.cells, setN, Value.oneCell', Nat.reduceLeDiff, undef, fcT])) | (with_reducible refine fun (hBd_ : Bd _ _) => ?_) | ((first | (with_reducible refine @And.intro (Sub _ _) _ ?_ ?_) | ((with_reducible refine @And.intro (Sub _ _ ∧ _) _ ?_ ?_); (with_reducible refine @And.intro (Sub _ _) _ ?_ ?_))); exact sbX) | ((with_reducible refine And.intro ?_ ?_); omega)))
  all_goals try (exfalso; omega)
  all_goals exact Is_e (by simp [vPriceIn, *]) (Sub.refl H)

end Go.Proofs.YtnjlleopgjggpaaDoor
