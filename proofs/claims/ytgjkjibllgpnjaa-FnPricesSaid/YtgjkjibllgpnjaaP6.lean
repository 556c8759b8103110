/- PriceIn and GrowthIn. -/
import Derived.Test.YtgjkjibllgpnjaaP3
import Derived.Test.YtgjkjibllgpnjaaP5
set_option linter.unusedVariables false
set_option linter.unusedSimpArgs false
set_option maxRecDepth 100000
set_option maxHeartbeats 1000000
namespace Go.Proofs.Ytgjkjibllgpnjaa
open Go Go.RowKit Go.Proofs

theorem yr {y : Int} (h : inR y 1840 2100 = true) : 0 ≤ y ∧ y ≤ 4000 := by have := inR_true.1 h; omega
noncomputable def vPriceIn (n : Nat) (f : Nat → Nat → Int) (item year : Int) : Value :=
  if prsB n f = true ∧ inR item 1 999 = true ∧ inR year 1840 2100 = true then .tuple #[.int .i64 (priceV n f item year), .bool (decide (0 < priceV n f item year))] else .tuple #[.int .i64 0, .bool false]

theorem PriceIn (A : Option Addr) (n c : Nat) (f : Nat → Nat → Int) (item year : Int) (H : Hp) (nx : Nat) (hn : n ≤ 17592186044416) (h : Rd H A n 3 f) :
    PC Try.prog 22 #[.slice A n c, .int .i64 item, .int .i64 year] H nx (vPriceIn n f item year) := by
  refine AC_of x_impl_PriceIn rfl fun hB => ?_
  simp (disch := omega) only [bsW, WOp, WOq, WV, bo, eqN, gdc, gw, bnd, ↓reduceIte, Nat.reduceEqDiff, rsvs, rsv, oneOf, rdN, ne_eq, Nat.reduceAdd, Nat.reduceMul, Nat.reduceLT, reduceCtorEq, Value.cells, setN, Value.oneCell', Nat.reduceLeDiff, undef, fcT, c_impl_PriceIn]
  (repeat' (first | ((with_reducible refine gif_split (fun hs_ => ?_) (fun hs_ => ?_)) <;> (have hp_ := hs_; (try simp only [hpL, ne_eq] at hp_); (try simp (disch := omega) only [bsW, WOp, WOq, WV, bo, eqN, gdc, gw, bnd, ↓reduceIte, Nat.reduceEqDiff, rsvs, rsv, oneOf, rdN, ne_eq, Nat.reduceAdd, Nat.reduceMul, Nat.reduceLT, reduceCtorEq, Value.cells, setN, Value.oneCell', Nat.reduceLeDiff, undef, fcT, hs_]))) | ((first | (with_reducible refine newB_i (fun nb_ hb_ => ?_)) | ((with_reducible show QC _ _ _ _ _ _); (first | (refine QC_i (arePrices A n c f _ _ hn h) ?_) | (refine QC_i (isItem _ _ _) ?_) | (refine QC_i (isYear _ _ _) ?_) | (refine QC_i (priceIn A n c f _ _ _ _ (prsB_iff.1 (by with_reducible assumption)) (yr (by with_reducible assumption)) h) ?_))) | ((with_reducible show AC _ _ _ _ _ _); (first | (refine PC.ac (arePrices A n c f _ _ hn h) ?_) | (refine PC.ac (isItem _ _ _) ?_) | (refine PC.ac (isYear _ _ _) ?_) | (refine PC.ac (priceIn A n c f _ _ _ _ (prsB_iff.1 (by with_reducible assumption)) (yr (by with_reducible assumption)) h) ?_))) | (with_reducible refine RgE_i (fun (hBd_ : Bd _ _) => ?_))); (try simp (disch := omega) only [bsW, WOp, WOq, WV, bo, eqN, gdc, gw, bnd, ↓reduceIte, Nat.reduceEqDiff, rsvs, rsv, oneOf, rdN, ne_eq, Nat.reduceAdd, Nat.reduceMul, Nat.reduceLT, reduceCtorEq, Value.cells, setN, Value.oneCell', Nat.reduceLeDiff, undef, fcT])) | (with_reducible refine fun (hBd_ : Bd _ _) => ?_) | ((first | (with_reducible refine @And.intro (Sub _ _) _ ?_ ?_) | ((with_reducible refine @And.intro (Sub _ _ ∧ _) _ ?_ ?_); (with_reducible refine @And.intro (Sub _ _) _ ?_ ?_))); exact sbX) | ((with_reducible refine And.intro ?_ ?_); omega)))
  all_goals try (exfalso; omega)
  all_goals exact Is_e (by simp [vPriceIn, *]) (Sub.refl H)

theorem sPriceIn (A : Option Addr) (n c : Nat) (f : Nat → Nat → Int) (item year : Int) (H : Hp) (nx : Nat) (hn : n ≤ 17592186044416) (h : Rd H A n 3 f) :
    PC Try.prog 21 #[.slice A n c, .int .i64 item, .int .i64 year] H nx (vPriceIn n f item year) := by
  refine AC_of x_spec_PriceIn rfl fun hB => ?_
  simp (disch := omega) only [bsW, WOp, WOq, WV, bo, eqN, gdc, gw, bnd, ↓reduceIte, Nat.reduceEqDiff, rsvs, rsv, oneOf, rdN, ne_eq, Nat.reduceAdd, Nat.reduceMul, Nat.reduceLT, reduceCtorEq, Value.cells, setN, Value.oneCell', Nat.reduceLeDiff, undef, fcT, c_spec_PriceIn]
  (repeat' (first | ((with_reducible refine gif_split (fun hs_ => ?_) (fun hs_ => ?_)) <;> (have hp_ := hs_; (try simp only [hpL, ne_eq] at hp_); (try simp (disch := omega) only [bsW, WOp, WOq, WV, bo, eqN, gdc, gw, bnd, ↓reduceIte, Nat.reduceEqDiff, rsvs, rsv, oneOf, rdN, ne_eq, Nat.reduceAdd, Nat.reduceMul, Nat.reduceLT, reduceCtorEq, Value.cells, setN, Value.oneCell', Nat.reduceLeDiff, undef, fcT, hs_]))) | ((first | (with_reducible refine newB_i (fun nb_ hb_ => ?_)) | ((with_reducible show QC _ _ _ _ _ _); (first | (refine QC_i (l24Good A n c f _ _ hn h) ?_) | (refine QC_i (l24Item _ _ _) ?_) | (refine QC_i (l24Year _ _ _) ?_) | (refine QC_i (l24Price A n c f _ _ _ _ (prsB_iff.1 (by with_reducible assumption)) (yr (by with_reducible assumption)) h) ?_))) | ((with_reducible show AC _ _ _ _ _ _); (first | (refine PC.ac (l24Good A n c f _ _ hn h) ?_) | (refine PC.ac (l24Item _ _ _) ?_) | (refine PC.ac (l24Year _ _ _) ?_) | (refine PC.ac (l24Price A n c f _ _ _ _ (prsB_iff.1 (by with_reducible assumption)) (yr (by with_reducible assumption)) h) ?_))) | (with_reducible refine RgE_i (fun (hBd_ : Bd _ _) => ?_))); (try simp (disch := omega) only [bsW, WOp, WOq, WV, bo, eqN, gdc, gw, bnd, ↓reduceIte, Nat.reduceEqDiff, rsvs, rsv, oneOf, rdN, ne_eq, Nat.reduceAdd, Nat.reduceMul, Nat.reduceLT, reduceCtorEq, Value.cells, setN, Value.oneCell', Nat.reduceLeDiff, undef, fcT])) | (with_reducible refine fun (hBd_ : Bd _ _) => ?_) | ((first | (with_reducible refine @And.intro (Sub _ _) _ ?_ ?_) | ((with_reducible refine @And.intro (Sub _ _ ∧ _) _ ?_ ?_); (with_reducible refine @And.intro (Sub _ _) _ ?_ ?_))); exact sbX) | ((with_reducible refine And.intro ?_ ?_); omega)))
  all_goals try (exfalso; omega)
  all_goals exact Is_e (by simp [vPriceIn, *]) (Sub.refl H)

noncomputable def vGrowth (n : Nat) (f : Nat → Nat → Int) (item from_ until_ : Int) : Value :=
  if (prsB n f = true ∧ inR item 1 999 = true ∧ inR from_ 1840 2100 = true ∧ inR until_ 1840 2100 = true ∧ from_ < until_) ∧ priceV n f item from_ ≠ 0 ∧ priceV n f item until_ ≠ 0 then
    .tuple #[.int .i64 (((priceV n f item until_).toNat / Nat.gcd (priceV n f item until_).toNat (priceV n f item from_).toNat : Nat) : Int), .int .i64 (((priceV n f item from_).toNat / Nat.gcd (priceV n f item until_).toNat (priceV n f item from_).toNat : Nat) : Int), .bool true]
  else .tuple #[.int .i64 0, .int .i64 0, .bool false]
theorem fracI {P : Program} {g : FuncId} {x y : Int} {H : Hp} {nx : Nat} (hx : 0 ≤ x ∧ x ≤ 10000000) (hy : 0 ≤ y ∧ y ≤ 10000000) (hy0 : ¬ y = 0)
    (hc : ∀ p q : Nat, (p : Int) ≤ 1000000000000000 → (q : Int) ≤ 1000000000000000 → 0 < q → PC P g #[.int .i64 p, .int .i64 q] H nx (fracV p q)) :
    PC P g #[.int .i64 x, .int .i64 y] H nx (.tuple #[.int .i64 ((x.toNat / Nat.gcd x.toNat y.toNat : Nat) : Int), .int .i64 ((y.toNat / Nat.gcd x.toNat y.toNat : Nat) : Int)]) := by
  have h := hc x.toNat y.toNat (by omega) (by omega) (by omega)
  rw [Int.toNat_of_nonneg hx.1, Int.toNat_of_nonneg hy.1] at h
  exact h
theorem ne_pos {x : Int} (h : 0 < x) : ¬ x = 0 := by omega

theorem GrowthIn (A : Option Addr) (n c : Nat) (f : Nat → Nat → Int) (item from_ until_ : Int) (H : Hp) (nx : Nat) (hn : n ≤ 17592186044416) (h : Rd H A n 3 f) :
    PC Try.prog 30 #[.slice A n c, .int .i64 item, .int .i64 from_, .int .i64 until_] H nx (vGrowth n f item from_ until_) := by
  have hp1 : prsB n f = true → inR from_ 1840 2100 = true → PC Try.prog 58 #[.slice A n c, .int .i64 item, .int .i64 from_] H nx (.tuple #[.int .i64 (priceV n f item from_), .bool (decide (0 < priceV n f item from_))]) := fun h1 h2 => priceIn A n c f item from_ H nx (prsB_iff.1 h1) (yr h2) h
  have hp2 : prsB n f = true → inR until_ 1840 2100 = true → PC Try.prog 58 #[.slice A n c, .int .i64 item, .int .i64 until_] H nx (.tuple #[.int .i64 (priceV n f item until_), .bool (decide (0 < priceV n f item until_))]) := fun h1 h2 => priceIn A n c f item until_ H nx (prsB_iff.1 h1) (yr h2) h
  have hp3 : prsB n f = true → ¬ priceV n f item from_ = 0 → PC Try.prog 64 #[.int .i64 (priceV n f item until_), .int .i64 (priceV n f item from_)] H nx (.tuple #[.int .i64 (((priceV n f item until_).toNat / Nat.gcd (priceV n f item until_).toNat (priceV n f item from_).toNat : Nat) : Int), .int .i64 (((priceV n f item from_).toNat / Nat.gcd (priceV n f item until_).toNat (priceV n f item from_).toNat : Nat) : Int)]) :=
    fun h1 h2 => fracI (priceV_bd (prsB_iff.1 h1) _ _) (priceV_bd (prsB_iff.1 h1) _ _) h2 (fun p q h1 h2 h3 => fraction p q H nx h1 h2 h3)
  have hb1 : prsB n f = true → _ := fun h1 => priceV_bd (prsB_iff.1 h1) item from_
  have hb2 : prsB n f = true → _ := fun h1 => priceV_bd (prsB_iff.1 h1) item until_
  refine AC_of x_impl_GrowthIn rfl fun hB => ?_
  simp (disch := omega) only [bsW, WOp, WOq, WV, bo, eqN, gdc, gw, bnd, ↓reduceIte, Nat.reduceEqDiff, rsvs, rsv, oneOf, rdN, ne_eq, Nat.reduceAdd, Nat.reduceMul, Nat.reduceLT, reduceCtorEq, Value.cells, setN, Value.oneCell', Nat.reduceLeDiff, undef, fcT, c_impl_GrowthIn]
  (repeat' (first | ((with_reducible refine gif_split (fun hs_ => ?_) (fun hs_ => ?_)) <;> (have hp_ := hs_; (try simp only [hpL, ne_eq] at hp_); (try simp (disch := omega) only [bsW, WOp, WOq, WV, bo, eqN, gdc, gw, bnd, ↓reduceIte, Nat.reduceEqDiff, rsvs, rsv, oneOf, rdN, ne_eq, Nat.reduceAdd, Nat.reduceMul, Nat.reduceLT, reduceCtorEq, Value.cells, setN, Value.oneCell', Nat.reduceLeDiff, undef, fcT, hs_]))) | ((first | (with_reducible refine newB_i (fun nb_ hb_ => ?_)) | ((with_reducible show QC _ _ _ _ _ _); (first | (refine QC_i (arePrices A n c f _ _ hn h) ?_) | (refine QC_i (isItem _ _ _) ?_) | (refine QC_i (isYear _ _ _) ?_) | (refine QC_i (hp1 (by with_reducible assumption) (by with_reducible assumption)) ?_) | (refine QC_i (hp2 (by with_reducible assumption) (by with_reducible assumption)) ?_) | (refine QC_i (hp3 (by with_reducible assumption) (ne_pos (by with_reducible assumption))) ?_))) | ((with_reducible show AC _ _ _ _ _ _); (first | (refine PC.ac (arePrices A n c f _ _ hn h) ?_) | (refine PC.ac (isItem _ _ _) ?_) | (refine PC.ac (isYear _ _ _) ?_) | (refine PC.ac (hp1 (by with_reducible assumption) (by with_reducible assumption)) ?_) | (refine PC.ac (hp2 (by with_reducible assumption) (by with_reducible assumption)) ?_) | (refine PC.ac (hp3 (by with_reducible assumption) (ne_pos (by with_reducible assumption))) ?_))) | (with_reducible refine RgE_i (fun (hBd_ : Bd _ _) => ?_))); (try simp (disch := omega) only [bsW, WOp, WOq, WV, bo, eqN, gdc, gw, bnd, ↓reduceIte, Nat.reduceEqDiff, rsvs, rsv, oneOf, rdN, ne_eq, Nat.reduceAdd, Nat.reduceMul, Nat.reduceLT, reduceCtorEq, Value.cells, setN, Value.oneCell', Nat.reduceLeDiff, undef, fcT])) | (with_reducible refine fun (hBd_ : Bd _ _) => ?_) | ((first | (with_reducible refine @And.intro (Sub _ _) _ ?_ ?_) | ((with_reducible refine @And.intro (Sub _ _ ∧ _) _ ?_ ?_); (with_reducible refine @And.intro (Sub _ _) _ ?_ ?_))); exact sbX) | ((with_reducible refine And.intro ?_ ?_); omega)))
  all_goals try (exfalso; omega)
  all_goals refine Is_e ?_ (Sub.refl H)
  all_goals first
    | rw [vGrowth, if_pos ⟨⟨by assumption, by assumption, by assumption, by assumption, by omega⟩, by have := hb1 (by assumption); omega, by have := hb2 (by assumption); omega⟩]
    | (rw [vGrowth, if_neg]
       rintro ⟨⟨h1, h2, h3, h4, h5⟩, h6, h7⟩
       have := hb1 h1
       have := hb2 h1
       first
       | omega
       | (simp_all; done))

theorem sGrowthIn (A : Option Addr) (n c : Nat) (f : Nat → Nat → Int) (item from_ until_ : Int) (H : Hp) (nx : Nat) (hn : n ≤ 17592186044416) (h : Rd H A n 3 f) :
    PC Try.prog 29 #[.slice A n c, .int .i64 item, .int .i64 from_, .int .i64 until_] H nx (vGrowth n f item from_ until_) := by
  have hp1 : prsB n f = true → inR from_ 1840 2100 = true → PC Try.prog 56 #[.slice A n c, .int .i64 item, .int .i64 from_] H nx (.int .i64 (priceV n f item from_)) := fun h1 h2 => l24Price A n c f item from_ H nx (prsB_iff.1 h1) (yr h2) h
  have hp2 : prsB n f = true → inR until_ 1840 2100 = true → PC Try.prog 56 #[.slice A n c, .int .i64 item, .int .i64 until_] H nx (.int .i64 (priceV n f item until_)) := fun h1 h2 => l24Price A n c f item until_ H nx (prsB_iff.1 h1) (yr h2) h
  have hp3 : prsB n f = true → ¬ priceV n f item from_ = 0 → PC Try.prog 63 #[.int .i64 (priceV n f item until_), .int .i64 (priceV n f item from_)] H nx (.tuple #[.int .i64 (((priceV n f item until_).toNat / Nat.gcd (priceV n f item until_).toNat (priceV n f item from_).toNat : Nat) : Int), .int .i64 (((priceV n f item from_).toNat / Nat.gcd (priceV n f item until_).toNat (priceV n f item from_).toNat : Nat) : Int)]) :=
    fun h1 h2 => fracI (priceV_bd (prsB_iff.1 h1) _ _) (priceV_bd (prsB_iff.1 h1) _ _) h2 (fun p q h1 h2 h3 => l2Reduce p q H nx h1 h2 h3)
  have hb1 : prsB n f = true → _ := fun h1 => priceV_bd (prsB_iff.1 h1) item from_
  have hb2 : prsB n f = true → _ := fun h1 => priceV_bd (prsB_iff.1 h1) item until_
  refine AC_of x_spec_GrowthIn rfl fun hB => ?_
  simp (disch := omega) only [bsW, WOp, WOq, WV, bo, eqN, gdc, gw, bnd, ↓reduceIte, Nat.reduceEqDiff, rsvs, rsv, oneOf, rdN, ne_eq, Nat.reduceAdd, Nat.reduceMul, Nat.reduceLT, reduceCtorEq, Value.cells, setN, Value.oneCell', Nat.reduceLeDiff, undef, fcT, c_spec_GrowthIn]
  (repeat' (first | ((with_reducible refine gif_split (fun hs_ => ?_) (fun hs_ => ?_)) <;> (have hp_ := hs_; (try simp only [hpL, ne_eq] at hp_); (try simp (disch := omega) only [bsW, WOp, WOq, WV, bo, eqN, gdc, gw, bnd, ↓reduceIte, Nat.reduceEqDiff, rsvs, rsv, oneOf, rdN, ne_eq, Nat.reduceAdd, Nat.reduceMul, Nat.reduceLT, reduceCtorEq, Value.cells, setN, Value.oneCell', Nat.reduceLeDiff, undef, fcT, hs_]))) | ((first | (with_reducible refine newB_i (fun nb_ hb_ => ?_)) | ((with_reducible show QC _ _ _ _ _ _); (first | (refine QC_i (l24Good A n c f _ _ hn h) ?_) | (refine QC_i (l24Item _ _ _) ?_) | (refine QC_i (l24Year _ _ _) ?_) | (refine QC_i (hp1 (by with_reducible assumption) (by with_reducible assumption)) ?_) | (refine QC_i (hp2 (by with_reducible assumption) (by with_reducible assumption)) ?_) | (refine QC_i (hp3 (by with_reducible assumption) (by with_reducible assumption)) ?_))) | ((with_reducible show AC _ _ _ _ _ _); (first | (refine PC.ac (l24Good A n c f _ _ hn h) ?_) | (refine PC.ac (l24Item _ _ _) ?_) | (refine PC.ac (l24Year _ _ _) ?_) | (refine PC.ac (hp1 (by with_reducible assumption) (by with_reducible assumption)) ?_) | (refine PC.ac (hp2 (by with_reducible assumption) (by with_reducible assumption)) ?_) | (refine PC.ac (hp3 (by with_reducible assumption) (by with_reducible assumption)) ?_))) | (with_reducible refine RgE_i (fun (hBd_ : Bd _ _) => ?_))); (try simp (disch := omega) only [bsW, WOp, WOq, WV, bo, eqN, gdc, gw, bnd, ↓reduceIte, Nat.reduceEqDiff, rsvs, rsv, oneOf, rdN, ne_eq, Nat.reduceAdd, Nat.reduceMul, Nat.reduceLT, reduceCtorEq, Value.cells, setN, Value.oneCell', Nat.reduceLeDiff, undef, fcT])) | (with_reducible refine fun (hBd_ : Bd _ _) => ?_) | ((first | (with_reducible refine @And.intro (Sub _ _) _ ?_ ?_) | ((with_reducible refine @And.intro (Sub _ _ ∧ _) _ ?_ ?_); (with_reducible refine @And.intro (Sub _ _) _ ?_ ?_))); exact sbX) | ((with_reducible refine And.intro ?_ ?_); omega)))
  all_goals try (exfalso; omega)
  all_goals refine Is_e ?_ (Sub.refl H)
  all_goals first
    | rw [vGrowth, if_pos ⟨⟨by assumption, by assumption, by assumption, by assumption, by omega⟩, by have := hb1 (by assumption); omega, by have := hb2 (by assumption); omega⟩]
    | (rw [vGrowth, if_neg]
       rintro ⟨⟨h1, h2, h3, h4, h5⟩, h6, h7⟩
       have := hb1 h1
       have := hb2 h1
       first
       | omega
       | (simp_all; done))
end Go.Proofs.Ytgjkjibllgpnjaa
