/- PriceText. -/
import Derived.Test.YtnjlleopgjggpaaDoorX1
import Derived.Test.YtnjlleopgjggpaaDoorP1
set_option linter.unusedVariables false
set_option linter.unusedSimpArgs false
set_option maxRecDepth 100000
set_option maxHeartbeats 1000000
namespace Go.Proofs.YtnjlleopgjggpaaDoor
open Go Go.RowKit Go.Proofs

theorem tdN (n k : Nat) : (n : Int).tdiv (k : Int) = ((n / k : Nat) : Int) := by rw [Int.tdiv_eq_ediv_of_nonneg (by omega)]; rfl
theorem tmN (n k : Nat) : (n : Int).tmod (k : Int) = ((n % k : Nat) : Int) := by rw [Int.tmod_eq_emod_of_nonneg (by omega)]; rfl
theorem td100 (n : Nat) : (n : Int).tdiv 100 = ((n / 100 : Nat) : Int) := tdN n 100
theorem tm100 (n : Nat) : (n : Int).tmod 100 = ((n % 100 : Nat) : Int) := tmN n 100
theorem itoaN (n : Nat) : Lib.itoa (n : Int) = Lib.decDigits n := Lib.itoa_nonneg n
/-- A number of hundredths. -/
def hunT (n : Nat) : List UInt8 := Lib.itoa ((n / 100 : Nat) : Int) ++ ([46] ++ (Lib.itoa ((n / 10 % 10 : Nat) : Int) ++ Lib.itoa ((n % 10 : Nat) : Int)))
theorem hun_lo {n : Nat} (h : n % 100 < 10) : Lib.itoa ((n / 100 : Nat) : Int) ++ ([46, 48] ++ Lib.itoa ((n % 100 : Nat) : Int)) = hunT n := by
  have e1 : n / 10 % 10 = 0 := by omega
  have e2 : n % 100 = n % 10 := by omega
  unfold hunT
  rw [e1, e2, itoaN 0, Lib.decDigits_one (by omega)]
  rfl
theorem hun_hi {n : Nat} (h : ¬ n % 100 < 10) : Lib.itoa ((n / 100 : Nat) : Int) ++ ([46] ++ Lib.itoa ((n % 100 : Nat) : Int)) = hunT n := by
  have e1 : n % 100 / 10 = n / 10 % 10 := by omega
  have e2 : n % 100 % 10 = n % 10 := by omega
  have e3 : Lib.decDigits (n % 100) = Lib.decDigits (n / 10 % 10) ++ Lib.decDigits (n % 10) := by
    rw [Lib.decDigits, dif_neg h, e1, e2, Lib.decDigits_one (show n % 10 < 10 by omega)]
  unfold hunT
  rw [itoaN (n % 100), itoaN (n / 10 % 10), itoaN (n % 10), e3]
theorem hunT_len (n : Nat) (h : n ≤ 100000000) : (hunT n).length ≤ 70 := by
  have h1 := itoa_len ((n / 100 : Nat) : Int) (by omega) (by omega)
  have h2 := itoa_len ((n / 10 % 10 : Nat) : Int) (by omega) (by omega)
  have h3 := itoa_len ((n % 10 : Nat) : Int) (by omega) (by omega)
  unfold hunT
  simp only [List.length_append, List.length_cons, List.length_nil]
  omega
theorem hundredths (g : Nat) (ty : TypeId) (n : Nat) (hn : n ≤ 100000000) (H : Hp) (nx : Nat) (hg : g = 0) (hT : H g = some (.rw powCells ty)) :
    PC Tryd.prog 102 #[.int .i64 n] H nx (.string (bs (hunT n))) := by
  refine AC_of x_impl_hundredths rfl fun hB => ?_
  have l1 := itoa_len ((n / 100 : Nat) : Int) (by omega) (by omega)
  have l2 := itoa_len ((n % 100 : Nat) : Int) (by omega) (by omega)
  by_cases h : n % 100 < 10
  · have d1 : decide (((n % 100 : Nat) : Int) < 10) = true := decide_eq_true (by omega)
    simp (disch := omega) only [bsW, WOp, WOq, WV, bo, eqN, gdc, gw, bnd, ↓reduceIte, Nat.reduceEqDiff, rsvs, rsv, oneOf, rdN, ne_eq, Nat.reduceAdd, Nat.reduceMul, Nat.reduceLT, reduceCtorEq, Value.cells, setN, Value.oneCell', Nat.reduceLeDiff, undef, fcT, d1, td100, tm100, mk_bs, i64max, bs_size, bs_app, List.length_append, List.length_cons, List.length_nil, List.append_assoc, c_impl_hundredths]
    (repeat' (first | ((with_reducible refine gif_split (fun hs_ => ?_) (fun hs_ => ?_)) <;> (have hp_ := hs_; (try simp only [hpL, ne_eq] at hp_); (try simp (disch := omega) only [bsW, WOp, WOq, WV, bo, eqN, gdc, gw, bnd, ↓reduceIte, Nat.reduceEqDiff, rsvs, rsv, oneOf, rdN, ne_eq, Nat.reduceAdd, Nat.reduceMul, Nat.reduceLT, reduceCtorEq, Value.cells, setN, Value.oneCell', Nat.reduceLeDiff, undef, fcT, d1, td100, tm100, mk_bs, i64max, bs_size, bs_app, List.length_append, List.length_cons, List.length_nil, List.append_assoc, hs_]))) | ((first | (with_reducible refine newB_i (fun nb_ hb_ => ?_)) | ((with_reducible show QC _ _ _ _ _ _); (first | (refine QC_i (Itoa g ty _ _ hg hT _ (by omega) (by omega)) ?_))) | ((with_reducible show AC _ _ _ _ _ _); (first | (refine PC.ac (Itoa g ty _ _ hg hT _ (by omega) (by omega)) ?_))) | (with_reducible refine RgE_i (fun (hBd_ : Bd _ _) => ?_))); (try simp (disch := omega) only [bsW, WOp, WOq, WV, bo, eqN, gdc, gw, bnd, ↓reduceIte, Nat.reduceEqDiff, rsvs, rsv, oneOf, rdN, ne_eq, Nat.reduceAdd, Nat.reduceMul, Nat.reduceLT, reduceCtorEq, Value.cells, setN, Value.oneCell', Nat.reduceLeDiff, undef, fcT, d1, td100, tm100, mk_bs, i64max, bs_size, bs_app, List.length_append, List.length_cons, List.length_nil, List.append_assoc])) | (with_reducible refine fun (hBd_ : Bd _ _) => ?_) | ((first | (with_reducible refine @And.intro (Sub _ _) _ ?_ ?_) | ((with_reducible refine @And.intro (Sub _ _ ∧ _) _ ?_ ?_); (with_reducible refine @And.intro (Sub _ _) _ ?_ ?_))); exact sbX) | ((with_reducible refine And.intro ?_ ?_); omega)))
    exact Is_e (by rw [← hun_lo h]; rfl) (Sub.refl H)
  · have d1 : decide (((n % 100 : Nat) : Int) < 10) = false := decide_eq_false (by omega)
    simp (disch := omega) only [bsW, WOp, WOq, WV, bo, eqN, gdc, gw, bnd, ↓reduceIte, Nat.reduceEqDiff, rsvs, rsv, oneOf, rdN, ne_eq, Nat.reduceAdd, Nat.reduceMul, Nat.reduceLT, reduceCtorEq, Value.cells, setN, Value.oneCell', Nat.reduceLeDiff, undef, fcT, d1, td100, tm100, mk_bs, i64max, bs_size, bs_app, List.length_append, List.length_cons, List.length_nil, List.append_assoc, c_impl_hundredths]
    (repeat' (first | ((with_reducible refine gif_split (fun hs_ => ?_) (fun hs_ => ?_)) <;> (have hp_ := hs_; (try simp only [hpL, ne_eq] at hp_); (try simp (disch := omega) only [bsW, WOp, WOq, WV, bo, eqN, gdc, gw, bnd, ↓reduceIte, Nat.reduceEqDiff, rsvs, rsv, oneOf, rdN, ne_eq, Nat.reduceAdd, Nat.reduceMul, Nat.reduceLT, reduceCtorEq, Value.cells, setN, Value.oneCell', Nat.reduceLeDiff, undef, fcT, d1, td100, tm100, mk_bs, i64max, bs_size, bs_app, List.length_append, List.length_cons, List.length_nil, List.append_assoc, hs_]))) | ((first | (with_reducible refine newB_i (fun nb_ hb_ => ?_)) | ((with_reducible show QC _ _ _ _ _ _); (first | (refine QC_i (Itoa g ty _ _ hg hT _ (by omega) (by omega)) ?_))) | ((with_reducible show AC _ _ _ _ _ _); (first | (refine PC.ac (Itoa g ty _ _ hg hT _ (by omega) (by omega)) ?_))) | (with_reducible refine RgE_i (fun (hBd_ : Bd _ _) => ?_))); (try simp (disch := omega) only [bsW, WOp, WOq, WV, bo, eqN, gdc, gw, bnd, ↓reduceIte, Nat.reduceEqDiff, rsvs, rsv, oneOf, rdN, ne_eq, Nat.reduceAdd, Nat.reduceMul, Nat.reduceLT, reduceCtorEq, Value.cells, setN, Value.oneCell', Nat.reduceLeDiff, undef, fcT, d1, td100, tm100, mk_bs, i64max, bs_size, bs_app, List.length_append, List.length_cons, List.length_nil, List.append_assoc])) | (with_reducible refine fun (hBd_ : Bd _ _) => ?_) | ((first | (with_reducible refine @And.intro (Sub _ _) _ ?_ ?_) | ((with_reducible refine @And.intro (Sub _ _ ∧ _) _ ?_ ?_); (with_reducible refine @And.intro (Sub _ _) _ ?_ ?_))); exact sbX) | ((with_reducible refine And.intro ?_ ?_); omega)))
    exact Is_e (by rw [← hun_hi h]; rfl) (Sub.refl H)
def prB (x0 x1 x2 : Int) : Bool := inR x0 1 999 && inR x1 1840 2100 && inR x2 1 10000000
def prT (x0 x1 x2 : Int) : List UInt8 := [105] ++ (Lib.itoa x0 ++ ([32] ++ (Lib.itoa x1 ++ ([58, 32] ++ hunT x2.toNat))))
def vPriceText (x0 x1 x2 : Int) : Value := if prB x0 x1 x2 = true then .tuple #[.string (bs (prT x0 x1 x2)), .bool true] else .tuple #[.string (bs []), .bool false]
theorem prB_in {x0 x1 x2 : Int} (h : prB x0 x1 x2 = true) : (1 ≤ x0 ∧ x0 ≤ 999) ∧ (1840 ≤ x1 ∧ x1 ≤ 2100) ∧ 1 ≤ x2 ∧ x2 ≤ 10000000 := by
  simp only [prB, Bool.and_eq_true] at h
  exact ⟨inR_true.1 h.1.1, inR_true.1 h.1.2, inR_true.1 h.2⟩
theorem PriceText (g : Nat) (ty : TypeId) (x0 x1 x2 : Int) (H : Hp) (nx : Nat) (hg : g = 0) (hT : H g = some (.rw powCells ty)) :
    PC Tryd.prog 42 #[.agg #[.int .i64 x0, .int .i64 x1, .int .i64 x2]] H nx (vPriceText x0 x1 x2) := by
  refine AC_of x_impl_PriceText rfl fun hB => ?_
  have hne : ∀ b, nx ≤ b → ∀ o, upd H b o g = some (.rw powCells ty) := fun b hb o => by
    have := hB _ _ hT
    rw [upd_ne (by omega)]
    exact hT
  have eb : (inR x0 1 999 && inR x1 1840 2100 && inR x2 1 10000000) = prB x0 x1 x2 := rfl
  cases hp : prB x0 x1 x2
  · have ev : vPriceText x0 x1 x2 = .tuple #[.string (bs []), .bool false] := if_neg (by rw [hp]; simp)
    rw [ev]
    simp (disch := omega) only [bsW, WOp, WOq, WV, bo, eqN, gdc, gw, bnd, ↓reduceIte, Nat.reduceEqDiff, rsvs, rsv, oneOf, rdN, ne_eq, Nat.reduceAdd, Nat.reduceMul, Nat.reduceLT, reduceCtorEq, Value.cells, setN, Value.oneCell', Nat.reduceLeDiff, undef, fcT, eb, hp, Bool.not_false, mk_bs, c_impl_PriceText]
    (repeat' (first | ((with_reducible refine gif_split (fun hs_ => ?_) (fun hs_ => ?_)) <;> (have hp_ := hs_; (try simp only [hpL, ne_eq] at hp_); (try simp (disch := omega) only [bsW, WOp, WOq, WV, bo, eqN, gdc, gw, bnd, ↓reduceIte, Nat.reduceEqDiff, rsvs, rsv, oneOf, rdN, ne_eq, Nat.reduceAdd, Nat.reduceMul, Nat.reduceLT, reduceCtorEq, Value.cells, setN, Value.oneCell', Nat.reduceLeDiff, undef, fcT, eb, hp, Bool.not_false, mk_bs, hs_]))) | ((first | (with_reducible refine newB_i (fun nb_ hb_ => ?_)) | ((with_reducible show QC _ _ _ _ _ _); (first | (refine QC_i (isPrice _ _ _ _ _) ?_))) | ((with_reducible show AC _ _ _ _ _ _); (first | (refine PC.ac (isPrice _ _ _ _ _) ?_))) | (with_reducible refine RgE_i (fun (hBd_ : Bd _ _) => ?_))); (try simp (disch := omega) only [bsW, WOp, WOq, WV, bo, eqN, gdc, gw, bnd, ↓reduceIte, Nat.reduceEqDiff, rsvs, rsv, oneOf, rdN, ne_eq, Nat.reduceAdd, Nat.reduceMul, Nat.reduceLT, reduceCtorEq, Value.cells, setN, Value.oneCell', Nat.reduceLeDiff, undef, fcT, eb, hp, Bool.not_false, mk_bs])) | (with_reducible refine fun (hBd_ : Bd _ _) => ?_) | ((first | (with_reducible refine @And.intro (Sub _ _) _ ?_ ?_) | ((with_reducible refine @And.intro (Sub _ _ ∧ _) _ ?_ ?_); (with_reducible refine @And.intro (Sub _ _) _ ?_ ?_))); exact sbX) | ((with_reducible refine And.intro ?_ ?_); omega)))
    exact Is_i (sub_new hB (by assumption))
  · have ev : vPriceText x0 x1 x2 = .tuple #[.string (bs (prT x0 x1 x2)), .bool true] := if_pos hp
    rw [ev]
    obtain ⟨h0, h1, h2⟩ := prB_in hp
    obtain ⟨n, rfl⟩ : ∃ n : Nat, x2 = n := ⟨x2.toNat, by omega⟩
    have l0 := itoa_len x0 (by omega) (by omega)
    have l1 := itoa_len x1 (by omega) (by omega)
    have l2 := hunT_len n (by omega)
    simp (disch := omega) only [bsW, WOp, WOq, WV, bo, eqN, gdc, gw, bnd, ↓reduceIte, Nat.reduceEqDiff, rsvs, rsv, oneOf, rdN, ne_eq, Nat.reduceAdd, Nat.reduceMul, Nat.reduceLT, reduceCtorEq, Value.cells, setN, Value.oneCell', Nat.reduceLeDiff, undef, fcT, eb, hp, Bool.not_true, mk_bs, i64max, bs_size, bs_app, List.length_append, List.length_cons, List.length_nil, List.append_assoc, c_impl_PriceText]
    (repeat' (first | ((with_reducible refine gif_split (fun hs_ => ?_) (fun hs_ => ?_)) <;> (have hp_ := hs_; (try simp only [hpL, ne_eq] at hp_); (try simp (disch := omega) only [bsW, WOp, WOq, WV, bo, eqN, gdc, gw, bnd, ↓reduceIte, Nat.reduceEqDiff, rsvs, rsv, oneOf, rdN, ne_eq, Nat.reduceAdd, Nat.reduceMul, Nat.reduceLT, reduceCtorEq, Value.cells, setN, Value.oneCell', Nat.reduceLeDiff, undef, fcT, eb, hp, Bool.not_true, mk_bs, i64max, bs_size, bs_app, List.length_append, List.length_cons, List.length_nil, List.append_assoc, hs_]))) | ((first | (with_reducible refine newB_i (fun nb_ hb_ => ?_)) | ((with_reducible show QC _ _ _ _ _ _); (first | (refine QC_i (isPrice _ _ _ _ _) ?_) | (refine QC_i (Itoa g ty _ _ hg (hne _ (by with_reducible assumption) _) _ (by omega) (by omega)) ?_) | (refine QC_i (hundredths g ty n (by omega) _ _ hg (hne _ (by with_reducible assumption) _)) ?_))) | ((with_reducible show AC _ _ _ _ _ _); (first | (refine PC.ac (isPrice _ _ _ _ _) ?_) | (refine PC.ac (Itoa g ty _ _ hg (hne _ (by with_reducible assumption) _) _ (by omega) (by omega)) ?_) | (refine PC.ac (hundredths g ty n (by omega) _ _ hg (hne _ (by with_reducible assumption) _)) ?_))) | (with_reducible refine RgE_i (fun (hBd_ : Bd _ _) => ?_))); (try simp (disch := omega) only [bsW, WOp, WOq, WV, bo, eqN, gdc, gw, bnd, ↓reduceIte, Nat.reduceEqDiff, rsvs, rsv, oneOf, rdN, ne_eq, Nat.reduceAdd, Nat.reduceMul, Nat.reduceLT, reduceCtorEq, Value.cells, setN, Value.oneCell', Nat.reduceLeDiff, undef, fcT, eb, hp, Bool.not_true, mk_bs, i64max, bs_size, bs_app, List.length_append, List.length_cons, List.length_nil, List.append_assoc])) | (with_reducible refine fun (hBd_ : Bd _ _) => ?_) | ((first | (with_reducible refine @And.intro (Sub _ _) _ ?_ ?_) | ((with_reducible refine @And.intro (Sub _ _ ∧ _) _ ?_ ?_); (with_reducible refine @And.intro (Sub _ _) _ ?_ ?_))); exact sbX) | ((with_reducible refine And.intro ?_ ?_); omega)))
    exact Is_e (by unfold prT; rw [Int.toNat_natCast]; rfl) (sub_new hB (by assumption))
theorem sPriceText (x0 x1 x2 : Int) (H : Hp) (nx : Nat) :
    PC Tryd.prog 43 #[.agg #[.int .i64 x0, .int .i64 x1, .int .i64 x2]] H nx (vPriceText x0 x1 x2) := by
  refine AC_of x_spec_PriceText rfl fun hB => ?_
  have eb : (inR x0 1 999 && inR x1 1840 2100 && inR x2 1 10000000) = prB x0 x1 x2 := rfl
  cases hp : prB x0 x1 x2
  · have ev : vPriceText x0 x1 x2 = .tuple #[.string (bs []), .bool false] := if_neg (by rw [hp]; simp)
    rw [ev]
    simp (disch := omega) only [bsW, WOp, WOq, WV, bo, eqN, gdc, gw, bnd, ↓reduceIte, Nat.reduceEqDiff, rsvs, rsv, oneOf, rdN, ne_eq, Nat.reduceAdd, Nat.reduceMul, Nat.reduceLT, reduceCtorEq, Value.cells, setN, Value.oneCell', Nat.reduceLeDiff, undef, fcT, eb, hp, Bool.not_false, mk_bs, c_spec_PriceText]
    (repeat' (first | ((with_reducible refine gif_split (fun hs_ => ?_) (fun hs_ => ?_)) <;> (have hp_ := hs_; (try simp only [hpL, ne_eq] at hp_); (try simp (disch := omega) only [bsW, WOp, WOq, WV, bo, eqN, gdc, gw, bnd, ↓reduceIte, Nat.reduceEqDiff, rsvs, rsv, oneOf, rdN, ne_eq, Nat.reduceAdd, Nat.reduceMul, Nat.reduceLT, reduceCtorEq, Value.cells, setN, Value.oneCell', Nat.reduceLeDiff, undef, fcT, eb, hp, Bool.not_false, mk_bs, hs_]))) | ((first | (with_reducible refine newB_i (fun nb_ hb_ => ?_)) | ((with_reducible show QC _ _ _ _ _ _); (first | (refine QC_i (l24One _ _ _ _ _) ?_))) | ((with_reducible show AC _ _ _ _ _ _); (first | (refine PC.ac (l24One _ _ _ _ _) ?_))) | (with_reducible refine RgE_i (fun (hBd_ : Bd _ _) => ?_))); (try simp (disch := omega) only [bsW, WOp, WOq, WV, bo, eqN, gdc, gw, bnd, ↓reduceIte, Nat.reduceEqDiff, rsvs, rsv, oneOf, rdN, ne_eq, Nat.reduceAdd, Nat.reduceMul, Nat.reduceLT, reduceCtorEq, Value.cells, setN, Value.oneCell', Nat.reduceLeDiff, undef, fcT, eb, hp, Bool.not_false, mk_bs])) | (with_reducible refine fun (hBd_ : Bd _ _) => ?_) | ((first | (with_reducible refine @And.intro (Sub _ _) _ ?_ ?_) | ((with_reducible refine @And.intro (Sub _ _ ∧ _) _ ?_ ?_); (with_reducible refine @And.intro (Sub _ _) _ ?_ ?_))); exact sbX) | ((with_reducible refine And.intro ?_ ?_); omega)))
    exact Is_i (sub_new hB (by assumption))
  · have ev : vPriceText x0 x1 x2 = .tuple #[.string (bs (prT x0 x1 x2)), .bool true] := if_pos hp
    rw [ev]
    obtain ⟨h0, h1, h2⟩ := prB_in hp
    obtain ⟨n, rfl⟩ : ∃ n : Nat, x2 = n := ⟨x2.toNat, by omega⟩
    have l0 := itoa_len x0 (by omega) (by omega)
    have l1 := itoa_len x1 (by omega) (by omega)
    have l2 := itoa_len ((n / 100 : Nat) : Int) (by omega) (by omega)
    have l3 := itoa_len ((n / 10 % 10 : Nat) : Int) (by omega) (by omega)
    have l4 := itoa_len ((n % 10 : Nat) : Int) (by omega) (by omega)
    simp (disch := omega) only [bsW, WOp, WOq, WV, bo, eqN, gdc, gw, bnd, ↓reduceIte, Nat.reduceEqDiff, rsvs, rsv, oneOf, rdN, ne_eq, Nat.reduceAdd, Nat.reduceMul, Nat.reduceLT, reduceCtorEq, Value.cells, setN, Value.oneCell', Nat.reduceLeDiff, undef, fcT, eb, hp, Bool.not_true, td100, tdiv10, tmod10, mk_bs, i64max, bs_size, bs_app, List.length_append, List.length_cons, List.length_nil, List.append_assoc, c_spec_PriceText]
    (repeat' (first | ((with_reducible refine gif_split (fun hs_ => ?_) (fun hs_ => ?_)) <;> (have hp_ := hs_; (try simp only [hpL, ne_eq] at hp_); (try simp (disch := omega) only [bsW, WOp, WOq, WV, bo, eqN, gdc, gw, bnd, ↓reduceIte, Nat.reduceEqDiff, rsvs, rsv, oneOf, rdN, ne_eq, Nat.reduceAdd, Nat.reduceMul, Nat.reduceLT, reduceCtorEq, Value.cells, setN, Value.oneCell', Nat.reduceLeDiff, undef, fcT, eb, hp, Bool.not_true, td100, tdiv10, tmod10, mk_bs, i64max, bs_size, bs_app, List.length_append, List.length_cons, List.length_nil, List.append_assoc, hs_]))) | ((first | (with_reducible refine newB_i (fun nb_ hb_ => ?_)) | ((with_reducible show QC _ _ _ _ _ _); (first | (refine QC_i (l24One _ _ _ _ _) ?_) | (refine QC_i (l1Num _ (by omega) (by omega) _ _) ?_))) | ((with_reducible show AC _ _ _ _ _ _); (first | (refine PC.ac (l24One _ _ _ _ _) ?_) | (refine PC.ac (l1Num _ (by omega) (by omega) _ _) ?_))) | (with_reducible refine RgE_i (fun (hBd_ : Bd _ _) => ?_))); (try simp (disch := omega) only [bsW, WOp, WOq, WV, bo, eqN, gdc, gw, bnd, ↓reduceIte, Nat.reduceEqDiff, rsvs, rsv, oneOf, rdN, ne_eq, Nat.reduceAdd, Nat.reduceMul, Nat.reduceLT, reduceCtorEq, Value.cells, setN, Value.oneCell', Nat.reduceLeDiff, undef, fcT, eb, hp, Bool.not_true, td100, tdiv10, tmod10, mk_bs, i64max, bs_size, bs_app, List.length_append, List.length_cons, List.length_nil, List.append_assoc])) | (with_reducible refine fun (hBd_ : Bd _ _) => ?_) | ((first | (with_reducible refine @And.intro (Sub _ _) _ ?_ ?_) | ((with_reducible refine @And.intro (Sub _ _ ∧ _) _ ?_ ?_); (with_reducible refine @And.intro (Sub _ _) _ ?_ ?_))); exact sbX) | ((with_reducible refine And.intro ?_ ?_); omega)))
    exact Is_e (by unfold prT hunT; rw [Int.toNat_natCast]; rfl) (sub_new hB (by assumption))
end Go.Proofs.YtnjlleopgjggpaaDoor
