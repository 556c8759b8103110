/- Fractions in lowest terms. -/
import Derived.Test.YtnjlleopgjggpaaDoorT
import Derived.Test.YtnjlleopgjggpaaDoorD4
set_option linter.unusedVariables false
set_option linter.unusedSimpArgs false
set_option maxRecDepth 100000
set_option maxHeartbeats 1000000
namespace Go.Proofs.YtnjlleopgjggpaaDoor
open Go Go.RowKit Go.Proofs

theorem gcd_ (p q : Nat) (H : Hp) (nx : Nat) (hp : (p : Int) ≤ 9223372036854775807) (hq : (q : Int) ≤ 9223372036854775807) :
    PC Tryd.prog 150 #[.int .i64 p, .int .i64 q] H nx (.int .i64 (Nat.gcd p q : Nat)) := by
  refine AC_of x_impl_gcd rfl fun hB => ?_
  simp (disch := omega) only [bsW, WOp, WOq, WV, bo, eqN, gdc, gw, bnd, ↓reduceIte, Nat.reduceEqDiff, rsvs, rsv, oneOf, rdN, ne_eq, Nat.reduceAdd, Nat.reduceMul, Nat.reduceLT, reduceCtorEq, Value.cells, setN, Value.oneCell', Nat.reduceLeDiff, undef, fcT, c_impl_gcd]
  refine LpE_rule (fun m fr H' nx' => ∃ a b : Nat, b + 1 ≤ m ∧ fr 0 = .int .i64 a ∧ fr 1 = .int .i64 b ∧ Nat.gcd a b = Nat.gcd p q ∧ (a : Int) ≤ 9223372036854775807 ∧ (b : Int) ≤ 9223372036854775807 ∧ H' = H) ?_ ?_ (q + 1) ?_
  · rintro m K hK fr H' nx' ⟨a, b, hm, f0, f1, hg, ha, hb, rfl⟩
    simp (disch := omega) only [bsW, WOp, WOq, WV, bo, eqN, gdc, gw, bnd, ↓reduceIte, Nat.reduceEqDiff, rsvs, rsv, oneOf, rdN, ne_eq, Nat.reduceAdd, Nat.reduceMul, Nat.reduceLT, reduceCtorEq, Value.cells, setN, Value.oneCell', Nat.reduceLeDiff, undef, fcT, f0, f1]
    (repeat' (first | ((with_reducible refine gif_split (fun hs_ => ?_) (fun hs_ => ?_)) <;> (have hp_ := hs_; (try simp only [hpL, ne_eq] at hp_); (try simp (disch := omega) only [bsW, WOp, WOq, WV, bo, eqN, gdc, gw, bnd, ↓reduceIte, Nat.reduceEqDiff, rsvs, rsv, oneOf, rdN, ne_eq, Nat.reduceAdd, Nat.reduceMul, Nat.reduceLT, reduceCtorEq, Value.cells, setN, Value.oneCell', Nat.reduceLeDiff, undef, fcT, f0, f1, hs_]))) | ((first | (with_reducible refine newB_i (fun nb_ hb_ => ?_)) | (with_reducible refine RgE_i (fun (hBd_ : Bd _ _) => ?_))); (try simp (disch := omega) only [bsW, WOp, WOq, WV, bo, eqN, gdc, gw, bnd, ↓reduceIte, Nat.reduceEqDiff, rsvs, rsv, oneOf, rdN, ne_eq, Nat.reduceAdd, Nat.reduceMul, Nat.reduceLT, reduceCtorEq, Value.cells, setN, Value.oneCell', Nat.reduceLeDiff, undef, fcT, f0, f1])) | (with_reducible refine fun (hBd_ : Bd _ _) => ?_) | ((first | (with_reducible refine @And.intro (Sub _ _) _ ?_ ?_) | ((with_reducible refine @And.intro (Sub _ _ ∧ _) _ ?_ ?_); (with_reducible refine @And.intro (Sub _ _) _ ?_ ?_))); exact sbX) | ((with_reducible refine And.intro ?_ ?_); omega)))
    all_goals try (exfalso; omega)
    · have hb0 : 0 < b := by omega
      have ht : (a : Int).tmod b = ((a % b : Nat) : Int) := (Int.ofNat_tmod a b).symm
      have hlt := Nat.mod_lt a hb0
      refine hK _ _ _ ?_
      refine ⟨b, a % b, by omega, by simp (disch := omega) only [bsW, ↓reduceIte, Nat.reduceEqDiff, ne_eq, reduceCtorEq, fcT, f0, f1], by simp (disch := omega) only [bsW, ↓reduceIte, Nat.reduceEqDiff, ne_eq, reduceCtorEq, fcT, f0, f1, ht], ?_, hb, by omega, rfl⟩
      rw [← hg, Nat.gcd_comm b, ← Nat.gcd_rec, Nat.gcd_comm]
    · have hb0 : b = 0 := by omega
      subst hb0
      refine Is_e ?_ (Sub.refl _)
      rw [← hg, Nat.gcd_zero_right]
  · rintro fr H' nx' ⟨a, b, hm, _⟩; omega
  · exact ⟨p, q, Nat.le_refl _, by simp (disch := omega) only [bsW, ↓reduceIte, Nat.reduceEqDiff, ne_eq, reduceCtorEq, fcT], by simp (disch := omega) only [bsW, ↓reduceIte, Nat.reduceEqDiff, ne_eq, reduceCtorEq, fcT], rfl, hp, hq, rfl⟩

def fracV (p q : Nat) : Value := .tuple #[.int .i64 ((p / Nat.gcd p q : Nat) : Int), .int .i64 ((q / Nat.gcd p q : Nat) : Int)]
theorem tdivN (a b : Nat) : (a : Int).tdiv (b : Int) = ((a / b : Nat) : Int) := (Int.ofNat_tdiv a b).symm
theorem fraction (p q : Nat) (H : Hp) (nx : Nat) (hp : (p : Int) ≤ 1000000000000000) (hq : (q : Int) ≤ 1000000000000000) (hq0 : 0 < q) :
    PC Tryd.prog 116 #[.int .i64 p, .int .i64 q] H nx (fracV p q) := by
  refine AC_of x_impl_fraction rfl fun hB => ?_
  have hg0 : 0 < Nat.gcd p q := Nat.gcd_pos_of_pos_right _ hq0
  have hmx : (if (0 : Int) - p > p then (0 : Int) - p else p) = p := if_neg (by omega)
  have h1 := Nat.div_le_self p (Nat.gcd p q)
  have h2 := Nat.div_le_self q (Nat.gcd p q)
  have h3 : (0 : Int) ≤ ((p / Nat.gcd p q : Nat) : Int) := Int.natCast_nonneg _
  have h4 : (0 : Int) ≤ ((q / Nat.gcd p q : Nat) : Int) := Int.natCast_nonneg _
  simp (disch := omega) only [bsW, WOp, WOq, WV, bo, eqN, gdc, gw, bnd, ↓reduceIte, Nat.reduceEqDiff, rsvs, rsv, oneOf, rdN, ne_eq, Nat.reduceAdd, Nat.reduceMul, Nat.reduceLT, reduceCtorEq, Value.cells, setN, Value.oneCell', Nat.reduceLeDiff, undef, fcT, hmx, tdivN, c_impl_fraction]
  (repeat' (first | ((with_reducible refine gif_split (fun hs_ => ?_) (fun hs_ => ?_)) <;> (have hp_ := hs_; (try simp only [hpL, ne_eq] at hp_); (try simp (disch := omega) only [bsW, WOp, WOq, WV, bo, eqN, gdc, gw, bnd, ↓reduceIte, Nat.reduceEqDiff, rsvs, rsv, oneOf, rdN, ne_eq, Nat.reduceAdd, Nat.reduceMul, Nat.reduceLT, reduceCtorEq, Value.cells, setN, Value.oneCell', Nat.reduceLeDiff, undef, fcT, hmx, tdivN, hs_]))) | ((first | (with_reducible refine newB_i (fun nb_ hb_ => ?_)) | ((with_reducible show QC _ _ _ _ _ _); (first | (refine QC_i (gcd_ p q _ _ (by omega) (by omega)) ?_))) | ((with_reducible show AC _ _ _ _ _ _); (first | (refine PC.ac (gcd_ p q _ _ (by omega) (by omega)) ?_))) | (with_reducible refine RgE_i (fun (hBd_ : Bd _ _) => ?_))); (try simp (disch := omega) only [bsW, WOp, WOq, WV, bo, eqN, gdc, gw, bnd, ↓reduceIte, Nat.reduceEqDiff, rsvs, rsv, oneOf, rdN, ne_eq, Nat.reduceAdd, Nat.reduceMul, Nat.reduceLT, reduceCtorEq, Value.cells, setN, Value.oneCell', Nat.reduceLeDiff, undef, fcT, hmx, tdivN])) | (with_reducible refine fun (hBd_ : Bd _ _) => ?_) | ((first | (with_reducible refine @And.intro (Sub _ _) _ ?_ ?_) | ((with_reducible refine @And.intro (Sub _ _ ∧ _) _ ?_ ?_); (with_reducible refine @And.intro (Sub _ _) _ ?_ ?_))); exact sbX) | ((with_reducible refine And.intro ?_ ?_); omega)))
  all_goals try (exfalso; omega)
  exact Is_e rfl (Sub.refl _)
theorem l1Most (x y : Int) (H : Hp) (nx : Nat) : PC Tryd.prog 153 #[.int .i64 x, .int .i64 y] H nx (.int .i64 (if y < x then x else y)) := by
  refine AC_of x_spec_l1Most rfl fun hB => ?_
  simp (disch := omega) only [bsW, WOp, WOq, WV, bo, eqN, gdc, gw, bnd, ↓reduceIte, Nat.reduceEqDiff, rsvs, rsv, oneOf, rdN, ne_eq, Nat.reduceAdd, Nat.reduceMul, Nat.reduceLT, reduceCtorEq, Value.cells, setN, Value.oneCell', Nat.reduceLeDiff, undef, fcT, c_spec_l1Most]
  (repeat' (first | ((with_reducible refine gif_split (fun hs_ => ?_) (fun hs_ => ?_)) <;> (have hp_ := hs_; (try simp only [hpL, ne_eq] at hp_); (try simp (disch := omega) only [bsW, WOp, WOq, WV, bo, eqN, gdc, gw, bnd, ↓reduceIte, Nat.reduceEqDiff, rsvs, rsv, oneOf, rdN, ne_eq, Nat.reduceAdd, Nat.reduceMul, Nat.reduceLT, reduceCtorEq, Value.cells, setN, Value.oneCell', Nat.reduceLeDiff, undef, fcT, hs_]))) | ((first | (with_reducible refine newB_i (fun nb_ hb_ => ?_)) | (with_reducible refine RgE_i (fun (hBd_ : Bd _ _) => ?_))); (try simp (disch := omega) only [bsW, WOp, WOq, WV, bo, eqN, gdc, gw, bnd, ↓reduceIte, Nat.reduceEqDiff, rsvs, rsv, oneOf, rdN, ne_eq, Nat.reduceAdd, Nat.reduceMul, Nat.reduceLT, reduceCtorEq, Value.cells, setN, Value.oneCell', Nat.reduceLeDiff, undef, fcT])) | (with_reducible refine fun (hBd_ : Bd _ _) => ?_) | ((first | (with_reducible refine @And.intro (Sub _ _) _ ?_ ?_) | ((with_reducible refine @And.intro (Sub _ _ ∧ _) _ ?_ ?_); (with_reducible refine @And.intro (Sub _ _) _ ?_ ?_))); exact sbX) | ((with_reducible refine And.intro ?_ ?_); omega)))
  all_goals try (exfalso; omega)
  · exact Is_e (by rw [if_pos hp_]) (Sub.refl _)
  · exact Is_e (by rw [if_neg hp_]) (Sub.refl _)
theorem l2Reduce (p q : Nat) (H : Hp) (nx : Nat) (hp : (p : Int) ≤ 1000000000000000) (hq : (q : Int) ≤ 1000000000000000) (hq0 : 0 < q) :
    PC Tryd.prog 119 #[.int .i64 p, .int .i64 q] H nx (fracV p q) := by
  refine AC_of x_spec_l2Reduce rfl fun hB => ?_
  have hg0 : 0 < Nat.gcd p q := Nat.gcd_pos_of_pos_right _ hq0
  have hmx : (if (0 : Int) - p < p then (p : Int) else (0 : Int) - p) = p := by split <;> omega
  have h1 := Nat.div_le_self p (Nat.gcd p q)
  have h2 := Nat.div_le_self q (Nat.gcd p q)
  have h3 : (0 : Int) ≤ ((p / Nat.gcd p q : Nat) : Int) := Int.natCast_nonneg _
  have h4 : (0 : Int) ≤ ((q / Nat.gcd p q : Nat) : Int) := Int.natCast_nonneg _
  simp (disch := omega) only [bsW, WOp, WOq, WV, bo, eqN, gdc, gw, bnd, ↓reduceIte, Nat.reduceEqDiff, rsvs, rsv, oneOf, rdN, ne_eq, Nat.reduceAdd, Nat.reduceMul, Nat.reduceLT, reduceCtorEq, Value.cells, setN, Value.oneCell', Nat.reduceLeDiff, undef, fcT, hmx, c_spec_l2Reduce]
  (repeat' (first | ((with_reducible refine gif_split (fun hs_ => ?_) (fun hs_ => ?_)) <;> (have hp_ := hs_; (try simp only [hpL, ne_eq] at hp_); (try simp (disch := omega) only [bsW, WOp, WOq, WV, bo, eqN, gdc, gw, bnd, ↓reduceIte, Nat.reduceEqDiff, rsvs, rsv, oneOf, rdN, ne_eq, Nat.reduceAdd, Nat.reduceMul, Nat.reduceLT, reduceCtorEq, Value.cells, setN, Value.oneCell', Nat.reduceLeDiff, undef, fcT, hmx, hs_]))) | ((first | (with_reducible refine newB_i (fun nb_ hb_ => ?_)) | ((with_reducible show QC _ _ _ _ _ _); (first | (refine QC_i (l1Most _ _ _ _) ?_))) | ((with_reducible show AC _ _ _ _ _ _); (first | (refine PC.ac (l1Most _ _ _ _) ?_))) | (with_reducible refine RgE_i (fun (hBd_ : Bd _ _) => ?_))); (try simp (disch := omega) only [bsW, WOp, WOq, WV, bo, eqN, gdc, gw, bnd, ↓reduceIte, Nat.reduceEqDiff, rsvs, rsv, oneOf, rdN, ne_eq, Nat.reduceAdd, Nat.reduceMul, Nat.reduceLT, reduceCtorEq, Value.cells, setN, Value.oneCell', Nat.reduceLeDiff, undef, fcT, hmx])) | (with_reducible refine fun (hBd_ : Bd _ _) => ?_) | ((first | (with_reducible refine @And.intro (Sub _ _) _ ?_ ?_) | ((with_reducible refine @And.intro (Sub _ _ ∧ _) _ ?_ ?_); (with_reducible refine @And.intro (Sub _ _) _ ?_ ?_))); exact sbX) | ((with_reducible refine And.intro ?_ ?_); omega)))
  all_goals try (exfalso; omega)
  refine LpE_rule (fun m fr H' nx' => ∃ a b : Nat, b + 1 ≤ m ∧ fr 0 = .int .i64 p ∧ fr 1 = .int .i64 q ∧ fr 6 = .int .i64 a ∧ fr 7 = .int .i64 b ∧ Nat.gcd a b = Nat.gcd p q ∧ (a : Int) ≤ 9223372036854775807 ∧ (b : Int) ≤ 9223372036854775807 ∧ H' = H) ?_ ?_ (q + 1) ?_
  · rintro m K hK fr H' nx' ⟨a, b, hm, f0, f1, f6, f7, hg, ha, hb, rfl⟩
    simp (disch := omega) only [bsW, WOp, WOq, WV, bo, eqN, gdc, gw, bnd, ↓reduceIte, Nat.reduceEqDiff, rsvs, rsv, oneOf, rdN, ne_eq, Nat.reduceAdd, Nat.reduceMul, Nat.reduceLT, reduceCtorEq, Value.cells, setN, Value.oneCell', Nat.reduceLeDiff, undef, fcT, f0, f1, f6, f7, tdivN]
    refine gif_split (fun b1 => ?_) (fun b1 => ?_)
    · have hb0 : 0 < b := by simp at b1; omega
      have ht : (a : Int).tmod b = ((a % b : Nat) : Int) := (Int.ofNat_tmod a b).symm
      have hlt := Nat.mod_lt a hb0
      simp (disch := omega) only [bsW, WOp, WOq, WV, bo, eqN, gdc, gw, bnd, ↓reduceIte, Nat.reduceEqDiff, rsvs, rsv, oneOf, rdN, ne_eq, Nat.reduceAdd, Nat.reduceMul, Nat.reduceLT, reduceCtorEq, Value.cells, setN, Value.oneCell', Nat.reduceLeDiff, undef, fcT, f0, f1, f6, f7, tdivN]
      refine ⟨by omega, ?_⟩
      refine hK _ _ _ ?_
      refine ⟨b, a % b, by omega, by simp (disch := omega) only [bsW, ↓reduceIte, Nat.reduceEqDiff, ne_eq, reduceCtorEq, fcT, f0, f1, f6, f7, tdivN], by simp (disch := omega) only [bsW, ↓reduceIte, Nat.reduceEqDiff, ne_eq, reduceCtorEq, fcT, f0, f1, f6, f7, tdivN], by simp (disch := omega) only [bsW, ↓reduceIte, Nat.reduceEqDiff, ne_eq, reduceCtorEq, fcT, f0, f1, f6, f7, tdivN], by simp (disch := omega) only [bsW, ↓reduceIte, Nat.reduceEqDiff, ne_eq, reduceCtorEq, fcT, f0, f1, f6, f7, tdivN, ht], ?_, hb, by omega, rfl⟩
      rw [← hg, Nat.gcd_comm b, ← Nat.gcd_rec, Nat.gcd_comm]
    · have hb0 : b = 0 := by simp at b1; omega
      subst hb0
      rw [Nat.gcd_zero_right] at hg
      subst hg
      simp (disch := omega) only [bsW, WOp, WOq, WV, bo, eqN, gdc, gw, bnd, ↓reduceIte, Nat.reduceEqDiff, rsvs, rsv, oneOf, rdN, ne_eq, Nat.reduceAdd, Nat.reduceMul, Nat.reduceLT, reduceCtorEq, Value.cells, setN, Value.oneCell', Nat.reduceLeDiff, undef, fcT, f0, f1, f6, f7, tdivN]
      refine ⟨by omega, by omega, ?_⟩
      exact Is_e rfl (Sub.refl _)
  · rintro fr H' nx' ⟨a, b, hm, _⟩; omega
  · exact ⟨p, q, Nat.le_refl _, by simp (disch := omega) only [bsW, ↓reduceIte, Nat.reduceEqDiff, ne_eq, reduceCtorEq, fcT], by simp (disch := omega) only [bsW, ↓reduceIte, Nat.reduceEqDiff, ne_eq, reduceCtorEq, fcT], by simp (disch := omega) only [bsW, ↓reduceIte, Nat.reduceEqDiff, ne_eq, reduceCtorEq, fcT], by simp (disch := omega) only [bsW, ↓reduceIte, Nat.reduceEqDiff, ne_eq, reduceCtorEq, fcT], rfl, by omega, by omega, rfl⟩
end Go.Proofs.YtnjlleopgjggpaaDoor
