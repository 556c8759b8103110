/- Prices: the search of a place, SetPrice. -/
import Derived.Test.YtgjkjibllgpnjaaP15
set_option linter.unusedVariables false
set_option linter.unusedSimpArgs false
set_option maxRecDepth 100000
set_option maxHeartbeats 1000000
namespace Go.Proofs.Ytgjkjibllgpnjaa
open Go Go.RowKit Go.Proofs

theorem mid_bits (i j : Nat) (h : i + j ≤ 2097152) : IntKind.i64.wrap ((IntKind.u64.wrap ((i : Int) + (j : Int))).fdiv (2 ^ min (Int.toNat 1) IntKind.u64.bits)) = (((i + j) / 2 : Nat) : Int) := by
  have h1 : IntKind.u64.wrap ((i : Int) + (j : Int)) = ((i + j : Nat) : Int) := by
    have hb : IntKind.u64.bits = 64 := rfl
    have hs : IntKind.u64.signed = false := rfl
    have hp : (2 : Int) ^ 64 = 18446744073709551616 := by decide
    simp only [IntKind.wrap, hb, hs, Bool.false_and, Bool.false_eq_true, if_false, hp]
    omega
  have h2 : (2 : Int) ^ min (Int.toNat 1) IntKind.u64.bits = 2 := by decide
  rw [h1, h2, Int.fdiv_eq_ediv_of_nonneg _ (by omega), IntKind.wrap_i64]
  omega
theorem binP (A : Option Addr) (n c : Nat) (f : Nat → Nat → Int) (item year cents : Int) (H : Hp) (nx : Nat) (hok : prsOk n f) (h : Rd H A n 3 f) :
    PC Try.prog 71 #[.slice A n c, .agg #[.int .i64 item, .int .i64 year, .int .i64 cents], .func (.func 72) #[] #[]] H nx (.tuple #[.int .i64 (posP f item year n : Nat), .bool (fdP n f item year)]) := by
  have hn15 := hok.2
  refine AC_of x_slices_BinarySearchFunc_PriceRow rfl fun hB => ?_
  simp (disch := omega) only [bsW, WOp, WOq, WV, bo, eqN, gdc, gw, bnd, ↓reduceIte, Nat.reduceEqDiff, rsvs, rsv, oneOf, rdN, ne_eq, Nat.reduceAdd, Nat.reduceMul, Nat.reduceLT, reduceCtorEq, Value.cells, setN, Value.oneCell', Nat.reduceLeDiff, undef, fcT, c_slices_BinarySearchFunc_PriceRow]
  (repeat' (first | ((with_reducible refine gif_split (fun hs_ => ?_) (fun hs_ => ?_)) <;> (have hp_ := hs_; (try simp only [hpL, ne_eq] at hp_); (try simp (disch := omega) only [bsW, WOp, WOq, WV, bo, eqN, gdc, gw, bnd, ↓reduceIte, Nat.reduceEqDiff, rsvs, rsv, oneOf, rdN, ne_eq, Nat.reduceAdd, Nat.reduceMul, Nat.reduceLT, reduceCtorEq, Value.cells, setN, Value.oneCell', Nat.reduceLeDiff, undef, fcT, hs_]))) | ((first | (with_reducible refine newB_i (fun nb_ hb_ => ?_)) | (with_reducible refine RgE_i (fun (hBd_ : Bd _ _) => ?_))); (try simp (disch := omega) only [bsW, WOp, WOq, WV, bo, eqN, gdc, gw, bnd, ↓reduceIte, Nat.reduceEqDiff, rsvs, rsv, oneOf, rdN, ne_eq, Nat.reduceAdd, Nat.reduceMul, Nat.reduceLT, reduceCtorEq, Value.cells, setN, Value.oneCell', Nat.reduceLeDiff, undef, fcT])) | (with_reducible refine fun (hBd_ : Bd _ _) => ?_) | ((first | (with_reducible refine @And.intro (Sub _ _) _ ?_ ?_) | ((with_reducible refine @And.intro (Sub _ _ ∧ _) _ ?_ ?_); (with_reducible refine @And.intro (Sub _ _) _ ?_ ?_))); exact sbX) | ((with_reducible refine And.intro ?_ ?_); omega)))
  have hs0 : Sub H (upd H nb_ (.rw [.int .i64 item, .int .i64 year, .int .i64 cents] 56)) := sub_up (nx := nx) (by omega) hB (Sub.refl _)
  have zT : (upd H nb_ (.rw [.int .i64 item, .int .i64 year, .int .i64 cents] 56)) nb_ = some (.rw [.int .i64 item, .int .i64 year, .int .i64 cents] 56) := upd_same _ _ _
  have hbT := hb_
  generalize (upd H nb_ (.rw [.int .i64 item, .int .i64 year, .int .i64 cents] 56)) = H0 at *
  generalize nb_ = bT at *
  refine LpB_rule (fun mm fr H' nx' => ∃ i j : Nat, j - i + 1 ≤ mm ∧ i ≤ j ∧ j ≤ n ∧ fr 0 = .slice A n c ∧ fr 2 = .func (.func 72) #[] #[] ∧ fr 4 = .pointer (some ⟨bT, 0, none⟩) ∧ fr 8 = .int .i64 n ∧ fr 9 = .int .i64 i ∧ fr 10 = .int .i64 j ∧ Sub H0 H' ∧ nx ≤ nx' ∧ (0 < i → befR f item year (i - 1)) ∧ (j < n → ¬ befR f item year j)) ?_ ?_ (n + 1) ?_
  · rintro mm K hK fr H' nx' hB' ⟨i, j, hmm, hij, hj, f0, f2, f4, f8, f9, f10, hs, hx, hlo, hhi⟩
    have zT' := hs _ _ zT
    simp (disch := omega) only [bsW, WOp, WOq, WV, bo, eqN, gdc, gw, bnd, ↓reduceIte, Nat.reduceEqDiff, rsvs, rsv, oneOf, rdN, ne_eq, Nat.reduceAdd, Nat.reduceMul, Nat.reduceLT, reduceCtorEq, Value.cells, setN, Value.oneCell', Nat.reduceLeDiff, undef, fcT, f0, f2, f4, f8, f9, f10]
    refine gif_split (fun b1 => ?_) (fun b1 => ?_)
    · have hlt : i < j := by simpa using b1
      have hm1 : (i + j) / 2 < j := by omega
      have hm2 : i ≤ (i + j) / 2 := by omega
      obtain ⟨b, off, rfl, cc⟩ := (h.sub (hs0.trans hs)).at_ (show 0 < n by omega)
      have c0 := cc ((i + j) / 2) 0 (by omega) (by omega)
      have c1 := cc ((i + j) / 2) 1 (by omega) (by omega)
      have c2 := cc ((i + j) / 2) 2 (by omega) (by omega)
      simp only [Nat.add_zero] at c0
      have hmid := mid_bits i j (by omega)
      simp (disch := omega) only [bsW, WOp, WOq, WV, bo, eqN, gdc, gw, bnd, ↓reduceIte, Nat.reduceEqDiff, rsvs, rsv, oneOf, rdN, ne_eq, Nat.reduceAdd, Nat.reduceMul, Nat.reduceLT, reduceCtorEq, Value.cells, setN, Value.oneCell', Nat.reduceLeDiff, undef, fcT, f0, f2, f4, f8, f9, f10, hmid, c0, c1, c2, rd_rw zT', Int.toNat_natCast, b1]
      (repeat' (first | ((with_reducible refine gif_split (fun hs_ => ?_) (fun hs_ => ?_)) <;> (have hp_ := hs_; (try simp only [hpL, ne_eq] at hp_); (try simp (disch := omega) only [bsW, WOp, WOq, WV, bo, eqN, gdc, gw, bnd, ↓reduceIte, Nat.reduceEqDiff, rsvs, rsv, oneOf, rdN, ne_eq, Nat.reduceAdd, Nat.reduceMul, Nat.reduceLT, reduceCtorEq, Value.cells, setN, Value.oneCell', Nat.reduceLeDiff, undef, fcT, f0, f2, f4, f8, f9, f10, hmid, c0, c1, c2, rd_rw zT', Int.toNat_natCast, hs_]))) | ((first | (with_reducible refine newB_i (fun nb_ hb_ => ?_)) | ((with_reducible show QC _ _ _ _ _ _); (first | (refine QC_i (compareP _ _ _ _ _ _ _ _) ?_))) | ((with_reducible show AC _ _ _ _ _ _); (first | (refine PC.ac (compareP _ _ _ _ _ _ _ _) ?_))) | (with_reducible refine RgE_i (fun (hBd_ : Bd _ _) => ?_))); (try simp (disch := omega) only [bsW, WOp, WOq, WV, bo, eqN, gdc, gw, bnd, ↓reduceIte, Nat.reduceEqDiff, rsvs, rsv, oneOf, rdN, ne_eq, Nat.reduceAdd, Nat.reduceMul, Nat.reduceLT, reduceCtorEq, Value.cells, setN, Value.oneCell', Nat.reduceLeDiff, undef, fcT, f0, f2, f4, f8, f9, f10, hmid, c0, c1, c2, rd_rw zT', Int.toNat_natCast])) | (with_reducible refine fun (hBd_ : Bd _ _) => ?_) | ((first | (with_reducible refine @And.intro (Sub _ _) _ ?_ ?_) | ((with_reducible refine @And.intro (Sub _ _ ∧ _) _ ?_ ?_); (with_reducible refine @And.intro (Sub _ _) _ ?_ ?_))); exact sbX) | ((with_reducible refine And.intro ?_ ?_); omega)))
      all_goals try (exfalso; omega)
      · refine hK _ _ _ ?_
        rw [cmpP_lt] at hp_
        exact ⟨(i + j) / 2 + 1, j, by omega, by omega, hj, by simp (disch := omega) only [bsW, ↓reduceIte, Nat.reduceEqDiff, ne_eq, reduceCtorEq, fcT, f0, f2, f4, f8, f9, f10, hmid, c0, c1, c2, rd_rw zT', Int.toNat_natCast], by simp (disch := omega) only [bsW, ↓reduceIte, Nat.reduceEqDiff, ne_eq, reduceCtorEq, fcT, f0, f2, f4, f8, f9, f10, hmid, c0, c1, c2, rd_rw zT', Int.toNat_natCast], by simp (disch := omega) only [bsW, ↓reduceIte, Nat.reduceEqDiff, ne_eq, reduceCtorEq, fcT, f0, f2, f4, f8, f9, f10, hmid, c0, c1, c2, rd_rw zT', Int.toNat_natCast], by simp (disch := omega) only [bsW, ↓reduceIte, Nat.reduceEqDiff, ne_eq, reduceCtorEq, fcT, f0, f2, f4, f8, f9, f10, hmid, c0, c1, c2, rd_rw zT', Int.toNat_natCast], by simp (disch := omega) only [bsW, ↓reduceIte, Nat.reduceEqDiff, ne_eq, reduceCtorEq, fcT, f0, f2, f4, f8, f9, f10, hmid, c0, c1, c2, rd_rw zT', Int.toNat_natCast, Int.natCast_add, Int.natCast_one], by simp (disch := omega) only [bsW, ↓reduceIte, Nat.reduceEqDiff, ne_eq, reduceCtorEq, fcT, f0, f2, f4, f8, f9, f10, hmid, c0, c1, c2, rd_rw zT', Int.toNat_natCast], hs, by omega, fun _ => hp_, hhi⟩
      · refine hK _ _ _ ?_
        rw [cmpP_lt] at hp_
        exact ⟨i, (i + j) / 2, by omega, by omega, by omega, by simp (disch := omega) only [bsW, ↓reduceIte, Nat.reduceEqDiff, ne_eq, reduceCtorEq, fcT, f0, f2, f4, f8, f9, f10, hmid, c0, c1, c2, rd_rw zT', Int.toNat_natCast], by simp (disch := omega) only [bsW, ↓reduceIte, Nat.reduceEqDiff, ne_eq, reduceCtorEq, fcT, f0, f2, f4, f8, f9, f10, hmid, c0, c1, c2, rd_rw zT', Int.toNat_natCast], by simp (disch := omega) only [bsW, ↓reduceIte, Nat.reduceEqDiff, ne_eq, reduceCtorEq, fcT, f0, f2, f4, f8, f9, f10, hmid, c0, c1, c2, rd_rw zT', Int.toNat_natCast], by simp (disch := omega) only [bsW, ↓reduceIte, Nat.reduceEqDiff, ne_eq, reduceCtorEq, fcT, f0, f2, f4, f8, f9, f10, hmid, c0, c1, c2, rd_rw zT', Int.toNat_natCast], by simp (disch := omega) only [bsW, ↓reduceIte, Nat.reduceEqDiff, ne_eq, reduceCtorEq, fcT, f0, f2, f4, f8, f9, f10, hmid, c0, c1, c2, rd_rw zT', Int.toNat_natCast], by simp (disch := omega) only [bsW, ↓reduceIte, Nat.reduceEqDiff, ne_eq, reduceCtorEq, fcT, f0, f2, f4, f8, f9, f10, hmid, c0, c1, c2, rd_rw zT', Int.toNat_natCast], hs, by omega, hlo, fun _ => hp_⟩
    · have hij2 : i = j := by simp at b1; omega
      subst hij2
      have hpl := posP_at hok (item := item) (year := year) n (Nat.le_refl _) hj hlo hhi
      by_cases hlt : i < n
      · obtain ⟨b, off, rfl, cc⟩ := (h.sub (hs0.trans hs)).at_ (show 0 < n by omega)
        have c0 := cc i 0 (by omega) (by omega)
        have c1 := cc i 1 (by omega) (by omega)
        have c2 := cc i 2 (by omega) (by omega)
        simp only [Nat.add_zero] at c0
        simp (disch := omega) only [bsW, WOp, WOq, WV, bo, eqN, gdc, gw, bnd, ↓reduceIte, Nat.reduceEqDiff, rsvs, rsv, oneOf, rdN, ne_eq, Nat.reduceAdd, Nat.reduceMul, Nat.reduceLT, reduceCtorEq, Value.cells, setN, Value.oneCell', Nat.reduceLeDiff, undef, fcT, f0, f2, f4, f8, f9, f10, c0, c1, c2, rd_rw zT', Int.toNat_natCast, b1]
        (repeat' (first | ((with_reducible refine gif_split (fun hs_ => ?_) (fun hs_ => ?_)) <;> (have hp_ := hs_; (try simp only [hpL, ne_eq] at hp_); (try simp (disch := omega) only [bsW, WOp, WOq, WV, bo, eqN, gdc, gw, bnd, ↓reduceIte, Nat.reduceEqDiff, rsvs, rsv, oneOf, rdN, ne_eq, Nat.reduceAdd, Nat.reduceMul, Nat.reduceLT, reduceCtorEq, Value.cells, setN, Value.oneCell', Nat.reduceLeDiff, undef, fcT, f0, f2, f4, f8, f9, f10, c0, c1, c2, rd_rw zT', Int.toNat_natCast, hs_]))) | ((first | (with_reducible refine newB_i (fun nb_ hb_ => ?_)) | ((with_reducible show QC _ _ _ _ _ _); (first | (refine QC_i (compareP _ _ _ _ _ _ _ _) ?_))) | ((with_reducible show AC _ _ _ _ _ _); (first | (refine PC.ac (compareP _ _ _ _ _ _ _ _) ?_))) | (with_reducible refine RgE_i (fun (hBd_ : Bd _ _) => ?_))); (try simp (disch := omega) only [bsW, WOp, WOq, WV, bo, eqN, gdc, gw, bnd, ↓reduceIte, Nat.reduceEqDiff, rsvs, rsv, oneOf, rdN, ne_eq, Nat.reduceAdd, Nat.reduceMul, Nat.reduceLT, reduceCtorEq, Value.cells, setN, Value.oneCell', Nat.reduceLeDiff, undef, fcT, f0, f2, f4, f8, f9, f10, c0, c1, c2, rd_rw zT', Int.toNat_natCast])) | (with_reducible refine fun (hBd_ : Bd _ _) => ?_) | ((first | (with_reducible refine @And.intro (Sub _ _) _ ?_ ?_) | ((with_reducible refine @And.intro (Sub _ _ ∧ _) _ ?_ ?_); (with_reducible refine @And.intro (Sub _ _) _ ?_ ?_))); exact sbX) | ((with_reducible refine And.intro ?_ ?_); omega)))
        all_goals try (exfalso; omega)
        all_goals
          refine Is_e ?_ (hs0.trans hs)
          have hq : fdP n f item year = (cmpP (f i 0) (f i 1) item year == 0) := by
            unfold fdP
            rw [hpl, Bool.eq_iff_iff, decide_eq_true_iff, beq_iff_eq, cmpP_eq]
            exact ⟨fun h => h.2, fun h => ⟨hlt, h⟩⟩
          rw [hpl, hq]
      · simp (disch := omega) only [bsW, WOp, WOq, WV, bo, eqN, gdc, gw, bnd, ↓reduceIte, Nat.reduceEqDiff, rsvs, rsv, oneOf, rdN, ne_eq, Nat.reduceAdd, Nat.reduceMul, Nat.reduceLT, reduceCtorEq, Value.cells, setN, Value.oneCell', Nat.reduceLeDiff, undef, fcT, f0, f2, f4, f8, f9, f10, b1]
        (repeat' (first | ((with_reducible refine gif_split (fun hs_ => ?_) (fun hs_ => ?_)) <;> (have hp_ := hs_; (try simp only [hpL, ne_eq] at hp_); (try simp (disch := omega) only [bsW, WOp, WOq, WV, bo, eqN, gdc, gw, bnd, ↓reduceIte, Nat.reduceEqDiff, rsvs, rsv, oneOf, rdN, ne_eq, Nat.reduceAdd, Nat.reduceMul, Nat.reduceLT, reduceCtorEq, Value.cells, setN, Value.oneCell', Nat.reduceLeDiff, undef, fcT, f0, f2, f4, f8, f9, f10, hs_]))) | ((first | (with_reducible refine newB_i (fun nb_ hb_ => ?_)) | (with_reducible refine RgE_i (fun (hBd_ : Bd _ _) => ?_))); (try simp (disch := omega) only [bsW, WOp, WOq, WV, bo, eqN, gdc, gw, bnd, ↓reduceIte, Nat.reduceEqDiff, rsvs, rsv, oneOf, rdN, ne_eq, Nat.reduceAdd, Nat.reduceMul, Nat.reduceLT, reduceCtorEq, Value.cells, setN, Value.oneCell', Nat.reduceLeDiff, undef, fcT, f0, f2, f4, f8, f9, f10])) | (with_reducible refine fun (hBd_ : Bd _ _) => ?_) | ((first | (with_reducible refine @And.intro (Sub _ _) _ ?_ ?_) | ((with_reducible refine @And.intro (Sub _ _ ∧ _) _ ?_ ?_); (with_reducible refine @And.intro (Sub _ _) _ ?_ ?_))); exact sbX) | ((with_reducible refine And.intro ?_ ?_); omega)))
        all_goals try (exfalso; omega)
        all_goals
          refine Is_e ?_ (hs0.trans hs)
          have hq : fdP n f item year = false := by
            unfold fdP
            rw [hpl, decide_eq_false_iff_not]
            exact fun h => hlt h.1
          rw [hpl, hq]
  · rintro fr H' nx' ⟨i, j, hmm, _⟩; omega
  · exact ⟨0, n, by omega, by omega, by omega, by simp (disch := omega) only [bsW, ↓reduceIte, Nat.reduceEqDiff, ne_eq, reduceCtorEq, fcT], by simp (disch := omega) only [bsW, ↓reduceIte, Nat.reduceEqDiff, ne_eq, reduceCtorEq, fcT], by simp (disch := omega) only [bsW, ↓reduceIte, Nat.reduceEqDiff, ne_eq, reduceCtorEq, fcT], by simp (disch := omega) only [bsW, ↓reduceIte, Nat.reduceEqDiff, ne_eq, reduceCtorEq, fcT], by simp (disch := omega) only [bsW, ↓reduceIte, Nat.reduceEqDiff, ne_eq, reduceCtorEq, fcT, Int.natCast_zero], by simp (disch := omega) only [bsW, ↓reduceIte, Nat.reduceEqDiff, ne_eq, reduceCtorEq, fcT], Sub.refl _, by omega, fun h => by omega, fun h => by omega⟩

theorem SetPrice (A : Option Addr) (n c : Nat) (f : Nat → Nat → Int) (item year cents : Int) (H : Hp) (nx : Nat) (hn : n ≤ 17592186044416) (h : Rd H A n 3 f) :
    AC Try.prog 42 #[.slice A n c, .int .i64 item, .int .i64 year, .int .i64 cents] H nx (SpK H nx n f item year cents) := by
  refine AC_of x_impl_SetPrice rfl fun hB => ?_
  simp (disch := omega) only [bsW, WOp, WOq, WV, bo, eqN, gdc, gw, bnd, ↓reduceIte, Nat.reduceEqDiff, rsvs, rsv, oneOf, rdN, ne_eq, Nat.reduceAdd, Nat.reduceMul, Nat.reduceLT, reduceCtorEq, Value.cells, setN, Value.oneCell', Nat.reduceLeDiff, undef, fcT, c_impl_SetPrice]
  (repeat' (first | ((with_reducible refine gif_split (fun hs_ => ?_) (fun hs_ => ?_)) <;> (have hp_ := hs_; (try simp only [hpL, ne_eq] at hp_); (try simp (disch := omega) only [bsW, WOp, WOq, WV, bo, eqN, gdc, gw, bnd, ↓reduceIte, Nat.reduceEqDiff, rsvs, rsv, oneOf, rdN, ne_eq, Nat.reduceAdd, Nat.reduceMul, Nat.reduceLT, reduceCtorEq, Value.cells, setN, Value.oneCell', Nat.reduceLeDiff, undef, fcT, hs_]))) | ((first | (with_reducible refine newB_i (fun nb_ hb_ => ?_)) | ((with_reducible show QC _ _ _ _ _ _); (first | (refine QC_i (arePrices A n c f _ _ hn (by first | exact h | exact h.sub (sub_up (nx := nx) (by omega) hB (Sub.refl _)))) ?_) | (refine QC_i (isPrice _ _ _ _ _) ?_))) | ((with_reducible show AC _ _ _ _ _ _); (first | (refine PC.ac (arePrices A n c f _ _ hn (by first | exact h | exact h.sub (sub_up (nx := nx) (by omega) hB (Sub.refl _)))) ?_) | (refine PC.ac (isPrice _ _ _ _ _) ?_))) | (with_reducible refine RgE_i (fun (hBd_ : Bd _ _) => ?_))); (try simp (disch := omega) only [bsW, WOp, WOq, WV, bo, eqN, gdc, gw, bnd, ↓reduceIte, Nat.reduceEqDiff, rsvs, rsv, oneOf, rdN, ne_eq, Nat.reduceAdd, Nat.reduceMul, Nat.reduceLT, reduceCtorEq, Value.cells, setN, Value.oneCell', Nat.reduceLeDiff, undef, fcT])) | (with_reducible refine fun (hBd_ : Bd _ _) => ?_) | ((first | (with_reducible refine @And.intro (Sub _ _) _ ?_ ?_) | ((with_reducible refine @And.intro (Sub _ _ ∧ _) _ ?_ ?_); (with_reducible refine @And.intro (Sub _ _) _ ?_ ?_))); exact sbX) | ((with_reducible refine And.intro ?_ ?_); omega)))
  all_goals try (exfalso; omega)
  all_goals try (
    refine spK_no ?_ ⟨.nil, by (repeat (first | assumption | exact Sub.refl _ | (refine sub_up (nx := nx) ?_ hB ?_; omega)))⟩
    refine Bool.eq_false_iff.2 fun hh => ?_
    first
    | (have h1 := spB_one hh
       simp_all; done)
    | (simp_all [spB]; done))
  have hp : prsB n f = true := by with_reducible assumption
  have hone : (inR item 1 999 && inR year 1840 2100 && inR cents 1 10000000) = true := by simp_all
  have hok := prsB_iff.1 hp
  have hn15 := hok.2
  have e0 : spB n f item year cents = prsB (spM n f item year) (spF n f item year cents) := by simp [spB, hp]
  have hs0 : Sub H (upd H nb_ (.rw [.int .i64 item, .int .i64 year, .int .i64 cents] 56)) := sub_up (nx := nx) (by omega) hB (Sub.refl _)
  have hB0 : Bd (upd H nb_ (.rw [.int .i64 item, .int .i64 year, .int .i64 cents] 56)) (nb_ + 1) := Bd.up hB (by omega)
  have zT : (upd H nb_ (.rw [.int .i64 item, .int .i64 year, .int .i64 cents] 56)) nb_ = some (.rw [.int .i64 item, .int .i64 year, .int .i64 cents] 56) := upd_same _ _ _
  have hbT := hb_
  generalize (upd H nb_ (.rw [.int .i64 item, .int .i64 year, .int .i64 cents] 56)) = H0 at *
  generalize nb_ = bT at *
  have h0 := h.sub hs0
  have hpos := posP_le f item year n
  (try (simp (disch := omega) only [bsW, WOp, WOq, WV, bo, eqN, gdc, gw, bnd, ↓reduceIte, Nat.reduceEqDiff, rsvs, rsv, oneOf, rdN, ne_eq, Nat.reduceAdd, Nat.reduceMul, Nat.reduceLT, reduceCtorEq, Value.cells, setN, Value.oneCell', Nat.reduceLeDiff, undef, fcT, rd_rw zT]))
  (repeat' (first | ((with_reducible refine gif_split (fun hs_ => ?_) (fun hs_ => ?_)) <;> (have hp_ := hs_; (try simp only [hpL, ne_eq] at hp_); (try simp (disch := omega) only [bsW, WOp, WOq, WV, bo, eqN, gdc, gw, bnd, ↓reduceIte, Nat.reduceEqDiff, rsvs, rsv, oneOf, rdN, ne_eq, Nat.reduceAdd, Nat.reduceMul, Nat.reduceLT, reduceCtorEq, Value.cells, setN, Value.oneCell', Nat.reduceLeDiff, undef, fcT, rd_rw zT, hs_]))) | ((first | (with_reducible refine newB_i (fun nb_ hb_ => ?_)) | ((with_reducible show QC _ _ _ _ _ _); (first | (refine QC_i (binP A n c f item year cents _ _ hok h0) ?_))) | ((with_reducible show AC _ _ _ _ _ _); (first | (refine PC.ac (binP A n c f item year cents _ _ hok h0) ?_))) | (with_reducible refine RgE_i (fun (hBd_ : Bd _ _) => ?_))); (try simp (disch := omega) only [bsW, WOp, WOq, WV, bo, eqN, gdc, gw, bnd, ↓reduceIte, Nat.reduceEqDiff, rsvs, rsv, oneOf, rdN, ne_eq, Nat.reduceAdd, Nat.reduceMul, Nat.reduceLT, reduceCtorEq, Value.cells, setN, Value.oneCell', Nat.reduceLeDiff, undef, fcT, rd_rw zT])) | (with_reducible refine fun (hBd_ : Bd _ _) => ?_) | ((first | (with_reducible refine @And.intro (Sub _ _) _ ?_ ?_) | ((with_reducible refine @And.intro (Sub _ _ ∧ _) _ ?_ ?_); (with_reducible refine @And.intro (Sub _ _) _ ?_ ?_))); exact sbX) | ((with_reducible refine And.intro ?_ ?_); omega)))
  all_goals try (exfalso; omega)
  refine (clonePr A n c f H0 _ (by omega) h0).monoC ?_
  rintro w H1 nx1 hB1 hx1 ⟨hO1, ht1⟩
  have zT1 := ht1 _ _ zT
  have hs1 := hs0.trans ht1
  cases hf : fdP n f item year
  · obtain ⟨A1, d1, rfl, hc1, hR1⟩ := hO1.rd
    (try (simp (disch := omega) only [bsW, WOp, WOq, WV, bo, eqN, gdc, gw, bnd, ↓reduceIte, Nat.reduceEqDiff, rsvs, rsv, oneOf, rdN, ne_eq, Nat.reduceAdd, Nat.reduceMul, Nat.reduceLT, reduceCtorEq, Value.cells, setN, Value.oneCell', Nat.reduceLeDiff, undef, fcT, rd_rw zT1, hf]))
    (repeat' (first | ((with_reducible refine gif_split (fun hs_ => ?_) (fun hs_ => ?_)) <;> (have hp_ := hs_; (try simp only [hpL, ne_eq] at hp_); (try simp (disch := omega) only [bsW, WOp, WOq, WV, bo, eqN, gdc, gw, bnd, ↓reduceIte, Nat.reduceEqDiff, rsvs, rsv, oneOf, rdN, ne_eq, Nat.reduceAdd, Nat.reduceMul, Nat.reduceLT, reduceCtorEq, Value.cells, setN, Value.oneCell', Nat.reduceLeDiff, undef, fcT, rd_rw zT1, hf, hs_]))) | ((first | (with_reducible refine newB_i (fun nb_ hb_ => ?_)) | (with_reducible refine RgE_i (fun (hBd_ : Bd _ _) => ?_))); (try simp (disch := omega) only [bsW, WOp, WOq, WV, bo, eqN, gdc, gw, bnd, ↓reduceIte, Nat.reduceEqDiff, rsvs, rsv, oneOf, rdN, ne_eq, Nat.reduceAdd, Nat.reduceMul, Nat.reduceLT, reduceCtorEq, Value.cells, setN, Value.oneCell', Nat.reduceLeDiff, undef, fcT, rd_rw zT1, hf])) | (with_reducible refine fun (hBd_ : Bd _ _) => ?_) | ((first | (with_reducible refine @And.intro (Sub _ _) _ ?_ ?_) | ((with_reducible refine @And.intro (Sub _ _ ∧ _) _ ?_ ?_); (with_reducible refine @And.intro (Sub _ _) _ ?_ ?_))); exact sbX) | ((with_reducible refine And.intro ?_ ?_); omega)))
    all_goals try (exfalso; omega)
    have hbX := hb_
    have hsX : Sub H1 (upd H1 nb_ (.rw [.int .i64 item, .int .i64 year, .int .i64 cents] 56)) := sub_up (nx := nx1) (by omega) hB1 (Sub.refl _)
    refine (insertP _ n (posP f item year n) f (eP item year cents) (bT + 1) nb_ 0 _ _ (by omega) (by omega) hpos ((hO1.sub hsX (by omega))) (upd_same _ _ _) (fun e => by have := hO1.blk e; omega) (by omega)).monoC ?_
    rintro v2 H2 nx2 hB2 hx2 ⟨hO2, hoth2⟩
    have hfn := fdN_no hf
    have eM : spM n f item year = n + 1 := by unfold spM; omega
    have hO3 : OwnR H2 (bT + 1) nx2 (n + 1) 3 (spF n f item year cents) 56 v2 := hO2.congr (fun a j ha hj => by
      unfold insF spF
      rw [hfn]
      rfl)
    have hs2 : Sub H H2 := fun k o e => by
      have h1 := hB k o e
      rw [hoth2 k (by omega) (fun e2 => by have := hO1.blk e2; omega)]
      rw [upd_ne (by omega)]
      exact hs1 k o e
    obtain ⟨A2, d2, rfl, hc2, hR2⟩ := hO3.rd
    (try (simp (disch := omega) only [bsW, WOp, WOq, WV, bo, eqN, gdc, gw, bnd, ↓reduceIte, Nat.reduceEqDiff, rsvs, rsv, oneOf, rdN, ne_eq, Nat.reduceAdd, Nat.reduceMul, Nat.reduceLT, reduceCtorEq, Value.cells, setN, Value.oneCell', Nat.reduceLeDiff, undef, fcT]))
    (repeat' (first | ((with_reducible refine gif_split (fun hs_ => ?_) (fun hs_ => ?_)) <;> (have hp_ := hs_; (try simp only [hpL, ne_eq] at hp_); (try simp (disch := omega) only [bsW, WOp, WOq, WV, bo, eqN, gdc, gw, bnd, ↓reduceIte, Nat.reduceEqDiff, rsvs, rsv, oneOf, rdN, ne_eq, Nat.reduceAdd, Nat.reduceMul, Nat.reduceLT, reduceCtorEq, Value.cells, setN, Value.oneCell', Nat.reduceLeDiff, undef, fcT, hs_]))) | ((first | (with_reducible refine newB_i (fun nb_ hb_ => ?_)) | ((with_reducible show QC _ _ _ _ _ _); (first | (refine QC_i (arePrices A2 (n + 1) d2 (spF n f item year cents) _ _ (by omega) hR2) ?_))) | ((with_reducible show AC _ _ _ _ _ _); (first | (refine PC.ac (arePrices A2 (n + 1) d2 (spF n f item year cents) _ _ (by omega) hR2) ?_))) | (with_reducible refine RgE_i (fun (hBd_ : Bd _ _) => ?_))); (try simp (disch := omega) only [bsW, WOp, WOq, WV, bo, eqN, gdc, gw, bnd, ↓reduceIte, Nat.reduceEqDiff, rsvs, rsv, oneOf, rdN, ne_eq, Nat.reduceAdd, Nat.reduceMul, Nat.reduceLT, reduceCtorEq, Value.cells, setN, Value.oneCell', Nat.reduceLeDiff, undef, fcT])) | (with_reducible refine fun (hBd_ : Bd _ _) => ?_) | ((first | (with_reducible refine @And.intro (Sub _ _) _ ?_ ?_) | ((with_reducible refine @And.intro (Sub _ _ ∧ _) _ ?_ ?_); (with_reducible refine @And.intro (Sub _ _) _ ?_ ?_))); exact sbX) | ((with_reducible refine And.intro ?_ ?_); omega)))
    all_goals try (exfalso; omega)
    · exact spK_yes (by rw [e0, eM]; assumption) (by rw [eM]; exact ⟨hO3.lo (by omega), hs2⟩)
    · exact spK_no (by rw [e0, eM]; assumption) ⟨.nil, hs2⟩
  · have hfn := fdN_yes hf
    have hf' := hf
    simp only [fdP, decide_eq_true_eq] at hf'
    have eM : spM n f item year = n := by unfold spM; omega
    rcases hO1.ex with ⟨e, h00⟩ | ⟨q, cap, sp, rfl, hq1, hq2, hq3, hq4, hq5, hq6⟩
    · omega
    (try (simp (disch := omega) only [bsW, WOp, WOq, WV, bo, eqN, gdc, gw, bnd, ↓reduceIte, Nat.reduceEqDiff, rsvs, rsv, oneOf, rdN, ne_eq, Nat.reduceAdd, Nat.reduceMul, Nat.reduceLT, reduceCtorEq, Value.cells, setN, Value.oneCell', Nat.reduceLeDiff, undef, fcT, rd_rw zT1, hf, hq3, List.length_append, flat_length, Int.toNat_natCast]))
    (repeat' (first | ((with_reducible refine gif_split (fun hs_ => ?_) (fun hs_ => ?_)) <;> (have hp_ := hs_; (try simp only [hpL, ne_eq] at hp_); (try simp (disch := omega) only [bsW, WOp, WOq, WV, bo, eqN, gdc, gw, bnd, ↓reduceIte, Nat.reduceEqDiff, rsvs, rsv, oneOf, rdN, ne_eq, Nat.reduceAdd, Nat.reduceMul, Nat.reduceLT, reduceCtorEq, Value.cells, setN, Value.oneCell', Nat.reduceLeDiff, undef, fcT, rd_rw zT1, hf, hq3, List.length_append, flat_length, Int.toNat_natCast, hs_]))) | ((first | (with_reducible refine newB_i (fun nb_ hb_ => ?_)) | (with_reducible refine RgE_i (fun (hBd_ : Bd _ _) => ?_))); (try simp (disch := omega) only [bsW, WOp, WOq, WV, bo, eqN, gdc, gw, bnd, ↓reduceIte, Nat.reduceEqDiff, rsvs, rsv, oneOf, rdN, ne_eq, Nat.reduceAdd, Nat.reduceMul, Nat.reduceLT, reduceCtorEq, Value.cells, setN, Value.oneCell', Nat.reduceLeDiff, undef, fcT, rd_rw zT1, hf, hq3, List.length_append, flat_length, Int.toNat_natCast])) | (with_reducible refine fun (hBd_ : Bd _ _) => ?_) | ((first | (with_reducible refine @And.intro (Sub _ _) _ ?_ ?_) | ((with_reducible refine @And.intro (Sub _ _ ∧ _) _ ?_ ?_); (with_reducible refine @And.intro (Sub _ _) _ ?_ ?_))); exact sbX) | ((with_reducible refine And.intro ?_ ?_); omega)))
    all_goals try (exfalso; omega)
    have hO3 : OwnR (upd H1 q (.rw (flat n 3 (spF n f item year cents) ++ sp) 56)) (bT + 1) nx1 n 3 (spF n f item year cents) 56 (.slice (some ⟨q, 0, none⟩) n cap) := ⟨.inr ⟨q, cap, sp, rfl, hq1, hq2, upd_same _ _ _, hq4, hq5, hq6⟩⟩
    have ec : flat n 3 (set2 (set2 (set2 f (posP f item year n) 0 item) (posP f item year n) 1 year) (posP f item year n) 2 cents) = flat n 3 (spF n f item year cents) := by
      refine flat_congr fun a j ha hj => ?_
      unfold set2 spF eP
      rw [hfn]
      by_cases h1 : a = posP f item year n
      · subst h1
        rw [if_neg (Nat.lt_irrefl _), if_pos rfl]
        (repeat' split) <;> first | rfl | omega
      · rw [if_neg (by omega), if_neg (by omega), if_neg (by omega)]
        by_cases h2 : a < posP f item year n
        · rw [if_pos h2]
        · rw [if_neg h2, if_neg h1, show a - 1 + 1 = a by omega]
    rw [flat_set0_sp hf'.1 (by omega), flat_set_sp hf'.1 (by omega), flat_set_sp hf'.1 (by omega), ec]
    obtain ⟨A2, d2, e2, hc2, hR2⟩ := hO3.rd
    cases e2
    (try (simp (disch := omega) only [bsW, WOp, WOq, WV, bo, eqN, gdc, gw, bnd, ↓reduceIte, Nat.reduceEqDiff, rsvs, rsv, oneOf, rdN, ne_eq, Nat.reduceAdd, Nat.reduceMul, Nat.reduceLT, reduceCtorEq, Value.cells, setN, Value.oneCell', Nat.reduceLeDiff, undef, fcT]))
    (repeat' (first | ((with_reducible refine gif_split (fun hs_ => ?_) (fun hs_ => ?_)) <;> (have hp_ := hs_; (try simp only [hpL, ne_eq] at hp_); (try simp (disch := omega) only [bsW, WOp, WOq, WV, bo, eqN, gdc, gw, bnd, ↓reduceIte, Nat.reduceEqDiff, rsvs, rsv, oneOf, rdN, ne_eq, Nat.reduceAdd, Nat.reduceMul, Nat.reduceLT, reduceCtorEq, Value.cells, setN, Value.oneCell', Nat.reduceLeDiff, undef, fcT, hs_]))) | ((first | (with_reducible refine newB_i (fun nb_ hb_ => ?_)) | ((with_reducible show QC _ _ _ _ _ _); (first | (refine QC_i (arePrices _ n cap (spF n f item year cents) _ _ (by omega) hR2) ?_))) | ((with_reducible show AC _ _ _ _ _ _); (first | (refine PC.ac (arePrices _ n cap (spF n f item year cents) _ _ (by omega) hR2) ?_))) | (with_reducible refine RgE_i (fun (hBd_ : Bd _ _) => ?_))); (try simp (disch := omega) only [bsW, WOp, WOq, WV, bo, eqN, gdc, gw, bnd, ↓reduceIte, Nat.reduceEqDiff, rsvs, rsv, oneOf, rdN, ne_eq, Nat.reduceAdd, Nat.reduceMul, Nat.reduceLT, reduceCtorEq, Value.cells, setN, Value.oneCell', Nat.reduceLeDiff, undef, fcT])) | (with_reducible refine fun (hBd_ : Bd _ _) => ?_) | ((first | (with_reducible refine @And.intro (Sub _ _) _ ?_ ?_) | ((with_reducible refine @And.intro (Sub _ _ ∧ _) _ ?_ ?_); (with_reducible refine @And.intro (Sub _ _) _ ?_ ?_))); exact sbX) | ((with_reducible refine And.intro ?_ ?_); omega)))
    all_goals try (exfalso; omega)
    · exact spK_yes (by rw [e0, eM]; assumption) (by rw [eM]; exact ⟨hO3.lo (by omega), sub_up (nx := nx) (by omega) hB hs1⟩)
    · exact spK_no (by rw [e0, eM]; assumption) ⟨.nil, sub_up (nx := nx) (by omega) hB hs1⟩
end Go.Proofs.Ytgjkjibllgpnjaa
