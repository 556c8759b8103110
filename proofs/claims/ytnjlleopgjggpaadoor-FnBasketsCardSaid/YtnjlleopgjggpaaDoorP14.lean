/- RaiseAll. -/
import Derived.Test.YtnjlleopgjggpaaDoorP2
import Derived.Test.YtnjlleopgjggpaaDoorD4
set_option linter.unusedVariables false
set_option linter.unusedSimpArgs false
set_option maxRecDepth 100000
set_option maxHeartbeats 1000000
namespace Go.Proofs.YtnjlleopgjggpaaDoor
open Go Go.RowKit Go.Proofs

theorem clonePr (A : Option Addr) (n c : Nat) (f : Nat → Nat → Int) (H : Hp) (nx : Nat) (hn : n ≤ 1048576) (h : Rd H A n 3 f) :
    AC Tryd.prog 98 #[.slice A n c] H nx (NewR H nx n 3 f 63) := by
  refine AC_of x_slices_Clone_PriceRow rfl fun hB => ?_
  simp (disch := omega) only [bsW, WOp, WOq, WV, bo, eqN, gdc, gw, bnd, ↓reduceIte, Nat.reduceEqDiff, rsvs, rsv, oneOf, rdN, ne_eq, Nat.reduceAdd, Nat.reduceMul, Nat.reduceLT, reduceCtorEq, Value.cells, setN, Value.oneCell', Nat.reduceLeDiff, undef, fcT, c_slices_Clone_PriceRow]
  (repeat' (first | ((with_reducible refine gif_split (fun hs_ => ?_) (fun hs_ => ?_)) <;> (have hp_ := hs_; (try simp only [hpL, ne_eq] at hp_); (try simp (disch := omega) only [bsW, WOp, WOq, WV, bo, eqN, gdc, gw, bnd, ↓reduceIte, Nat.reduceEqDiff, rsvs, rsv, oneOf, rdN, ne_eq, Nat.reduceAdd, Nat.reduceMul, Nat.reduceLT, reduceCtorEq, Value.cells, setN, Value.oneCell', Nat.reduceLeDiff, undef, fcT, hs_]))) | ((first | (with_reducible refine newB_i (fun nb_ hb_ => ?_)) | (with_reducible refine RgE_i (fun (hBd_ : Bd _ _) => ?_))); (try simp (disch := omega) only [bsW, WOp, WOq, WV, bo, eqN, gdc, gw, bnd, ↓reduceIte, Nat.reduceEqDiff, rsvs, rsv, oneOf, rdN, ne_eq, Nat.reduceAdd, Nat.reduceMul, Nat.reduceLT, reduceCtorEq, Value.cells, setN, Value.oneCell', Nat.reduceLeDiff, undef, fcT])) | (with_reducible refine fun (hBd_ : Bd _ _) => ?_) | ((first | (with_reducible refine @And.intro (Sub _ _) _ ?_ ?_) | ((with_reducible refine @And.intro (Sub _ _ ∧ _) _ ?_ ?_); (with_reducible refine @And.intro (Sub _ _) _ ?_ ?_))); exact sbX) | ((with_reducible refine And.intro ?_ ?_); omega)))
  · have h0 : n = 0 := by
      rcases Nat.eq_zero_or_pos n with e | e
      · exact e
      · obtain ⟨b, off, e1, _⟩ := h.at_ e
        rw [e1] at hs_
        cases hs_
    subst h0
    exact ⟨.nil, Sub.refl H⟩
  · refine app_row (k := 3) (bytes := 24) (lo := nx) (n := 0) (f := f) (by simp (disch := omega) only [bsW, WOp, WOq, WV, bo, eqN, gdc, gw, bnd, ↓reduceIte, Nat.reduceEqDiff, rsvs, rsv, oneOf, rdN, ne_eq, Nat.reduceAdd, Nat.reduceMul, Nat.reduceLT, reduceCtorEq, Value.cells, setN, Value.oneCell', Nat.reduceLeDiff, undef, fcT]) (by simp (disch := omega) only [bsW, WOp, WOq, WV, bo, eqN, gdc, gw, bnd, ↓reduceIte, Nat.reduceEqDiff, rsvs, rsv, oneOf, rdN, ne_eq, Nat.reduceAdd, Nat.reduceMul, Nat.reduceLT, reduceCtorEq, Value.cells, setN, Value.oneCell', Nat.reduceLeDiff, undef, fcT]) (by simp (disch := omega) only [bsW, WOp, WOq, WV, bo, eqN, gdc, gw, bnd, ↓reduceIte, Nat.reduceEqDiff, rsvs, rsv, oneOf, rdN, ne_eq, Nat.reduceAdd, Nat.reduceMul, Nat.reduceLT, reduceCtorEq, Value.cells, setN, Value.oneCell', Nat.reduceLeDiff, undef, fcT]) ⟨_, qz63, rfl⟩ (by omega) (.empty (by assumption) (by omega) (upd_same _ _ _)) (h.sub (by (repeat (first | assumption | exact Sub.refl _ | (refine sub_up (nx := nx) ?_ hB ?_; omega))))) (by omega) (by omega) (by unfold maxLen; omega) ?_ ?_
    · intro h0
      subst h0
      simp (disch := omega) only [bsW, WOp, WOq, WV, bo, eqN, gdc, gw, bnd, ↓reduceIte, Nat.reduceEqDiff, rsvs, rsv, oneOf, rdN, ne_eq, Nat.reduceAdd, Nat.reduceMul, Nat.reduceLT, reduceCtorEq, Value.cells, setN, Value.oneCell', Nat.reduceLeDiff, undef, fcT]
      exact ⟨.empty (by assumption) (by omega) (upd_same _ _ _), by (repeat (first | assumption | exact Sub.refl _ | (refine sub_up (nx := nx) ?_ hB ?_; omega)))⟩
    · rintro v' b' o nx2 hb' hn2 hown' hO2
      have hlo : nx ≤ b' := by
        rcases hb' with e | e
        · cases e; assumption
        · omega
      simp (disch := omega) only [bsW, WOp, WOq, WV, bo, eqN, gdc, gw, bnd, ↓reduceIte, Nat.reduceEqDiff, rsvs, rsv, oneOf, rdN, ne_eq, Nat.reduceAdd, Nat.reduceMul, Nat.reduceLT, reduceCtorEq, Value.cells, setN, Value.oneCell', Nat.reduceLeDiff, undef, fcT]
      rw [Nat.zero_add, cat_zero] at hO2
      exact ⟨hO2, by (repeat (first | assumption | exact Sub.refl _ | (refine sub_up (nx := nx) ?_ hB ?_; omega)))⟩
/-- A new row and a flag. -/
def RowFlag (H : Hp) (nx n k : Nat) (f : Nat → Nat → Int) (ty : TypeId) (ok : Bool) (v : Value) (H' : Hp) (nx' : Nat) : Prop := ∃ w, v = .tuple #[w, .bool ok] ∧ NewR H nx n k f ty w H' nx'
def rF (f : Nat → Nat → Int) (year pct : Int) : Nat → Nat → Int := fun i j => if j = 2 ∧ f i 1 = year then (f i 2 * (100 + pct) + 99).tdiv 100 else f i j
noncomputable def raB (n : Nat) (f : Nat → Nat → Int) (year pct : Int) : Bool := prsB n f && inR year 1840 2100 && inR pct 0 100 && prsB n (rF f year pct)
noncomputable def raN (n : Nat) (f : Nat → Nat → Int) (year pct : Int) : Nat := if raB n f year pct = true then n else 0
theorem raN_le (n : Nat) (f : Nat → Nat → Int) (year pct : Int) : raN n f year pct ≤ 15 := by
  unfold raN
  split
  · rename_i h
    simp only [raB, Bool.and_eq_true] at h
    exact (prsB_iff.1 h.1.1.1).2
  · omega
theorem ra_bd {x pct : Int} (h1 : 1 ≤ x ∧ x ≤ 10000000) (h2 : 0 ≤ pct ∧ pct ≤ 100) : 0 ≤ x * (100 + pct) ∧ x * (100 + pct) ≤ 2000000000 ∧ 0 ≤ (x * (100 + pct) + 99).tdiv 100 ∧ (x * (100 + pct) + 99).tdiv 100 ≤ 2000000099 := by
  have a1 : 0 ≤ x * (100 + pct) := Int.mul_nonneg (by omega) (by omega)
  have a2 := mul_bd (a := x) (b := 100 + pct) (A := 10000000) (B := 200) (by omega) (by omega)
  have a3 : 0 ≤ (x * (100 + pct) + 99).tdiv 100 := Int.tdiv_nonneg (by omega) (by omega)
  have a4 := tdiv_bd (a := x * (100 + pct) + 99) (b := 100) (M := 2000000099) (by omega)
  omega
theorem RaiseAll (A : Option Addr) (n c : Nat) (f : Nat → Nat → Int) (year pct : Int) (H : Hp) (nx : Nat) (hn : n ≤ 17592186044416) (h : Rd H A n 3 f) :
    AC Tryd.prog 35 #[.slice A n c, .int .i64 year, .int .i64 pct] H nx (RowFlag H nx (raN n f year pct) 3 (rF f year pct) 63 (raB n f year pct)) := by
  refine AC_of x_impl_RaiseAll rfl fun hB => ?_
  simp (disch := omega) only [bsW, WOp, WOq, WV, bo, eqN, gdc, gw, bnd, ↓reduceIte, Nat.reduceEqDiff, rsvs, rsv, oneOf, rdN, ne_eq, Nat.reduceAdd, Nat.reduceMul, Nat.reduceLT, reduceCtorEq, Value.cells, setN, Value.oneCell', Nat.reduceLeDiff, undef, fcT, c_impl_RaiseAll]
  (repeat' (first | ((with_reducible refine gif_split (fun hs_ => ?_) (fun hs_ => ?_)) <;> (have hp_ := hs_; (try simp only [hpL, ne_eq] at hp_); (try simp (disch := omega) only [bsW, WOp, WOq, WV, bo, eqN, gdc, gw, bnd, ↓reduceIte, Nat.reduceEqDiff, rsvs, rsv, oneOf, rdN, ne_eq, Nat.reduceAdd, Nat.reduceMul, Nat.reduceLT, reduceCtorEq, Value.cells, setN, Value.oneCell', Nat.reduceLeDiff, undef, fcT, hs_]))) | ((first | (with_reducible refine newB_i (fun nb_ hb_ => ?_)) | ((with_reducible show QC _ _ _ _ _ _); (first | (refine QC_i (arePrices A n c f _ _ hn h) ?_) | (refine QC_i (isYear _ _ _) ?_) | (refine QC_i (inRange _ _ _ _ _) ?_))) | ((with_reducible show AC _ _ _ _ _ _); (first | (refine PC.ac (arePrices A n c f _ _ hn h) ?_) | (refine PC.ac (isYear _ _ _) ?_) | (refine PC.ac (inRange _ _ _ _ _) ?_))) | (with_reducible refine RgE_i (fun (hBd_ : Bd _ _) => ?_))); (try simp (disch := omega) only [bsW, WOp, WOq, WV, bo, eqN, gdc, gw, bnd, ↓reduceIte, Nat.reduceEqDiff, rsvs, rsv, oneOf, rdN, ne_eq, Nat.reduceAdd, Nat.reduceMul, Nat.reduceLT, reduceCtorEq, Value.cells, setN, Value.oneCell', Nat.reduceLeDiff, undef, fcT])) | (with_reducible refine fun (hBd_ : Bd _ _) => ?_) | ((first | (with_reducible refine @And.intro (Sub _ _) _ ?_ ?_) | ((with_reducible refine @And.intro (Sub _ _ ∧ _) _ ?_ ?_); (with_reducible refine @And.intro (Sub _ _) _ ?_ ?_))); exact sbX) | ((with_reducible refine And.intro ?_ ?_); omega)))
  all_goals try (exfalso; omega)
  all_goals try (
    have e1 : raB n f year pct = false := by simp_all [raB]
    have e2 : raN n f year pct = 0 := if_neg (by rw [e1]; simp)
    rw [e1, e2]
    exact ⟨_, rfl, .nil, Sub.refl _⟩)
  have hp : prsB n f = true := by with_reducible assumption
  have hyy : inR year 1840 2100 = true := by with_reducible assumption
  have hpp : inR pct 0 100 = true := by with_reducible assumption
  have hok := prsB_iff.1 hp
  have hn15 := hok.2
  have hpc := inR_true.1 hpp
  have e0 : raB n f year pct = prsB n (rF f year pct) := by simp [raB, hp, hyy, hpp]
  refine (clonePr A n c f H nx (by omega) h).mono2 ?_
  rintro w H1 nx1 hx1 ⟨hO1, ht1⟩
  simp (disch := omega) only [bsW, WOp, WOq, WV, bo, eqN, gdc, gw, bnd, ↓reduceIte, Nat.reduceEqDiff, rsvs, rsv, oneOf, rdN, ne_eq, Nat.reduceAdd, Nat.reduceMul, Nat.reduceLT, reduceCtorEq, Value.cells, setN, Value.oneCell', Nat.reduceLeDiff, undef, fcT]
  obtain ⟨A1, d1, rfl, hc1, hR1⟩ := hO1.rd
  simp (disch := omega) only [bsW, WOp, WOq, WV, bo, eqN, gdc, gw, bnd, ↓reduceIte, Nat.reduceEqDiff, rsvs, rsv, oneOf, rdN, ne_eq, Nat.reduceAdd, Nat.reduceMul, Nat.reduceLT, reduceCtorEq, Value.cells, setN, Value.oneCell', Nat.reduceLeDiff, undef, fcT]
  refine LpE_rule (fun m fr H' nx' => ∃ k : Nat, m = n - k + 1 ∧ k ≤ n ∧ fr 1 = .int .i64 year ∧ fr 2 = .int .i64 pct ∧ fr 8 = .slice A1 n d1 ∧ fr 26 = .slice A1 n d1 ∧ fr 27 = .int .i64 n ∧ fr 28 = .int .i64 k ∧
    OwnR H' nx nx' n 3 (fun i j => if i < k then rF f year pct i j else f i j) 63 (.slice A1 n d1) ∧ Sub H H' ∧ nx ≤ nx') ?_ ?_ (n + 1) ?_
  · rintro m K hK fr H' nx' ⟨k, hm, hk, f1, f2, f8, f26, f27, f28, hO, hs, hx⟩
    simp (disch := omega) only [bsW, WOp, WOq, WV, bo, eqN, gdc, gw, bnd, ↓reduceIte, Nat.reduceEqDiff, rsvs, rsv, oneOf, rdN, ne_eq, Nat.reduceAdd, Nat.reduceMul, Nat.reduceLT, reduceCtorEq, Value.cells, setN, Value.oneCell', Nat.reduceLeDiff, undef, fcT, f1, f2, f8, f26, f27, f28]
    refine gif_split (fun b1 => ?_) (fun b1 => ?_)
    · have hlt : k < n := by simpa using b1
      have hbk := prs_bd hok hlt
      have hra := ra_bd (x := f k 2) (pct := pct) (by omega) hpc
      have hO' := hO
      rcases hO'.ex with ⟨e, h0⟩ | ⟨q, cap, sp, e, hq1, hq2, hq3, hq4, hq5, hq6⟩
      · omega
      cases e
      have c0 : rd H' q (k * 3) = some (.int .i64 (f k 0)) := by rw [rd_rw hq3]; have := flat_get0_sp (f := fun i j => if i < k then rF f year pct i j else f i j) (sp := sp) hlt (show 0 < 3 by omega); simpa using this
      have c1 : rd H' q (k * 3 + 1) = some (.int .i64 (f k 1)) := by rw [rd_rw hq3]; have := flat_get_sp (f := fun i j => if i < k then rF f year pct i j else f i j) (sp := sp) hlt (show 1 < 3 by omega); simpa using this
      have c2 : rd H' q (k * 3 + 2) = some (.int .i64 (f k 2)) := by rw [rd_rw hq3]; have := flat_get_sp (f := fun i j => if i < k then rF f year pct i j else f i j) (sp := sp) hlt (show 2 < 3 by omega); simpa using this
      simp (disch := omega) only [bsW, WOp, WOq, WV, bo, eqN, gdc, gw, bnd, ↓reduceIte, Nat.reduceEqDiff, rsvs, rsv, oneOf, rdN, ne_eq, Nat.reduceAdd, Nat.reduceMul, Nat.reduceLT, reduceCtorEq, Value.cells, setN, Value.oneCell', Nat.reduceLeDiff, undef, fcT, f1, f2, f8, f26, f27, f28, c0, c1, c2, hq3, List.length_append, flat_length, b1]
      (repeat' (first | ((with_reducible refine gif_split (fun hs_ => ?_) (fun hs_ => ?_)) <;> (have hp_ := hs_; (try simp only [hpL, ne_eq] at hp_); (try simp (disch := omega) only [bsW, WOp, WOq, WV, bo, eqN, gdc, gw, bnd, ↓reduceIte, Nat.reduceEqDiff, rsvs, rsv, oneOf, rdN, ne_eq, Nat.reduceAdd, Nat.reduceMul, Nat.reduceLT, reduceCtorEq, Value.cells, setN, Value.oneCell', Nat.reduceLeDiff, undef, fcT, f1, f2, f8, f26, f27, f28, c0, c1, c2, hq3, List.length_append, flat_length, hs_]))) | ((first | (with_reducible refine newB_i (fun nb_ hb_ => ?_)) | (with_reducible refine RgE_i (fun (hBd_ : Bd _ _) => ?_))); (try simp (disch := omega) only [bsW, WOp, WOq, WV, bo, eqN, gdc, gw, bnd, ↓reduceIte, Nat.reduceEqDiff, rsvs, rsv, oneOf, rdN, ne_eq, Nat.reduceAdd, Nat.reduceMul, Nat.reduceLT, reduceCtorEq, Value.cells, setN, Value.oneCell', Nat.reduceLeDiff, undef, fcT, f1, f2, f8, f26, f27, f28, c0, c1, c2, hq3, List.length_append, flat_length])) | (with_reducible refine fun (hBd_ : Bd _ _) => ?_) | ((first | (with_reducible refine @And.intro (Sub _ _) _ ?_ ?_) | ((with_reducible refine @And.intro (Sub _ _ ∧ _) _ ?_ ?_); (with_reducible refine @And.intro (Sub _ _) _ ?_ ?_))); exact sbX) | ((with_reducible refine And.intro ?_ ?_); omega)))
      all_goals try (exfalso; omega)
      · rw [flat_set_sp hlt (by omega)]
        refine hK _ _ _ ?_
        refine ⟨k + 1, by omega, by omega, by simp (disch := omega) only [bsW, ↓reduceIte, Nat.reduceEqDiff, ne_eq, reduceCtorEq, fcT, f1, f2, f8, f26, f27, f28, c0, c1, c2, hq3, List.length_append, flat_length], by simp (disch := omega) only [bsW, ↓reduceIte, Nat.reduceEqDiff, ne_eq, reduceCtorEq, fcT, f1, f2, f8, f26, f27, f28, c0, c1, c2, hq3, List.length_append, flat_length], by simp (disch := omega) only [bsW, ↓reduceIte, Nat.reduceEqDiff, ne_eq, reduceCtorEq, fcT, f1, f2, f8, f26, f27, f28, c0, c1, c2, hq3, List.length_append, flat_length], by simp (disch := omega) only [bsW, ↓reduceIte, Nat.reduceEqDiff, ne_eq, reduceCtorEq, fcT, f1, f2, f8, f26, f27, f28, c0, c1, c2, hq3, List.length_append, flat_length], by simp (disch := omega) only [bsW, ↓reduceIte, Nat.reduceEqDiff, ne_eq, reduceCtorEq, fcT, f1, f2, f8, f26, f27, f28, c0, c1, c2, hq3, List.length_append, flat_length], by simp (disch := omega) only [bsW, ↓reduceIte, Nat.reduceEqDiff, ne_eq, reduceCtorEq, fcT, f1, f2, f8, f26, f27, f28, c0, c1, c2, hq3, List.length_append, flat_length, Int.natCast_add, Int.natCast_one], ⟨.inr ⟨q, _, sp, rfl, hq1, by omega, ?_, hq4, hq5, hq6⟩⟩, by (repeat (first | assumption | exact Sub.refl _ | (refine sub_up (nx := nx) ?_ hB ?_; omega))), by omega⟩
        rw [upd_same]
        congr 3
        refine flat_congr fun i j hi hj => ?_
        simp only [set2]
        by_cases hik : i = k
        · subst hik
          rw [if_pos (Nat.lt_succ_self i)]
          by_cases hj2 : j = 2
          · subst hj2
            rw [if_pos ⟨rfl, rfl⟩, rF, if_pos ⟨rfl, hp_⟩]
          · rw [if_neg (by omega), if_neg (Nat.lt_irrefl i), rF, if_neg (by omega)]
        · rw [if_neg (by omega)]
          have e1 : (i < k + 1) = (i < k) := by simp; omega
          simp only [e1]
      · refine hK _ _ _ ?_
        refine ⟨k + 1, by omega, by omega, by simp (disch := omega) only [bsW, ↓reduceIte, Nat.reduceEqDiff, ne_eq, reduceCtorEq, fcT, f1, f2, f8, f26, f27, f28, c0, c1, c2, hq3, List.length_append, flat_length], by simp (disch := omega) only [bsW, ↓reduceIte, Nat.reduceEqDiff, ne_eq, reduceCtorEq, fcT, f1, f2, f8, f26, f27, f28, c0, c1, c2, hq3, List.length_append, flat_length], by simp (disch := omega) only [bsW, ↓reduceIte, Nat.reduceEqDiff, ne_eq, reduceCtorEq, fcT, f1, f2, f8, f26, f27, f28, c0, c1, c2, hq3, List.length_append, flat_length], by simp (disch := omega) only [bsW, ↓reduceIte, Nat.reduceEqDiff, ne_eq, reduceCtorEq, fcT, f1, f2, f8, f26, f27, f28, c0, c1, c2, hq3, List.length_append, flat_length], by simp (disch := omega) only [bsW, ↓reduceIte, Nat.reduceEqDiff, ne_eq, reduceCtorEq, fcT, f1, f2, f8, f26, f27, f28, c0, c1, c2, hq3, List.length_append, flat_length], by simp (disch := omega) only [bsW, ↓reduceIte, Nat.reduceEqDiff, ne_eq, reduceCtorEq, fcT, f1, f2, f8, f26, f27, f28, c0, c1, c2, hq3, List.length_append, flat_length, Int.natCast_add, Int.natCast_one], ?_, by (repeat (first | assumption | exact Sub.refl _ | (refine sub_up (nx := nx) ?_ hB ?_; omega))), by omega⟩
        refine (hO.new (by omega)).congr fun i j hi hj => ?_
        by_cases hik : i = k
        · subst hik
          rw [if_neg (Nat.lt_irrefl i), if_pos (Nat.lt_succ_self i), rF, if_neg (fun hh => hp_ hh.2)]
        · have e1 : (i < k + 1) = (i < k) := by simp; omega
          simp only [e1]
    · have hkn : k = n := by simp at b1; omega
      subst hkn
      have hOf : OwnR H' nx nx' k 3 (rF f year pct) 63 (.slice A1 k d1) := hO.congr fun i j hi hj => by rw [if_pos hi]
      obtain ⟨A2, c2, e2, hc2, hR2⟩ := hOf.rd
      cases e2
      simp (disch := omega) only [bsW, WOp, WOq, WV, bo, eqN, gdc, gw, bnd, ↓reduceIte, Nat.reduceEqDiff, rsvs, rsv, oneOf, rdN, ne_eq, Nat.reduceAdd, Nat.reduceMul, Nat.reduceLT, reduceCtorEq, Value.cells, setN, Value.oneCell', Nat.reduceLeDiff, undef, fcT, f1, f2, f8, f26, f27, f28, b1]
      (repeat' (first | ((with_reducible refine gif_split (fun hs_ => ?_) (fun hs_ => ?_)) <;> (have hp_ := hs_; (try simp only [hpL, ne_eq] at hp_); (try simp (disch := omega) only [bsW, WOp, WOq, WV, bo, eqN, gdc, gw, bnd, ↓reduceIte, Nat.reduceEqDiff, rsvs, rsv, oneOf, rdN, ne_eq, Nat.reduceAdd, Nat.reduceMul, Nat.reduceLT, reduceCtorEq, Value.cells, setN, Value.oneCell', Nat.reduceLeDiff, undef, fcT, f1, f2, f8, f26, f27, f28, hs_]))) | ((first | (with_reducible refine newB_i (fun nb_ hb_ => ?_)) | ((with_reducible show QC _ _ _ _ _ _); (first | (refine QC_i (arePrices A1 k d1 (rF f year pct) _ _ hn hR2) ?_))) | ((with_reducible show AC _ _ _ _ _ _); (first | (refine PC.ac (arePrices A1 k d1 (rF f year pct) _ _ hn hR2) ?_))) | (with_reducible refine RgE_i (fun (hBd_ : Bd _ _) => ?_))); (try simp (disch := omega) only [bsW, WOp, WOq, WV, bo, eqN, gdc, gw, bnd, ↓reduceIte, Nat.reduceEqDiff, rsvs, rsv, oneOf, rdN, ne_eq, Nat.reduceAdd, Nat.reduceMul, Nat.reduceLT, reduceCtorEq, Value.cells, setN, Value.oneCell', Nat.reduceLeDiff, undef, fcT, f1, f2, f8, f26, f27, f28])) | (with_reducible refine fun (hBd_ : Bd _ _) => ?_) | ((first | (with_reducible refine @And.intro (Sub _ _) _ ?_ ?_) | ((with_reducible refine @And.intro (Sub _ _ ∧ _) _ ?_ ?_); (with_reducible refine @And.intro (Sub _ _) _ ?_ ?_))); exact sbX) | ((with_reducible refine And.intro ?_ ?_); omega)))
      all_goals try (exfalso; omega)
      · have e2 : raN k f year pct = k := if_pos (by rw [e0, hp_])
        rw [e0, hp_, e2]
        exact ⟨_, rfl, hOf, hs⟩
      · have e2 : raN k f year pct = 0 := if_neg (by rw [e0, hp_]; simp)
        rw [e0, hp_, e2]
        exact ⟨_, rfl, .nil, hs⟩
  · rintro fr H' nx' ⟨k, hm, _⟩; omega
  · exact ⟨0, by omega, by omega, by simp (disch := omega) only [bsW, ↓reduceIte, Nat.reduceEqDiff, ne_eq, reduceCtorEq, fcT], by simp (disch := omega) only [bsW, ↓reduceIte, Nat.reduceEqDiff, ne_eq, reduceCtorEq, fcT], by simp (disch := omega) only [bsW, ↓reduceIte, Nat.reduceEqDiff, ne_eq, reduceCtorEq, fcT], by simp (disch := omega) only [bsW, ↓reduceIte, Nat.reduceEqDiff, ne_eq, reduceCtorEq, fcT], by simp (disch := omega) only [bsW, ↓reduceIte, Nat.reduceEqDiff, ne_eq, reduceCtorEq, fcT], by simp (disch := omega) only [bsW, ↓reduceIte, Nat.reduceEqDiff, ne_eq, reduceCtorEq, fcT, Int.natCast_zero], hO1.congr (fun i j _ _ => by rw [if_neg (by omega)]), ht1, by omega⟩

theorem sRaiseAll (A : Option Addr) (n c : Nat) (f : Nat → Nat → Int) (year pct : Int) (H : Hp) (nx : Nat) (hn : n ≤ 17592186044416) (h : Rd H A n 3 f) :
    AC Tryd.prog 36 #[.slice A n c, .int .i64 year, .int .i64 pct] H nx (RowFlag H nx (raN n f year pct) 3 (rF f year pct) 63 (raB n f year pct)) := by
  refine AC_of x_spec_RaiseAll rfl fun hB => ?_
  simp (disch := omega) only [bsW, WOp, WOq, WV, bo, eqN, gdc, gw, bnd, ↓reduceIte, Nat.reduceEqDiff, rsvs, rsv, oneOf, rdN, ne_eq, Nat.reduceAdd, Nat.reduceMul, Nat.reduceLT, reduceCtorEq, Value.cells, setN, Value.oneCell', Nat.reduceLeDiff, undef, fcT, c_spec_RaiseAll]
  (repeat' (first | ((with_reducible refine gif_split (fun hs_ => ?_) (fun hs_ => ?_)) <;> (have hp_ := hs_; (try simp only [hpL, ne_eq] at hp_); (try simp (disch := omega) only [bsW, WOp, WOq, WV, bo, eqN, gdc, gw, bnd, ↓reduceIte, Nat.reduceEqDiff, rsvs, rsv, oneOf, rdN, ne_eq, Nat.reduceAdd, Nat.reduceMul, Nat.reduceLT, reduceCtorEq, Value.cells, setN, Value.oneCell', Nat.reduceLeDiff, undef, fcT, hs_]))) | ((first | (with_reducible refine newB_i (fun nb_ hb_ => ?_)) | ((with_reducible show QC _ _ _ _ _ _); (first | (refine QC_i (l24Good A n c f _ _ hn h) ?_) | (refine QC_i (l24Year _ _ _) ?_) | (refine QC_i (l1In _ _ _ _ _) ?_))) | ((with_reducible show AC _ _ _ _ _ _); (first | (refine PC.ac (l24Good A n c f _ _ hn h) ?_) | (refine PC.ac (l24Year _ _ _) ?_) | (refine PC.ac (l1In _ _ _ _ _) ?_))) | (with_reducible refine RgE_i (fun (hBd_ : Bd _ _) => ?_))); (try simp (disch := omega) only [bsW, WOp, WOq, WV, bo, eqN, gdc, gw, bnd, ↓reduceIte, Nat.reduceEqDiff, rsvs, rsv, oneOf, rdN, ne_eq, Nat.reduceAdd, Nat.reduceMul, Nat.reduceLT, reduceCtorEq, Value.cells, setN, Value.oneCell', Nat.reduceLeDiff, undef, fcT])) | (with_reducible refine fun (hBd_ : Bd _ _) => ?_) | ((first | (with_reducible refine @And.intro (Sub _ _) _ ?_ ?_) | ((with_reducible refine @And.intro (Sub _ _ ∧ _) _ ?_ ?_); (with_reducible refine @And.intro (Sub _ _) _ ?_ ?_))); exact sbX) | ((with_reducible refine And.intro ?_ ?_); omega)))
  all_goals try (exfalso; omega)
  all_goals try (
    have e1 : raB n f year pct = false := by simp_all [raB]
    have e2 : raN n f year pct = 0 := if_neg (by rw [e1]; simp)
    rw [e1, e2]
    exact ⟨_, rfl, .empty (by assumption) (by omega) (upd_same _ _ _), by (repeat (first | assumption | exact Sub.refl _ | (refine sub_up (nx := nx) ?_ hB ?_; omega)))⟩)
  have hp : prsB n f = true := by with_reducible assumption
  have hyy : inR year 1840 2100 = true := by with_reducible assumption
  have hpp : inR pct 0 100 = true := by with_reducible assumption
  have hok := prsB_iff.1 hp
  have hn15 := hok.2
  have hpc := inR_true.1 hpp
  have e0 : raB n f year pct = prsB n (rF f year pct) := by simp [raB, hp, hyy, hpp]
  refine LpE_rule (fun m fr H' nx' => ∃ (k : Nat) (w : Value), m = n - k + 1 ∧ k ≤ n ∧ fr 0 = .slice A n c ∧ fr 1 = .int .i64 year ∧ fr 2 = .int .i64 pct ∧ fr 8 = w ∧ fr 9 = .int .i64 k ∧
    OwnR H' nx nx' k 3 (rF f year pct) 63 w ∧ Sub H H' ∧ nx ≤ nx') ?_ ?_ (n + 1) ?_
  · rintro m K hK fr H' nx' ⟨k, w, hm, hk, f0, f1, f2, f8, f9, hO, hs, hx⟩
    simp (disch := omega) only [bsW, WOp, WOq, WV, bo, eqN, gdc, gw, bnd, ↓reduceIte, Nat.reduceEqDiff, rsvs, rsv, oneOf, rdN, ne_eq, Nat.reduceAdd, Nat.reduceMul, Nat.reduceLT, reduceCtorEq, Value.cells, setN, Value.oneCell', Nat.reduceLeDiff, undef, fcT, f0, f1, f2, f8, f9]
    refine gif_split (fun b1 => ?_) (fun b1 => ?_)
    · have hlt : k < n := by simpa using b1
      obtain ⟨b, off, rfl, hc⟩ := h.at_ (by omega)
      have hb := rd_lt hB (hc k 0 hlt (by omega))
      have c0 := rd_sub hs (hc k 0 hlt (by omega))
      have c1 := rd_sub hs (hc k 1 hlt (by omega))
      have c2 := rd_sub hs (hc k 2 hlt (by omega))
      simp only [Nat.add_zero] at c0
      have hbk := prs_bd hok hlt
      have hra := ra_bd (x := f k 2) (pct := pct) (by omega) hpc
      simp (disch := omega) only [bsW, WOp, WOq, WV, bo, eqN, gdc, gw, bnd, ↓reduceIte, Nat.reduceEqDiff, rsvs, rsv, oneOf, rdN, ne_eq, Nat.reduceAdd, Nat.reduceMul, Nat.reduceLT, reduceCtorEq, Value.cells, setN, Value.oneCell', Nat.reduceLeDiff, undef, fcT, f0, f1, f2, f8, f9, c0, c1, c2, b1]
      (repeat' (first | ((with_reducible refine gif_split (fun hs_ => ?_) (fun hs_ => ?_)) <;> (have hp_ := hs_; (try simp only [hpL, ne_eq] at hp_); (try simp (disch := omega) only [bsW, WOp, WOq, WV, bo, eqN, gdc, gw, bnd, ↓reduceIte, Nat.reduceEqDiff, rsvs, rsv, oneOf, rdN, ne_eq, Nat.reduceAdd, Nat.reduceMul, Nat.reduceLT, reduceCtorEq, Value.cells, setN, Value.oneCell', Nat.reduceLeDiff, undef, fcT, f0, f1, f2, f8, f9, c0, c1, c2, hs_]))) | ((first | (with_reducible refine newB_i (fun nb_ hb_ => ?_)) | (with_reducible refine RgE_i (fun (hBd_ : Bd _ _) => ?_))); (try simp (disch := omega) only [bsW, WOp, WOq, WV, bo, eqN, gdc, gw, bnd, ↓reduceIte, Nat.reduceEqDiff, rsvs, rsv, oneOf, rdN, ne_eq, Nat.reduceAdd, Nat.reduceMul, Nat.reduceLT, reduceCtorEq, Value.cells, setN, Value.oneCell', Nat.reduceLeDiff, undef, fcT, f0, f1, f2, f8, f9, c0, c1, c2])) | (with_reducible refine fun (hBd_ : Bd _ _) => ?_) | ((first | (with_reducible refine @And.intro (Sub _ _) _ ?_ ?_) | ((with_reducible refine @And.intro (Sub _ _ ∧ _) _ ?_ ?_); (with_reducible refine @And.intro (Sub _ _) _ ?_ ?_))); exact sbX) | ((with_reducible refine And.intro ?_ ?_); omega)))
      all_goals try (exfalso; omega)
      all_goals
        refine app_one (k := 3) (bytes := 24) (e := rF f year pct k) (by simp (disch := omega) only [bsW, WOp, WOq, WV, bo, eqN, gdc, gw, bnd, ↓reduceIte, Nat.reduceEqDiff, rsvs, rsv, oneOf, rdN, ne_eq, Nat.reduceAdd, Nat.reduceMul, Nat.reduceLT, reduceCtorEq, Value.cells, setN, Value.oneCell', Nat.reduceLeDiff, undef, fcT, f0, f1, f2, f8, f9, c0, c1, c2]) (by simp (disch := omega) only [bsW, WOp, WOq, WV, bo, eqN, gdc, gw, bnd, ↓reduceIte, Nat.reduceEqDiff, rsvs, rsv, oneOf, rdN, ne_eq, Nat.reduceAdd, Nat.reduceMul, Nat.reduceLT, reduceCtorEq, Value.cells, setN, Value.oneCell', Nat.reduceLeDiff, undef, fcT, f0, f1, f2, f8, f9, c0, c1, c2]) (by simp (disch := omega) only [bsW, WOp, WOq, WV, bo, eqN, gdc, gw, bnd, ↓reduceIte, Nat.reduceEqDiff, rsvs, rsv, oneOf, rdN, ne_eq, Nat.reduceAdd, Nat.reduceMul, Nat.reduceLT, reduceCtorEq, Value.cells, setN, Value.oneCell', Nat.reduceLeDiff, undef, fcT, f0, f1, f2, f8, f9, c0, c1, c2]) ⟨_, qz63, rfl⟩ (by omega) (hO.keep (fun q hq => by have := hO.blk hq; simp (disch := omega) only [bsW, WOp, WOq, WV, bo, eqN, gdc, gw, bnd, ↓reduceIte, Nat.reduceEqDiff, rsvs, rsv, oneOf, rdN, ne_eq, Nat.reduceAdd, Nat.reduceMul, Nat.reduceLT, reduceCtorEq, Value.cells, setN, Value.oneCell', Nat.reduceLeDiff, undef, fcT, f0, f1, f2, f8, f9, c0, c1, c2]) (by omega)) (upd_same _ _ _) ?_ (by omega) (by omega) (by unfold maxLen; omega) ?_
        · simp [List.range_succ, rF, hp_]
        rintro v' b' o nx2 hb' hn2 hown' hO2
        have hlo : nx ≤ b' := by
          rcases hb' with e | e
          · exact (hO.blk e).1
          · omega
        simp (disch := omega) only [bsW, WOp, WOq, WV, bo, eqN, gdc, gw, bnd, ↓reduceIte, Nat.reduceEqDiff, rsvs, rsv, oneOf, rdN, ne_eq, Nat.reduceAdd, Nat.reduceMul, Nat.reduceLT, reduceCtorEq, Value.cells, setN, Value.oneCell', Nat.reduceLeDiff, undef, fcT, f0, f1, f2, f8, f9, c0, c1, c2]
        refine hK _ _ _ ?_
        refine ⟨k + 1, v', by omega, by omega, by simp (disch := omega) only [bsW, ↓reduceIte, Nat.reduceEqDiff, ne_eq, reduceCtorEq, fcT, f0, f1, f2, f8, f9, c0, c1, c2], by simp (disch := omega) only [bsW, ↓reduceIte, Nat.reduceEqDiff, ne_eq, reduceCtorEq, fcT, f0, f1, f2, f8, f9, c0, c1, c2], by simp (disch := omega) only [bsW, ↓reduceIte, Nat.reduceEqDiff, ne_eq, reduceCtorEq, fcT, f0, f1, f2, f8, f9, c0, c1, c2], by simp (disch := omega) only [bsW, ↓reduceIte, Nat.reduceEqDiff, ne_eq, reduceCtorEq, fcT, f0, f1, f2, f8, f9, c0, c1, c2], by simp (disch := omega) only [bsW, ↓reduceIte, Nat.reduceEqDiff, ne_eq, reduceCtorEq, fcT, f0, f1, f2, f8, f9, c0, c1, c2, Int.natCast_add, Int.natCast_one], hO2.congr (fun i j hi hj => ?_), by (repeat (first | assumption | exact Sub.refl _ | (refine sub_up (nx := nx) ?_ hB ?_; omega))), by omega⟩
        simp only [snoc]
        split
        · rfl
        · rw [show i = k by omega]
    · have hkn : k = n := by simp at b1; omega
      subst hkn
      obtain ⟨A2, c2, rfl, hc2, hR2⟩ := hO.rd
      simp (disch := omega) only [bsW, WOp, WOq, WV, bo, eqN, gdc, gw, bnd, ↓reduceIte, Nat.reduceEqDiff, rsvs, rsv, oneOf, rdN, ne_eq, Nat.reduceAdd, Nat.reduceMul, Nat.reduceLT, reduceCtorEq, Value.cells, setN, Value.oneCell', Nat.reduceLeDiff, undef, fcT, f0, f1, f2, f8, f9, b1]
      (repeat' (first | ((with_reducible refine gif_split (fun hs_ => ?_) (fun hs_ => ?_)) <;> (have hp_ := hs_; (try simp only [hpL, ne_eq] at hp_); (try simp (disch := omega) only [bsW, WOp, WOq, WV, bo, eqN, gdc, gw, bnd, ↓reduceIte, Nat.reduceEqDiff, rsvs, rsv, oneOf, rdN, ne_eq, Nat.reduceAdd, Nat.reduceMul, Nat.reduceLT, reduceCtorEq, Value.cells, setN, Value.oneCell', Nat.reduceLeDiff, undef, fcT, f0, f1, f2, f8, f9, hs_]))) | ((first | (with_reducible refine newB_i (fun nb_ hb_ => ?_)) | ((with_reducible show QC _ _ _ _ _ _); (first | (refine QC_i (l24Good A2 k c2 (rF f year pct) _ _ hn hR2) ?_))) | ((with_reducible show AC _ _ _ _ _ _); (first | (refine PC.ac (l24Good A2 k c2 (rF f year pct) _ _ hn hR2) ?_))) | (with_reducible refine RgE_i (fun (hBd_ : Bd _ _) => ?_))); (try simp (disch := omega) only [bsW, WOp, WOq, WV, bo, eqN, gdc, gw, bnd, ↓reduceIte, Nat.reduceEqDiff, rsvs, rsv, oneOf, rdN, ne_eq, Nat.reduceAdd, Nat.reduceMul, Nat.reduceLT, reduceCtorEq, Value.cells, setN, Value.oneCell', Nat.reduceLeDiff, undef, fcT, f0, f1, f2, f8, f9])) | (with_reducible refine fun (hBd_ : Bd _ _) => ?_) | ((first | (with_reducible refine @And.intro (Sub _ _) _ ?_ ?_) | ((with_reducible refine @And.intro (Sub _ _ ∧ _) _ ?_ ?_); (with_reducible refine @And.intro (Sub _ _) _ ?_ ?_))); exact sbX) | ((with_reducible refine And.intro ?_ ?_); omega)))
      all_goals try (exfalso; omega)
      · have e2 : raN k f year pct = k := if_pos (by rw [e0, hp_])
        rw [e0, hp_, e2]
        exact ⟨_, rfl, hO, hs⟩
      · have e2 : raN k f year pct = 0 := if_neg (by rw [e0, hp_]; simp)
        rw [e0, hp_, e2]
        exact ⟨_, rfl, .empty (by omega) (by omega) (upd_same _ _ _), by (repeat (first | assumption | exact Sub.refl _ | (refine sub_up (nx := nx) ?_ hB ?_; omega)))⟩
  · rintro fr H' nx' ⟨k, w, hm, _⟩; omega
  · exact ⟨0, _, by omega, by omega, by simp (disch := omega) only [bsW, ↓reduceIte, Nat.reduceEqDiff, ne_eq, reduceCtorEq, fcT], by simp (disch := omega) only [bsW, ↓reduceIte, Nat.reduceEqDiff, ne_eq, reduceCtorEq, fcT], by simp (disch := omega) only [bsW, ↓reduceIte, Nat.reduceEqDiff, ne_eq, reduceCtorEq, fcT], by simp (disch := omega) only [bsW, ↓reduceIte, Nat.reduceEqDiff, ne_eq, reduceCtorEq, fcT], by simp (disch := omega) only [bsW, ↓reduceIte, Nat.reduceEqDiff, ne_eq, reduceCtorEq, fcT, Int.natCast_zero], .empty (by assumption) (by omega) (upd_same _ _ _), by (repeat (first | assumption | exact Sub.refl _ | (refine sub_up (nx := nx) ?_ hB ?_; omega))), by omega⟩
end Go.Proofs.YtnjlleopgjggpaaDoor
