/- SteepestYears. -/
import Derived.Test.YtnjlleopgjggpaaDoorP2
import Derived.Test.YtnjlleopgjggpaaDoorD4
set_option linter.unusedVariables false
set_option linter.unusedSimpArgs false
set_option maxRecDepth 100000
set_option maxHeartbeats 1000000
namespace Go.Proofs.YtnjlleopgjggpaaDoor
open Go Go.RowKit Go.Proofs

/-- The better one of two places (upper ends of steps); 0 is none. -/
def stB (f : Nat → Nat → Int) (best i : Nat) : Nat :=
  if best = 0 then i else if (f i 2 - f (i-1) 2) * (f best 1 - f (best-1) 1) > (f best 2 - f (best-1) 2) * (f i 1 - f (i-1) 1) then i else best
def stGo (f : Nat → Nat → Int) (item : Int) : Nat → Nat
  | 0 => 0
  | k + 1 => if 0 < k ∧ f k 0 = item ∧ f (k-1) 0 = item then stB f (stGo f item k) k else stGo f item k
theorem stGo_lt (f : Nat → Nat → Int) (item : Int) : ∀ k, stGo f item k < k + 1 ∧ (0 < stGo f item k → stGo f item k < k)
  | 0 => by simp [stGo]
  | k + 1 => by
    have := stGo_lt f item k
    simp only [stGo]
    split
    · unfold stB
      (repeat' split) <;> omega
    · omega
noncomputable def vSteep (n : Nat) (f : Nat → Nat → Int) (item : Int) : Value :=
  if prsB n f = true ∧ inR item 1 999 = true ∧ stGo f item n ≠ 0 then .tuple #[.int .i64 (f (stGo f item n - 1) 1), .int .i64 (f (stGo f item n) 1), .bool true]
  else .tuple #[.int .i64 0, .int .i64 0, .bool false]

theorem sSteepestYears (A : Option Addr) (n c : Nat) (f : Nat → Nat → Int) (item : Int) (H : Hp) (nx : Nat) (hn : n ≤ 17592186044416) (h : Rd H A n 3 f) :
    PC Tryd.prog 40 #[.slice A n c, .int .i64 item] H nx (vSteep n f item) := by
  refine AC_of x_spec_SteepestYears rfl fun hB => ?_
  simp (disch := omega) only [bsW, WOp, WOq, WV, bo, eqN, gdc, gw, bnd, ↓reduceIte, Nat.reduceEqDiff, rsvs, rsv, oneOf, rdN, ne_eq, Nat.reduceAdd, Nat.reduceMul, Nat.reduceLT, reduceCtorEq, Value.cells, setN, Value.oneCell', Nat.reduceLeDiff, undef, fcT, c_spec_SteepestYears]
  (repeat' (first | ((with_reducible refine gif_split (fun hs_ => ?_) (fun hs_ => ?_)) <;> (have hp_ := hs_; (try simp only [hpL, ne_eq] at hp_); (try simp (disch := omega) only [bsW, WOp, WOq, WV, bo, eqN, gdc, gw, bnd, ↓reduceIte, Nat.reduceEqDiff, rsvs, rsv, oneOf, rdN, ne_eq, Nat.reduceAdd, Nat.reduceMul, Nat.reduceLT, reduceCtorEq, Value.cells, setN, Value.oneCell', Nat.reduceLeDiff, undef, fcT, hs_]))) | ((first | (with_reducible refine newB_i (fun nb_ hb_ => ?_)) | ((with_reducible show QC _ _ _ _ _ _); (first | (refine QC_i (l24Good A n c f _ _ hn h) ?_) | (refine QC_i (l24Item _ _ _) ?_))) | ((with_reducible show AC _ _ _ _ _ _); (first | (refine PC.ac (l24Good A n c f _ _ hn h) ?_) | (refine PC.ac (l24Item _ _ _) ?_))) | (with_reducible refine RgE_i (fun (hBd_ : Bd _ _) => ?_))); (try simp (disch := omega) only [bsW, WOp, WOq, WV, bo, eqN, gdc, gw, bnd, ↓reduceIte, Nat.reduceEqDiff, rsvs, rsv, oneOf, rdN, ne_eq, Nat.reduceAdd, Nat.reduceMul, Nat.reduceLT, reduceCtorEq, Value.cells, setN, Value.oneCell', Nat.reduceLeDiff, undef, fcT])) | (with_reducible refine fun (hBd_ : Bd _ _) => ?_) | ((first | (with_reducible refine @And.intro (Sub _ _) _ ?_ ?_) | ((with_reducible refine @And.intro (Sub _ _ ∧ _) _ ?_ ?_); (with_reducible refine @And.intro (Sub _ _) _ ?_ ?_))); exact sbX) | ((with_reducible refine And.intro ?_ ?_); omega)))
  all_goals try (exfalso; omega)
  all_goals try (exact Is_e (by rw [vSteep, if_neg (by rintro ⟨h1, h2, h3⟩; simp_all)]) (Sub.refl H))
  have hpb : prsB n f = true := by with_reducible assumption
  have hib : inR item 1 999 = true := by with_reducible assumption
  have hok := prsB_iff.1 hpb
  have hn15 := hok.2
  refine LpE_rule (fun m fr H' nx' => ∃ k : Nat, m = n - k + 1 ∧ 1 ≤ k ∧ (k ≤ n ∨ k = 1) ∧ fr 0 = .slice A n c ∧ fr 1 = .int .i64 item ∧ fr 7 = .int .i64 (stGo f item k) ∧ fr 8 = .int .i64 k ∧ Sub H H' ∧ nx ≤ nx') ?_ ?_ (n - 1 + 1) ?_
  · rintro m K hK fr H' nx' ⟨k, hm, hk1, hk, f0, f1, f7, f8, hs, hx⟩
    simp (disch := omega) only [bsW, WOp, WOq, WV, bo, eqN, gdc, gw, bnd, ↓reduceIte, Nat.reduceEqDiff, rsvs, rsv, oneOf, rdN, ne_eq, Nat.reduceAdd, Nat.reduceMul, Nat.reduceLT, reduceCtorEq, Value.cells, setN, Value.oneCell', Nat.reduceLeDiff, undef, fcT, f0, f1, f7, f8]
    have hB2 := stGo_lt f item k
    refine gif_split (fun b1 => ?_) (fun b1 => ?_)
    · have hlt : k < n := by simpa using b1
      obtain ⟨b, off, rfl, hc⟩ := h.at_ (by omega)
      have hb := rd_lt hB (hc k 0 hlt (by omega))
      generalize hBe : stGo f item k = B at *
      have hbk := prs_bd hok hlt
      have hbk1 := prs_bd hok (show k - 1 < n by omega)
      have c0 := rd_sub hs (hc k 0 hlt (by omega))
      have c1 := rd_sub hs (hc k 1 hlt (by omega))
      have c2 := rd_sub hs (hc k 2 hlt (by omega))
      have d0 := rd_sub hs (hc (k-1) 0 (by omega) (by omega))
      have d1 := rd_sub hs (hc (k-1) 1 (by omega) (by omega))
      have d2 := rd_sub hs (hc (k-1) 2 (by omega) (by omega))
      simp only [Nat.add_zero] at c0 d0
      have e0 : 0 < B → _ := fun h1 => rd_sub hs (hc B 2 (by omega) (by omega))
      have e1 : 0 < B → _ := fun h1 => rd_sub hs (hc B 1 (by omega) (by omega))
      have e2 : 0 < B → _ := fun h1 => rd_sub hs (hc (B-1) 2 (by omega) (by omega))
      have e3 : 0 < B → _ := fun h1 => rd_sub hs (hc (B-1) 1 (by omega) (by omega))
      have hbb : 0 < B → _ := fun h1 => prs_bd hok (show B - 1 < n by omega)
      have hbb2 : 0 < B → _ := fun h1 => prs_bd hok (show B < n by omega)
      have hm1 : 0 < B → _ := fun h1 => mul_bd (a := f k 2 - f (k - 1) 2) (b := f B 1 - f (B - 1) 1) (A := 10000000) (B := 300) (by omega) (by have := hbb h1; have := hbb2 h1; omega)
      have hm2 : 0 < B → _ := fun h1 => mul_bd (a := f B 2 - f (B - 1) 2) (b := f k 1 - f (k - 1) 1) (A := 10000000) (B := 300) (by have := hbb h1; have := hbb2 h1; omega) (by omega)
      simp only [Int.reduceMul] at hm1 hm2
      have hst : stGo f item (k + 1) = if 0 < k ∧ f k 0 = item ∧ f (k - 1) 0 = item then stB f B k else B := by rw [← hBe]; rfl
      rcases Nat.eq_zero_or_pos B with hB0 | hB0
      · subst hB0
        clear hbb hbb2 hm1 hm2 e0 e1 e2 e3
        simp (disch := omega) only [bsW, WOp, WOq, WV, bo, eqN, gdc, gw, bnd, ↓reduceIte, Nat.reduceEqDiff, rsvs, rsv, oneOf, rdN, ne_eq, Nat.reduceAdd, Nat.reduceMul, Nat.reduceLT, reduceCtorEq, Value.cells, setN, Value.oneCell', Nat.reduceLeDiff, undef, fcT, f0, f1, f7, f8, c0, c1, c2, d0, d1, d2, Int.natCast_zero, b1]
        (repeat' (first | ((with_reducible refine gif_split (fun hs_ => ?_) (fun hs_ => ?_)) <;> (have hp_ := hs_; (try simp only [hpL, ne_eq] at hp_); (try simp (disch := omega) only [bsW, WOp, WOq, WV, bo, eqN, gdc, gw, bnd, ↓reduceIte, Nat.reduceEqDiff, rsvs, rsv, oneOf, rdN, ne_eq, Nat.reduceAdd, Nat.reduceMul, Nat.reduceLT, reduceCtorEq, Value.cells, setN, Value.oneCell', Nat.reduceLeDiff, undef, fcT, f0, f1, f7, f8, c0, c1, c2, d0, d1, d2, Int.natCast_zero, hs_]))) | ((first | (with_reducible refine newB_i (fun nb_ hb_ => ?_)) | (with_reducible refine RgE_i (fun (hBd_ : Bd _ _) => ?_))); (try simp (disch := omega) only [bsW, WOp, WOq, WV, bo, eqN, gdc, gw, bnd, ↓reduceIte, Nat.reduceEqDiff, rsvs, rsv, oneOf, rdN, ne_eq, Nat.reduceAdd, Nat.reduceMul, Nat.reduceLT, reduceCtorEq, Value.cells, setN, Value.oneCell', Nat.reduceLeDiff, undef, fcT, f0, f1, f7, f8, c0, c1, c2, d0, d1, d2, Int.natCast_zero])) | (with_reducible refine fun (hBd_ : Bd _ _) => ?_) | ((first | (with_reducible refine @And.intro (Sub _ _) _ ?_ ?_) | ((with_reducible refine @And.intro (Sub _ _ ∧ _) _ ?_ ?_); (with_reducible refine @And.intro (Sub _ _) _ ?_ ?_))); exact sbX) | ((with_reducible refine And.intro ?_ ?_); omega)))
        all_goals try (exfalso; omega)
        all_goals
          refine hK _ _ _ ?_
          refine ⟨k + 1, by omega, by omega, by omega, by simp (disch := omega) only [bsW, ↓reduceIte, Nat.reduceEqDiff, ne_eq, reduceCtorEq, fcT, f0, f1, f7, f8, c0, c1, c2, d0, d1, d2, Int.natCast_zero], by simp (disch := omega) only [bsW, ↓reduceIte, Nat.reduceEqDiff, ne_eq, reduceCtorEq, fcT, f0, f1, f7, f8, c0, c1, c2, d0, d1, d2, Int.natCast_zero], ?_, by simp (disch := omega) only [bsW, ↓reduceIte, Nat.reduceEqDiff, ne_eq, reduceCtorEq, fcT, f0, f1, f7, f8, c0, c1, c2, d0, d1, d2, Int.natCast_zero, Int.natCast_add, Int.natCast_one], by (repeat (first | assumption | exact Sub.refl _ | (refine sub_up (nx := nx) ?_ hB ?_; omega))), by omega⟩
          rw [hst]
          simp (disch := omega) only [bsW, WOp, WOq, WV, bo, eqN, gdc, gw, bnd, ↓reduceIte, Nat.reduceEqDiff, rsvs, rsv, oneOf, rdN, ne_eq, Nat.reduceAdd, Nat.reduceMul, Nat.reduceLT, reduceCtorEq, Value.cells, setN, Value.oneCell', Nat.reduceLeDiff, undef, fcT, f0, f1, f7, f8, c0, c1, c2, d0, d1, d2, Int.natCast_zero]
          refine vi ?_
          first
          | (rw [if_neg (by omega)]; rfl)
          | (rw [if_pos (by omega)]
             unfold stB
             rw [if_pos rfl])
      · have hbb := hbb hB0
        have hbb2 := hbb2 hB0
        have hm1 := hm1 hB0
        have hm2 := hm2 hB0
        have e0 := e0 hB0
        have e1 := e1 hB0
        have e2 := e2 hB0
        have e3 := e3 hB0
        simp (disch := omega) only [bsW, WOp, WOq, WV, bo, eqN, gdc, gw, bnd, ↓reduceIte, Nat.reduceEqDiff, rsvs, rsv, oneOf, rdN, ne_eq, Nat.reduceAdd, Nat.reduceMul, Nat.reduceLT, reduceCtorEq, Value.cells, setN, Value.oneCell', Nat.reduceLeDiff, undef, fcT, f0, f1, f7, f8, c0, c1, c2, d0, d1, d2, e0, e1, e2, e3, b1]
        (repeat' (first | ((with_reducible refine gif_split (fun hs_ => ?_) (fun hs_ => ?_)) <;> (have hp_ := hs_; (try simp only [hpL, ne_eq] at hp_); (try simp (disch := omega) only [bsW, WOp, WOq, WV, bo, eqN, gdc, gw, bnd, ↓reduceIte, Nat.reduceEqDiff, rsvs, rsv, oneOf, rdN, ne_eq, Nat.reduceAdd, Nat.reduceMul, Nat.reduceLT, reduceCtorEq, Value.cells, setN, Value.oneCell', Nat.reduceLeDiff, undef, fcT, f0, f1, f7, f8, c0, c1, c2, d0, d1, d2, e0, e1, e2, e3, hs_]))) | ((first | (with_reducible refine newB_i (fun nb_ hb_ => ?_)) | (with_reducible refine RgE_i (fun (hBd_ : Bd _ _) => ?_))); (try simp (disch := omega) only [bsW, WOp, WOq, WV, bo, eqN, gdc, gw, bnd, ↓reduceIte, Nat.reduceEqDiff, rsvs, rsv, oneOf, rdN, ne_eq, Nat.reduceAdd, Nat.reduceMul, Nat.reduceLT, reduceCtorEq, Value.cells, setN, Value.oneCell', Nat.reduceLeDiff, undef, fcT, f0, f1, f7, f8, c0, c1, c2, d0, d1, d2, e0, e1, e2, e3])) | (with_reducible refine fun (hBd_ : Bd _ _) => ?_) | ((first | (with_reducible refine @And.intro (Sub _ _) _ ?_ ?_) | ((with_reducible refine @And.intro (Sub _ _ ∧ _) _ ?_ ?_); (with_reducible refine @And.intro (Sub _ _) _ ?_ ?_))); exact sbX) | ((with_reducible refine And.intro ?_ ?_); omega)))
        all_goals try (exfalso; omega)
        all_goals
          refine hK _ _ _ ?_
          refine ⟨k + 1, by omega, by omega, by omega, by simp (disch := omega) only [bsW, ↓reduceIte, Nat.reduceEqDiff, ne_eq, reduceCtorEq, fcT, f0, f1, f7, f8, c0, c1, c2, d0, d1, d2, e0, e1, e2, e3], by simp (disch := omega) only [bsW, ↓reduceIte, Nat.reduceEqDiff, ne_eq, reduceCtorEq, fcT, f0, f1, f7, f8, c0, c1, c2, d0, d1, d2, e0, e1, e2, e3], ?_, by simp (disch := omega) only [bsW, ↓reduceIte, Nat.reduceEqDiff, ne_eq, reduceCtorEq, fcT, f0, f1, f7, f8, c0, c1, c2, d0, d1, d2, e0, e1, e2, e3, Int.natCast_add, Int.natCast_one], by (repeat (first | assumption | exact Sub.refl _ | (refine sub_up (nx := nx) ?_ hB ?_; omega))), by omega⟩
          rw [hst]
          simp (disch := omega) only [bsW, WOp, WOq, WV, bo, eqN, gdc, gw, bnd, ↓reduceIte, Nat.reduceEqDiff, rsvs, rsv, oneOf, rdN, ne_eq, Nat.reduceAdd, Nat.reduceMul, Nat.reduceLT, reduceCtorEq, Value.cells, setN, Value.oneCell', Nat.reduceLeDiff, undef, fcT, f0, f1, f7, f8, c0, c1, c2, d0, d1, d2, e0, e1, e2, e3]
          refine vi ?_
          clear hbb hbb2 hm1 hm2 hbk hbk1
          first
          | (rw [if_neg (by omega)]; done)
          | (rw [if_pos (by omega)]
             unfold stB
             rw [if_neg (by omega)]
             first
             | rw [if_pos (by omega)]
             | rw [if_neg (by omega)])
    · have hkn : stGo f item k = stGo f item n := by
        simp at b1
        rcases hk with e | e
        · have : k = n := by omega
          rw [this]
        · subst e
          have : n = 0 ∨ n = 1 := by omega
          rcases this with rfl | rfl <;> simp [stGo]
      rw [hkn] at f7
      have hB3 := stGo_lt f item n
      rcases Nat.eq_zero_or_pos (stGo f item n) with h0 | h0
      · rw [h0] at f7
        simp (disch := omega) only [bsW, WOp, WOq, WV, bo, eqN, gdc, gw, bnd, ↓reduceIte, Nat.reduceEqDiff, rsvs, rsv, oneOf, rdN, ne_eq, Nat.reduceAdd, Nat.reduceMul, Nat.reduceLT, reduceCtorEq, Value.cells, setN, Value.oneCell', Nat.reduceLeDiff, undef, fcT, f0, f1, f7, f8, Int.natCast_zero, b1]
        (repeat' (first | ((with_reducible refine gif_split (fun hs_ => ?_) (fun hs_ => ?_)) <;> (have hp_ := hs_; (try simp only [hpL, ne_eq] at hp_); (try simp (disch := omega) only [bsW, WOp, WOq, WV, bo, eqN, gdc, gw, bnd, ↓reduceIte, Nat.reduceEqDiff, rsvs, rsv, oneOf, rdN, ne_eq, Nat.reduceAdd, Nat.reduceMul, Nat.reduceLT, reduceCtorEq, Value.cells, setN, Value.oneCell', Nat.reduceLeDiff, undef, fcT, f0, f1, f7, f8, Int.natCast_zero, hs_]))) | ((first | (with_reducible refine newB_i (fun nb_ hb_ => ?_)) | (with_reducible refine RgE_i (fun (hBd_ : Bd _ _) => ?_))); (try simp (disch := omega) only [bsW, WOp, WOq, WV, bo, eqN, gdc, gw, bnd, ↓reduceIte, Nat.reduceEqDiff, rsvs, rsv, oneOf, rdN, ne_eq, Nat.reduceAdd, Nat.reduceMul, Nat.reduceLT, reduceCtorEq, Value.cells, setN, Value.oneCell', Nat.reduceLeDiff, undef, fcT, f0, f1, f7, f8, Int.natCast_zero])) | (with_reducible refine fun (hBd_ : Bd _ _) => ?_) | ((first | (with_reducible refine @And.intro (Sub _ _) _ ?_ ?_) | ((with_reducible refine @And.intro (Sub _ _ ∧ _) _ ?_ ?_); (with_reducible refine @And.intro (Sub _ _) _ ?_ ?_))); exact sbX) | ((with_reducible refine And.intro ?_ ?_); omega)))
        all_goals try (exfalso; omega)
        exact Is_e (by rw [vSteep, if_neg (by rintro ⟨_, _, h3⟩; exact h3 h0)]) hs
      · obtain ⟨b, off, rfl, hc⟩ := h.at_ (by omega)
        have c1 := rd_sub hs (hc (stGo f item n) 1 (by omega) (by omega))
        have d1 := rd_sub hs (hc (stGo f item n - 1) 1 (by omega) (by omega))
        simp (disch := omega) only [bsW, WOp, WOq, WV, bo, eqN, gdc, gw, bnd, ↓reduceIte, Nat.reduceEqDiff, rsvs, rsv, oneOf, rdN, ne_eq, Nat.reduceAdd, Nat.reduceMul, Nat.reduceLT, reduceCtorEq, Value.cells, setN, Value.oneCell', Nat.reduceLeDiff, undef, fcT, f0, f1, f7, f8, c1, d1, b1]
        (repeat' (first | ((with_reducible refine gif_split (fun hs_ => ?_) (fun hs_ => ?_)) <;> (have hp_ := hs_; (try simp only [hpL, ne_eq] at hp_); (try simp (disch := omega) only [bsW, WOp, WOq, WV, bo, eqN, gdc, gw, bnd, ↓reduceIte, Nat.reduceEqDiff, rsvs, rsv, oneOf, rdN, ne_eq, Nat.reduceAdd, Nat.reduceMul, Nat.reduceLT, reduceCtorEq, Value.cells, setN, Value.oneCell', Nat.reduceLeDiff, undef, fcT, f0, f1, f7, f8, c1, d1, hs_]))) | ((first | (with_reducible refine newB_i (fun nb_ hb_ => ?_)) | (with_reducible refine RgE_i (fun (hBd_ : Bd _ _) => ?_))); (try simp (disch := omega) only [bsW, WOp, WOq, WV, bo, eqN, gdc, gw, bnd, ↓reduceIte, Nat.reduceEqDiff, rsvs, rsv, oneOf, rdN, ne_eq, Nat.reduceAdd, Nat.reduceMul, Nat.reduceLT, reduceCtorEq, Value.cells, setN, Value.oneCell', Nat.reduceLeDiff, undef, fcT, f0, f1, f7, f8, c1, d1])) | (with_reducible refine fun (hBd_ : Bd _ _) => ?_) | ((first | (with_reducible refine @And.intro (Sub _ _) _ ?_ ?_) | ((with_reducible refine @And.intro (Sub _ _ ∧ _) _ ?_ ?_); (with_reducible refine @And.intro (Sub _ _) _ ?_ ?_))); exact sbX) | ((with_reducible refine And.intro ?_ ?_); omega)))
        all_goals try (exfalso; omega)
        exact Is_e (by rw [vSteep, if_pos ⟨hpb, hib, by omega⟩]) hs
  · rintro fr H' nx' ⟨k, hm, _⟩; omega
  · exact ⟨1, by omega, by omega, by omega, by simp (disch := omega) only [bsW, ↓reduceIte, Nat.reduceEqDiff, ne_eq, reduceCtorEq, fcT], by simp (disch := omega) only [bsW, ↓reduceIte, Nat.reduceEqDiff, ne_eq, reduceCtorEq, fcT], by simp (disch := omega) only [bsW, ↓reduceIte, Nat.reduceEqDiff, ne_eq, reduceCtorEq, fcT]; rfl, by simp (disch := omega) only [bsW, ↓reduceIte, Nat.reduceEqDiff, ne_eq, reduceCtorEq, fcT]; rfl, Sub.refl _, by omega⟩

theorem SteepestYears (A : Option Addr) (n c : Nat) (f : Nat → Nat → Int) (item : Int) (H : Hp) (nx : Nat) (hn : n ≤ 17592186044416) (h : Rd H A n 3 f) :
    PC Tryd.prog 39 #[.slice A n c, .int .i64 item] H nx (vSteep n f item) := by
  refine AC_of x_impl_SteepestYears rfl fun hB => ?_
  simp (disch := omega) only [bsW, WOp, WOq, WV, bo, eqN, gdc, gw, bnd, ↓reduceIte, Nat.reduceEqDiff, rsvs, rsv, oneOf, rdN, ne_eq, Nat.reduceAdd, Nat.reduceMul, Nat.reduceLT, reduceCtorEq, Value.cells, setN, Value.oneCell', Nat.reduceLeDiff, undef, fcT, c_impl_SteepestYears]
  (repeat' (first | ((with_reducible refine gif_split (fun hs_ => ?_) (fun hs_ => ?_)) <;> (have hp_ := hs_; (try simp only [hpL, ne_eq] at hp_); (try simp (disch := omega) only [bsW, WOp, WOq, WV, bo, eqN, gdc, gw, bnd, ↓reduceIte, Nat.reduceEqDiff, rsvs, rsv, oneOf, rdN, ne_eq, Nat.reduceAdd, Nat.reduceMul, Nat.reduceLT, reduceCtorEq, Value.cells, setN, Value.oneCell', Nat.reduceLeDiff, undef, fcT, hs_]))) | ((first | (with_reducible refine newB_i (fun nb_ hb_ => ?_)) | ((with_reducible show QC _ _ _ _ _ _); (first | (refine QC_i (arePrices A n c f _ _ hn h) ?_) | (refine QC_i (isItem _ _ _) ?_))) | ((with_reducible show AC _ _ _ _ _ _); (first | (refine PC.ac (arePrices A n c f _ _ hn h) ?_) | (refine PC.ac (isItem _ _ _) ?_))) | (with_reducible refine RgE_i (fun (hBd_ : Bd _ _) => ?_))); (try simp (disch := omega) only [bsW, WOp, WOq, WV, bo, eqN, gdc, gw, bnd, ↓reduceIte, Nat.reduceEqDiff, rsvs, rsv, oneOf, rdN, ne_eq, Nat.reduceAdd, Nat.reduceMul, Nat.reduceLT, reduceCtorEq, Value.cells, setN, Value.oneCell', Nat.reduceLeDiff, undef, fcT])) | (with_reducible refine fun (hBd_ : Bd _ _) => ?_) | ((first | (with_reducible refine @And.intro (Sub _ _) _ ?_ ?_) | ((with_reducible refine @And.intro (Sub _ _ ∧ _) _ ?_ ?_); (with_reducible refine @And.intro (Sub _ _) _ ?_ ?_))); exact sbX) | ((with_reducible refine And.intro ?_ ?_); omega)))
  all_goals try (exfalso; omega)
  all_goals try (exact Is_e (by rw [vSteep, if_neg (by rintro ⟨h1, h2, h3⟩; simp_all)]) (Sub.refl H))
  have hpb : prsB n f = true := by with_reducible assumption
  have hib : inR item 1 999 = true := by with_reducible assumption
  have hok := prsB_iff.1 hpb
  have hn15 := hok.2
  refine LpE_rule (fun m fr H' nx' => ∃ k : Nat, m = n - k + 1 ∧ 1 ≤ k ∧ (k ≤ n ∨ k = 1) ∧ fr 0 = .slice A n c ∧ fr 1 = .int .i64 item ∧ fr 7 = .int .i64 ((stGo f item k : Nat) - 1 : Int) ∧ fr 8 = .int .i64 ((k - 1 : Nat) : Int) ∧ Sub H H' ∧ nx ≤ nx') ?_ ?_ (n - 1 + 1) ?_
  · rintro m K hK fr H' nx' ⟨k, hm, hk1, hk, f0, f1, f7, f8, hs, hx⟩
    obtain ⟨j, rfl⟩ : ∃ j, k = j + 1 := ⟨k - 1, by omega⟩
    simp only [Nat.add_sub_cancel] at f8
    simp (disch := omega) only [bsW, WOp, WOq, WV, bo, eqN, gdc, gw, bnd, ↓reduceIte, Nat.reduceEqDiff, rsvs, rsv, oneOf, rdN, ne_eq, Nat.reduceAdd, Nat.reduceMul, Nat.reduceLT, reduceCtorEq, Value.cells, setN, Value.oneCell', Nat.reduceLeDiff, undef, fcT, f0, f1, f7, f8]
    have hB2 := stGo_lt f item (j + 1)
    refine gif_split (fun b1 => ?_) (fun b1 => ?_)
    · have hlt : j + 1 < n := by simp at b1; omega
      obtain ⟨b, off, rfl, hc⟩ := h.at_ (by omega)
      have hb := rd_lt hB (hc (j + 1) 0 hlt (by omega))
      generalize hBe : stGo f item (j + 1) = B at *
      have hbk := prs_bd hok hlt
      have hbk1 := prs_bd hok (show j < n by omega)
      have c0 := rd_sub hs (hc (j + 1) 0 hlt (by omega))
      have c1 := rd_sub hs (hc (j + 1) 1 hlt (by omega))
      have c2 := rd_sub hs (hc (j + 1) 2 hlt (by omega))
      have d0 := rd_sub hs (hc j 0 (by omega) (by omega))
      have d1 := rd_sub hs (hc j 1 (by omega) (by omega))
      have d2 := rd_sub hs (hc j 2 (by omega) (by omega))
      simp only [Nat.add_zero] at c0 d0
      have e0 : 0 < B → _ := fun h1 => rd_sub hs (hc B 2 (by omega) (by omega))
      have e1 : 0 < B → _ := fun h1 => rd_sub hs (hc B 1 (by omega) (by omega))
      have e2 : 0 < B → _ := fun h1 => rd_sub hs (hc (B-1) 2 (by omega) (by omega))
      have e3 : 0 < B → _ := fun h1 => rd_sub hs (hc (B-1) 1 (by omega) (by omega))
      have hbb : 0 < B → _ := fun h1 => prs_bd hok (show B - 1 < n by omega)
      have hbb2 : 0 < B → _ := fun h1 => prs_bd hok (show B < n by omega)
      have hm1 : 0 < B → _ := fun h1 => mul_bd (a := f (j + 1) 2 - f j 2) (b := f B 1 - f (B - 1) 1) (A := 10000000) (B := 300) (by omega) (by have := hbb h1; have := hbb2 h1; omega)
      have hm2 : 0 < B → _ := fun h1 => mul_bd (a := f B 2 - f (B - 1) 2) (b := f (j + 1) 1 - f j 1) (A := 10000000) (B := 300) (by have := hbb h1; have := hbb2 h1; omega) (by omega)
      simp only [Int.reduceMul] at hm1 hm2
      rcases Nat.eq_zero_or_pos B with hB0 | hB0
      · subst hB0
        have f7' : fr 7 = .int .i64 (-1) := by rw [f7]; exact vi (by omega)
        clear hbb hbb2 hm1 hm2 e0 e1 e2 e3
        simp (disch := omega) only [bsW, WOp, WOq, WV, bo, eqN, gdc, gw, bnd, ↓reduceIte, Nat.reduceEqDiff, rsvs, rsv, oneOf, rdN, ne_eq, Nat.reduceAdd, Nat.reduceMul, Nat.reduceLT, reduceCtorEq, Value.cells, setN, Value.oneCell', Nat.reduceLeDiff, undef, fcT, f0, f1, f7', f8, c0, c1, c2, d0, d1, d2, toNat_succ, b1]
        (repeat' (first | ((with_reducible refine gif_split (fun hs_ => ?_) (fun hs_ => ?_)) <;> (have hp_ := hs_; (try simp only [hpL, ne_eq] at hp_); (try simp (disch := omega) only [bsW, WOp, WOq, WV, bo, eqN, gdc, gw, bnd, ↓reduceIte, Nat.reduceEqDiff, rsvs, rsv, oneOf, rdN, ne_eq, Nat.reduceAdd, Nat.reduceMul, Nat.reduceLT, reduceCtorEq, Value.cells, setN, Value.oneCell', Nat.reduceLeDiff, undef, fcT, f0, f1, f7', f8, c0, c1, c2, d0, d1, d2, toNat_succ, hs_]))) | ((first | (with_reducible refine newB_i (fun nb_ hb_ => ?_)) | (with_reducible refine RgE_i (fun (hBd_ : Bd _ _) => ?_))); (try simp (disch := omega) only [bsW, WOp, WOq, WV, bo, eqN, gdc, gw, bnd, ↓reduceIte, Nat.reduceEqDiff, rsvs, rsv, oneOf, rdN, ne_eq, Nat.reduceAdd, Nat.reduceMul, Nat.reduceLT, reduceCtorEq, Value.cells, setN, Value.oneCell', Nat.reduceLeDiff, undef, fcT, f0, f1, f7', f8, c0, c1, c2, d0, d1, d2, toNat_succ])) | (with_reducible refine fun (hBd_ : Bd _ _) => ?_) | ((first | (with_reducible refine @And.intro (Sub _ _) _ ?_ ?_) | ((with_reducible refine @And.intro (Sub _ _ ∧ _) _ ?_ ?_); (with_reducible refine @And.intro (Sub _ _) _ ?_ ?_))); exact sbX) | ((with_reducible refine And.intro ?_ ?_); omega)))
        all_goals try (exfalso; omega)
        all_goals
          refine hK _ _ _ ?_
          refine ⟨j + 1 + 1, by omega, by omega, by omega, by simp (disch := omega) only [bsW, ↓reduceIte, Nat.reduceEqDiff, ne_eq, reduceCtorEq, fcT, f0, f1, f7', f8, c0, c1, c2, d0, d1, d2, toNat_succ], by simp (disch := omega) only [bsW, ↓reduceIte, Nat.reduceEqDiff, ne_eq, reduceCtorEq, fcT, f0, f1, f7', f8, c0, c1, c2, d0, d1, d2, toNat_succ], ?_, by simp (disch := omega) only [bsW, ↓reduceIte, Nat.reduceEqDiff, ne_eq, reduceCtorEq, fcT, f0, f1, f7', f8, c0, c1, c2, d0, d1, d2, toNat_succ, Nat.add_sub_cancel, Int.natCast_add, Int.natCast_one], by (repeat (first | assumption | exact Sub.refl _ | (refine sub_up (nx := nx) ?_ hB ?_; omega))), by omega⟩
          simp (disch := omega) only [bsW, WOp, WOq, WV, bo, eqN, gdc, gw, bnd, ↓reduceIte, Nat.reduceEqDiff, rsvs, rsv, oneOf, rdN, ne_eq, Nat.reduceAdd, Nat.reduceMul, Nat.reduceLT, reduceCtorEq, Value.cells, setN, Value.oneCell', Nat.reduceLeDiff, undef, fcT, f0, f1, f7', f8, c0, c1, c2, d0, d1, d2, toNat_succ]
          refine vi ?_
          simp only [stGo] at hBe ⊢
          simp only [Nat.add_sub_cancel]
          try simp only [Nat.add_sub_cancel] at hBe
          rw [hBe]
          first
          | (rw [if_neg (by omega)]; omega)
          | (rw [if_pos (by omega)]
             unfold stB
             rw [if_pos rfl]
             omega)
      · obtain ⟨B, rfl⟩ : ∃ B', B = B' + 1 := ⟨B - 1, by omega⟩
        have hbb := hbb (by omega)
        have hbb2 := hbb2 (by omega)
        have e0 := e0 (by omega)
        have e1 := e1 (by omega)
        have e2 := e2 (by omega)
        have e3 := e3 (by omega)
        have hm1 := hm1 (by omega)
        have hm2 := hm2 (by omega)
        simp only [Nat.add_sub_cancel] at e2 e3 hm1 hm2 hbb
        have f7' : fr 7 = .int .i64 B := by rw [f7]; exact vi (by omega)
        simp (disch := omega) only [bsW, WOp, WOq, WV, bo, eqN, gdc, gw, bnd, ↓reduceIte, Nat.reduceEqDiff, rsvs, rsv, oneOf, rdN, ne_eq, Nat.reduceAdd, Nat.reduceMul, Nat.reduceLT, reduceCtorEq, Value.cells, setN, Value.oneCell', Nat.reduceLeDiff, undef, fcT, f0, f1, f7', f8, c0, c1, c2, d0, d1, d2, e0, e1, e2, e3, toNat_succ, b1]
        (repeat' (first | ((with_reducible refine gif_split (fun hs_ => ?_) (fun hs_ => ?_)) <;> (have hp_ := hs_; (try simp only [hpL, ne_eq] at hp_); (try simp (disch := omega) only [bsW, WOp, WOq, WV, bo, eqN, gdc, gw, bnd, ↓reduceIte, Nat.reduceEqDiff, rsvs, rsv, oneOf, rdN, ne_eq, Nat.reduceAdd, Nat.reduceMul, Nat.reduceLT, reduceCtorEq, Value.cells, setN, Value.oneCell', Nat.reduceLeDiff, undef, fcT, f0, f1, f7', f8, c0, c1, c2, d0, d1, d2, e0, e1, e2, e3, toNat_succ, hs_]))) | ((first | (with_reducible refine newB_i (fun nb_ hb_ => ?_)) | (with_reducible refine RgE_i (fun (hBd_ : Bd _ _) => ?_))); (try simp (disch := omega) only [bsW, WOp, WOq, WV, bo, eqN, gdc, gw, bnd, ↓reduceIte, Nat.reduceEqDiff, rsvs, rsv, oneOf, rdN, ne_eq, Nat.reduceAdd, Nat.reduceMul, Nat.reduceLT, reduceCtorEq, Value.cells, setN, Value.oneCell', Nat.reduceLeDiff, undef, fcT, f0, f1, f7', f8, c0, c1, c2, d0, d1, d2, e0, e1, e2, e3, toNat_succ])) | (with_reducible refine fun (hBd_ : Bd _ _) => ?_) | ((first | (with_reducible refine @And.intro (Sub _ _) _ ?_ ?_) | ((with_reducible refine @And.intro (Sub _ _ ∧ _) _ ?_ ?_); (with_reducible refine @And.intro (Sub _ _) _ ?_ ?_))); exact sbX) | ((with_reducible refine And.intro ?_ ?_); omega)))
        all_goals try (exfalso; omega)
        all_goals
          refine hK _ _ _ ?_
          refine ⟨j + 1 + 1, by omega, by omega, by omega, by simp (disch := omega) only [bsW, ↓reduceIte, Nat.reduceEqDiff, ne_eq, reduceCtorEq, fcT, f0, f1, f7', f8, c0, c1, c2, d0, d1, d2, e0, e1, e2, e3, toNat_succ], by simp (disch := omega) only [bsW, ↓reduceIte, Nat.reduceEqDiff, ne_eq, reduceCtorEq, fcT, f0, f1, f7', f8, c0, c1, c2, d0, d1, d2, e0, e1, e2, e3, toNat_succ], ?_, by simp (disch := omega) only [bsW, ↓reduceIte, Nat.reduceEqDiff, ne_eq, reduceCtorEq, fcT, f0, f1, f7', f8, c0, c1, c2, d0, d1, d2, e0, e1, e2, e3, toNat_succ, Nat.add_sub_cancel, Int.natCast_add, Int.natCast_one], by (repeat (first | assumption | exact Sub.refl _ | (refine sub_up (nx := nx) ?_ hB ?_; omega))), by omega⟩
          simp (disch := omega) only [bsW, WOp, WOq, WV, bo, eqN, gdc, gw, bnd, ↓reduceIte, Nat.reduceEqDiff, rsvs, rsv, oneOf, rdN, ne_eq, Nat.reduceAdd, Nat.reduceMul, Nat.reduceLT, reduceCtorEq, Value.cells, setN, Value.oneCell', Nat.reduceLeDiff, undef, fcT, f0, f1, f7', f8, c0, c1, c2, d0, d1, d2, e0, e1, e2, e3, toNat_succ]
          refine vi ?_
          have hst : stGo f item (j + 1 + 1) = if 0 < j + 1 ∧ f (j + 1) 0 = item ∧ f j 0 = item then stB f (B + 1) (j + 1) else B + 1 := by
            rw [← hBe]
            conv => lhs; unfold stGo
            simp only [Nat.add_sub_cancel]
          rw [hst]
          clear hbb hbb2 hm1 hm2 hbk hbk1
          first
          | (rw [if_neg (by omega)]; omega)
          | (rw [if_pos (by omega)]
             unfold stB
             simp only [Nat.add_sub_cancel]
             rw [if_neg (by omega)]
             first
             | (rw [if_pos (by omega)]; omega)
             | (rw [if_neg (by omega)]; omega))
    · have hkn : stGo f item (j + 1) = stGo f item n := by
        simp at b1
        rcases hk with e | e
        · have : j + 1 = n := by omega
          rw [this]
        · have : n = 0 ∨ n = 1 := by omega
          have : j = 0 := by omega
          subst this
          rcases ‹n = 0 ∨ n = 1› with rfl | rfl <;> simp [stGo]
      rw [hkn] at f7
      have hB3 := stGo_lt f item n
      rcases Nat.eq_zero_or_pos (stGo f item n) with h0 | h0
      · have f7' : fr 7 = .int .i64 (-1) := by rw [f7]; exact vi (by omega)
        simp (disch := omega) only [bsW, WOp, WOq, WV, bo, eqN, gdc, gw, bnd, ↓reduceIte, Nat.reduceEqDiff, rsvs, rsv, oneOf, rdN, ne_eq, Nat.reduceAdd, Nat.reduceMul, Nat.reduceLT, reduceCtorEq, Value.cells, setN, Value.oneCell', Nat.reduceLeDiff, undef, fcT, f0, f1, f7', f8, b1]
        (repeat' (first | ((with_reducible refine gif_split (fun hs_ => ?_) (fun hs_ => ?_)) <;> (have hp_ := hs_; (try simp only [hpL, ne_eq] at hp_); (try simp (disch := omega) only [bsW, WOp, WOq, WV, bo, eqN, gdc, gw, bnd, ↓reduceIte, Nat.reduceEqDiff, rsvs, rsv, oneOf, rdN, ne_eq, Nat.reduceAdd, Nat.reduceMul, Nat.reduceLT, reduceCtorEq, Value.cells, setN, Value.oneCell', Nat.reduceLeDiff, undef, fcT, f0, f1, f7', f8, hs_]))) | ((first | (with_reducible refine newB_i (fun nb_ hb_ => ?_)) | (with_reducible refine RgE_i (fun (hBd_ : Bd _ _) => ?_))); (try simp (disch := omega) only [bsW, WOp, WOq, WV, bo, eqN, gdc, gw, bnd, ↓reduceIte, Nat.reduceEqDiff, rsvs, rsv, oneOf, rdN, ne_eq, Nat.reduceAdd, Nat.reduceMul, Nat.reduceLT, reduceCtorEq, Value.cells, setN, Value.oneCell', Nat.reduceLeDiff, undef, fcT, f0, f1, f7', f8])) | (with_reducible refine fun (hBd_ : Bd _ _) => ?_) | ((first | (with_reducible refine @And.intro (Sub _ _) _ ?_ ?_) | ((with_reducible refine @And.intro (Sub _ _ ∧ _) _ ?_ ?_); (with_reducible refine @And.intro (Sub _ _) _ ?_ ?_))); exact sbX) | ((with_reducible refine And.intro ?_ ?_); omega)))
        all_goals try (exfalso; omega)
        exact Is_e (by rw [vSteep, if_neg (by rintro ⟨_, _, h3⟩; exact h3 h0)]) hs
      · obtain ⟨b, off, rfl, hc⟩ := h.at_ (by omega)
        obtain ⟨B, hBe⟩ : ∃ B, stGo f item n = B + 1 := ⟨stGo f item n - 1, by omega⟩
        have f7' : fr 7 = .int .i64 B := by rw [f7]; exact vi (by omega)
        have c1 := rd_sub hs (hc (B + 1) 1 (by omega) (by omega))
        have d1 := rd_sub hs (hc B 1 (by omega) (by omega))
        simp (disch := omega) only [bsW, WOp, WOq, WV, bo, eqN, gdc, gw, bnd, ↓reduceIte, Nat.reduceEqDiff, rsvs, rsv, oneOf, rdN, ne_eq, Nat.reduceAdd, Nat.reduceMul, Nat.reduceLT, reduceCtorEq, Value.cells, setN, Value.oneCell', Nat.reduceLeDiff, undef, fcT, f0, f1, f7', f8, c1, d1, toNat_succ, b1]
        (repeat' (first | ((with_reducible refine gif_split (fun hs_ => ?_) (fun hs_ => ?_)) <;> (have hp_ := hs_; (try simp only [hpL, ne_eq] at hp_); (try simp (disch := omega) only [bsW, WOp, WOq, WV, bo, eqN, gdc, gw, bnd, ↓reduceIte, Nat.reduceEqDiff, rsvs, rsv, oneOf, rdN, ne_eq, Nat.reduceAdd, Nat.reduceMul, Nat.reduceLT, reduceCtorEq, Value.cells, setN, Value.oneCell', Nat.reduceLeDiff, undef, fcT, f0, f1, f7', f8, c1, d1, toNat_succ, hs_]))) | ((first | (with_reducible refine newB_i (fun nb_ hb_ => ?_)) | (with_reducible refine RgE_i (fun (hBd_ : Bd _ _) => ?_))); (try simp (disch := omega) only [bsW, WOp, WOq, WV, bo, eqN, gdc, gw, bnd, ↓reduceIte, Nat.reduceEqDiff, rsvs, rsv, oneOf, rdN, ne_eq, Nat.reduceAdd, Nat.reduceMul, Nat.reduceLT, reduceCtorEq, Value.cells, setN, Value.oneCell', Nat.reduceLeDiff, undef, fcT, f0, f1, f7', f8, c1, d1, toNat_succ])) | (with_reducible refine fun (hBd_ : Bd _ _) => ?_) | ((first | (with_reducible refine @And.intro (Sub _ _) _ ?_ ?_) | ((with_reducible refine @And.intro (Sub _ _ ∧ _) _ ?_ ?_); (with_reducible refine @And.intro (Sub _ _) _ ?_ ?_))); exact sbX) | ((with_reducible refine And.intro ?_ ?_); omega)))
        all_goals try (exfalso; omega)
        exact Is_e (by rw [vSteep, if_pos ⟨hpb, hib, by omega⟩, hBe]; rfl) hs
  · rintro fr H' nx' ⟨k, hm, _⟩; omega
  · exact ⟨1, by omega, by omega, by omega, by simp (disch := omega) only [bsW, ↓reduceIte, Nat.reduceEqDiff, ne_eq, reduceCtorEq, fcT], by simp (disch := omega) only [bsW, ↓reduceIte, Nat.reduceEqDiff, ne_eq, reduceCtorEq, fcT], by simp (disch := omega) only [bsW, ↓reduceIte, Nat.reduceEqDiff, ne_eq, reduceCtorEq, fcT]; rfl, by simp (disch := omega) only [bsW, ↓reduceIte, Nat.reduceEqDiff, ne_eq, reduceCtorEq, fcT]; rfl, Sub.refl _, by omega⟩
end Go.Proofs.YtnjlleopgjggpaaDoor
