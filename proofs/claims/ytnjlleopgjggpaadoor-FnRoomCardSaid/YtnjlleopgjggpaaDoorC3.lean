/- Absentees: whether they are right: the program and the reference compute the same. -/
import Derived.Test.YtnjlleopgjggpaaDoorC1
import Derived.Test.YtnjlleopgjggpaaDoorD2
set_option linter.unusedVariables false
set_option linter.unusedSimpArgs false
set_option maxRecDepth 100000
set_option maxHeartbeats 1000000
namespace Go.Proofs.YtnjlleopgjggpaaDoor
open Go Go.RowKit Go.Proofs

theorem idxFuncAbs (A : Option Addr) (n c : Nat) (f : Nat → Nat → Int) (g : Nat) (v0 : Value) (p : Nat → Bool) (H : Hp) (nx : Nat) (hn : n ≤ 17592186044416) (h : Rd H A n 2 f)
    (hp : ∀ (k : Nat) (H' : Hp) (nx' : Nat), k < n → Sub H H' → nx ≤ nx' → PC Tryd.prog g #[.agg #[.int .i64 (f k 0), .int .i64 (f k 1)], v0] H' nx' (.bool (p k))) :
    PC Tryd.prog 127 #[.slice A n c, .func (.func g) #[] #[v0]] H nx (.int .i64 (idxOf p n)) := by
  refine AC_of x_slices_IndexFunc_Absentee rfl fun hB => ?_
  simp (disch := omega) only [bsW, WOp, WOq, WV, bo, eqN, gdc, gw, bnd, ↓reduceIte, Nat.reduceEqDiff, rsvs, rsv, oneOf, rdN, ne_eq, Nat.reduceAdd, Nat.reduceMul, Nat.reduceLT, reduceCtorEq, Value.cells, setN, Value.oneCell', Nat.reduceLeDiff, undef, fcT, c_slices_IndexFunc_Absentee]
  refine LpE_rule (fun m fr H' nx' => ∃ k : Nat, m = n - k + 1 ∧ k ≤ n ∧ fr 0 = .slice A n c ∧ fr 1 = .func (.func g) #[] #[v0] ∧ fr 7 = .int .i64 n ∧ fr 8 = .int .i64 k ∧ Sub H H' ∧ nx ≤ nx' ∧ ∀ i, i < k → p i = false) ?_ ?_ (n + 1) ?_
  · rintro m K hK fr H' nx' ⟨k, hm, hk, f0, f1, f7, f8, hs, hx, hall⟩
    simp (disch := omega) only [bsW, WOp, WOq, WV, bo, eqN, gdc, gw, bnd, ↓reduceIte, Nat.reduceEqDiff, rsvs, rsv, oneOf, rdN, ne_eq, Nat.reduceAdd, Nat.reduceMul, Nat.reduceLT, reduceCtorEq, Value.cells, setN, Value.oneCell', Nat.reduceLeDiff, undef, fcT, f0, f1, f7, f8]
    refine gif_split (fun b1 => ?_) (fun b1 => ?_)
    · have hlt : k < n := by simpa using b1
      obtain ⟨b, off, rfl, hc⟩ := h.at_ (by omega)
      have c0 := rd_sub hs (hc k 0 hlt (by omega))
      have c1 := rd_sub hs (hc k 1 hlt (by omega))
      simp only [Nat.add_zero] at c0
      simp (disch := omega) only [bsW, WOp, WOq, WV, bo, eqN, gdc, gw, bnd, ↓reduceIte, Nat.reduceEqDiff, rsvs, rsv, oneOf, rdN, ne_eq, Nat.reduceAdd, Nat.reduceMul, Nat.reduceLT, reduceCtorEq, Value.cells, setN, Value.oneCell', Nat.reduceLeDiff, undef, fcT, f0, f1, f7, f8, c0, c1, b1]
      (repeat' (first | ((with_reducible refine gif_split (fun hs_ => ?_) (fun hs_ => ?_)) <;> (have hp_ := hs_; (try simp only [hpL, ne_eq] at hp_); (try simp (disch := omega) only [bsW, WOp, WOq, WV, bo, eqN, gdc, gw, bnd, ↓reduceIte, Nat.reduceEqDiff, rsvs, rsv, oneOf, rdN, ne_eq, Nat.reduceAdd, Nat.reduceMul, Nat.reduceLT, reduceCtorEq, Value.cells, setN, Value.oneCell', Nat.reduceLeDiff, undef, fcT, f0, f1, f7, f8, c0, c1, hs_]))) | ((first | (with_reducible refine newB_i (fun nb_ hb_ => ?_)) | ((with_reducible show QC _ _ _ _ _ _); (first | (refine QC_i (hp k _ _ hlt hs hx) ?_))) | ((with_reducible show AC _ _ _ _ _ _); (first | (refine PC.ac (hp k _ _ hlt hs hx) ?_))) | (with_reducible refine RgE_i (fun (hBd_ : Bd _ _) => ?_))); (try simp (disch := omega) only [bsW, WOp, WOq, WV, bo, eqN, gdc, gw, bnd, ↓reduceIte, Nat.reduceEqDiff, rsvs, rsv, oneOf, rdN, ne_eq, Nat.reduceAdd, Nat.reduceMul, Nat.reduceLT, reduceCtorEq, Value.cells, setN, Value.oneCell', Nat.reduceLeDiff, undef, fcT, f0, f1, f7, f8, c0, c1])) | (with_reducible refine fun (hBd_ : Bd _ _) => ?_) | ((first | (with_reducible refine @And.intro (Sub _ _) _ ?_ ?_) | ((with_reducible refine @And.intro (Sub _ _ ∧ _) _ ?_ ?_); (with_reducible refine @And.intro (Sub _ _) _ ?_ ?_))); exact sbX) | ((with_reducible refine And.intro ?_ ?_); omega)))
      · refine Is_e ?_ hs
        rw [idxOf_hit hlt hp_ hall]
      · refine hK _ _ _ ?_
        refine ⟨k + 1, by omega, by omega, by simp (disch := omega) only [bsW, ↓reduceIte, Nat.reduceEqDiff, ne_eq, reduceCtorEq, fcT, f0, f1, f7, f8, c0, c1], by simp (disch := omega) only [bsW, ↓reduceIte, Nat.reduceEqDiff, ne_eq, reduceCtorEq, fcT, f0, f1, f7, f8, c0, c1], by simp (disch := omega) only [bsW, ↓reduceIte, Nat.reduceEqDiff, ne_eq, reduceCtorEq, fcT, f0, f1, f7, f8, c0, c1], by simp (disch := omega) only [bsW, ↓reduceIte, Nat.reduceEqDiff, ne_eq, reduceCtorEq, fcT, f0, f1, f7, f8, c0, c1, Int.natCast_add, Int.natCast_one], hs, by omega, ?_⟩
        intro i hi
        rcases Nat.lt_succ_iff_lt_or_eq.1 hi with hi | rfl
        · exact hall i hi
        · simpa using hp_
    · simp (disch := omega) only [bsW, WOp, WOq, WV, bo, eqN, gdc, gw, bnd, ↓reduceIte, Nat.reduceEqDiff, rsvs, rsv, oneOf, rdN, ne_eq, Nat.reduceAdd, Nat.reduceMul, Nat.reduceLT, reduceCtorEq, Value.cells, setN, Value.oneCell', Nat.reduceLeDiff, undef, fcT, f0, f1, f7, f8, b1]
      have hkn : k = n := by simp at b1; omega
      subst hkn
      refine Is_e ?_ hs
      rw [idxOf_none hall]
  · rintro fr H' nx' ⟨k, hm, _⟩; omega
  · exact ⟨0, by omega, by omega, by simp (disch := omega) only [bsW, ↓reduceIte, Nat.reduceEqDiff, ne_eq, reduceCtorEq, fcT], by simp (disch := omega) only [bsW, ↓reduceIte, Nat.reduceEqDiff, ne_eq, reduceCtorEq, fcT], by simp (disch := omega) only [bsW, ↓reduceIte, Nat.reduceEqDiff, ne_eq, reduceCtorEq, fcT], by simp (disch := omega) only [bsW, ↓reduceIte, Nat.reduceEqDiff, ne_eq, reduceCtorEq, fcT, Int.natCast_zero], Sub.refl _, by omega, by intro i hi; omega⟩

theorem hasFuncAbs (A : Option Addr) (n c : Nat) (f : Nat → Nat → Int) (g : Nat) (v0 : Value) (p : Nat → Bool) (H : Hp) (nx : Nat) (hn : n ≤ 17592186044416) (h : Rd H A n 2 f)
    (hp : ∀ (k : Nat) (H' : Hp) (nx' : Nat), k < n → Sub H H' → nx ≤ nx' → PC Tryd.prog g #[.agg #[.int .i64 (f k 0), .int .i64 (f k 1)], v0] H' nx' (.bool (p k))) :
    PC Tryd.prog 125 #[.slice A n c, .func (.func g) #[] #[v0]] H nx (.bool (anyB p n)) := by
  refine AC_of x_slices_ContainsFunc_Absentee rfl fun hB => ?_
  simp (disch := omega) only [bsW, WOp, WOq, WV, bo, eqN, gdc, gw, bnd, ↓reduceIte, Nat.reduceEqDiff, rsvs, rsv, oneOf, rdN, ne_eq, Nat.reduceAdd, Nat.reduceMul, Nat.reduceLT, reduceCtorEq, Value.cells, setN, Value.oneCell', Nat.reduceLeDiff, undef, fcT, c_slices_ContainsFunc_Absentee]
  (repeat' (first | ((with_reducible refine gif_split (fun hs_ => ?_) (fun hs_ => ?_)) <;> (have hp_ := hs_; (try simp only [hpL, ne_eq] at hp_); (try simp (disch := omega) only [bsW, WOp, WOq, WV, bo, eqN, gdc, gw, bnd, ↓reduceIte, Nat.reduceEqDiff, rsvs, rsv, oneOf, rdN, ne_eq, Nat.reduceAdd, Nat.reduceMul, Nat.reduceLT, reduceCtorEq, Value.cells, setN, Value.oneCell', Nat.reduceLeDiff, undef, fcT, hs_]))) | ((first | (with_reducible refine newB_i (fun nb_ hb_ => ?_)) | ((with_reducible show QC _ _ _ _ _ _); (first | (refine QC_i (idxFuncAbs A n c f g v0 p _ _ hn h hp) ?_))) | ((with_reducible show AC _ _ _ _ _ _); (first | (refine PC.ac (idxFuncAbs A n c f g v0 p _ _ hn h hp) ?_))) | (with_reducible refine RgE_i (fun (hBd_ : Bd _ _) => ?_))); (try simp (disch := omega) only [bsW, WOp, WOq, WV, bo, eqN, gdc, gw, bnd, ↓reduceIte, Nat.reduceEqDiff, rsvs, rsv, oneOf, rdN, ne_eq, Nat.reduceAdd, Nat.reduceMul, Nat.reduceLT, reduceCtorEq, Value.cells, setN, Value.oneCell', Nat.reduceLeDiff, undef, fcT])) | (with_reducible refine fun (hBd_ : Bd _ _) => ?_) | ((first | (with_reducible refine @And.intro (Sub _ _) _ ?_ ?_) | ((with_reducible refine @And.intro (Sub _ _ ∧ _) _ ?_ ?_); (with_reducible refine @And.intro (Sub _ _) _ ?_ ?_))); exact sbX) | ((with_reducible refine And.intro ?_ ?_); omega)))
  exact Is_e (by rw [idxOf_ge]) (Sub.refl H)

theorem absEq (x0 x1 y0 y1 : Int) (b : Nat) (H : Hp) (nx : Nat) (ty : TypeId) (hb : H b = some (.rw [.int .i64 y0, .int .i64 y1] ty)) :
    PC Tryd.prog 126 #[.agg #[.int .i64 x0, .int .i64 x1], .pointer (some ⟨b, 0, none⟩)] H nx (.bool (x0 == y0)) := by
  refine AC_of x_impl_areAbsentees_1 rfl fun hB => ?_
  have hlt := hB b _ hb
  have c0 : rd H b 0 = some (.int .i64 y0) := by rw [rd_rw hb]; rfl
  simp (disch := omega) only [bsW, WOp, WOq, WV, bo, eqN, gdc, gw, bnd, ↓reduceIte, Nat.reduceEqDiff, rsvs, rsv, oneOf, rdN, ne_eq, Nat.reduceAdd, Nat.reduceMul, Nat.reduceLT, reduceCtorEq, Value.cells, setN, Value.oneCell', Nat.reduceLeDiff, undef, fcT, c0, c_impl_areAbsentees_1]
  (repeat' (first | ((with_reducible refine gif_split (fun hs_ => ?_) (fun hs_ => ?_)) <;> (have hp_ := hs_; (try simp only [hpL, ne_eq] at hp_); (try simp (disch := omega) only [bsW, WOp, WOq, WV, bo, eqN, gdc, gw, bnd, ↓reduceIte, Nat.reduceEqDiff, rsvs, rsv, oneOf, rdN, ne_eq, Nat.reduceAdd, Nat.reduceMul, Nat.reduceLT, reduceCtorEq, Value.cells, setN, Value.oneCell', Nat.reduceLeDiff, undef, fcT, c0, hs_]))) | ((first | (with_reducible refine newB_i (fun nb_ hb_ => ?_)) | (with_reducible refine RgE_i (fun (hBd_ : Bd _ _) => ?_))); (try simp (disch := omega) only [bsW, WOp, WOq, WV, bo, eqN, gdc, gw, bnd, ↓reduceIte, Nat.reduceEqDiff, rsvs, rsv, oneOf, rdN, ne_eq, Nat.reduceAdd, Nat.reduceMul, Nat.reduceLT, reduceCtorEq, Value.cells, setN, Value.oneCell', Nat.reduceLeDiff, undef, fcT, c0])) | (with_reducible refine fun (hBd_ : Bd _ _) => ?_) | ((first | (with_reducible refine @And.intro (Sub _ _) _ ?_ ?_) | ((with_reducible refine @And.intro (Sub _ _ ∧ _) _ ?_ ?_); (with_reducible refine @And.intro (Sub _ _) _ ?_ ?_))); exact sbX) | ((with_reducible refine And.intro ?_ ?_); omega)))
  exact Is_e rfl (by (repeat (first | assumption | exact Sub.refl _ | (refine sub_up (nx := nx) ?_ hB ?_; omega))))

def absOk (f : Nat → Nat → Int) (i : Nat) : Prop := inR (f i 0) 1 99 = true ∧ inR (f i 1) 0 20000 = true ∧ ∀ j, j < i → f j 0 ≠ f i 0
def abssOk (n : Nat) (f : Nat → Nat → Int) : Prop := (∀ i, i < n → absOk f i) ∧ n ≤ 12
open Classical in
noncomputable def abssB (n : Nat) (f : Nat → Nat → Int) : Bool := decide (abssOk n f)
open Classical in
theorem abssB_iff {n : Nat} {f : Nat → Nat → Int} : abssB n f = true ↔ abssOk n f := by unfold abssB; exact decide_eq_true_iff
theorem abssB_no {n : Nat} {f : Nat → Nat → Int} {k : Nat} (hk : k < n) (h : ¬ absOk f k) : abssB n f = false := by
  rw [Bool.eq_false_iff, Ne, abssB_iff]; exact fun hh => h (hh.1 k hk)
theorem abssB_end {n : Nat} {f : Nat → Nat → Int} (h : ∀ i, i < n → absOk f i) : abssB n f = decide ((n : Int) ≤ 12) := by
  rw [Bool.eq_iff_iff, abssB_iff, decide_eq_true_iff]; exact ⟨fun hh => by have := hh.2; omega, fun hh => ⟨h, by omega⟩⟩

theorem areAbsentees (A : Option Addr) (n c : Nat) (f : Nat → Nat → Int) (H : Hp) (nx : Nat) (hn : n ≤ 17592186044416) (hcap : n ≤ c) (h : Rd H A n 2 f) :
    PC Tryd.prog 67 #[.slice A n c] H nx (.bool (abssB n f)) := by
  refine AC_of x_impl_areAbsentees rfl fun hB => ?_
  simp (disch := omega) only [bsW, WOp, WOq, WV, bo, eqN, gdc, gw, bnd, ↓reduceIte, Nat.reduceEqDiff, rsvs, rsv, oneOf, rdN, ne_eq, Nat.reduceAdd, Nat.reduceMul, Nat.reduceLT, reduceCtorEq, Value.cells, setN, Value.oneCell', Nat.reduceLeDiff, undef, fcT, c_impl_areAbsentees]
  refine LpE_rule (fun m fr H' nx' => ∃ k : Nat, m = n - k + 1 ∧ k ≤ n ∧ fr 0 = .slice A n c ∧ fr 5 = .slice A n c ∧ fr 6 = .int .i64 n ∧ fr 7 = .int .i64 k ∧ Sub H H' ∧ nx ≤ nx' ∧ ∀ i, i < k → absOk f i) ?_ ?_ (n + 1) ?_
  · rintro m K hK fr H' nx' ⟨k, hm, hk, f0, f5, f6, f7, hs, hx, hall⟩
    simp (disch := omega) only [bsW, WOp, WOq, WV, bo, eqN, gdc, gw, bnd, ↓reduceIte, Nat.reduceEqDiff, rsvs, rsv, oneOf, rdN, ne_eq, Nat.reduceAdd, Nat.reduceMul, Nat.reduceLT, reduceCtorEq, Value.cells, setN, Value.oneCell', Nat.reduceLeDiff, undef, fcT, f0, f5, f6, f7]
    refine gif_split (fun b1 => ?_) (fun b1 => ?_)
    · have hlt : k < n := by simpa using b1
      obtain ⟨b, off, rfl, hc⟩ := h.at_ (by omega)
      have hb := rd_lt hB (hc k 0 hlt (by omega))
      have c0 := rd_sub hs (hc k 0 hlt (by omega))
      have c1 := rd_sub hs (hc k 1 hlt (by omega))
      simp only [Nat.add_zero] at c0
      simp (disch := omega) only [bsW, WOp, WOq, WV, bo, eqN, gdc, gw, bnd, ↓reduceIte, Nat.reduceEqDiff, rsvs, rsv, oneOf, rdN, ne_eq, Nat.reduceAdd, Nat.reduceMul, Nat.reduceLT, reduceCtorEq, Value.cells, setN, Value.oneCell', Nat.reduceLeDiff, undef, fcT, f0, f5, f6, f7, c0, c1, b1]
      (repeat' (first | ((with_reducible refine gif_split (fun hs_ => ?_) (fun hs_ => ?_)) <;> (have hp_ := hs_; (try simp only [hpL, ne_eq] at hp_); (try simp (disch := omega) only [bsW, WOp, WOq, WV, bo, eqN, gdc, gw, bnd, ↓reduceIte, Nat.reduceEqDiff, rsvs, rsv, oneOf, rdN, ne_eq, Nat.reduceAdd, Nat.reduceMul, Nat.reduceLT, reduceCtorEq, Value.cells, setN, Value.oneCell', Nat.reduceLeDiff, undef, fcT, f0, f5, f6, f7, c0, c1, hs_]))) | ((first | (with_reducible refine newB_i (fun nb_ hb_ => ?_)) | ((with_reducible show QC _ _ _ _ _ _); (first | (refine QC_i (isBid _ _ _) ?_) | (refine QC_i (inRange _ _ _ _ _) ?_) | (refine QC_i (hasFuncAbs _ _ _ f _ _ (fun j => f j 0 == f k 0) _ _ (by omega) ((h.sub (by (repeat (first | assumption | exact Sub.refl _ | (refine sub_up (nx := nx) ?_ hB ?_; omega))))).take (by omega)) (fun j H2 nx2 hj hs2 hx2 => absEq _ _ _ _ _ _ _ _ (hs2 _ _ (upd_same _ _ _)))) ?_))) | ((with_reducible show AC _ _ _ _ _ _); (first | (refine PC.ac (isBid _ _ _) ?_) | (refine PC.ac (inRange _ _ _ _ _) ?_) | (refine PC.ac (hasFuncAbs _ _ _ f _ _ (fun j => f j 0 == f k 0) _ _ (by omega) ((h.sub (by (repeat (first | assumption | exact Sub.refl _ | (refine sub_up (nx := nx) ?_ hB ?_; omega))))).take (by omega)) (fun j H2 nx2 hj hs2 hx2 => absEq _ _ _ _ _ _ _ _ (hs2 _ _ (upd_same _ _ _)))) ?_))) | (with_reducible refine RgE_i (fun (hBd_ : Bd _ _) => ?_))); (try simp (disch := omega) only [bsW, WOp, WOq, WV, bo, eqN, gdc, gw, bnd, ↓reduceIte, Nat.reduceEqDiff, rsvs, rsv, oneOf, rdN, ne_eq, Nat.reduceAdd, Nat.reduceMul, Nat.reduceLT, reduceCtorEq, Value.cells, setN, Value.oneCell', Nat.reduceLeDiff, undef, fcT, f0, f5, f6, f7, c0, c1])) | (with_reducible refine fun (hBd_ : Bd _ _) => ?_) | ((first | (with_reducible refine @And.intro (Sub _ _) _ ?_ ?_) | ((with_reducible refine @And.intro (Sub _ _ ∧ _) _ ?_ ?_); (with_reducible refine @And.intro (Sub _ _) _ ?_ ?_))); exact sbX) | ((with_reducible refine And.intro ?_ ?_); omega)))
      all_goals first
        | (refine Is_e (congrArg Value.bool (abssB_no hlt ?_).symm) (by (repeat (first | assumption | exact Sub.refl _ | (refine sub_up (nx := nx) ?_ hB ?_; omega))))
           rintro ⟨h1, h2, h3⟩
           first
           | (simp_all; done)
           | (obtain ⟨j, hj, hj2⟩ := anyB_true.1 hp_
              exact h3 j hj (by simpa using hj2)))
        | (refine hK _ _ _ ?_
           refine ⟨k + 1, by omega, by omega, by simp (disch := omega) only [bsW, ↓reduceIte, Nat.reduceEqDiff, ne_eq, reduceCtorEq, fcT, f0, f5, f6, f7, c0, c1], by simp (disch := omega) only [bsW, ↓reduceIte, Nat.reduceEqDiff, ne_eq, reduceCtorEq, fcT, f0, f5, f6, f7, c0, c1], by simp (disch := omega) only [bsW, ↓reduceIte, Nat.reduceEqDiff, ne_eq, reduceCtorEq, fcT, f0, f5, f6, f7, c0, c1], by simp (disch := omega) only [bsW, ↓reduceIte, Nat.reduceEqDiff, ne_eq, reduceCtorEq, fcT, f0, f5, f6, f7, c0, c1, Int.natCast_add, Int.natCast_one], by (repeat (first | assumption | exact Sub.refl _ | (refine sub_up (nx := nx) ?_ hB ?_; omega))), by omega, ?_⟩
           intro i hi
           rcases Nat.lt_succ_iff_lt_or_eq.1 hi with hi | rfl
           · exact hall i hi
           · exact ⟨by assumption, by assumption, fun j hj e => by have := anyB_false.1 hp_ j hj; simp [e] at this⟩)
    · have hkn : k = n := by simp at b1; omega
      subst hkn
      simp (disch := omega) only [bsW, WOp, WOq, WV, bo, eqN, gdc, gw, bnd, ↓reduceIte, Nat.reduceEqDiff, rsvs, rsv, oneOf, rdN, ne_eq, Nat.reduceAdd, Nat.reduceMul, Nat.reduceLT, reduceCtorEq, Value.cells, setN, Value.oneCell', Nat.reduceLeDiff, undef, fcT, f0, f5, f6, f7, b1]
      (repeat' (first | ((with_reducible refine gif_split (fun hs_ => ?_) (fun hs_ => ?_)) <;> (have hp_ := hs_; (try simp only [hpL, ne_eq] at hp_); (try simp (disch := omega) only [bsW, WOp, WOq, WV, bo, eqN, gdc, gw, bnd, ↓reduceIte, Nat.reduceEqDiff, rsvs, rsv, oneOf, rdN, ne_eq, Nat.reduceAdd, Nat.reduceMul, Nat.reduceLT, reduceCtorEq, Value.cells, setN, Value.oneCell', Nat.reduceLeDiff, undef, fcT, f0, f5, f6, f7, hs_]))) | ((first | (with_reducible refine newB_i (fun nb_ hb_ => ?_)) | (with_reducible refine RgE_i (fun (hBd_ : Bd _ _) => ?_))); (try simp (disch := omega) only [bsW, WOp, WOq, WV, bo, eqN, gdc, gw, bnd, ↓reduceIte, Nat.reduceEqDiff, rsvs, rsv, oneOf, rdN, ne_eq, Nat.reduceAdd, Nat.reduceMul, Nat.reduceLT, reduceCtorEq, Value.cells, setN, Value.oneCell', Nat.reduceLeDiff, undef, fcT, f0, f5, f6, f7])) | (with_reducible refine fun (hBd_ : Bd _ _) => ?_) | ((first | (with_reducible refine @And.intro (Sub _ _) _ ?_ ?_) | ((with_reducible refine @And.intro (Sub _ _ ∧ _) _ ?_ ?_); (with_reducible refine @And.intro (Sub _ _) _ ?_ ?_))); exact sbX) | ((with_reducible refine And.intro ?_ ?_); omega)))
      exact Is_e (by rw [abssB_end hall]) hs
  · rintro fr H' nx' ⟨k, hm, _⟩; omega
  · exact ⟨0, by omega, by omega, by simp (disch := omega) only [bsW, ↓reduceIte, Nat.reduceEqDiff, ne_eq, reduceCtorEq, fcT], by simp (disch := omega) only [bsW, ↓reduceIte, Nat.reduceEqDiff, ne_eq, reduceCtorEq, fcT], by simp (disch := omega) only [bsW, ↓reduceIte, Nat.reduceEqDiff, ne_eq, reduceCtorEq, fcT], by simp (disch := omega) only [bsW, ↓reduceIte, Nat.reduceEqDiff, ne_eq, reduceCtorEq, fcT, Int.natCast_zero], Sub.refl _, by omega, by intro i hi; omega⟩

theorem l22Good (A : Option Addr) (n c : Nat) (f : Nat → Nat → Int) (H : Hp) (nx : Nat) (hn : n ≤ 17592186044416) (h : Rd H A n 2 f) :
    PC Tryd.prog 81 #[.slice A n c] H nx (.bool (abssB n f)) := by
  refine AC_of x_spec_l22Good rfl fun hB => ?_
  simp (disch := omega) only [bsW, WOp, WOq, WV, bo, eqN, gdc, gw, bnd, ↓reduceIte, Nat.reduceEqDiff, rsvs, rsv, oneOf, rdN, ne_eq, Nat.reduceAdd, Nat.reduceMul, Nat.reduceLT, reduceCtorEq, Value.cells, setN, Value.oneCell', Nat.reduceLeDiff, undef, fcT, c_spec_l22Good]
  refine LpE_rule (fun m fr H' nx' => ∃ k : Nat, m = n - k + 1 ∧ k ≤ n ∧ k ≤ 13 ∧ fr 0 = .slice A n c ∧ fr 3 = .int .i64 k ∧ Sub H H' ∧ nx ≤ nx' ∧ ∀ i, i < k → absOk f i) ?_ ?_ (n + 1) ?_
  · rintro m K hK fr H' nx' ⟨k, hm, hk, hk2, f0, f3, hs, hx, hall⟩
    simp (disch := omega) only [bsW, WOp, WOq, WV, bo, eqN, gdc, gw, bnd, ↓reduceIte, Nat.reduceEqDiff, rsvs, rsv, oneOf, rdN, ne_eq, Nat.reduceAdd, Nat.reduceMul, Nat.reduceLT, reduceCtorEq, Value.cells, setN, Value.oneCell', Nat.reduceLeDiff, undef, fcT, f0, f3]
    (repeat' (first | ((with_reducible refine gif_split (fun hs_ => ?_) (fun hs_ => ?_)) <;> (have hp_ := hs_; (try simp only [hpL, ne_eq] at hp_); (try simp (disch := omega) only [bsW, WOp, WOq, WV, bo, eqN, gdc, gw, bnd, ↓reduceIte, Nat.reduceEqDiff, rsvs, rsv, oneOf, rdN, ne_eq, Nat.reduceAdd, Nat.reduceMul, Nat.reduceLT, reduceCtorEq, Value.cells, setN, Value.oneCell', Nat.reduceLeDiff, undef, fcT, f0, f3, hs_]))) | ((first | (with_reducible refine newB_i (fun nb_ hb_ => ?_)) | (with_reducible refine RgE_i (fun (hBd_ : Bd _ _) => ?_))); (try simp (disch := omega) only [bsW, WOp, WOq, WV, bo, eqN, gdc, gw, bnd, ↓reduceIte, Nat.reduceEqDiff, rsvs, rsv, oneOf, rdN, ne_eq, Nat.reduceAdd, Nat.reduceMul, Nat.reduceLT, reduceCtorEq, Value.cells, setN, Value.oneCell', Nat.reduceLeDiff, undef, fcT, f0, f3])) | (with_reducible refine fun (hBd_ : Bd _ _) => ?_) | ((first | (with_reducible refine @And.intro (Sub _ _) _ ?_ ?_) | ((with_reducible refine @And.intro (Sub _ _ ∧ _) _ ?_ ?_); (with_reducible refine @And.intro (Sub _ _) _ ?_ ?_))); exact sbX) | ((with_reducible refine And.intro ?_ ?_); omega)))
    · have hlt : k < n := by omega
      obtain ⟨b, off, rfl, hc⟩ := h.at_ (by omega)
      have hb := rd_lt hB (hc k 0 hlt (by omega))
      have c0 := rd_sub hs (hc k 0 hlt (by omega))
      have c1 := rd_sub hs (hc k 1 hlt (by omega))
      simp only [Nat.add_zero] at c0
      simp (disch := omega) only [bsW, WOp, WOq, WV, bo, eqN, gdc, gw, bnd, ↓reduceIte, Nat.reduceEqDiff, rsvs, rsv, oneOf, rdN, ne_eq, Nat.reduceAdd, Nat.reduceMul, Nat.reduceLT, reduceCtorEq, Value.cells, setN, Value.oneCell', Nat.reduceLeDiff, undef, fcT, f0, f3, c0, c1]
      (repeat' (first | ((with_reducible refine gif_split (fun hs_ => ?_) (fun hs_ => ?_)) <;> (have hp_ := hs_; (try simp only [hpL, ne_eq] at hp_); (try simp (disch := omega) only [bsW, WOp, WOq, WV, bo, eqN, gdc, gw, bnd, ↓reduceIte, Nat.reduceEqDiff, rsvs, rsv, oneOf, rdN, ne_eq, Nat.reduceAdd, Nat.reduceMul, Nat.reduceLT, reduceCtorEq, Value.cells, setN, Value.oneCell', Nat.reduceLeDiff, undef, fcT, f0, f3, c0, c1, hs_]))) | ((first | (with_reducible refine newB_i (fun nb_ hb_ => ?_)) | ((with_reducible show QC _ _ _ _ _ _); (first | (refine QC_i (l22Bid _ _ _) ?_) | (refine QC_i (l1In _ _ _ _ _) ?_))) | ((with_reducible show AC _ _ _ _ _ _); (first | (refine PC.ac (l22Bid _ _ _) ?_) | (refine PC.ac (l1In _ _ _ _ _) ?_))) | (with_reducible refine RgE_i (fun (hBd_ : Bd _ _) => ?_))); (try simp (disch := omega) only [bsW, WOp, WOq, WV, bo, eqN, gdc, gw, bnd, ↓reduceIte, Nat.reduceEqDiff, rsvs, rsv, oneOf, rdN, ne_eq, Nat.reduceAdd, Nat.reduceMul, Nat.reduceLT, reduceCtorEq, Value.cells, setN, Value.oneCell', Nat.reduceLeDiff, undef, fcT, f0, f3, c0, c1])) | (with_reducible refine fun (hBd_ : Bd _ _) => ?_) | ((first | (with_reducible refine @And.intro (Sub _ _) _ ?_ ?_) | ((with_reducible refine @And.intro (Sub _ _ ∧ _) _ ?_ ?_); (with_reducible refine @And.intro (Sub _ _) _ ?_ ?_))); exact sbX) | ((with_reducible refine And.intro ?_ ?_); omega)))
      all_goals try exact Is_e (congrArg Value.bool (abssB_no hlt (by rintro ⟨h1, h2, h3⟩; simp_all)).symm) hs
      · refine LpE_rule (fun m' fr' H2 nx2 => ∃ j : Nat, m' = k - j + 1 ∧ j ≤ k ∧ fr' 0 = .slice (some ⟨b, off, none⟩) n c ∧ fr' 3 = .int .i64 k ∧ fr' 4 = .int .i64 j ∧ Sub H H2 ∧ nx ≤ nx2 ∧ ∀ i, i < j → f i 0 ≠ f k 0) ?_ ?_ (k + 1) ?_
        · rintro m' K' hK' fr' H2 nx2 ⟨j, hm', hj, g0, g3, g4, hs2, hx2, hal⟩
          simp (disch := omega) only [bsW, WOp, WOq, WV, bo, eqN, gdc, gw, bnd, ↓reduceIte, Nat.reduceEqDiff, rsvs, rsv, oneOf, rdN, ne_eq, Nat.reduceAdd, Nat.reduceMul, Nat.reduceLT, reduceCtorEq, Value.cells, setN, Value.oneCell', Nat.reduceLeDiff, undef, fcT, g0, g3, g4]
          (repeat' (first | ((with_reducible refine gif_split (fun hs_ => ?_) (fun hs_ => ?_)) <;> (have hp_ := hs_; (try simp only [hpL, ne_eq] at hp_); (try simp (disch := omega) only [bsW, WOp, WOq, WV, bo, eqN, gdc, gw, bnd, ↓reduceIte, Nat.reduceEqDiff, rsvs, rsv, oneOf, rdN, ne_eq, Nat.reduceAdd, Nat.reduceMul, Nat.reduceLT, reduceCtorEq, Value.cells, setN, Value.oneCell', Nat.reduceLeDiff, undef, fcT, g0, g3, g4, hs_]))) | ((first | (with_reducible refine newB_i (fun nb_ hb_ => ?_)) | (with_reducible refine RgE_i (fun (hBd_ : Bd _ _) => ?_))); (try simp (disch := omega) only [bsW, WOp, WOq, WV, bo, eqN, gdc, gw, bnd, ↓reduceIte, Nat.reduceEqDiff, rsvs, rsv, oneOf, rdN, ne_eq, Nat.reduceAdd, Nat.reduceMul, Nat.reduceLT, reduceCtorEq, Value.cells, setN, Value.oneCell', Nat.reduceLeDiff, undef, fcT, g0, g3, g4])) | (with_reducible refine fun (hBd_ : Bd _ _) => ?_) | ((first | (with_reducible refine @And.intro (Sub _ _) _ ?_ ?_) | ((with_reducible refine @And.intro (Sub _ _ ∧ _) _ ?_ ?_); (with_reducible refine @And.intro (Sub _ _) _ ?_ ?_))); exact sbX) | ((with_reducible refine And.intro ?_ ?_); omega)))
          · have hjk : j < k := by omega
            have d0 := rd_sub hs2 (hc j 0 (by omega) (by omega))
            have d1 := rd_sub hs2 (hc k 0 hlt (by omega))
            simp only [Nat.add_zero] at d0 d1
            simp (disch := omega) only [bsW, WOp, WOq, WV, bo, eqN, gdc, gw, bnd, ↓reduceIte, Nat.reduceEqDiff, rsvs, rsv, oneOf, rdN, ne_eq, Nat.reduceAdd, Nat.reduceMul, Nat.reduceLT, reduceCtorEq, Value.cells, setN, Value.oneCell', Nat.reduceLeDiff, undef, fcT, g0, g3, g4, d0, d1]
            (repeat' (first | ((with_reducible refine gif_split (fun hs_ => ?_) (fun hs_ => ?_)) <;> (have hp_ := hs_; (try simp only [hpL, ne_eq] at hp_); (try simp (disch := omega) only [bsW, WOp, WOq, WV, bo, eqN, gdc, gw, bnd, ↓reduceIte, Nat.reduceEqDiff, rsvs, rsv, oneOf, rdN, ne_eq, Nat.reduceAdd, Nat.reduceMul, Nat.reduceLT, reduceCtorEq, Value.cells, setN, Value.oneCell', Nat.reduceLeDiff, undef, fcT, g0, g3, g4, d0, d1, hs_]))) | ((first | (with_reducible refine newB_i (fun nb_ hb_ => ?_)) | (with_reducible refine RgE_i (fun (hBd_ : Bd _ _) => ?_))); (try simp (disch := omega) only [bsW, WOp, WOq, WV, bo, eqN, gdc, gw, bnd, ↓reduceIte, Nat.reduceEqDiff, rsvs, rsv, oneOf, rdN, ne_eq, Nat.reduceAdd, Nat.reduceMul, Nat.reduceLT, reduceCtorEq, Value.cells, setN, Value.oneCell', Nat.reduceLeDiff, undef, fcT, g0, g3, g4, d0, d1])) | (with_reducible refine fun (hBd_ : Bd _ _) => ?_) | ((first | (with_reducible refine @And.intro (Sub _ _) _ ?_ ?_) | ((with_reducible refine @And.intro (Sub _ _ ∧ _) _ ?_ ?_); (with_reducible refine @And.intro (Sub _ _) _ ?_ ?_))); exact sbX) | ((with_reducible refine And.intro ?_ ?_); omega)))
            · exact Is_e (congrArg Value.bool (abssB_no hlt (by rintro ⟨h1, h2, h3⟩; exact h3 j hjk hp_)).symm) hs2
            · refine hK' _ _ _ ?_
              refine ⟨j + 1, by omega, by omega, by simp (disch := omega) only [bsW, ↓reduceIte, Nat.reduceEqDiff, ne_eq, reduceCtorEq, fcT, g0, g3, g4, d0, d1], by simp (disch := omega) only [bsW, ↓reduceIte, Nat.reduceEqDiff, ne_eq, reduceCtorEq, fcT, g0, g3, g4, d0, d1], by simp (disch := omega) only [bsW, ↓reduceIte, Nat.reduceEqDiff, ne_eq, reduceCtorEq, fcT, g0, g3, g4, d0, d1, Int.natCast_add, Int.natCast_one], hs2, by omega, ?_⟩
              intro i hi
              rcases Nat.lt_succ_iff_lt_or_eq.1 hi with hi | rfl
              · exact hal i hi
              · exact hp_
          · have hjk : j = k := by omega
            subst hjk
            refine hK _ _ _ ?_
            refine ⟨j + 1, by omega, by omega, by omega, by simp (disch := omega) only [bsW, ↓reduceIte, Nat.reduceEqDiff, ne_eq, reduceCtorEq, fcT, g0, g3, g4], by simp (disch := omega) only [bsW, ↓reduceIte, Nat.reduceEqDiff, ne_eq, reduceCtorEq, fcT, g0, g3, g4, Int.natCast_add, Int.natCast_one], hs2, by omega, ?_⟩
            intro i hi
            rcases Nat.lt_succ_iff_lt_or_eq.1 hi with hi | rfl
            · exact hall i hi
            · exact ⟨by assumption, by assumption, hal⟩
        · rintro fr' H2 nx2 ⟨j, hm', _⟩; omega
        · exact ⟨0, by omega, by omega, by simp (disch := omega) only [bsW, ↓reduceIte, Nat.reduceEqDiff, ne_eq, reduceCtorEq, fcT, f0, f3], by simp (disch := omega) only [bsW, ↓reduceIte, Nat.reduceEqDiff, ne_eq, reduceCtorEq, fcT, f0, f3], by simp (disch := omega) only [bsW, ↓reduceIte, Nat.reduceEqDiff, ne_eq, reduceCtorEq, fcT, f0, f3, Int.natCast_zero], hs, by omega, by intro i hi; omega⟩
    all_goals
      refine Is_e ?_ hs
      by_cases hkn : k = n
      · subst hkn
        rw [abssB_end hall]
      · have : abssB n f = false := by
          rw [Bool.eq_false_iff, Ne, abssB_iff]
          intro hh
          have := hh.2
          omega
        rw [this]
        congr 1
        rw [decide_eq_false_iff_not]
        omega
  · rintro fr H' nx' ⟨k, hm, _⟩; omega
  · exact ⟨0, by omega, by omega, by omega, by simp (disch := omega) only [bsW, ↓reduceIte, Nat.reduceEqDiff, ne_eq, reduceCtorEq, fcT], by simp (disch := omega) only [bsW, ↓reduceIte, Nat.reduceEqDiff, ne_eq, reduceCtorEq, fcT, Int.natCast_zero], Sub.refl _, by omega, by intro i hi; omega⟩
theorem AreAbsentees (A : Option Addr) (n c : Nat) (f : Nat → Nat → Int) (H : Hp) (nx : Nat) (hn : n ≤ 17592186044416) (hcap : n ≤ c) (h : Rd H A n 2 f) :
    PC Tryd.prog 23 #[.slice A n c] H nx (.bool (abssB n f)) := by
  refine AC_of x_impl_AreAbsentees rfl fun hB => ?_
  simp (disch := omega) only [bsW, WOp, WOq, WV, bo, eqN, gdc, gw, bnd, ↓reduceIte, Nat.reduceEqDiff, rsvs, rsv, oneOf, rdN, ne_eq, Nat.reduceAdd, Nat.reduceMul, Nat.reduceLT, reduceCtorEq, Value.cells, setN, Value.oneCell', Nat.reduceLeDiff, undef, fcT, c_impl_AreAbsentees]
  (repeat' (first | ((with_reducible refine gif_split (fun hs_ => ?_) (fun hs_ => ?_)) <;> (have hp_ := hs_; (try simp only [hpL, ne_eq] at hp_); (try simp (disch := omega) only [bsW, WOp, WOq, WV, bo, eqN, gdc, gw, bnd, ↓reduceIte, Nat.reduceEqDiff, rsvs, rsv, oneOf, rdN, ne_eq, Nat.reduceAdd, Nat.reduceMul, Nat.reduceLT, reduceCtorEq, Value.cells, setN, Value.oneCell', Nat.reduceLeDiff, undef, fcT, hs_]))) | ((first | (with_reducible refine newB_i (fun nb_ hb_ => ?_)) | ((with_reducible show QC _ _ _ _ _ _); (first | (refine QC_i (areAbsentees _ _ _ f _ _ hn hcap h) ?_))) | ((with_reducible show AC _ _ _ _ _ _); (first | (refine PC.ac (areAbsentees _ _ _ f _ _ hn hcap h) ?_))) | (with_reducible refine RgE_i (fun (hBd_ : Bd _ _) => ?_))); (try simp (disch := omega) only [bsW, WOp, WOq, WV, bo, eqN, gdc, gw, bnd, ↓reduceIte, Nat.reduceEqDiff, rsvs, rsv, oneOf, rdN, ne_eq, Nat.reduceAdd, Nat.reduceMul, Nat.reduceLT, reduceCtorEq, Value.cells, setN, Value.oneCell', Nat.reduceLeDiff, undef, fcT])) | (with_reducible refine fun (hBd_ : Bd _ _) => ?_) | ((first | (with_reducible refine @And.intro (Sub _ _) _ ?_ ?_) | ((with_reducible refine @And.intro (Sub _ _ ∧ _) _ ?_ ?_); (with_reducible refine @And.intro (Sub _ _) _ ?_ ?_))); exact sbX) | ((with_reducible refine And.intro ?_ ?_); omega)))
  exact Is_i (Sub.refl H)
theorem sAreAbsentees (A : Option Addr) (n c : Nat) (f : Nat → Nat → Int) (H : Hp) (nx : Nat) (hn : n ≤ 17592186044416) (h : Rd H A n 2 f) :
    PC Tryd.prog 24 #[.slice A n c] H nx (.bool (abssB n f)) := by
  refine AC_of x_spec_AreAbsentees rfl fun hB => ?_
  simp (disch := omega) only [bsW, WOp, WOq, WV, bo, eqN, gdc, gw, bnd, ↓reduceIte, Nat.reduceEqDiff, rsvs, rsv, oneOf, rdN, ne_eq, Nat.reduceAdd, Nat.reduceMul, Nat.reduceLT, reduceCtorEq, Value.cells, setN, Value.oneCell', Nat.reduceLeDiff, undef, fcT, c_spec_AreAbsentees]
  (repeat' (first | ((with_reducible refine gif_split (fun hs_ => ?_) (fun hs_ => ?_)) <;> (have hp_ := hs_; (try simp only [hpL, ne_eq] at hp_); (try simp (disch := omega) only [bsW, WOp, WOq, WV, bo, eqN, gdc, gw, bnd, ↓reduceIte, Nat.reduceEqDiff, rsvs, rsv, oneOf, rdN, ne_eq, Nat.reduceAdd, Nat.reduceMul, Nat.reduceLT, reduceCtorEq, Value.cells, setN, Value.oneCell', Nat.reduceLeDiff, undef, fcT, hs_]))) | ((first | (with_reducible refine newB_i (fun nb_ hb_ => ?_)) | ((with_reducible show QC _ _ _ _ _ _); (first | (refine QC_i (l22Good _ _ _ f _ _ hn h) ?_))) | ((with_reducible show AC _ _ _ _ _ _); (first | (refine PC.ac (l22Good _ _ _ f _ _ hn h) ?_))) | (with_reducible refine RgE_i (fun (hBd_ : Bd _ _) => ?_))); (try simp (disch := omega) only [bsW, WOp, WOq, WV, bo, eqN, gdc, gw, bnd, ↓reduceIte, Nat.reduceEqDiff, rsvs, rsv, oneOf, rdN, ne_eq, Nat.reduceAdd, Nat.reduceMul, Nat.reduceLT, reduceCtorEq, Value.cells, setN, Value.oneCell', Nat.reduceLeDiff, undef, fcT])) | (with_reducible refine fun (hBd_ : Bd _ _) => ?_) | ((first | (with_reducible refine @And.intro (Sub _ _) _ ?_ ?_) | ((with_reducible refine @And.intro (Sub _ _ ∧ _) _ ?_ ?_); (with_reducible refine @And.intro (Sub _ _) _ ?_ ?_))); exact sbX) | ((with_reducible refine And.intro ?_ ?_); omega)))
  exact Is_i (Sub.refl H)
end Go.Proofs.YtnjlleopgjggpaaDoor
