/- Exhibits: whether they are right. -/
import Derived.Test.YtnjlleopgjggpaaDoorR1
import Derived.Test.YtnjlleopgjggpaaDoorE2
set_option linter.unusedVariables false
set_option linter.unusedSimpArgs false
set_option maxRecDepth 100000
set_option maxHeartbeats 1000000
namespace Go.Proofs.YtnjlleopgjggpaaDoor
open Go Go.RowKit Go.Proofs

theorem areExhibits (A : Option Addr) (n c : Nat) (s : Shw) (H : Hp) (nx : Nat) (hn : n ≤ 17592186044416) (h : RdS H A n s) (hw : szOk n s) :
    PC Tryd.prog 105 #[.slice A n c] H nx (.bool (exsB n s)) := by
  refine AC_of x_impl_areExhibits rfl fun hB => ?_
  simp (disch := omega) only [bsW, WOp, WOq, WV, bo, eqN, gdc, gw, bnd, ↓reduceIte, Nat.reduceEqDiff, rsvs, rsv, oneOf, rdN, ne_eq, Nat.reduceAdd, Nat.reduceMul, Nat.reduceLT, reduceCtorEq, Value.cells, setN, Value.oneCell', Nat.reduceLeDiff, undef, fcT, c_impl_areExhibits]
  refine LpE_rule (fun m fr H' nx' => ∃ k : Nat, m = n - k + 1 ∧ k ≤ n ∧ fr 0 = .slice A n c ∧ fr 5 = .int .i64 n ∧ fr 6 = .int .i64 k ∧ Sub H H' ∧ nx ≤ nx' ∧ ∀ i, i < k → exOk s i) ?_ ?_ (n + 1) ?_
  · rintro m K hK fr H' nx' ⟨k, hm, hk, f0, f5, f6, hs, hx, hall⟩
    simp (disch := omega) only [bsW, WOp, WOq, WV, bo, eqN, gdc, gw, bnd, ↓reduceIte, Nat.reduceEqDiff, rsvs, rsv, oneOf, rdN, ne_eq, Nat.reduceAdd, Nat.reduceMul, Nat.reduceLT, reduceCtorEq, Value.cells, setN, Value.oneCell', Nat.reduceLeDiff, undef, fcT, f0, f5, f6]
    refine gif_split (fun b1 => ?_) (fun b1 => ?_)
    · have hlt : k < n := by simpa using b1
      obtain ⟨B, d, h1, h2⟩ := (h.sub hs).ex
      obtain ⟨b, off, rfl, hc⟩ := h1.at_ (by omega)
      obtain ⟨hd, hR⟩ := h2 k hlt
      obtain ⟨hw1, hw2⟩ := hw k hlt
      have hw20 := (hw 0 (by omega)).2
      have c0 : rd H' b (off + k * 4) = some (.int .i64 (s.id k)) := hc k 0 hlt (by omega)
      have c1 : rd H' b (off + k * 4 + 1) = some (.string (s.title k)) := hc k 1 hlt (by omega)
      have c2 : rd H' b (off + k * 4 + 2) = some (.int .i64 (s.fr k)) := hc k 2 hlt (by omega)
      have c3 : rd H' b (off + k * 4 + 3) = some (.slice (B k) (s.m k) (d k)) := hc k 3 hlt (by omega)
      have z3 : rd H' b (off + 3) = some (.slice (B 0) (s.m 0) (d 0)) := by have e := hc 0 3 (by omega) (by omega); rw [Nat.zero_mul, Nat.add_zero] at e; exact e
      have d0 : 0 < k → rd H' b (off + (k - 1) * 4) = some (.int .i64 (s.id (k - 1))) := fun _ => hc (k - 1) 0 (by omega) (by omega)
      simp (disch := omega) only [bsW, WOp, WOq, WV, bo, eqN, gdc, gw, bnd, ↓reduceIte, Nat.reduceEqDiff, rsvs, rsv, oneOf, rdN, ne_eq, Nat.reduceAdd, Nat.reduceMul, Nat.reduceLT, reduceCtorEq, Value.cells, setN, Value.oneCell', Nat.reduceLeDiff, undef, fcT, f0, f5, f6, c0, c1, c2, c3, z3, d0, Int.toNat_zero, Nat.zero_mul, b1]
      (repeat' (first | ((with_reducible refine gif_split (fun hs_ => ?_) (fun hs_ => ?_)) <;> (have hp_ := hs_; (try simp only [hpL, ne_eq] at hp_); (try simp (disch := omega) only [bsW, WOp, WOq, WV, bo, eqN, gdc, gw, bnd, ↓reduceIte, Nat.reduceEqDiff, rsvs, rsv, oneOf, rdN, ne_eq, Nat.reduceAdd, Nat.reduceMul, Nat.reduceLT, reduceCtorEq, Value.cells, setN, Value.oneCell', Nat.reduceLeDiff, undef, fcT, f0, f5, f6, c0, c1, c2, c3, z3, d0, Int.toNat_zero, Nat.zero_mul, hs_]))) | ((first | (with_reducible refine newB_i (fun nb_ hb_ => ?_)) | ((with_reducible show QC _ _ _ _ _ _); (first | (refine QC_i (isExhibit _ _ _ _ _ _ _ _ _ _ _ hw1 hw2 c0 c1 c2 c3 hR) ?_))) | ((with_reducible show AC _ _ _ _ _ _); (first | (refine PC.ac (isExhibit _ _ _ _ _ _ _ _ _ _ _ hw1 hw2 c0 c1 c2 c3 hR) ?_))) | (with_reducible refine RgE_i (fun (hBd_ : Bd _ _) => ?_))); (try simp (disch := omega) only [bsW, WOp, WOq, WV, bo, eqN, gdc, gw, bnd, ↓reduceIte, Nat.reduceEqDiff, rsvs, rsv, oneOf, rdN, ne_eq, Nat.reduceAdd, Nat.reduceMul, Nat.reduceLT, reduceCtorEq, Value.cells, setN, Value.oneCell', Nat.reduceLeDiff, undef, fcT, f0, f5, f6, c0, c1, c2, c3, z3, d0, Int.toNat_zero, Nat.zero_mul])) | (with_reducible refine fun (hBd_ : Bd _ _) => ?_) | ((first | (with_reducible refine @And.intro (Sub _ _) _ ?_ ?_) | ((with_reducible refine @And.intro (Sub _ _ ∧ _) _ ?_ ?_); (with_reducible refine @And.intro (Sub _ _) _ ?_ ?_))); exact sbX) | ((with_reducible refine And.intro ?_ ?_); omega)))
      all_goals try (exfalso; omega)
      all_goals first
        | (refine Is_e (congrArg Value.bool (exsB_no hlt ?_).symm) hs
           rintro ⟨g1, g2, g3⟩
           first
           | (simp_all; done)
           | omega
           | (have := g3 (by omega)
              omega))
        | (refine hK _ _ _ ?_
           refine ⟨k + 1, by omega, by omega, by simp (disch := omega) only [bsW, ↓reduceIte, Nat.reduceEqDiff, ne_eq, reduceCtorEq, fcT, f0, f5, f6, c0, c1, c2, c3, z3, d0, Int.toNat_zero, Nat.zero_mul], by simp (disch := omega) only [bsW, ↓reduceIte, Nat.reduceEqDiff, ne_eq, reduceCtorEq, fcT, f0, f5, f6, c0, c1, c2, c3, z3, d0, Int.toNat_zero, Nat.zero_mul], by simp (disch := omega) only [bsW, ↓reduceIte, Nat.reduceEqDiff, ne_eq, reduceCtorEq, fcT, f0, f5, f6, c0, c1, c2, c3, z3, d0, Int.toNat_zero, Nat.zero_mul, Int.natCast_add, Int.natCast_one], hs, by omega, ?_⟩
           intro i hi
           rcases Nat.lt_succ_iff_lt_or_eq.1 hi with hi | rfl
           · exact hall i hi
           · exact ⟨by with_reducible assumption, by omega, by omega⟩)
    · have hkn : k = n := by simp at b1; omega
      subst hkn
      simp (disch := omega) only [bsW, WOp, WOq, WV, bo, eqN, gdc, gw, bnd, ↓reduceIte, Nat.reduceEqDiff, rsvs, rsv, oneOf, rdN, ne_eq, Nat.reduceAdd, Nat.reduceMul, Nat.reduceLT, reduceCtorEq, Value.cells, setN, Value.oneCell', Nat.reduceLeDiff, undef, fcT, f0, f5, f6, b1]
      exact Is_e (by rw [exsB_end hall]) hs
  · rintro fr H' nx' ⟨k, hm, _⟩; omega
  · exact ⟨0, by omega, by omega, by simp (disch := omega) only [bsW, ↓reduceIte, Nat.reduceEqDiff, ne_eq, reduceCtorEq, fcT], by simp (disch := omega) only [bsW, ↓reduceIte, Nat.reduceEqDiff, ne_eq, reduceCtorEq, fcT], by simp (disch := omega) only [bsW, ↓reduceIte, Nat.reduceEqDiff, ne_eq, reduceCtorEq, fcT, Int.natCast_zero], Sub.refl _, by omega, by intro i hi; omega⟩

theorem l23Good (A : Option Addr) (n c : Nat) (s : Shw) (H : Hp) (nx : Nat) (hn : n ≤ 17592186044416) (h : RdS H A n s) (hw : szOk n s) :
    PC Tryd.prog 109 #[.slice A n c] H nx (.bool (exsB n s)) := by
  refine AC_of x_spec_l23Good rfl fun hB => ?_
  simp (disch := omega) only [bsW, WOp, WOq, WV, bo, eqN, gdc, gw, bnd, ↓reduceIte, Nat.reduceEqDiff, rsvs, rsv, oneOf, rdN, ne_eq, Nat.reduceAdd, Nat.reduceMul, Nat.reduceLT, reduceCtorEq, Value.cells, setN, Value.oneCell', Nat.reduceLeDiff, undef, fcT, c_spec_l23Good]
  refine LpE_rule (fun m fr H' nx' => ∃ k : Nat, m = n - k + 1 ∧ k ≤ n ∧ fr 0 = .slice A n c ∧ fr 3 = .int .i64 k ∧ Sub H H' ∧ nx ≤ nx' ∧ ∀ i, i < k → exOk s i) ?_ ?_ (n + 1) ?_
  · rintro m K hK fr H' nx' ⟨k, hm, hk, f0, f3, hs, hx, hall⟩
    simp (disch := omega) only [bsW, WOp, WOq, WV, bo, eqN, gdc, gw, bnd, ↓reduceIte, Nat.reduceEqDiff, rsvs, rsv, oneOf, rdN, ne_eq, Nat.reduceAdd, Nat.reduceMul, Nat.reduceLT, reduceCtorEq, Value.cells, setN, Value.oneCell', Nat.reduceLeDiff, undef, fcT, f0, f3]
    refine gif_split (fun b1 => ?_) (fun b1 => ?_)
    · have hlt : k < n := by simpa using b1
      obtain ⟨B, d, h1, h2⟩ := (h.sub hs).ex
      obtain ⟨b, off, rfl, hc⟩ := h1.at_ (by omega)
      obtain ⟨hd, hR⟩ := h2 k hlt
      obtain ⟨hw1, hw2⟩ := hw k hlt
      have hw20 := (hw 0 (by omega)).2
      have c0 : rd H' b (off + k * 4) = some (.int .i64 (s.id k)) := hc k 0 hlt (by omega)
      have c1 : rd H' b (off + k * 4 + 1) = some (.string (s.title k)) := hc k 1 hlt (by omega)
      have c2 : rd H' b (off + k * 4 + 2) = some (.int .i64 (s.fr k)) := hc k 2 hlt (by omega)
      have c3 : rd H' b (off + k * 4 + 3) = some (.slice (B k) (s.m k) (d k)) := hc k 3 hlt (by omega)
      have z3 : rd H' b (off + 3) = some (.slice (B 0) (s.m 0) (d 0)) := by have e := hc 0 3 (by omega) (by omega); rw [Nat.zero_mul, Nat.add_zero] at e; exact e
      have d0 : 0 < k → rd H' b (off + (k - 1) * 4) = some (.int .i64 (s.id (k - 1))) := fun _ => hc (k - 1) 0 (by omega) (by omega)
      simp (disch := omega) only [bsW, WOp, WOq, WV, bo, eqN, gdc, gw, bnd, ↓reduceIte, Nat.reduceEqDiff, rsvs, rsv, oneOf, rdN, ne_eq, Nat.reduceAdd, Nat.reduceMul, Nat.reduceLT, reduceCtorEq, Value.cells, setN, Value.oneCell', Nat.reduceLeDiff, undef, fcT, f0, f3, c0, c1, c2, c3, z3, d0, Int.toNat_zero, Nat.zero_mul, b1]
      (repeat' (first | ((with_reducible refine gif_split (fun hs_ => ?_) (fun hs_ => ?_)) <;> (have hp_ := hs_; (try simp only [hpL, ne_eq] at hp_); (try simp (disch := omega) only [bsW, WOp, WOq, WV, bo, eqN, gdc, gw, bnd, ↓reduceIte, Nat.reduceEqDiff, rsvs, rsv, oneOf, rdN, ne_eq, Nat.reduceAdd, Nat.reduceMul, Nat.reduceLT, reduceCtorEq, Value.cells, setN, Value.oneCell', Nat.reduceLeDiff, undef, fcT, f0, f3, c0, c1, c2, c3, z3, d0, Int.toNat_zero, Nat.zero_mul, hs_]))) | ((first | (with_reducible refine newB_i (fun nb_ hb_ => ?_)) | ((with_reducible show QC _ _ _ _ _ _); (first | (refine QC_i (l23One _ _ _ _ _ _ _ _ _ hw1 hw2 hR) ?_))) | ((with_reducible show AC _ _ _ _ _ _); (first | (refine PC.ac (l23One _ _ _ _ _ _ _ _ _ hw1 hw2 hR) ?_))) | (with_reducible refine RgE_i (fun (hBd_ : Bd _ _) => ?_))); (try simp (disch := omega) only [bsW, WOp, WOq, WV, bo, eqN, gdc, gw, bnd, ↓reduceIte, Nat.reduceEqDiff, rsvs, rsv, oneOf, rdN, ne_eq, Nat.reduceAdd, Nat.reduceMul, Nat.reduceLT, reduceCtorEq, Value.cells, setN, Value.oneCell', Nat.reduceLeDiff, undef, fcT, f0, f3, c0, c1, c2, c3, z3, d0, Int.toNat_zero, Nat.zero_mul])) | (with_reducible refine fun (hBd_ : Bd _ _) => ?_) | ((first | (with_reducible refine @And.intro (Sub _ _) _ ?_ ?_) | ((with_reducible refine @And.intro (Sub _ _ ∧ _) _ ?_ ?_); (with_reducible refine @And.intro (Sub _ _) _ ?_ ?_))); exact sbX) | ((with_reducible refine And.intro ?_ ?_); omega)))
      all_goals try (exfalso; omega)
      all_goals first
        | (refine Is_e (congrArg Value.bool (exsB_no hlt ?_).symm) hs
           rintro ⟨g1, g2, g3⟩
           first
           | (simp_all; done)
           | omega
           | (have := g3 (by omega)
              omega))
        | (refine hK _ _ _ ?_
           refine ⟨k + 1, by omega, by omega, by simp (disch := omega) only [bsW, ↓reduceIte, Nat.reduceEqDiff, ne_eq, reduceCtorEq, fcT, f0, f3, c0, c1, c2, c3, z3, d0, Int.toNat_zero, Nat.zero_mul], by simp (disch := omega) only [bsW, ↓reduceIte, Nat.reduceEqDiff, ne_eq, reduceCtorEq, fcT, f0, f3, c0, c1, c2, c3, z3, d0, Int.toNat_zero, Nat.zero_mul, Int.natCast_add, Int.natCast_one], hs, by omega, ?_⟩
           intro i hi
           rcases Nat.lt_succ_iff_lt_or_eq.1 hi with hi | rfl
           · exact hall i hi
           · exact ⟨by with_reducible assumption, by omega, by omega⟩)
    · have hkn : k = n := by simp at b1; omega
      subst hkn
      simp (disch := omega) only [bsW, WOp, WOq, WV, bo, eqN, gdc, gw, bnd, ↓reduceIte, Nat.reduceEqDiff, rsvs, rsv, oneOf, rdN, ne_eq, Nat.reduceAdd, Nat.reduceMul, Nat.reduceLT, reduceCtorEq, Value.cells, setN, Value.oneCell', Nat.reduceLeDiff, undef, fcT, f0, f3, b1]
      exact Is_e (by rw [exsB_end hall]) hs
  · rintro fr H' nx' ⟨k, hm, _⟩; omega
  · exact ⟨0, by omega, by omega, by simp (disch := omega) only [bsW, ↓reduceIte, Nat.reduceEqDiff, ne_eq, reduceCtorEq, fcT], by simp (disch := omega) only [bsW, ↓reduceIte, Nat.reduceEqDiff, ne_eq, reduceCtorEq, fcT, Int.natCast_zero], Sub.refl _, by omega, by intro i hi; omega⟩

theorem AreExhibits (A : Option Addr) (n c : Nat) (s : Shw) (H : Hp) (nx : Nat) (hn : n ≤ 17592186044416) (h : RdS H A n s) (hw : szOk n s) :
    PC Tryd.prog 60 #[.slice A n c] H nx (.bool (exsB n s)) := by
  refine AC_of x_impl_AreExhibits rfl fun hB => ?_
  simp (disch := omega) only [bsW, WOp, WOq, WV, bo, eqN, gdc, gw, bnd, ↓reduceIte, Nat.reduceEqDiff, rsvs, rsv, oneOf, rdN, ne_eq, Nat.reduceAdd, Nat.reduceMul, Nat.reduceLT, reduceCtorEq, Value.cells, setN, Value.oneCell', Nat.reduceLeDiff, undef, fcT, c_impl_AreExhibits]
  (repeat' (first | ((with_reducible refine gif_split (fun hs_ => ?_) (fun hs_ => ?_)) <;> (have hp_ := hs_; (try simp only [hpL, ne_eq] at hp_); (try simp (disch := omega) only [bsW, WOp, WOq, WV, bo, eqN, gdc, gw, bnd, ↓reduceIte, Nat.reduceEqDiff, rsvs, rsv, oneOf, rdN, ne_eq, Nat.reduceAdd, Nat.reduceMul, Nat.reduceLT, reduceCtorEq, Value.cells, setN, Value.oneCell', Nat.reduceLeDiff, undef, fcT, hs_]))) | ((first | (with_reducible refine newB_i (fun nb_ hb_ => ?_)) | ((with_reducible show QC _ _ _ _ _ _); (first | (refine QC_i (areExhibits _ _ _ s _ _ hn h hw) ?_))) | ((with_reducible show AC _ _ _ _ _ _); (first | (refine PC.ac (areExhibits _ _ _ s _ _ hn h hw) ?_))) | (with_reducible refine RgE_i (fun (hBd_ : Bd _ _) => ?_))); (try simp (disch := omega) only [bsW, WOp, WOq, WV, bo, eqN, gdc, gw, bnd, ↓reduceIte, Nat.reduceEqDiff, rsvs, rsv, oneOf, rdN, ne_eq, Nat.reduceAdd, Nat.reduceMul, Nat.reduceLT, reduceCtorEq, Value.cells, setN, Value.oneCell', Nat.reduceLeDiff, undef, fcT])) | (with_reducible refine fun (hBd_ : Bd _ _) => ?_) | ((first | (with_reducible refine @And.intro (Sub _ _) _ ?_ ?_) | ((with_reducible refine @And.intro (Sub _ _ ∧ _) _ ?_ ?_); (with_reducible refine @And.intro (Sub _ _) _ ?_ ?_))); exact sbX) | ((with_reducible refine And.intro ?_ ?_); omega)))
  exact Is_i (Sub.refl H)

theorem sAreExhibits (A : Option Addr) (n c : Nat) (s : Shw) (H : Hp) (nx : Nat) (hn : n ≤ 17592186044416) (h : RdS H A n s) (hw : szOk n s) :
    PC Tryd.prog 61 #[.slice A n c] H nx (.bool (exsB n s)) := by
  refine AC_of x_spec_AreExhibits rfl fun hB => ?_
  simp (disch := omega) only [bsW, WOp, WOq, WV, bo, eqN, gdc, gw, bnd, ↓reduceIte, Nat.reduceEqDiff, rsvs, rsv, oneOf, rdN, ne_eq, Nat.reduceAdd, Nat.reduceMul, Nat.reduceLT, reduceCtorEq, Value.cells, setN, Value.oneCell', Nat.reduceLeDiff, undef, fcT, c_spec_AreExhibits]
  (repeat' (first | ((with_reducible refine gif_split (fun hs_ => ?_) (fun hs_ => ?_)) <;> (have hp_ := hs_; (try simp only [hpL, ne_eq] at hp_); (try simp (disch := omega) only [bsW, WOp, WOq, WV, bo, eqN, gdc, gw, bnd, ↓reduceIte, Nat.reduceEqDiff, rsvs, rsv, oneOf, rdN, ne_eq, Nat.reduceAdd, Nat.reduceMul, Nat.reduceLT, reduceCtorEq, Value.cells, setN, Value.oneCell', Nat.reduceLeDiff, undef, fcT, hs_]))) | ((first | (with_reducible refine newB_i (fun nb_ hb_ => ?_)) | ((with_reducible show QC _ _ _ _ _ _); (first | (refine QC_i (l23Good _ _ _ s _ _ hn h hw) ?_))) | ((with_reducible show AC _ _ _ _ _ _); (first | (refine PC.ac (l23Good _ _ _ s _ _ hn h hw) ?_))) | (with_reducible refine RgE_i (fun (hBd_ : Bd _ _) => ?_))); (try simp (disch := omega) only [bsW, WOp, WOq, WV, bo, eqN, gdc, gw, bnd, ↓reduceIte, Nat.reduceEqDiff, rsvs, rsv, oneOf, rdN, ne_eq, Nat.reduceAdd, Nat.reduceMul, Nat.reduceLT, reduceCtorEq, Value.cells, setN, Value.oneCell', Nat.reduceLeDiff, undef, fcT])) | (with_reducible refine fun (hBd_ : Bd _ _) => ?_) | ((first | (with_reducible refine @And.intro (Sub _ _) _ ?_ ?_) | ((with_reducible refine @And.intro (Sub _ _ ∧ _) _ ?_ ?_); (with_reducible refine @And.intro (Sub _ _) _ ?_ ?_))); exact sbX) | ((with_reducible refine And.intro ?_ ?_); omega)))
  exact Is_i (Sub.refl H)
end Go.Proofs.YtnjlleopgjggpaaDoor
