/- FirstAbove. -/
import Derived.Test.YtgjkjibllgpnjaaP3
set_option linter.unusedVariables false
set_option linter.unusedSimpArgs false
set_option maxRecDepth 100000
set_option maxHeartbeats 1000000
namespace Go.Proofs.Ytgjkjibllgpnjaa
open Go Go.RowKit Go.Proofs

noncomputable def faGo (n : Nat) (f : Nat → Nat → Int) (item cents : Int) : Nat → Int → Option Int
  | 0, _ => none
  | F + 1, y => if y ≤ 2100 then (if cents ≤ priceV n f item y then some y else faGo n f item cents F (y + 1)) else none
def vOpt : Option Int → Value
  | some b => .tuple #[.int .i64 b, .bool true]
  | none => .tuple #[.int .i64 0, .bool false]
noncomputable def vFirst (n : Nat) (f : Nat → Nat → Int) (item cents : Int) : Value :=
  if prsB n f = true ∧ inR item 1 999 = true ∧ inR cents 1 10000000 = true then vOpt (faGo n f item cents 261 1840) else vOpt none

theorem FirstAbove (A : Option Addr) (n c : Nat) (f : Nat → Nat → Int) (item cents : Int) (H : Hp) (nx : Nat) (hn : n ≤ 17592186044416) (h : Rd H A n 3 f) :
    PC Try.prog 24 #[.slice A n c, .int .i64 item, .int .i64 cents] H nx (vFirst n f item cents) := by
  refine AC_of x_impl_FirstAbove rfl fun hB => ?_
  simp (disch := omega) only [bsW, WOp, WOq, WV, bo, eqN, gdc, gw, bnd, ↓reduceIte, Nat.reduceEqDiff, rsvs, rsv, oneOf, rdN, ne_eq, Nat.reduceAdd, Nat.reduceMul, Nat.reduceLT, reduceCtorEq, Value.cells, setN, Value.oneCell', Nat.reduceLeDiff, undef, fcT, c_impl_FirstAbove]
  (repeat' (first | ((with_reducible refine gif_split (fun hs_ => ?_) (fun hs_ => ?_)) <;> (have hp_ := hs_; (try simp only [hpL, ne_eq] at hp_); (try simp (disch := omega) only [bsW, WOp, WOq, WV, bo, eqN, gdc, gw, bnd, ↓reduceIte, Nat.reduceEqDiff, rsvs, rsv, oneOf, rdN, ne_eq, Nat.reduceAdd, Nat.reduceMul, Nat.reduceLT, reduceCtorEq, Value.cells, setN, Value.oneCell', Nat.reduceLeDiff, undef, fcT, hs_]))) | ((first | (with_reducible refine newB_i (fun nb_ hb_ => ?_)) | ((with_reducible show QC _ _ _ _ _ _); (first | (refine QC_i (arePrices A n c f _ _ hn h) ?_) | (refine QC_i (isItem _ _ _) ?_) | (refine QC_i (inRange _ _ _ _ _) ?_))) | ((with_reducible show AC _ _ _ _ _ _); (first | (refine PC.ac (arePrices A n c f _ _ hn h) ?_) | (refine PC.ac (isItem _ _ _) ?_) | (refine PC.ac (inRange _ _ _ _ _) ?_))) | (with_reducible refine RgE_i (fun (hBd_ : Bd _ _) => ?_))); (try simp (disch := omega) only [bsW, WOp, WOq, WV, bo, eqN, gdc, gw, bnd, ↓reduceIte, Nat.reduceEqDiff, rsvs, rsv, oneOf, rdN, ne_eq, Nat.reduceAdd, Nat.reduceMul, Nat.reduceLT, reduceCtorEq, Value.cells, setN, Value.oneCell', Nat.reduceLeDiff, undef, fcT])) | (with_reducible refine fun (hBd_ : Bd _ _) => ?_) | ((first | (with_reducible refine @And.intro (Sub _ _) _ ?_ ?_) | ((with_reducible refine @And.intro (Sub _ _ ∧ _) _ ?_ ?_); (with_reducible refine @And.intro (Sub _ _) _ ?_ ?_))); exact sbX) | ((with_reducible refine And.intro ?_ ?_); omega)))
  all_goals try (exfalso; omega)
  all_goals try (exact Is_e (by rw [vFirst, if_neg (by simp_all)]; rfl) (Sub.refl H))
  have hv : vFirst n f item cents = vOpt (faGo n f item cents 261 1840) := by rw [vFirst, if_pos ⟨by with_reducible assumption, by with_reducible assumption, by with_reducible assumption⟩]
  have hok := prsB_iff.1 (show prsB n f = true by with_reducible assumption)
  have hc := inR_true.1 (show inR cents 1 10000000 = true by with_reducible assumption)
  rw [hv]
  refine LpE_rule (fun m fr H' nx' => ∃ (F : Nat) (y : Int), m = F + 1 ∧ fr 0 = .slice A n c ∧ fr 1 = .int .i64 item ∧ fr 2 = .int .i64 cents ∧ fr 8 = .int .i64 y ∧
    1840 ≤ y ∧ y + F = 2101 ∧ faGo n f item cents F y = faGo n f item cents 261 1840 ∧ Sub H H' ∧ nx ≤ nx') ?_ ?_ (261 + 1) ?_
  · rintro m K hK fr H' nx' ⟨F, y, hm, f0, f1, f2, f8, hy1, hy2, hgo, hs, hx⟩
    simp (disch := omega) only [bsW, WOp, WOq, WV, bo, eqN, gdc, gw, bnd, ↓reduceIte, Nat.reduceEqDiff, rsvs, rsv, oneOf, rdN, ne_eq, Nat.reduceAdd, Nat.reduceMul, Nat.reduceLT, reduceCtorEq, Value.cells, setN, Value.oneCell', Nat.reduceLeDiff, undef, fcT, f0, f1, f2, f8]
    refine gif_split (fun b1 => ?_) (fun b1 => ?_)
    · have hyle : y ≤ 2100 := by simpa using b1
      obtain ⟨F, rfl⟩ : ∃ F', F = F' + 1 := ⟨F - 1, by omega⟩
      have e : faGo n f item cents (F + 1) y = if cents ≤ priceV n f item y then some y else faGo n f item cents F (y + 1) := by simp only [faGo]; rw [if_pos hyle]
      rw [e] at hgo
      simp (disch := omega) only [bsW, WOp, WOq, WV, bo, eqN, gdc, gw, bnd, ↓reduceIte, Nat.reduceEqDiff, rsvs, rsv, oneOf, rdN, ne_eq, Nat.reduceAdd, Nat.reduceMul, Nat.reduceLT, reduceCtorEq, Value.cells, setN, Value.oneCell', Nat.reduceLeDiff, undef, fcT, f0, f1, f2, f8, b1]
      (repeat' (first | ((with_reducible refine gif_split (fun hs_ => ?_) (fun hs_ => ?_)) <;> (have hp_ := hs_; (try simp only [hpL, ne_eq] at hp_); (try simp (disch := omega) only [bsW, WOp, WOq, WV, bo, eqN, gdc, gw, bnd, ↓reduceIte, Nat.reduceEqDiff, rsvs, rsv, oneOf, rdN, ne_eq, Nat.reduceAdd, Nat.reduceMul, Nat.reduceLT, reduceCtorEq, Value.cells, setN, Value.oneCell', Nat.reduceLeDiff, undef, fcT, f0, f1, f2, f8, hs_]))) | ((first | (with_reducible refine newB_i (fun nb_ hb_ => ?_)) | ((with_reducible show QC _ _ _ _ _ _); (first | (refine QC_i (priceIn A n c f item y _ _ hok (by omega) (h.sub hs)) ?_))) | ((with_reducible show AC _ _ _ _ _ _); (first | (refine PC.ac (priceIn A n c f item y _ _ hok (by omega) (h.sub hs)) ?_))) | (with_reducible refine RgE_i (fun (hBd_ : Bd _ _) => ?_))); (try simp (disch := omega) only [bsW, WOp, WOq, WV, bo, eqN, gdc, gw, bnd, ↓reduceIte, Nat.reduceEqDiff, rsvs, rsv, oneOf, rdN, ne_eq, Nat.reduceAdd, Nat.reduceMul, Nat.reduceLT, reduceCtorEq, Value.cells, setN, Value.oneCell', Nat.reduceLeDiff, undef, fcT, f0, f1, f2, f8])) | (with_reducible refine fun (hBd_ : Bd _ _) => ?_) | ((first | (with_reducible refine @And.intro (Sub _ _) _ ?_ ?_) | ((with_reducible refine @And.intro (Sub _ _ ∧ _) _ ?_ ?_); (with_reducible refine @And.intro (Sub _ _) _ ?_ ?_))); exact sbX) | ((with_reducible refine And.intro ?_ ?_); omega)))
      all_goals try (exfalso; omega)
      all_goals first
        | (rw [if_pos (by omega)] at hgo
           exact Is_e (by rw [← hgo]; rfl) hs)
        | (rw [if_neg (by omega)] at hgo
           refine hK _ _ _ ?_
           exact ⟨F, y + 1, by omega, by simp (disch := omega) only [bsW, ↓reduceIte, Nat.reduceEqDiff, ne_eq, reduceCtorEq, fcT, f0, f1, f2, f8], by simp (disch := omega) only [bsW, ↓reduceIte, Nat.reduceEqDiff, ne_eq, reduceCtorEq, fcT, f0, f1, f2, f8], by simp (disch := omega) only [bsW, ↓reduceIte, Nat.reduceEqDiff, ne_eq, reduceCtorEq, fcT, f0, f1, f2, f8], by simp (disch := omega) only [bsW, ↓reduceIte, Nat.reduceEqDiff, ne_eq, reduceCtorEq, fcT, f0, f1, f2, f8], by omega, by omega, hgo, hs, by omega⟩)
    · simp (disch := omega) only [bsW, WOp, WOq, WV, bo, eqN, gdc, gw, bnd, ↓reduceIte, Nat.reduceEqDiff, rsvs, rsv, oneOf, rdN, ne_eq, Nat.reduceAdd, Nat.reduceMul, Nat.reduceLT, reduceCtorEq, Value.cells, setN, Value.oneCell', Nat.reduceLeDiff, undef, fcT, f0, f1, f2, f8, b1]
      have hyle : ¬ y ≤ 2100 := by simpa using b1
      refine Is_e ?_ hs
      rw [← hgo]
      cases F with
      | zero => rfl
      | succ F => omega
  · rintro fr H' nx' ⟨F, y, hm, _⟩; omega
  · exact ⟨261, 1840, rfl, by simp (disch := omega) only [bsW, ↓reduceIte, Nat.reduceEqDiff, ne_eq, reduceCtorEq, fcT], by simp (disch := omega) only [bsW, ↓reduceIte, Nat.reduceEqDiff, ne_eq, reduceCtorEq, fcT], by simp (disch := omega) only [bsW, ↓reduceIte, Nat.reduceEqDiff, ne_eq, reduceCtorEq, fcT], by simp (disch := omega) only [bsW, ↓reduceIte, Nat.reduceEqDiff, ne_eq, reduceCtorEq, fcT], by omega, by omega, rfl, Sub.refl _, by omega⟩

theorem sFirstAbove (A : Option Addr) (n c : Nat) (f : Nat → Nat → Int) (item cents : Int) (H : Hp) (nx : Nat) (hn : n ≤ 17592186044416) (h : Rd H A n 3 f) :
    PC Try.prog 23 #[.slice A n c, .int .i64 item, .int .i64 cents] H nx (vFirst n f item cents) := by
  refine AC_of x_spec_FirstAbove rfl fun hB => ?_
  simp (disch := omega) only [bsW, WOp, WOq, WV, bo, eqN, gdc, gw, bnd, ↓reduceIte, Nat.reduceEqDiff, rsvs, rsv, oneOf, rdN, ne_eq, Nat.reduceAdd, Nat.reduceMul, Nat.reduceLT, reduceCtorEq, Value.cells, setN, Value.oneCell', Nat.reduceLeDiff, undef, fcT, c_spec_FirstAbove]
  (repeat' (first | ((with_reducible refine gif_split (fun hs_ => ?_) (fun hs_ => ?_)) <;> (have hp_ := hs_; (try simp only [hpL, ne_eq] at hp_); (try simp (disch := omega) only [bsW, WOp, WOq, WV, bo, eqN, gdc, gw, bnd, ↓reduceIte, Nat.reduceEqDiff, rsvs, rsv, oneOf, rdN, ne_eq, Nat.reduceAdd, Nat.reduceMul, Nat.reduceLT, reduceCtorEq, Value.cells, setN, Value.oneCell', Nat.reduceLeDiff, undef, fcT, hs_]))) | ((first | (with_reducible refine newB_i (fun nb_ hb_ => ?_)) | ((with_reducible show QC _ _ _ _ _ _); (first | (refine QC_i (l24Good A n c f _ _ hn h) ?_) | (refine QC_i (l24Item _ _ _) ?_) | (refine QC_i (l24Cents _ _ _) ?_))) | ((with_reducible show AC _ _ _ _ _ _); (first | (refine PC.ac (l24Good A n c f _ _ hn h) ?_) | (refine PC.ac (l24Item _ _ _) ?_) | (refine PC.ac (l24Cents _ _ _) ?_))) | (with_reducible refine RgE_i (fun (hBd_ : Bd _ _) => ?_))); (try simp (disch := omega) only [bsW, WOp, WOq, WV, bo, eqN, gdc, gw, bnd, ↓reduceIte, Nat.reduceEqDiff, rsvs, rsv, oneOf, rdN, ne_eq, Nat.reduceAdd, Nat.reduceMul, Nat.reduceLT, reduceCtorEq, Value.cells, setN, Value.oneCell', Nat.reduceLeDiff, undef, fcT])) | (with_reducible refine fun (hBd_ : Bd _ _) => ?_) | ((first | (with_reducible refine @And.intro (Sub _ _) _ ?_ ?_) | ((with_reducible refine @And.intro (Sub _ _ ∧ _) _ ?_ ?_); (with_reducible refine @And.intro (Sub _ _) _ ?_ ?_))); exact sbX) | ((with_reducible refine And.intro ?_ ?_); omega)))
  all_goals try (exfalso; omega)
  all_goals try (exact Is_e (by rw [vFirst, if_neg (by simp_all)]; rfl) (Sub.refl H))
  have hv : vFirst n f item cents = vOpt (faGo n f item cents 261 1840) := by rw [vFirst, if_pos ⟨by with_reducible assumption, by with_reducible assumption, by with_reducible assumption⟩]
  have hok := prsB_iff.1 (show prsB n f = true by with_reducible assumption)
  have hc := inR_true.1 (show inR cents 1 10000000 = true by with_reducible assumption)
  rw [hv]
  refine LpE_rule (fun m fr H' nx' => ∃ (F : Nat) (y : Int), m = F + 1 ∧ fr 0 = .slice A n c ∧ fr 1 = .int .i64 item ∧ fr 2 = .int .i64 cents ∧ fr 8 = .int .i64 y ∧
    1840 ≤ y ∧ y + F = 2101 ∧ faGo n f item cents F y = faGo n f item cents 261 1840 ∧ Sub H H' ∧ nx ≤ nx') ?_ ?_ (261 + 1) ?_
  · rintro m K hK fr H' nx' ⟨F, y, hm, f0, f1, f2, f8, hy1, hy2, hgo, hs, hx⟩
    simp (disch := omega) only [bsW, WOp, WOq, WV, bo, eqN, gdc, gw, bnd, ↓reduceIte, Nat.reduceEqDiff, rsvs, rsv, oneOf, rdN, ne_eq, Nat.reduceAdd, Nat.reduceMul, Nat.reduceLT, reduceCtorEq, Value.cells, setN, Value.oneCell', Nat.reduceLeDiff, undef, fcT, f0, f1, f2, f8]
    refine gif_split (fun b1 => ?_) (fun b1 => ?_)
    · have hyle : y ≤ 2100 := by simpa using b1
      obtain ⟨F, rfl⟩ : ∃ F', F = F' + 1 := ⟨F - 1, by omega⟩
      have e : faGo n f item cents (F + 1) y = if cents ≤ priceV n f item y then some y else faGo n f item cents F (y + 1) := by simp only [faGo]; rw [if_pos hyle]
      rw [e] at hgo
      simp (disch := omega) only [bsW, WOp, WOq, WV, bo, eqN, gdc, gw, bnd, ↓reduceIte, Nat.reduceEqDiff, rsvs, rsv, oneOf, rdN, ne_eq, Nat.reduceAdd, Nat.reduceMul, Nat.reduceLT, reduceCtorEq, Value.cells, setN, Value.oneCell', Nat.reduceLeDiff, undef, fcT, f0, f1, f2, f8, b1]
      (repeat' (first | ((with_reducible refine gif_split (fun hs_ => ?_) (fun hs_ => ?_)) <;> (have hp_ := hs_; (try simp only [hpL, ne_eq] at hp_); (try simp (disch := omega) only [bsW, WOp, WOq, WV, bo, eqN, gdc, gw, bnd, ↓reduceIte, Nat.reduceEqDiff, rsvs, rsv, oneOf, rdN, ne_eq, Nat.reduceAdd, Nat.reduceMul, Nat.reduceLT, reduceCtorEq, Value.cells, setN, Value.oneCell', Nat.reduceLeDiff, undef, fcT, f0, f1, f2, f8, hs_]))) | ((first | (with_reducible refine newB_i (fun nb_ hb_ => ?_)) | ((with_reducible show QC _ _ _ _ _ _); (first | (refine QC_i (l24Price A n c f item y _ _ hok (by omega) (h.sub hs)) ?_))) | ((with_reducible show AC _ _ _ _ _ _); (first | (refine PC.ac (l24Price A n c f item y _ _ hok (by omega) (h.sub hs)) ?_))) | (with_reducible refine RgE_i (fun (hBd_ : Bd _ _) => ?_))); (try simp (disch := omega) only [bsW, WOp, WOq, WV, bo, eqN, gdc, gw, bnd, ↓reduceIte, Nat.reduceEqDiff, rsvs, rsv, oneOf, rdN, ne_eq, Nat.reduceAdd, Nat.reduceMul, Nat.reduceLT, reduceCtorEq, Value.cells, setN, Value.oneCell', Nat.reduceLeDiff, undef, fcT, f0, f1, f2, f8])) | (with_reducible refine fun (hBd_ : Bd _ _) => ?_) | ((first | (with_reducible refine @And.intro (Sub _ _) _ ?_ ?_) | ((with_reducible refine @And.intro (Sub _ _ ∧ _) _ ?_ ?_); (with_reducible refine @And.intro (Sub _ _) _ ?_ ?_))); exact sbX) | ((with_reducible refine And.intro ?_ ?_); omega)))
      all_goals try (exfalso; omega)
      all_goals first
        | (rw [if_pos (by omega)] at hgo
           exact Is_e (by rw [← hgo]; rfl) hs)
        | (rw [if_neg (by omega)] at hgo
           refine hK _ _ _ ?_
           exact ⟨F, y + 1, by omega, by simp (disch := omega) only [bsW, ↓reduceIte, Nat.reduceEqDiff, ne_eq, reduceCtorEq, fcT, f0, f1, f2, f8], by simp (disch := omega) only [bsW, ↓reduceIte, Nat.reduceEqDiff, ne_eq, reduceCtorEq, fcT, f0, f1, f2, f8], by simp (disch := omega) only [bsW, ↓reduceIte, Nat.reduceEqDiff, ne_eq, reduceCtorEq, fcT, f0, f1, f2, f8], by simp (disch := omega) only [bsW, ↓reduceIte, Nat.reduceEqDiff, ne_eq, reduceCtorEq, fcT, f0, f1, f2, f8], by omega, by omega, hgo, hs, by omega⟩)
    · simp (disch := omega) only [bsW, WOp, WOq, WV, bo, eqN, gdc, gw, bnd, ↓reduceIte, Nat.reduceEqDiff, rsvs, rsv, oneOf, rdN, ne_eq, Nat.reduceAdd, Nat.reduceMul, Nat.reduceLT, reduceCtorEq, Value.cells, setN, Value.oneCell', Nat.reduceLeDiff, undef, fcT, f0, f1, f2, f8, b1]
      have hyle : ¬ y ≤ 2100 := by simpa using b1
      refine Is_e ?_ hs
      rw [← hgo]
      cases F with
      | zero => rfl
      | succ F => omega
  · rintro fr H' nx' ⟨F, y, hm, _⟩; omega
  · exact ⟨261, 1840, rfl, by simp (disch := omega) only [bsW, ↓reduceIte, Nat.reduceEqDiff, ne_eq, reduceCtorEq, fcT], by simp (disch := omega) only [bsW, ↓reduceIte, Nat.reduceEqDiff, ne_eq, reduceCtorEq, fcT], by simp (disch := omega) only [bsW, ↓reduceIte, Nat.reduceEqDiff, ne_eq, reduceCtorEq, fcT], by simp (disch := omega) only [bsW, ↓reduceIte, Nat.reduceEqDiff, ne_eq, reduceCtorEq, fcT], by omega, by omega, rfl, Sub.refl _, by omega⟩
end Go.Proofs.Ytgjkjibllgpnjaa
