/- The shortest circle. -/
import Derived.Test.YtnaldmmdhpobgaaDoorV13
set_option linter.unusedVariables false
set_option linter.unusedSimpArgs false
set_option maxRecDepth 100000
set_option maxHeartbeats 1000000
namespace Go.Proofs.YtnaldmmdhpobgaaDoor
open Go Go.RowKit Go.Proofs

theorem llAt {H : Hp} {lo hi : Nat} {ls : List (List Int)} {te ti : TypeId} {v : Value} (h : OwnLL H lo hi ls te ti v) {k : Nat} (hk : k < ls.length) :
    ∃ b c B d, v = .slice (some ⟨b, 0, none⟩) ls.length c ∧ rd H b k = some (.slice (some ⟨B, 0, none⟩) (rowOf ls k).length d) ∧ OwnL H lo hi (rowOf ls k) ti (.slice (some ⟨B, 0, none⟩) (rowOf ls k).length d) := by
  rcases h.ex with ⟨_, rfl⟩ | ⟨b, cap, sp, B, d, rfl, h1, h2, h3, h4, h5, h6, h7, h8⟩
  · simp at hk
  · refine ⟨b, cap, B k, d k, rfl, ?_, (h7 k hk).2⟩
    rw [rd_rw h6]
    have := flatV_get (n := ls.length) (k := 1) (g := rowsV ls (fun i => some ⟨B i, 0, none⟩) d) hk (show 0 < 1 by omega)
    rw [Nat.mul_one, Nat.add_zero] at this
    rw [List.getElem?_append_left (by rw [flatV_length]; omega), this]
    rfl
/-- The first one of the shortest. -/
def shG (ls : List (List Int)) : Nat → List Int
  | 0 => []
  | k + 1 => if (shG ls k).length = 0 ∨ (rowOf ls k).length < (shG ls k).length then rowOf ls k else shG ls k
noncomputable def shV (N : Int) (m : Nat) (f : Nat → Nat → Int) : List Int := if wssB N m f = true then shG (allC N.toNat m f N.toNat) (allC N.toNat m f N.toNat).length else []
noncomputable def shB (N : Int) (m : Nat) (f : Nat → Nat → Int) : Bool := decide (0 < (shV N m f).length)
theorem allC_row {n m : Nat} {f : Nat → Nat → Int} {i : Nat} (hi : i < (allC n m f n).length) : 2 ≤ (rowOf (allC n m f n) i).length ∧ ((rowOf (allC n m f n) i).length : Int) ≤ n := by
  have h := allC_ok n (Nat.le_refl _) _ (rowOf_mem hi)
  exact h.1.2
theorem shG_len {n m : Nat} {f : Nat → Nat → Int} : ∀ k : Nat, k ≤ (allC n m f n).length → (shG (allC n m f n) k).length ≤ n
  | 0, _ => by simp [shG]
  | k + 1, h => by
    have h1 := shG_len k (show k ≤ (allC n m f n).length by omega)
    have h2 := allC_row (show k < (allC n m f n).length by omega)
    simp only [shG]
    split <;> omega
theorem shV_len (N : Int) (m : Nat) (f : Nat → Nat → Int) : (shV N m f).length ≤ 8 := by
  unfold shV
  split
  · rename_i h
    have := (wssB_iff.1 h).1
    have := shG_len (n := N.toNat) (m := m) (f := f) _ (Nat.le_refl _)
    omega
  · simp
/-- A row, and whether it is told. -/
structure LFlag (H : Hp) (nx : Nat) (l : List Int) (ti : TypeId) (flag : Bool) (v : Value) (H' : Hp) (nx' : Nat) : Prop where
  ex : ∃ w, v = .tuple #[w, .bool flag] ∧ NewL H nx l ti w H' nx'

theorem sShortestCircle (N : Int) (Aw : Option Addr) (m cw : Nat) (f : Nat → Nat → Int) (H : Hp) (nx : Nat) (hN : -9223372036854775808 ≤ N ∧ N ≤ 9223372036854775807) (hm : m ≤ 9223372036854775807) (hw : Rd H Aw m 3 f) :
    AC Tryd.prog 19 #[.int .i64 N, .slice Aw m cw] H nx (LFlag H nx (shV N m f) 3 (shB N m f)) := by
  by_cases hok : wssOk N m f
  case neg =>
    have e := wssB_no hok
    have e3 : shV N m f = [] := by simp [shV, e]
    have e2 : shB N m f = false := by simp [shB, e3]
    rw [e2, e3]
    refine AC_of x_spec_ShortestCircle rfl fun hB => ?_
    simp (disch := omega) only [bsW, WOp, WOq, WV, bo, eqN, gdc, gw, bnd, ↓reduceIte, Nat.reduceEqDiff, rsvs, rsv, oneOf, rdN, ne_eq, Nat.reduceAdd, Nat.reduceMul, Nat.reduceLT, reduceCtorEq, Value.cells, setN, Value.oneCell', Nat.reduceLeDiff, undef, fcT, e, Bool.not_false, c_spec_ShortestCircle]
    (repeat' (first | ((with_reducible refine gif_split (fun hs_ => ?_) (fun hs_ => ?_)) <;> (have hp_ := hs_; (try simp only [hpL, ne_eq] at hp_); (try simp (disch := omega) only [bsW, WOp, WOq, WV, bo, eqN, gdc, gw, bnd, ↓reduceIte, Nat.reduceEqDiff, rsvs, rsv, oneOf, rdN, ne_eq, Nat.reduceAdd, Nat.reduceMul, Nat.reduceLT, reduceCtorEq, Value.cells, setN, Value.oneCell', Nat.reduceLeDiff, undef, fcT, e, Bool.not_false, hs_]))) | ((first | (with_reducible refine newB_i (fun nb_ hb_ => ?_)) | ((with_reducible show QC _ _ _ _ _ _); (first | (refine QC_i (l20Good N _ _ _ f _ _ hm hN hw) ?_))) | ((with_reducible show AC _ _ _ _ _ _); (first | (refine PC.ac (l20Good N _ _ _ f _ _ hm hN hw) ?_))) | (with_reducible refine RgE_i (fun (hBd_ : Bd _ _) => ?_))); (try simp (disch := omega) only [bsW, WOp, WOq, WV, bo, eqN, gdc, gw, bnd, ↓reduceIte, Nat.reduceEqDiff, rsvs, rsv, oneOf, rdN, ne_eq, Nat.reduceAdd, Nat.reduceMul, Nat.reduceLT, reduceCtorEq, Value.cells, setN, Value.oneCell', Nat.reduceLeDiff, undef, fcT, e, Bool.not_false])) | (with_reducible refine fun (hBd_ : Bd _ _) => ?_) | ((first | (with_reducible refine @And.intro (Sub _ _) _ ?_ ?_) | ((with_reducible refine @And.intro (Sub _ _ ∧ _) _ ?_ ?_); (with_reducible refine @And.intro (Sub _ _) _ ?_ ?_))); exact sbX) | ((with_reducible refine And.intro ?_ ?_); omega)))
    exact ⟨_, rfl, .empty hb_ (by omega) (upd_same _ _ _), sub_new hB hb_⟩
  have e := wssB_iff.2 hok
  have hN8 := hok.1
  obtain ⟨n, rfl⟩ : ∃ n : Nat, N = (n : Int) := ⟨N.toNat, by omega⟩
  have e3 : shV (n : Int) m f = shG (allC n m f n) (allC n m f n).length := by simp [shV, e]
  have e2 : shB (n : Int) m f = decide (0 < (shG (allC n m f n) (allC n m f n).length).length) := by simp [shB, e3]
  rw [e2, e3]
  have hal := allC_len (m := m) (f := f) (show n ≤ 8 by omega) n (Nat.le_refl _)
  refine AC_of x_spec_ShortestCircle rfl fun hB => ?_
  simp (disch := omega) only [bsW, WOp, WOq, WV, bo, eqN, gdc, gw, bnd, ↓reduceIte, Nat.reduceEqDiff, rsvs, rsv, oneOf, rdN, ne_eq, Nat.reduceAdd, Nat.reduceMul, Nat.reduceLT, reduceCtorEq, Value.cells, setN, Value.oneCell', Nat.reduceLeDiff, undef, fcT, e, Bool.not_true, c_spec_ShortestCircle]
  (repeat' (first | ((with_reducible refine gif_split (fun hs_ => ?_) (fun hs_ => ?_)) <;> (have hp_ := hs_; (try simp only [hpL, ne_eq] at hp_); (try simp (disch := omega) only [bsW, WOp, WOq, WV, bo, eqN, gdc, gw, bnd, ↓reduceIte, Nat.reduceEqDiff, rsvs, rsv, oneOf, rdN, ne_eq, Nat.reduceAdd, Nat.reduceMul, Nat.reduceLT, reduceCtorEq, Value.cells, setN, Value.oneCell', Nat.reduceLeDiff, undef, fcT, e, Bool.not_true, hs_]))) | ((first | (with_reducible refine newB_i (fun nb_ hb_ => ?_)) | ((with_reducible show QC _ _ _ _ _ _); (first | (refine QC_i (l20Good _ _ _ _ f _ _ hm hN hw) ?_))) | ((with_reducible show AC _ _ _ _ _ _); (first | (refine PC.ac (l20Good _ _ _ _ f _ _ hm hN hw) ?_))) | (with_reducible refine RgE_i (fun (hBd_ : Bd _ _) => ?_))); (try simp (disch := omega) only [bsW, WOp, WOq, WV, bo, eqN, gdc, gw, bnd, ↓reduceIte, Nat.reduceEqDiff, rsvs, rsv, oneOf, rdN, ne_eq, Nat.reduceAdd, Nat.reduceMul, Nat.reduceLT, reduceCtorEq, Value.cells, setN, Value.oneCell', Nat.reduceLeDiff, undef, fcT, e, Bool.not_true])) | (with_reducible refine fun (hBd_ : Bd _ _) => ?_) | ((first | (with_reducible refine @And.intro (Sub _ _) _ ?_ ?_) | ((with_reducible refine @And.intro (Sub _ _ ∧ _) _ ?_ ?_); (with_reducible refine @And.intro (Sub _ _) _ ?_ ?_))); exact sbX) | ((with_reducible refine And.intro ?_ ?_); omega)))
  refine (l20All n m f Aw cw hok H nx hw).monoC ?_
  rintro v1 H1 nx1 hB1 hx1 ⟨hO1, ht1⟩
  generalize els : allC n m f n = ls at *
  obtain ⟨A1, q1, rfl, hq1, _⟩ := hO1.rd
  simp (disch := omega) only [bsW, WOp, WOq, WV, bo, eqN, gdc, gw, bnd, ↓reduceIte, Nat.reduceEqDiff, rsvs, rsv, oneOf, rdN, ne_eq, Nat.reduceAdd, Nat.reduceMul, Nat.reduceLT, reduceCtorEq, Value.cells, setN, Value.oneCell', Nat.reduceLeDiff, undef, fcT]
  (repeat' (first | ((with_reducible refine gif_split (fun hs_ => ?_) (fun hs_ => ?_)) <;> (have hp_ := hs_; (try simp only [hpL, ne_eq] at hp_); (try simp (disch := omega) only [bsW, WOp, WOq, WV, bo, eqN, gdc, gw, bnd, ↓reduceIte, Nat.reduceEqDiff, rsvs, rsv, oneOf, rdN, ne_eq, Nat.reduceAdd, Nat.reduceMul, Nat.reduceLT, reduceCtorEq, Value.cells, setN, Value.oneCell', Nat.reduceLeDiff, undef, fcT, hs_]))) | ((first | (with_reducible refine newB_i (fun nb_ hb_ => ?_)) | (with_reducible refine RgE_i (fun (hBd_ : Bd _ _) => ?_))); (try simp (disch := omega) only [bsW, WOp, WOq, WV, bo, eqN, gdc, gw, bnd, ↓reduceIte, Nat.reduceEqDiff, rsvs, rsv, oneOf, rdN, ne_eq, Nat.reduceAdd, Nat.reduceMul, Nat.reduceLT, reduceCtorEq, Value.cells, setN, Value.oneCell', Nat.reduceLeDiff, undef, fcT])) | (with_reducible refine fun (hBd_ : Bd _ _) => ?_) | ((first | (with_reducible refine @And.intro (Sub _ _) _ ?_ ?_) | ((with_reducible refine @And.intro (Sub _ _ ∧ _) _ ?_ ?_); (with_reducible refine @And.intro (Sub _ _) _ ?_ ?_))); exact sbX) | ((with_reducible refine And.intro ?_ ?_); omega)))
  have hOE : OwnL (upd H1 nb_ (.rw [] 3)) nx (nb_ + 1) [] 3 (.slice (some ⟨nb_, 0, none⟩) 0 0) := .empty (by omega) (by omega) (upd_same _ _ _)
  have hs2 : Sub H (upd H1 nb_ (.rw [] 3)) := sub_up2 hB ht1 (by omega)
  replace hO1 := (hO1.subI (H' := upd H1 nb_ (.rw [] 3)) (sub_new hB1 hb_)).wide (Nat.le_refl _) (show nx1 ≤ nb_ + 1 by omega)
  generalize (upd H1 nb_ (.rw [] 3)) = H2 at *
  generalize nb_ + 1 = nx2 at *
  refine LpB_rule (fun mm fr H' nx' => ∃ (k : Nat) (v : Value), mm = ls.length - k + 1 ∧ k ≤ ls.length ∧ fr 6 = .slice A1 ls.length q1 ∧ fr 7 = v ∧ fr 8 = .int .i64 k ∧ H2 = H' ∧ nx2 = nx' ∧ OwnL H2 nx nx2 (shG ls k) 3 v) ?_ ?_ (ls.length + 1) ?_
  · rintro mm K hK fr H' nx' hB' ⟨k, v, hmm, hk, f6, f7, f8, e9, e10, hO⟩
    subst e9 e10
    obtain ⟨Av, cv, rfl, hcv, _⟩ := OwnR.rd hO
    by_cases hkn : k < ls.length
    case neg =>
      have d1 : decide ((k : Int) < (ls.length : Int)) = false := decide_eq_false (by omega)
      simp (disch := omega) only [bsW, WOp, WOq, WV, bo, eqN, gdc, gw, bnd, ↓reduceIte, Nat.reduceEqDiff, rsvs, rsv, oneOf, rdN, ne_eq, Nat.reduceAdd, Nat.reduceMul, Nat.reduceLT, reduceCtorEq, Value.cells, setN, Value.oneCell', Nat.reduceLeDiff, undef, fcT, f6, f7, f8, d1]
      (repeat' (first | ((with_reducible refine gif_split (fun hs_ => ?_) (fun hs_ => ?_)) <;> (have hp_ := hs_; (try simp only [hpL, ne_eq] at hp_); (try simp (disch := omega) only [bsW, WOp, WOq, WV, bo, eqN, gdc, gw, bnd, ↓reduceIte, Nat.reduceEqDiff, rsvs, rsv, oneOf, rdN, ne_eq, Nat.reduceAdd, Nat.reduceMul, Nat.reduceLT, reduceCtorEq, Value.cells, setN, Value.oneCell', Nat.reduceLeDiff, undef, fcT, f6, f7, f8, d1, hs_]))) | ((first | (with_reducible refine newB_i (fun nb_ hb_ => ?_)) | (with_reducible refine RgE_i (fun (hBd_ : Bd _ _) => ?_))); (try simp (disch := omega) only [bsW, WOp, WOq, WV, bo, eqN, gdc, gw, bnd, ↓reduceIte, Nat.reduceEqDiff, rsvs, rsv, oneOf, rdN, ne_eq, Nat.reduceAdd, Nat.reduceMul, Nat.reduceLT, reduceCtorEq, Value.cells, setN, Value.oneCell', Nat.reduceLeDiff, undef, fcT, f6, f7, f8, d1])) | (with_reducible refine fun (hBd_ : Bd _ _) => ?_) | ((first | (with_reducible refine @And.intro (Sub _ _) _ ?_ ?_) | ((with_reducible refine @And.intro (Sub _ _ ∧ _) _ ?_ ?_); (with_reducible refine @And.intro (Sub _ _) _ ?_ ?_))); exact sbX) | ((with_reducible refine And.intro ?_ ?_); omega)))
      have hkn2 : k = ls.length := by omega
      subst hkn2
      exact ⟨_, by simp, hO, hs2⟩
    have d1 : decide ((k : Int) < (ls.length : Int)) = true := decide_eq_true (by omega)
    obtain ⟨b, c, B, d, e', c0, hOk⟩ := llAt hO1 hkn
    cases e'
    have hsh : shG ls (k + 1) = if (shG ls k).length = 0 ∨ (rowOf ls k).length < (shG ls k).length then rowOf ls k else shG ls k := rfl
    by_cases h1 : (shG ls k).length = 0
    · have d2 : (((shG ls k).length : Int) == 0) = true := by simp [h1]
      rw [if_pos (.inl h1)] at hsh
      simp (disch := omega) only [bsW, WOp, WOq, WV, bo, eqN, gdc, gw, bnd, ↓reduceIte, Nat.reduceEqDiff, rsvs, rsv, oneOf, rdN, ne_eq, Nat.reduceAdd, Nat.reduceMul, Nat.reduceLT, reduceCtorEq, Value.cells, setN, Value.oneCell', Nat.reduceLeDiff, undef, fcT, f6, f7, f8, d1, d2, c0, Nat.mul_one]
      (repeat' (first | ((with_reducible refine gif_split (fun hs_ => ?_) (fun hs_ => ?_)) <;> (have hp_ := hs_; (try simp only [hpL, ne_eq] at hp_); (try simp (disch := omega) only [bsW, WOp, WOq, WV, bo, eqN, gdc, gw, bnd, ↓reduceIte, Nat.reduceEqDiff, rsvs, rsv, oneOf, rdN, ne_eq, Nat.reduceAdd, Nat.reduceMul, Nat.reduceLT, reduceCtorEq, Value.cells, setN, Value.oneCell', Nat.reduceLeDiff, undef, fcT, f6, f7, f8, d1, d2, c0, Nat.mul_one, hs_]))) | ((first | (with_reducible refine newB_i (fun nb_ hb_ => ?_)) | (with_reducible refine RgE_i (fun (hBd_ : Bd _ _) => ?_))); (try simp (disch := omega) only [bsW, WOp, WOq, WV, bo, eqN, gdc, gw, bnd, ↓reduceIte, Nat.reduceEqDiff, rsvs, rsv, oneOf, rdN, ne_eq, Nat.reduceAdd, Nat.reduceMul, Nat.reduceLT, reduceCtorEq, Value.cells, setN, Value.oneCell', Nat.reduceLeDiff, undef, fcT, f6, f7, f8, d1, d2, c0, Nat.mul_one])) | (with_reducible refine fun (hBd_ : Bd _ _) => ?_) | ((first | (with_reducible refine @And.intro (Sub _ _) _ ?_ ?_) | ((with_reducible refine @And.intro (Sub _ _ ∧ _) _ ?_ ?_); (with_reducible refine @And.intro (Sub _ _) _ ?_ ?_))); exact sbX) | ((with_reducible refine And.intro ?_ ?_); omega)))
      refine hK _ _ _ ?_
      exact ⟨k + 1, _, by omega, by omega, by simp (disch := omega) only [bsW, ↓reduceIte, Nat.reduceEqDiff, ne_eq, reduceCtorEq, fcT, f6, f7, f8, d1, d2, c0, Nat.mul_one], by (simp (disch := omega) only [bsW, ↓reduceIte, Nat.reduceEqDiff, ne_eq, reduceCtorEq, fcT, f6, f7, f8, d1, d2, c0, Nat.mul_one]) <;> exact rfl, by simp (disch := omega) only [bsW, ↓reduceIte, Nat.reduceEqDiff, ne_eq, reduceCtorEq, fcT, f6, f7, f8, d1, d2, c0, Nat.mul_one, Int.natCast_add, Int.natCast_one], rfl, rfl, by rw [hsh]; exact hOk⟩
    · have d2 : (((shG ls k).length : Int) == 0) = false := beq_eq_false_iff_ne.2 (by omega)
      by_cases h2 : (rowOf ls k).length < (shG ls k).length
      · have d3 : decide (((rowOf ls k).length : Int) < ((shG ls k).length : Int)) = true := decide_eq_true (by omega)
        rw [if_pos (.inr h2)] at hsh
        simp (disch := omega) only [bsW, WOp, WOq, WV, bo, eqN, gdc, gw, bnd, ↓reduceIte, Nat.reduceEqDiff, rsvs, rsv, oneOf, rdN, ne_eq, Nat.reduceAdd, Nat.reduceMul, Nat.reduceLT, reduceCtorEq, Value.cells, setN, Value.oneCell', Nat.reduceLeDiff, undef, fcT, f6, f7, f8, d1, d2, d3, c0, Nat.mul_one]
        (repeat' (first | ((with_reducible refine gif_split (fun hs_ => ?_) (fun hs_ => ?_)) <;> (have hp_ := hs_; (try simp only [hpL, ne_eq] at hp_); (try simp (disch := omega) only [bsW, WOp, WOq, WV, bo, eqN, gdc, gw, bnd, ↓reduceIte, Nat.reduceEqDiff, rsvs, rsv, oneOf, rdN, ne_eq, Nat.reduceAdd, Nat.reduceMul, Nat.reduceLT, reduceCtorEq, Value.cells, setN, Value.oneCell', Nat.reduceLeDiff, undef, fcT, f6, f7, f8, d1, d2, d3, c0, Nat.mul_one, hs_]))) | ((first | (with_reducible refine newB_i (fun nb_ hb_ => ?_)) | (with_reducible refine RgE_i (fun (hBd_ : Bd _ _) => ?_))); (try simp (disch := omega) only [bsW, WOp, WOq, WV, bo, eqN, gdc, gw, bnd, ↓reduceIte, Nat.reduceEqDiff, rsvs, rsv, oneOf, rdN, ne_eq, Nat.reduceAdd, Nat.reduceMul, Nat.reduceLT, reduceCtorEq, Value.cells, setN, Value.oneCell', Nat.reduceLeDiff, undef, fcT, f6, f7, f8, d1, d2, d3, c0, Nat.mul_one])) | (with_reducible refine fun (hBd_ : Bd _ _) => ?_) | ((first | (with_reducible refine @And.intro (Sub _ _) _ ?_ ?_) | ((with_reducible refine @And.intro (Sub _ _ ∧ _) _ ?_ ?_); (with_reducible refine @And.intro (Sub _ _) _ ?_ ?_))); exact sbX) | ((with_reducible refine And.intro ?_ ?_); omega)))
        refine hK _ _ _ ?_
        exact ⟨k + 1, _, by omega, by omega, by simp (disch := omega) only [bsW, ↓reduceIte, Nat.reduceEqDiff, ne_eq, reduceCtorEq, fcT, f6, f7, f8, d1, d2, d3, c0, Nat.mul_one], by (simp (disch := omega) only [bsW, ↓reduceIte, Nat.reduceEqDiff, ne_eq, reduceCtorEq, fcT, f6, f7, f8, d1, d2, d3, c0, Nat.mul_one]) <;> exact rfl, by simp (disch := omega) only [bsW, ↓reduceIte, Nat.reduceEqDiff, ne_eq, reduceCtorEq, fcT, f6, f7, f8, d1, d2, d3, c0, Nat.mul_one, Int.natCast_add, Int.natCast_one], rfl, rfl, by rw [hsh]; exact hOk⟩
      · have d3 : decide (((rowOf ls k).length : Int) < ((shG ls k).length : Int)) = false := decide_eq_false (by omega)
        rw [if_neg (by omega)] at hsh
        simp (disch := omega) only [bsW, WOp, WOq, WV, bo, eqN, gdc, gw, bnd, ↓reduceIte, Nat.reduceEqDiff, rsvs, rsv, oneOf, rdN, ne_eq, Nat.reduceAdd, Nat.reduceMul, Nat.reduceLT, reduceCtorEq, Value.cells, setN, Value.oneCell', Nat.reduceLeDiff, undef, fcT, f6, f7, f8, d1, d2, d3, c0, Nat.mul_one]
        (repeat' (first | ((with_reducible refine gif_split (fun hs_ => ?_) (fun hs_ => ?_)) <;> (have hp_ := hs_; (try simp only [hpL, ne_eq] at hp_); (try simp (disch := omega) only [bsW, WOp, WOq, WV, bo, eqN, gdc, gw, bnd, ↓reduceIte, Nat.reduceEqDiff, rsvs, rsv, oneOf, rdN, ne_eq, Nat.reduceAdd, Nat.reduceMul, Nat.reduceLT, reduceCtorEq, Value.cells, setN, Value.oneCell', Nat.reduceLeDiff, undef, fcT, f6, f7, f8, d1, d2, d3, c0, Nat.mul_one, hs_]))) | ((first | (with_reducible refine newB_i (fun nb_ hb_ => ?_)) | (with_reducible refine RgE_i (fun (hBd_ : Bd _ _) => ?_))); (try simp (disch := omega) only [bsW, WOp, WOq, WV, bo, eqN, gdc, gw, bnd, ↓reduceIte, Nat.reduceEqDiff, rsvs, rsv, oneOf, rdN, ne_eq, Nat.reduceAdd, Nat.reduceMul, Nat.reduceLT, reduceCtorEq, Value.cells, setN, Value.oneCell', Nat.reduceLeDiff, undef, fcT, f6, f7, f8, d1, d2, d3, c0, Nat.mul_one])) | (with_reducible refine fun (hBd_ : Bd _ _) => ?_) | ((first | (with_reducible refine @And.intro (Sub _ _) _ ?_ ?_) | ((with_reducible refine @And.intro (Sub _ _ ∧ _) _ ?_ ?_); (with_reducible refine @And.intro (Sub _ _) _ ?_ ?_))); exact sbX) | ((with_reducible refine And.intro ?_ ?_); omega)))
        refine hK _ _ _ ?_
        exact ⟨k + 1, _, by omega, by omega, by simp (disch := omega) only [bsW, ↓reduceIte, Nat.reduceEqDiff, ne_eq, reduceCtorEq, fcT, f6, f7, f8, d1, d2, d3, c0, Nat.mul_one], by (simp (disch := omega) only [bsW, ↓reduceIte, Nat.reduceEqDiff, ne_eq, reduceCtorEq, fcT, f6, f7, f8, d1, d2, d3, c0, Nat.mul_one]) <;> exact rfl, by simp (disch := omega) only [bsW, ↓reduceIte, Nat.reduceEqDiff, ne_eq, reduceCtorEq, fcT, f6, f7, f8, d1, d2, d3, c0, Nat.mul_one, Int.natCast_add, Int.natCast_one], rfl, rfl, by rw [hsh]; exact hO⟩
  · rintro fr H' nx' ⟨k, v, hmm, _⟩; omega
  · exact ⟨0, _, by omega, by omega, by simp (disch := omega) only [bsW, ↓reduceIte, Nat.reduceEqDiff, ne_eq, reduceCtorEq, fcT], by (simp (disch := omega) only [bsW, ↓reduceIte, Nat.reduceEqDiff, ne_eq, reduceCtorEq, fcT]) <;> exact rfl, by simp (disch := omega) only [bsW, ↓reduceIte, Nat.reduceEqDiff, ne_eq, reduceCtorEq, fcT, Int.natCast_zero], rfl, rfl, hOE⟩

theorem ShortestCircle (N : Int) (Aw : Option Addr) (m cw : Nat) (f : Nat → Nat → Int) (H : Hp) (nx : Nat) (hN : -9223372036854775808 ≤ N ∧ N ≤ 9223372036854775807) (hm : m ≤ 9223372036854775807) (hw : Rd H Aw m 3 f) :
    AC Tryd.prog 18 #[.int .i64 N, .slice Aw m cw] H nx (LFlag H nx (shV N m f) 3 (shB N m f)) := by
  by_cases hok : wssOk N m f
  case neg =>
    have e := wssB_no hok
    have e3 : shV N m f = [] := by simp [shV, e]
    have e2 : shB N m f = false := by simp [shB, e3]
    rw [e2, e3]
    refine AC_of x_impl_ShortestCircle rfl fun hB => ?_
    simp (disch := omega) only [bsW, WOp, WOq, WV, bo, eqN, gdc, gw, bnd, ↓reduceIte, Nat.reduceEqDiff, rsvs, rsv, oneOf, rdN, ne_eq, Nat.reduceAdd, Nat.reduceMul, Nat.reduceLT, reduceCtorEq, Value.cells, setN, Value.oneCell', Nat.reduceLeDiff, undef, fcT, e, Bool.not_false, c_impl_ShortestCircle]
    (repeat' (first | ((with_reducible refine gif_split (fun hs_ => ?_) (fun hs_ => ?_)) <;> (have hp_ := hs_; (try simp only [hpL, ne_eq] at hp_); (try simp (disch := omega) only [bsW, WOp, WOq, WV, bo, eqN, gdc, gw, bnd, ↓reduceIte, Nat.reduceEqDiff, rsvs, rsv, oneOf, rdN, ne_eq, Nat.reduceAdd, Nat.reduceMul, Nat.reduceLT, reduceCtorEq, Value.cells, setN, Value.oneCell', Nat.reduceLeDiff, undef, fcT, e, Bool.not_false, hs_]))) | ((first | (with_reducible refine newB_i (fun nb_ hb_ => ?_)) | ((with_reducible show QC _ _ _ _ _ _); (first | (refine QC_i (areWishes N _ _ _ f _ _ hm hN hw) ?_))) | ((with_reducible show AC _ _ _ _ _ _); (first | (refine PC.ac (areWishes N _ _ _ f _ _ hm hN hw) ?_))) | (with_reducible refine RgE_i (fun (hBd_ : Bd _ _) => ?_))); (try simp (disch := omega) only [bsW, WOp, WOq, WV, bo, eqN, gdc, gw, bnd, ↓reduceIte, Nat.reduceEqDiff, rsvs, rsv, oneOf, rdN, ne_eq, Nat.reduceAdd, Nat.reduceMul, Nat.reduceLT, reduceCtorEq, Value.cells, setN, Value.oneCell', Nat.reduceLeDiff, undef, fcT, e, Bool.not_false])) | (with_reducible refine fun (hBd_ : Bd _ _) => ?_) | ((first | (with_reducible refine @And.intro (Sub _ _) _ ?_ ?_) | ((with_reducible refine @And.intro (Sub _ _ ∧ _) _ ?_ ?_); (with_reducible refine @And.intro (Sub _ _) _ ?_ ?_))); exact sbX) | ((with_reducible refine And.intro ?_ ?_); omega)))
    exact ⟨_, rfl, .nil, Sub.refl _⟩
  have e := wssB_iff.2 hok
  have hN8 := hok.1
  obtain ⟨n, rfl⟩ : ∃ n : Nat, N = (n : Int) := ⟨N.toNat, by omega⟩
  have e3 : shV (n : Int) m f = shG (allC n m f n) (allC n m f n).length := by simp [shV, e]
  have e2 : shB (n : Int) m f = decide (0 < (shG (allC n m f n) (allC n m f n).length).length) := by simp [shB, e3]
  rw [e2, e3]
  have hal := allC_len (m := m) (f := f) (show n ≤ 8 by omega) n (Nat.le_refl _)
  refine AC_of x_impl_ShortestCircle rfl fun hB => ?_
  simp (disch := omega) only [bsW, WOp, WOq, WV, bo, eqN, gdc, gw, bnd, ↓reduceIte, Nat.reduceEqDiff, rsvs, rsv, oneOf, rdN, ne_eq, Nat.reduceAdd, Nat.reduceMul, Nat.reduceLT, reduceCtorEq, Value.cells, setN, Value.oneCell', Nat.reduceLeDiff, undef, fcT, e, Bool.not_true, c_impl_ShortestCircle]
  (repeat' (first | ((with_reducible refine gif_split (fun hs_ => ?_) (fun hs_ => ?_)) <;> (have hp_ := hs_; (try simp only [hpL, ne_eq] at hp_); (try simp (disch := omega) only [bsW, WOp, WOq, WV, bo, eqN, gdc, gw, bnd, ↓reduceIte, Nat.reduceEqDiff, rsvs, rsv, oneOf, rdN, ne_eq, Nat.reduceAdd, Nat.reduceMul, Nat.reduceLT, reduceCtorEq, Value.cells, setN, Value.oneCell', Nat.reduceLeDiff, undef, fcT, e, Bool.not_true, hs_]))) | ((first | (with_reducible refine newB_i (fun nb_ hb_ => ?_)) | ((with_reducible show QC _ _ _ _ _ _); (first | (refine QC_i (areWishes _ _ _ _ f _ _ hm hN hw) ?_))) | ((with_reducible show AC _ _ _ _ _ _); (first | (refine PC.ac (areWishes _ _ _ _ f _ _ hm hN hw) ?_))) | (with_reducible refine RgE_i (fun (hBd_ : Bd _ _) => ?_))); (try simp (disch := omega) only [bsW, WOp, WOq, WV, bo, eqN, gdc, gw, bnd, ↓reduceIte, Nat.reduceEqDiff, rsvs, rsv, oneOf, rdN, ne_eq, Nat.reduceAdd, Nat.reduceMul, Nat.reduceLT, reduceCtorEq, Value.cells, setN, Value.oneCell', Nat.reduceLeDiff, undef, fcT, e, Bool.not_true])) | (with_reducible refine fun (hBd_ : Bd _ _) => ?_) | ((first | (with_reducible refine @And.intro (Sub _ _) _ ?_ ?_) | ((with_reducible refine @And.intro (Sub _ _ ∧ _) _ ?_ ?_); (with_reducible refine @And.intro (Sub _ _) _ ?_ ?_))); exact sbX) | ((with_reducible refine And.intro ?_ ?_); omega)))
  refine (allCircles n m f Aw cw hok H nx hw).monoC ?_
  rintro v1 H1 nx1 hB1 hx1 ⟨hO1, ht1⟩
  generalize els : allC n m f n = ls at *
  obtain ⟨A1, q1, rfl, hq1, _⟩ := hO1.rd
  have hrl : ∀ i, i < ls.length → 2 ≤ (rowOf ls i).length := fun i hi => by rw [← els] at hi ⊢; exact (allC_row hi).1
  simp (disch := omega) only [bsW, WOp, WOq, WV, bo, eqN, gdc, gw, bnd, ↓reduceIte, Nat.reduceEqDiff, rsvs, rsv, oneOf, rdN, ne_eq, Nat.reduceAdd, Nat.reduceMul, Nat.reduceLT, reduceCtorEq, Value.cells, setN, Value.oneCell', Nat.reduceLeDiff, undef, fcT]
  (repeat' (first | ((with_reducible refine gif_split (fun hs_ => ?_) (fun hs_ => ?_)) <;> (have hp_ := hs_; (try simp only [hpL, ne_eq] at hp_); (try simp (disch := omega) only [bsW, WOp, WOq, WV, bo, eqN, gdc, gw, bnd, ↓reduceIte, Nat.reduceEqDiff, rsvs, rsv, oneOf, rdN, ne_eq, Nat.reduceAdd, Nat.reduceMul, Nat.reduceLT, reduceCtorEq, Value.cells, setN, Value.oneCell', Nat.reduceLeDiff, undef, fcT, hs_]))) | ((first | (with_reducible refine newB_i (fun nb_ hb_ => ?_)) | (with_reducible refine RgE_i (fun (hBd_ : Bd _ _) => ?_))); (try simp (disch := omega) only [bsW, WOp, WOq, WV, bo, eqN, gdc, gw, bnd, ↓reduceIte, Nat.reduceEqDiff, rsvs, rsv, oneOf, rdN, ne_eq, Nat.reduceAdd, Nat.reduceMul, Nat.reduceLT, reduceCtorEq, Value.cells, setN, Value.oneCell', Nat.reduceLeDiff, undef, fcT])) | (with_reducible refine fun (hBd_ : Bd _ _) => ?_) | ((first | (with_reducible refine @And.intro (Sub _ _) _ ?_ ?_) | ((with_reducible refine @And.intro (Sub _ _ ∧ _) _ ?_ ?_); (with_reducible refine @And.intro (Sub _ _) _ ?_ ?_))); exact sbX) | ((with_reducible refine And.intro ?_ ?_); omega)))
  refine LpB_rule (fun mm fr H' nx' => ∃ (k : Nat) (v : Value), mm = ls.length - k + 1 ∧ k ≤ ls.length ∧ fr 15 = .slice A1 ls.length q1 ∧ fr 16 = .int .i64 ls.length ∧ fr 6 = v ∧ fr 17 = .int .i64 k ∧ H1 = H' ∧ nx1 = nx' ∧ ((v = .slice none 0 0 ∧ shG ls k = []) ∨ ∃ B d, v = .slice (some ⟨B, 0, none⟩) (shG ls k).length d ∧ 0 < (shG ls k).length ∧ OwnL H1 nx nx1 (shG ls k) 3 v)) ?_ ?_ (ls.length + 1) ?_
  · rintro mm K hK fr H' nx' hB' ⟨k, v, hmm, hk, f15, f16, f6, f17, e9, e10, hv⟩
    subst e9 e10
    by_cases hkn : k < ls.length
    case neg =>
      have d1 : decide ((k : Int) < (ls.length : Int)) = false := decide_eq_false (by omega)
      have hkn2 : k = ls.length := by omega
      subst hkn2
      rcases hv with ⟨rfl, h0⟩ | ⟨B, d, rfl, h0, hO⟩
      · simp (disch := omega) only [bsW, WOp, WOq, WV, bo, eqN, gdc, gw, bnd, ↓reduceIte, Nat.reduceEqDiff, rsvs, rsv, oneOf, rdN, ne_eq, Nat.reduceAdd, Nat.reduceMul, Nat.reduceLT, reduceCtorEq, Value.cells, setN, Value.oneCell', Nat.reduceLeDiff, undef, fcT, Option.isNone_none, Option.isNone_some, f15, f16, f6, f17, d1]
        (repeat' (first | ((with_reducible refine gif_split (fun hs_ => ?_) (fun hs_ => ?_)) <;> (have hp_ := hs_; (try simp only [hpL, ne_eq] at hp_); (try simp (disch := omega) only [bsW, WOp, WOq, WV, bo, eqN, gdc, gw, bnd, ↓reduceIte, Nat.reduceEqDiff, rsvs, rsv, oneOf, rdN, ne_eq, Nat.reduceAdd, Nat.reduceMul, Nat.reduceLT, reduceCtorEq, Value.cells, setN, Value.oneCell', Nat.reduceLeDiff, undef, fcT, Option.isNone_none, Option.isNone_some, f15, f16, f6, f17, d1, hs_]))) | ((first | (with_reducible refine newB_i (fun nb_ hb_ => ?_)) | (with_reducible refine RgE_i (fun (hBd_ : Bd _ _) => ?_))); (try simp (disch := omega) only [bsW, WOp, WOq, WV, bo, eqN, gdc, gw, bnd, ↓reduceIte, Nat.reduceEqDiff, rsvs, rsv, oneOf, rdN, ne_eq, Nat.reduceAdd, Nat.reduceMul, Nat.reduceLT, reduceCtorEq, Value.cells, setN, Value.oneCell', Nat.reduceLeDiff, undef, fcT, Option.isNone_none, Option.isNone_some, f15, f16, f6, f17, d1])) | (with_reducible refine fun (hBd_ : Bd _ _) => ?_) | ((first | (with_reducible refine @And.intro (Sub _ _) _ ?_ ?_) | ((with_reducible refine @And.intro (Sub _ _ ∧ _) _ ?_ ?_); (with_reducible refine @And.intro (Sub _ _) _ ?_ ?_))); exact sbX) | ((with_reducible refine And.intro ?_ ?_); omega)))
        rw [h0]
        exact ⟨_, rfl, .nil, ht1⟩
      · simp (disch := omega) only [bsW, WOp, WOq, WV, bo, eqN, gdc, gw, bnd, ↓reduceIte, Nat.reduceEqDiff, rsvs, rsv, oneOf, rdN, ne_eq, Nat.reduceAdd, Nat.reduceMul, Nat.reduceLT, reduceCtorEq, Value.cells, setN, Value.oneCell', Nat.reduceLeDiff, undef, fcT, Option.isNone_none, Option.isNone_some, f15, f16, f6, f17, d1]
        (repeat' (first | ((with_reducible refine gif_split (fun hs_ => ?_) (fun hs_ => ?_)) <;> (have hp_ := hs_; (try simp only [hpL, ne_eq] at hp_); (try simp (disch := omega) only [bsW, WOp, WOq, WV, bo, eqN, gdc, gw, bnd, ↓reduceIte, Nat.reduceEqDiff, rsvs, rsv, oneOf, rdN, ne_eq, Nat.reduceAdd, Nat.reduceMul, Nat.reduceLT, reduceCtorEq, Value.cells, setN, Value.oneCell', Nat.reduceLeDiff, undef, fcT, Option.isNone_none, Option.isNone_some, f15, f16, f6, f17, d1, hs_]))) | ((first | (with_reducible refine newB_i (fun nb_ hb_ => ?_)) | (with_reducible refine RgE_i (fun (hBd_ : Bd _ _) => ?_))); (try simp (disch := omega) only [bsW, WOp, WOq, WV, bo, eqN, gdc, gw, bnd, ↓reduceIte, Nat.reduceEqDiff, rsvs, rsv, oneOf, rdN, ne_eq, Nat.reduceAdd, Nat.reduceMul, Nat.reduceLT, reduceCtorEq, Value.cells, setN, Value.oneCell', Nat.reduceLeDiff, undef, fcT, Option.isNone_none, Option.isNone_some, f15, f16, f6, f17, d1])) | (with_reducible refine fun (hBd_ : Bd _ _) => ?_) | ((first | (with_reducible refine @And.intro (Sub _ _) _ ?_ ?_) | ((with_reducible refine @And.intro (Sub _ _ ∧ _) _ ?_ ?_); (with_reducible refine @And.intro (Sub _ _) _ ?_ ?_))); exact sbX) | ((with_reducible refine And.intro ?_ ?_); omega)))
        refine ⟨_, ?_, hO, ht1⟩
        rw [decide_eq_true h0]
        try rfl
    have d1 : decide ((k : Int) < (ls.length : Int)) = true := decide_eq_true (by omega)
    obtain ⟨b, c, B2, d2, e', c0, hOk⟩ := llAt hO1 hkn
    cases e'
    have hr2 := hrl k hkn
    have hsh : shG ls (k + 1) = if (shG ls k).length = 0 ∨ (rowOf ls k).length < (shG ls k).length then rowOf ls k else shG ls k := rfl
    rcases hv with ⟨rfl, h0⟩ | ⟨B, d, rfl, h0, hO⟩
    · rw [if_pos (.inl (by rw [h0]; rfl))] at hsh
      simp (disch := omega) only [bsW, WOp, WOq, WV, bo, eqN, gdc, gw, bnd, ↓reduceIte, Nat.reduceEqDiff, rsvs, rsv, oneOf, rdN, ne_eq, Nat.reduceAdd, Nat.reduceMul, Nat.reduceLT, reduceCtorEq, Value.cells, setN, Value.oneCell', Nat.reduceLeDiff, undef, fcT, Option.isNone_none, Option.isNone_some, f15, f16, f6, f17, d1, c0, Nat.mul_one]
      (repeat' (first | ((with_reducible refine gif_split (fun hs_ => ?_) (fun hs_ => ?_)) <;> (have hp_ := hs_; (try simp only [hpL, ne_eq] at hp_); (try simp (disch := omega) only [bsW, WOp, WOq, WV, bo, eqN, gdc, gw, bnd, ↓reduceIte, Nat.reduceEqDiff, rsvs, rsv, oneOf, rdN, ne_eq, Nat.reduceAdd, Nat.reduceMul, Nat.reduceLT, reduceCtorEq, Value.cells, setN, Value.oneCell', Nat.reduceLeDiff, undef, fcT, Option.isNone_none, Option.isNone_some, f15, f16, f6, f17, d1, c0, Nat.mul_one, hs_]))) | ((first | (with_reducible refine newB_i (fun nb_ hb_ => ?_)) | (with_reducible refine RgE_i (fun (hBd_ : Bd _ _) => ?_))); (try simp (disch := omega) only [bsW, WOp, WOq, WV, bo, eqN, gdc, gw, bnd, ↓reduceIte, Nat.reduceEqDiff, rsvs, rsv, oneOf, rdN, ne_eq, Nat.reduceAdd, Nat.reduceMul, Nat.reduceLT, reduceCtorEq, Value.cells, setN, Value.oneCell', Nat.reduceLeDiff, undef, fcT, Option.isNone_none, Option.isNone_some, f15, f16, f6, f17, d1, c0, Nat.mul_one])) | (with_reducible refine fun (hBd_ : Bd _ _) => ?_) | ((first | (with_reducible refine @And.intro (Sub _ _) _ ?_ ?_) | ((with_reducible refine @And.intro (Sub _ _ ∧ _) _ ?_ ?_); (with_reducible refine @And.intro (Sub _ _) _ ?_ ?_))); exact sbX) | ((with_reducible refine And.intro ?_ ?_); omega)))
      refine hK _ _ _ ?_
      exact ⟨k + 1, _, by omega, by omega, by simp (disch := omega) only [bsW, ↓reduceIte, Nat.reduceEqDiff, ne_eq, reduceCtorEq, fcT, Option.isNone_none, Option.isNone_some, f15, f16, f6, f17, d1, c0, Nat.mul_one], by simp (disch := omega) only [bsW, ↓reduceIte, Nat.reduceEqDiff, ne_eq, reduceCtorEq, fcT, Option.isNone_none, Option.isNone_some, f15, f16, f6, f17, d1, c0, Nat.mul_one], by (simp (disch := omega) only [bsW, ↓reduceIte, Nat.reduceEqDiff, ne_eq, reduceCtorEq, fcT, Option.isNone_none, Option.isNone_some, f15, f16, f6, f17, d1, c0, Nat.mul_one]) <;> exact rfl, by simp (disch := omega) only [bsW, ↓reduceIte, Nat.reduceEqDiff, ne_eq, reduceCtorEq, fcT, Option.isNone_none, Option.isNone_some, f15, f16, f6, f17, d1, c0, Nat.mul_one, Int.natCast_add, Int.natCast_one], rfl, rfl, .inr ⟨B2, d2, by rw [hsh], by rw [hsh]; omega, by rw [hsh]; exact hOk⟩⟩
    · by_cases h2 : (rowOf ls k).length < (shG ls k).length
      · have d3 : decide (((rowOf ls k).length : Int) < ((shG ls k).length : Int)) = true := decide_eq_true (by omega)
        rw [if_pos (.inr h2)] at hsh
        simp (disch := omega) only [bsW, WOp, WOq, WV, bo, eqN, gdc, gw, bnd, ↓reduceIte, Nat.reduceEqDiff, rsvs, rsv, oneOf, rdN, ne_eq, Nat.reduceAdd, Nat.reduceMul, Nat.reduceLT, reduceCtorEq, Value.cells, setN, Value.oneCell', Nat.reduceLeDiff, undef, fcT, Option.isNone_none, Option.isNone_some, f15, f16, f6, f17, d1, d3, c0, Nat.mul_one]
        (repeat' (first | ((with_reducible refine gif_split (fun hs_ => ?_) (fun hs_ => ?_)) <;> (have hp_ := hs_; (try simp only [hpL, ne_eq] at hp_); (try simp (disch := omega) only [bsW, WOp, WOq, WV, bo, eqN, gdc, gw, bnd, ↓reduceIte, Nat.reduceEqDiff, rsvs, rsv, oneOf, rdN, ne_eq, Nat.reduceAdd, Nat.reduceMul, Nat.reduceLT, reduceCtorEq, Value.cells, setN, Value.oneCell', Nat.reduceLeDiff, undef, fcT, Option.isNone_none, Option.isNone_some, f15, f16, f6, f17, d1, d3, c0, Nat.mul_one, hs_]))) | ((first | (with_reducible refine newB_i (fun nb_ hb_ => ?_)) | (with_reducible refine RgE_i (fun (hBd_ : Bd _ _) => ?_))); (try simp (disch := omega) only [bsW, WOp, WOq, WV, bo, eqN, gdc, gw, bnd, ↓reduceIte, Nat.reduceEqDiff, rsvs, rsv, oneOf, rdN, ne_eq, Nat.reduceAdd, Nat.reduceMul, Nat.reduceLT, reduceCtorEq, Value.cells, setN, Value.oneCell', Nat.reduceLeDiff, undef, fcT, Option.isNone_none, Option.isNone_some, f15, f16, f6, f17, d1, d3, c0, Nat.mul_one])) | (with_reducible refine fun (hBd_ : Bd _ _) => ?_) | ((first | (with_reducible refine @And.intro (Sub _ _) _ ?_ ?_) | ((with_reducible refine @And.intro (Sub _ _ ∧ _) _ ?_ ?_); (with_reducible refine @And.intro (Sub _ _) _ ?_ ?_))); exact sbX) | ((with_reducible refine And.intro ?_ ?_); omega)))
        refine hK _ _ _ ?_
        exact ⟨k + 1, _, by omega, by omega, by simp (disch := omega) only [bsW, ↓reduceIte, Nat.reduceEqDiff, ne_eq, reduceCtorEq, fcT, Option.isNone_none, Option.isNone_some, f15, f16, f6, f17, d1, d3, c0, Nat.mul_one], by simp (disch := omega) only [bsW, ↓reduceIte, Nat.reduceEqDiff, ne_eq, reduceCtorEq, fcT, Option.isNone_none, Option.isNone_some, f15, f16, f6, f17, d1, d3, c0, Nat.mul_one], by (simp (disch := omega) only [bsW, ↓reduceIte, Nat.reduceEqDiff, ne_eq, reduceCtorEq, fcT, Option.isNone_none, Option.isNone_some, f15, f16, f6, f17, d1, d3, c0, Nat.mul_one]) <;> exact rfl, by simp (disch := omega) only [bsW, ↓reduceIte, Nat.reduceEqDiff, ne_eq, reduceCtorEq, fcT, Option.isNone_none, Option.isNone_some, f15, f16, f6, f17, d1, d3, c0, Nat.mul_one, Int.natCast_add, Int.natCast_one], rfl, rfl, .inr ⟨B2, d2, by rw [hsh], by rw [hsh]; omega, by rw [hsh]; exact hOk⟩⟩
      · have d3 : decide (((rowOf ls k).length : Int) < ((shG ls k).length : Int)) = false := decide_eq_false (by omega)
        rw [if_neg (by omega)] at hsh
        simp (disch := omega) only [bsW, WOp, WOq, WV, bo, eqN, gdc, gw, bnd, ↓reduceIte, Nat.reduceEqDiff, rsvs, rsv, oneOf, rdN, ne_eq, Nat.reduceAdd, Nat.reduceMul, Nat.reduceLT, reduceCtorEq, Value.cells, setN, Value.oneCell', Nat.reduceLeDiff, undef, fcT, Option.isNone_none, Option.isNone_some, f15, f16, f6, f17, d1, d3, c0, Nat.mul_one]
        (repeat' (first | ((with_reducible refine gif_split (fun hs_ => ?_) (fun hs_ => ?_)) <;> (have hp_ := hs_; (try simp only [hpL, ne_eq] at hp_); (try simp (disch := omega) only [bsW, WOp, WOq, WV, bo, eqN, gdc, gw, bnd, ↓reduceIte, Nat.reduceEqDiff, rsvs, rsv, oneOf, rdN, ne_eq, Nat.reduceAdd, Nat.reduceMul, Nat.reduceLT, reduceCtorEq, Value.cells, setN, Value.oneCell', Nat.reduceLeDiff, undef, fcT, Option.isNone_none, Option.isNone_some, f15, f16, f6, f17, d1, d3, c0, Nat.mul_one, hs_]))) | ((first | (with_reducible refine newB_i (fun nb_ hb_ => ?_)) | (with_reducible refine RgE_i (fun (hBd_ : Bd _ _) => ?_))); (try simp (disch := omega) only [bsW, WOp, WOq, WV, bo, eqN, gdc, gw, bnd, ↓reduceIte, Nat.reduceEqDiff, rsvs, rsv, oneOf, rdN, ne_eq, Nat.reduceAdd, Nat.reduceMul, Nat.reduceLT, reduceCtorEq, Value.cells, setN, Value.oneCell', Nat.reduceLeDiff, undef, fcT, Option.isNone_none, Option.isNone_some, f15, f16, f6, f17, d1, d3, c0, Nat.mul_one])) | (with_reducible refine fun (hBd_ : Bd _ _) => ?_) | ((first | (with_reducible refine @And.intro (Sub _ _) _ ?_ ?_) | ((with_reducible refine @And.intro (Sub _ _ ∧ _) _ ?_ ?_); (with_reducible refine @And.intro (Sub _ _) _ ?_ ?_))); exact sbX) | ((with_reducible refine And.intro ?_ ?_); omega)))
        refine hK _ _ _ ?_
        exact ⟨k + 1, _, by omega, by omega, by simp (disch := omega) only [bsW, ↓reduceIte, Nat.reduceEqDiff, ne_eq, reduceCtorEq, fcT, Option.isNone_none, Option.isNone_some, f15, f16, f6, f17, d1, d3, c0, Nat.mul_one], by simp (disch := omega) only [bsW, ↓reduceIte, Nat.reduceEqDiff, ne_eq, reduceCtorEq, fcT, Option.isNone_none, Option.isNone_some, f15, f16, f6, f17, d1, d3, c0, Nat.mul_one], by (simp (disch := omega) only [bsW, ↓reduceIte, Nat.reduceEqDiff, ne_eq, reduceCtorEq, fcT, Option.isNone_none, Option.isNone_some, f15, f16, f6, f17, d1, d3, c0, Nat.mul_one]) <;> exact rfl, by simp (disch := omega) only [bsW, ↓reduceIte, Nat.reduceEqDiff, ne_eq, reduceCtorEq, fcT, Option.isNone_none, Option.isNone_some, f15, f16, f6, f17, d1, d3, c0, Nat.mul_one, Int.natCast_add, Int.natCast_one], rfl, rfl, .inr ⟨B, d, by rw [hsh], by rw [hsh]; omega, by rw [hsh]; exact hO⟩⟩
  · rintro fr H' nx' ⟨k, v, hmm, _⟩; omega
  · exact ⟨0, _, by omega, by omega, by simp (disch := omega) only [bsW, ↓reduceIte, Nat.reduceEqDiff, ne_eq, reduceCtorEq, fcT], by simp (disch := omega) only [bsW, ↓reduceIte, Nat.reduceEqDiff, ne_eq, reduceCtorEq, fcT], by (simp (disch := omega) only [bsW, ↓reduceIte, Nat.reduceEqDiff, ne_eq, reduceCtorEq, fcT]) <;> exact rfl, by simp (disch := omega) only [bsW, ↓reduceIte, Nat.reduceEqDiff, ne_eq, reduceCtorEq, fcT, Int.natCast_zero], rfl, rfl, .inl ⟨rfl, rfl⟩⟩
end Go.Proofs.YtnaldmmdhpobgaaDoor
