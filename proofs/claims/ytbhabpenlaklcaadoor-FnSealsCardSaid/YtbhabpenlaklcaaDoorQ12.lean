/- Puzzles: copies; whether a step is valid. -/
import Derived.Test.YtbhabpenlaklcaaDoorQ11
set_option linter.unusedVariables false
set_option linter.unusedSimpArgs false
set_option maxRecDepth 100000
set_option maxHeartbeats 1000000
namespace Go.Proofs.YtbhabpenlaklcaaDoor
open Go Go.RowKit Go.Proofs

theorem cloneL (A : Option Addr) (l : List Int) (c : Nat) (H : Hp) (nx : Nat) (hn : l.length ≤ 1048576) (h : RdL H A l) :
    AC Tryd.prog 53 #[.slice A l.length c] H nx (NewL H nx l 3) := by
  refine AC_of x_slices_Clone_int rfl fun hB => ?_
  simp (disch := omega) only [bsW, WOp, WOq, WV, bo, eqN, gdc, gw, bnd, ↓reduceIte, Nat.reduceEqDiff, rsvs, rsv, oneOf, rdN, ne_eq, Nat.reduceAdd, Nat.reduceMul, Nat.reduceLT, reduceCtorEq, Value.cells, setN, Value.oneCell', Nat.reduceLeDiff, undef, fcT, c_slices_Clone_int]
  (repeat' (first | ((with_reducible refine gif_split (fun hs_ => ?_) (fun hs_ => ?_)) <;> (have hp_ := hs_; (try simp only [hpL, ne_eq] at hp_); (try simp (disch := omega) only [bsW, WOp, WOq, WV, bo, eqN, gdc, gw, bnd, ↓reduceIte, Nat.reduceEqDiff, rsvs, rsv, oneOf, rdN, ne_eq, Nat.reduceAdd, Nat.reduceMul, Nat.reduceLT, reduceCtorEq, Value.cells, setN, Value.oneCell', Nat.reduceLeDiff, undef, fcT, hs_]))) | ((first | (with_reducible refine newB_i (fun nb_ hb_ => ?_)) | (with_reducible refine RgE_i (fun (hBd_ : Bd _ _) => ?_))); (try simp (disch := omega) only [bsW, WOp, WOq, WV, bo, eqN, gdc, gw, bnd, ↓reduceIte, Nat.reduceEqDiff, rsvs, rsv, oneOf, rdN, ne_eq, Nat.reduceAdd, Nat.reduceMul, Nat.reduceLT, reduceCtorEq, Value.cells, setN, Value.oneCell', Nat.reduceLeDiff, undef, fcT])) | (with_reducible refine fun (hBd_ : Bd _ _) => ?_) | ((first | (with_reducible refine @And.intro (Sub _ _) _ ?_ ?_) | ((with_reducible refine @And.intro (Sub _ _ ∧ _) _ ?_ ?_); (with_reducible refine @And.intro (Sub _ _) _ ?_ ?_))); exact sbX) | ((with_reducible refine And.intro ?_ ?_); omega)))
  · have h0 : l = [] := by
      cases l with
      | nil => rfl
      | cons a l =>
        obtain ⟨b, off, e1, _⟩ := h.at_ (show 0 < (a :: l).length by simp)
        rw [e1] at hs_
        cases hs_
    subst h0
    exact ⟨.nil, Sub.refl H⟩
  · refine app_L (g := l) (f := rowL l) (by simp (disch := omega) only [bsW, WOp, WOq, WV, bo, eqN, gdc, gw, bnd, ↓reduceIte, Nat.reduceEqDiff, rsvs, rsv, oneOf, rdN, ne_eq, Nat.reduceAdd, Nat.reduceMul, Nat.reduceLT, reduceCtorEq, Value.cells, setN, Value.oneCell', Nat.reduceLeDiff, undef, fcT]) (by simp (disch := omega) only [bsW, WOp, WOq, WV, bo, eqN, gdc, gw, bnd, ↓reduceIte, Nat.reduceEqDiff, rsvs, rsv, oneOf, rdN, ne_eq, Nat.reduceAdd, Nat.reduceMul, Nat.reduceLT, reduceCtorEq, Value.cells, setN, Value.oneCell', Nat.reduceLeDiff, undef, fcT]) (by simp (disch := omega) only [bsW, WOp, WOq, WV, bo, eqN, gdc, gw, bnd, ↓reduceIte, Nat.reduceEqDiff, rsvs, rsv, oneOf, rdN, ne_eq, Nat.reduceAdd, Nat.reduceMul, Nat.reduceLT, reduceCtorEq, Value.cells, setN, Value.oneCell', Nat.reduceLeDiff, undef, fcT]) (by simp (disch := omega) only [bsW, WOp, WOq, WV, bo, eqN, gdc, gw, bnd, ↓reduceIte, Nat.reduceEqDiff, rsvs, rsv, oneOf, rdN, ne_eq, Nat.reduceAdd, Nat.reduceMul, Nat.reduceLT, reduceCtorEq, Value.cells, setN, Value.oneCell', Nat.reduceLeDiff, undef, fcT]) (OwnL.empty (lo := nx) (by assumption) (by omega) (upd_same _ _ _)) rfl (h.sub (by (repeat (first | assumption | exact Sub.refl _ | (refine sub_up (nx := nx) ?_ hB ?_; omega))))) (fun _ _ _ _ => rfl) (by omega) (by simp; omega) ?_ ?_
    · intro h0
      subst h0
      simp (disch := omega) only [bsW, WOp, WOq, WV, bo, eqN, gdc, gw, bnd, ↓reduceIte, Nat.reduceEqDiff, rsvs, rsv, oneOf, rdN, ne_eq, Nat.reduceAdd, Nat.reduceMul, Nat.reduceLT, reduceCtorEq, Value.cells, setN, Value.oneCell', Nat.reduceLeDiff, undef, fcT]
      exact ⟨.empty (by assumption) (by omega) (upd_same _ _ _), by (repeat (first | assumption | exact Sub.refl _ | (refine sub_up (nx := nx) ?_ hB ?_; omega)))⟩
    · rintro v' b' o nx2 hb' hn2 hown' hO2
      have hlo : nx ≤ b' := by
        rcases hb' with e | e
        · cases e; assumption
        · omega
      simp (disch := omega) only [bsW, WOp, WOq, WV, bo, eqN, gdc, gw, bnd, ↓reduceIte, Nat.reduceEqDiff, rsvs, rsv, oneOf, rdN, ne_eq, Nat.reduceAdd, Nat.reduceMul, Nat.reduceLT, reduceCtorEq, Value.cells, setN, Value.oneCell', Nat.reduceLeDiff, undef, fcT]
      rw [List.nil_append] at hO2
      exact ⟨hO2, by (repeat (first | assumption | exact Sub.refl _ | (refine sub_up (nx := nx) ?_ hB ?_; omega)))⟩
theorem l1OwnN (A : Option Addr) (l : List Int) (n c : Nat) (H : Hp) (nx : Nat) (hl : l.length = n) (hn : n ≤ 1048576) (h : RdL H A l) :
    AC Tryd.prog 79 #[.slice A n c] H nx (NewL H nx l 3) := by
  subst hl
  refine AC_of x_spec_l1Own rfl fun hB => ?_
  simp (disch := omega) only [bsW, WOp, WOq, WV, bo, eqN, gdc, gw, bnd, ↓reduceIte, Nat.reduceEqDiff, rsvs, rsv, oneOf, rdN, ne_eq, Nat.reduceAdd, Nat.reduceMul, Nat.reduceLT, reduceCtorEq, Value.cells, setN, Value.oneCell', Nat.reduceLeDiff, undef, fcT, c_spec_l1Own]
  (repeat' (first | ((with_reducible refine gif_split (fun hs_ => ?_) (fun hs_ => ?_)) <;> (have hp_ := hs_; (try simp only [hpL, ne_eq] at hp_); (try simp (disch := omega) only [bsW, WOp, WOq, WV, bo, eqN, gdc, gw, bnd, ↓reduceIte, Nat.reduceEqDiff, rsvs, rsv, oneOf, rdN, ne_eq, Nat.reduceAdd, Nat.reduceMul, Nat.reduceLT, reduceCtorEq, Value.cells, setN, Value.oneCell', Nat.reduceLeDiff, undef, fcT, hs_]))) | ((first | (with_reducible refine newB_i (fun nb_ hb_ => ?_)) | (with_reducible refine RgE_i (fun (hBd_ : Bd _ _) => ?_))); (try simp (disch := omega) only [bsW, WOp, WOq, WV, bo, eqN, gdc, gw, bnd, ↓reduceIte, Nat.reduceEqDiff, rsvs, rsv, oneOf, rdN, ne_eq, Nat.reduceAdd, Nat.reduceMul, Nat.reduceLT, reduceCtorEq, Value.cells, setN, Value.oneCell', Nat.reduceLeDiff, undef, fcT])) | (with_reducible refine fun (hBd_ : Bd _ _) => ?_) | ((first | (with_reducible refine @And.intro (Sub _ _) _ ?_ ?_) | ((with_reducible refine @And.intro (Sub _ _ ∧ _) _ ?_ ?_); (with_reducible refine @And.intro (Sub _ _) _ ?_ ?_))); exact sbX) | ((with_reducible refine And.intro ?_ ?_); omega)))
  · refine app_L (g := l) (f := rowL l) (by simp (disch := omega) only [bsW, WOp, WOq, WV, bo, eqN, gdc, gw, bnd, ↓reduceIte, Nat.reduceEqDiff, rsvs, rsv, oneOf, rdN, ne_eq, Nat.reduceAdd, Nat.reduceMul, Nat.reduceLT, reduceCtorEq, Value.cells, setN, Value.oneCell', Nat.reduceLeDiff, undef, fcT]) (by simp (disch := omega) only [bsW, WOp, WOq, WV, bo, eqN, gdc, gw, bnd, ↓reduceIte, Nat.reduceEqDiff, rsvs, rsv, oneOf, rdN, ne_eq, Nat.reduceAdd, Nat.reduceMul, Nat.reduceLT, reduceCtorEq, Value.cells, setN, Value.oneCell', Nat.reduceLeDiff, undef, fcT]) (by simp (disch := omega) only [bsW, WOp, WOq, WV, bo, eqN, gdc, gw, bnd, ↓reduceIte, Nat.reduceEqDiff, rsvs, rsv, oneOf, rdN, ne_eq, Nat.reduceAdd, Nat.reduceMul, Nat.reduceLT, reduceCtorEq, Value.cells, setN, Value.oneCell', Nat.reduceLeDiff, undef, fcT]) (by simp (disch := omega) only [bsW, WOp, WOq, WV, bo, eqN, gdc, gw, bnd, ↓reduceIte, Nat.reduceEqDiff, rsvs, rsv, oneOf, rdN, ne_eq, Nat.reduceAdd, Nat.reduceMul, Nat.reduceLT, reduceCtorEq, Value.cells, setN, Value.oneCell', Nat.reduceLeDiff, undef, fcT]) (OwnL.empty (lo := nx) (by assumption) (by omega) (upd_same _ _ _)) rfl (h.sub (by (repeat (first | assumption | exact Sub.refl _ | (refine sub_up (nx := nx) ?_ hB ?_; omega))))) (fun _ _ _ _ => rfl) (by omega) (by simp; omega) ?_ ?_
    · intro h0
      subst h0
      simp (disch := omega) only [bsW, WOp, WOq, WV, bo, eqN, gdc, gw, bnd, ↓reduceIte, Nat.reduceEqDiff, rsvs, rsv, oneOf, rdN, ne_eq, Nat.reduceAdd, Nat.reduceMul, Nat.reduceLT, reduceCtorEq, Value.cells, setN, Value.oneCell', Nat.reduceLeDiff, undef, fcT]
      exact ⟨.empty (by assumption) (by omega) (upd_same _ _ _), by (repeat (first | assumption | exact Sub.refl _ | (refine sub_up (nx := nx) ?_ hB ?_; omega)))⟩
    · rintro v' b' o nx2 hb' hn2 hown' hO2
      have hlo : nx ≤ b' := by
        rcases hb' with e | e
        · cases e; assumption
        · omega
      simp (disch := omega) only [bsW, WOp, WOq, WV, bo, eqN, gdc, gw, bnd, ↓reduceIte, Nat.reduceEqDiff, rsvs, rsv, oneOf, rdN, ne_eq, Nat.reduceAdd, Nat.reduceMul, Nat.reduceLT, reduceCtorEq, Value.cells, setN, Value.oneCell', Nat.reduceLeDiff, undef, fcT]
      rw [List.nil_append] at hO2
      exact ⟨hO2, by (repeat (first | assumption | exact Sub.refl _ | (refine sub_up (nx := nx) ?_ hB ?_; omega)))⟩

def NewPz (H : Hp) (nx : Nat) (p : PzD) (v : Value) (H' : Hp) (nx' : Nat) : Prop := OwnP H' nx nx' p.tot p.la p.hand p.rj p.sl v ∧ Sub H H'

theorem copyPuzzle (b : Nat) (tot : Int) (A : Option Addr) (la : List Int) (c : Nat) (hand : Int) (B : Option Addr) (rj : List Int) (d : Nat) (sl : Bool) (H : Hp) (nx : Nat) (hla : la.length ≤ 1048576) (hrj : rj.length ≤ 1048576) (c0 : rd H b 0 = some (.int .i64 tot)) (c1 : rd H b 1 = some (.slice A la.length c)) (c2 : rd H b 2 = some (.int .i64 hand)) (c3 : rd H b 3 = some (.slice B rj.length d)) (c4 : rd H b 4 = some (.bool sl)) (hA : RdL H A la) (hRB : RdL H B rj) :
    AC Tryd.prog 36 #[.pointer (some ⟨b, 0, none⟩)] H nx (NewPz H nx ⟨tot, la, hand, rj, sl⟩) := by
  refine AC_of x_impl_copyPuzzle rfl fun hB => ?_
  have hb0 := rd_lt hB c0
  simp (disch := omega) only [bsW, WOp, WOq, WV, bo, eqN, gdc, gw, bnd, ↓reduceIte, Nat.reduceEqDiff, rsvs, rsv, oneOf, rdN, ne_eq, Nat.reduceAdd, Nat.reduceMul, Nat.reduceLT, reduceCtorEq, Value.cells, setN, Value.oneCell', Nat.reduceLeDiff, undef, fcT, c0, c1, c2, c3, c4, c_impl_copyPuzzle]
  (repeat' (first | ((with_reducible refine gif_split (fun hs_ => ?_) (fun hs_ => ?_)) <;> (have hp_ := hs_; (try simp only [hpL, ne_eq] at hp_); (try simp (disch := omega) only [bsW, WOp, WOq, WV, bo, eqN, gdc, gw, bnd, ↓reduceIte, Nat.reduceEqDiff, rsvs, rsv, oneOf, rdN, ne_eq, Nat.reduceAdd, Nat.reduceMul, Nat.reduceLT, reduceCtorEq, Value.cells, setN, Value.oneCell', Nat.reduceLeDiff, undef, fcT, c0, c1, c2, c3, c4, hs_]))) | ((first | (with_reducible refine newB_i (fun nb_ hb_ => ?_)) | (with_reducible refine RgE_i (fun (hBd_ : Bd _ _) => ?_))); (try simp (disch := omega) only [bsW, WOp, WOq, WV, bo, eqN, gdc, gw, bnd, ↓reduceIte, Nat.reduceEqDiff, rsvs, rsv, oneOf, rdN, ne_eq, Nat.reduceAdd, Nat.reduceMul, Nat.reduceLT, reduceCtorEq, Value.cells, setN, Value.oneCell', Nat.reduceLeDiff, undef, fcT, c0, c1, c2, c3, c4])) | (with_reducible refine fun (hBd_ : Bd _ _) => ?_) | ((first | (with_reducible refine @And.intro (Sub _ _) _ ?_ ?_) | ((with_reducible refine @And.intro (Sub _ _ ∧ _) _ ?_ ?_); (with_reducible refine @And.intro (Sub _ _) _ ?_ ?_))); exact sbX) | ((with_reducible refine And.intro ?_ ?_); omega)))
  all_goals try (exfalso; omega)
  refine (cloneL A la c _ _ hla (hA.sub (by (repeat (first | assumption | exact Sub.refl _ | (refine sub_up (nx := nx) ?_ hB ?_; omega)))))).monoC ?_
  rintro v1 H1 nx1 hB1 hx1 ⟨hO1, ht1⟩
  have e1 := ht1 nb_ _ (upd_same _ _ _)
  have hs1 : Sub H H1 := Sub.trans (by (repeat (first | assumption | exact Sub.refl _ | (refine sub_up (nx := nx) ?_ hB ?_; omega)))) ht1
  simp (disch := omega) only [bsW, WOp, WOq, WV, bo, eqN, gdc, gw, bnd, ↓reduceIte, Nat.reduceEqDiff, rsvs, rsv, oneOf, rdN, ne_eq, Nat.reduceAdd, Nat.reduceMul, Nat.reduceLT, reduceCtorEq, Value.cells, setN, Value.oneCell', Nat.reduceLeDiff, undef, fcT, c0, c1, c2, c3, c4]
  (repeat' (first | ((with_reducible refine gif_split (fun hs_ => ?_) (fun hs_ => ?_)) <;> (have hp_ := hs_; (try simp only [hpL, ne_eq] at hp_); (try simp (disch := omega) only [bsW, WOp, WOq, WV, bo, eqN, gdc, gw, bnd, ↓reduceIte, Nat.reduceEqDiff, rsvs, rsv, oneOf, rdN, ne_eq, Nat.reduceAdd, Nat.reduceMul, Nat.reduceLT, reduceCtorEq, Value.cells, setN, Value.oneCell', Nat.reduceLeDiff, undef, fcT, c0, c1, c2, c3, c4, hs_]))) | ((first | (with_reducible refine newB_i (fun nb_ hb_ => ?_)) | (with_reducible refine RgE_i (fun (hBd_ : Bd _ _) => ?_))); (try simp (disch := omega) only [bsW, WOp, WOq, WV, bo, eqN, gdc, gw, bnd, ↓reduceIte, Nat.reduceEqDiff, rsvs, rsv, oneOf, rdN, ne_eq, Nat.reduceAdd, Nat.reduceMul, Nat.reduceLT, reduceCtorEq, Value.cells, setN, Value.oneCell', Nat.reduceLeDiff, undef, fcT, c0, c1, c2, c3, c4])) | (with_reducible refine fun (hBd_ : Bd _ _) => ?_) | ((first | (with_reducible refine @And.intro (Sub _ _) _ ?_ ?_) | ((with_reducible refine @And.intro (Sub _ _ ∧ _) _ ?_ ?_); (with_reducible refine @And.intro (Sub _ _) _ ?_ ?_))); exact sbX) | ((with_reducible refine And.intro ?_ ?_); omega)))
  all_goals try (exfalso; omega)
  refine (cloneL B rj d _ _ hrj (hRB.sub hs1)).monoC ?_
  rintro v2 H2 nx2 hB2 hx2 ⟨hO2, ht2⟩
  have e2 := ht2 _ _ e1
  have hs2 : Sub H H2 := hs1.trans ht2
  obtain ⟨A1, k1, rfl, _, _⟩ := OwnR.rd hO1
  obtain ⟨A2, k2, rfl, _, _⟩ := OwnR.rd hO2
  simp (disch := omega) only [bsW, WOp, WOq, WV, bo, eqN, gdc, gw, bnd, ↓reduceIte, Nat.reduceEqDiff, rsvs, rsv, oneOf, rdN, ne_eq, Nat.reduceAdd, Nat.reduceMul, Nat.reduceLT, reduceCtorEq, Value.cells, setN, Value.oneCell', Nat.reduceLeDiff, undef, fcT, e2, c0, c1, c2, c3, c4]
  (repeat' (first | ((with_reducible refine gif_split (fun hs_ => ?_) (fun hs_ => ?_)) <;> (have hp_ := hs_; (try simp only [hpL, ne_eq] at hp_); (try simp (disch := omega) only [bsW, WOp, WOq, WV, bo, eqN, gdc, gw, bnd, ↓reduceIte, Nat.reduceEqDiff, rsvs, rsv, oneOf, rdN, ne_eq, Nat.reduceAdd, Nat.reduceMul, Nat.reduceLT, reduceCtorEq, Value.cells, setN, Value.oneCell', Nat.reduceLeDiff, undef, fcT, e2, c0, c1, c2, c3, c4, hs_]))) | ((first | (with_reducible refine newB_i (fun nb_ hb_ => ?_)) | (with_reducible refine RgE_i (fun (hBd_ : Bd _ _) => ?_))); (try simp (disch := omega) only [bsW, WOp, WOq, WV, bo, eqN, gdc, gw, bnd, ↓reduceIte, Nat.reduceEqDiff, rsvs, rsv, oneOf, rdN, ne_eq, Nat.reduceAdd, Nat.reduceMul, Nat.reduceLT, reduceCtorEq, Value.cells, setN, Value.oneCell', Nat.reduceLeDiff, undef, fcT, e2, c0, c1, c2, c3, c4])) | (with_reducible refine fun (hBd_ : Bd _ _) => ?_) | ((first | (with_reducible refine @And.intro (Sub _ _) _ ?_ ?_) | ((with_reducible refine @And.intro (Sub _ _ ∧ _) _ ?_ ?_); (with_reducible refine @And.intro (Sub _ _) _ ?_ ?_))); exact sbX) | ((with_reducible refine And.intro ?_ ?_); omega)))
  all_goals try (exfalso; omega)
  exact ⟨(sub_del _ _).trans (ht1.trans ht2), ⟨⟨_, _, rfl, OwnR.lo (lo' := nx) (OwnR.keep (OwnR.sub hO1 ht2 (Nat.le_refl _)) (fun c hc => upd_ne (by have := (OwnR.blk hO1 hc).1; omega)) (by omega)) (by omega), OwnR.lo (lo' := nx) (OwnR.keep hO2 (fun c hc => upd_ne (by have := (OwnR.blk hO2 hc).1; omega)) (Nat.le_refl _)) (by omega), fun c h1 h2 => by have := OwnR.blk hO1 h1; have := OwnR.blk hO2 h2; omega⟩, sub_up (nx := nx) (by omega) hB hs2⟩⟩
theorem l21Own (tot : Int) (A : Option Addr) (la : List Int) (c : Nat) (hand : Int) (B : Option Addr) (rj : List Int) (d : Nat) (sl : Bool) (H : Hp) (nx : Nat) (hla : la.length ≤ 1048576) (hrj : rj.length ≤ 1048576) (hA : RdL H A la) (hRB : RdL H B rj) :
    AC Tryd.prog 78 #[.agg #[.int .i64 tot, .slice A la.length c, .int .i64 hand, .slice B rj.length d, .bool sl]] H nx (NewPz H nx ⟨tot, la, hand, rj, sl⟩) := by
  refine AC_of x_spec_l21Own rfl fun hB => ?_
  simp (disch := omega) only [bsW, WOp, WOq, WV, bo, eqN, gdc, gw, bnd, ↓reduceIte, Nat.reduceEqDiff, rsvs, rsv, oneOf, rdN, ne_eq, Nat.reduceAdd, Nat.reduceMul, Nat.reduceLT, reduceCtorEq, Value.cells, setN, Value.oneCell', Nat.reduceLeDiff, undef, fcT, c_spec_l21Own]
  (repeat' (first | ((with_reducible refine gif_split (fun hs_ => ?_) (fun hs_ => ?_)) <;> (have hp_ := hs_; (try simp only [hpL, ne_eq] at hp_); (try simp (disch := omega) only [bsW, WOp, WOq, WV, bo, eqN, gdc, gw, bnd, ↓reduceIte, Nat.reduceEqDiff, rsvs, rsv, oneOf, rdN, ne_eq, Nat.reduceAdd, Nat.reduceMul, Nat.reduceLT, reduceCtorEq, Value.cells, setN, Value.oneCell', Nat.reduceLeDiff, undef, fcT, hs_]))) | ((first | (with_reducible refine newB_i (fun nb_ hb_ => ?_)) | (with_reducible refine RgE_i (fun (hBd_ : Bd _ _) => ?_))); (try simp (disch := omega) only [bsW, WOp, WOq, WV, bo, eqN, gdc, gw, bnd, ↓reduceIte, Nat.reduceEqDiff, rsvs, rsv, oneOf, rdN, ne_eq, Nat.reduceAdd, Nat.reduceMul, Nat.reduceLT, reduceCtorEq, Value.cells, setN, Value.oneCell', Nat.reduceLeDiff, undef, fcT])) | (with_reducible refine fun (hBd_ : Bd _ _) => ?_) | ((first | (with_reducible refine @And.intro (Sub _ _) _ ?_ ?_) | ((with_reducible refine @And.intro (Sub _ _ ∧ _) _ ?_ ?_); (with_reducible refine @And.intro (Sub _ _) _ ?_ ?_))); exact sbX) | ((with_reducible refine And.intro ?_ ?_); omega)))
  all_goals try (exfalso; omega)
  rename_i nb1 hb1
  refine (l1OwnN A la la.length c _ _ rfl hla (hA.sub (by (repeat (first | assumption | exact Sub.refl _ | (refine sub_up (nx := nx) ?_ hB ?_; omega)))))).monoC ?_
  rintro v1 H1 nx1 hB1 hx1 ⟨hO1, ht1⟩
  have e1 := ht1 nb_ _ (upd_same _ _ _)
  have e0 := ht1 nb1 _ (by rw [upd_ne (by omega)]; exact upd_same _ _ _)
  have hs1 : Sub H H1 := Sub.trans (by (repeat (first | assumption | exact Sub.refl _ | (refine sub_up (nx := nx) ?_ hB ?_; omega)))) ht1
  simp (disch := omega) only [bsW, WOp, WOq, WV, bo, eqN, gdc, gw, bnd, ↓reduceIte, Nat.reduceEqDiff, rsvs, rsv, oneOf, rdN, ne_eq, Nat.reduceAdd, Nat.reduceMul, Nat.reduceLT, reduceCtorEq, Value.cells, setN, Value.oneCell', Nat.reduceLeDiff, undef, fcT, rd_rw e0]
  (repeat' (first | ((with_reducible refine gif_split (fun hs_ => ?_) (fun hs_ => ?_)) <;> (have hp_ := hs_; (try simp only [hpL, ne_eq] at hp_); (try simp (disch := omega) only [bsW, WOp, WOq, WV, bo, eqN, gdc, gw, bnd, ↓reduceIte, Nat.reduceEqDiff, rsvs, rsv, oneOf, rdN, ne_eq, Nat.reduceAdd, Nat.reduceMul, Nat.reduceLT, reduceCtorEq, Value.cells, setN, Value.oneCell', Nat.reduceLeDiff, undef, fcT, rd_rw e0, hs_]))) | ((first | (with_reducible refine newB_i (fun nb_ hb_ => ?_)) | (with_reducible refine RgE_i (fun (hBd_ : Bd _ _) => ?_))); (try simp (disch := omega) only [bsW, WOp, WOq, WV, bo, eqN, gdc, gw, bnd, ↓reduceIte, Nat.reduceEqDiff, rsvs, rsv, oneOf, rdN, ne_eq, Nat.reduceAdd, Nat.reduceMul, Nat.reduceLT, reduceCtorEq, Value.cells, setN, Value.oneCell', Nat.reduceLeDiff, undef, fcT, rd_rw e0])) | (with_reducible refine fun (hBd_ : Bd _ _) => ?_) | ((first | (with_reducible refine @And.intro (Sub _ _) _ ?_ ?_) | ((with_reducible refine @And.intro (Sub _ _ ∧ _) _ ?_ ?_); (with_reducible refine @And.intro (Sub _ _) _ ?_ ?_))); exact sbX) | ((with_reducible refine And.intro ?_ ?_); omega)))
  all_goals try (exfalso; omega)
  refine (l1OwnN B rj rj.length d _ _ rfl hrj (hRB.sub hs1)).monoC ?_
  rintro v2 H2 nx2 hB2 hx2 ⟨hO2, ht2⟩
  have e2 := ht2 _ _ e1
  have e3 := ht2 _ _ e0
  have hs2 : Sub H H2 := hs1.trans ht2
  obtain ⟨A1, k1, rfl, _, _⟩ := OwnR.rd hO1
  obtain ⟨A2, k2, rfl, _, _⟩ := OwnR.rd hO2
  simp (disch := omega) only [bsW, WOp, WOq, WV, bo, eqN, gdc, gw, bnd, ↓reduceIte, Nat.reduceEqDiff, rsvs, rsv, oneOf, rdN, ne_eq, Nat.reduceAdd, Nat.reduceMul, Nat.reduceLT, reduceCtorEq, Value.cells, setN, Value.oneCell', Nat.reduceLeDiff, undef, fcT, e2, rd_rw e3]
  (repeat' (first | ((with_reducible refine gif_split (fun hs_ => ?_) (fun hs_ => ?_)) <;> (have hp_ := hs_; (try simp only [hpL, ne_eq] at hp_); (try simp (disch := omega) only [bsW, WOp, WOq, WV, bo, eqN, gdc, gw, bnd, ↓reduceIte, Nat.reduceEqDiff, rsvs, rsv, oneOf, rdN, ne_eq, Nat.reduceAdd, Nat.reduceMul, Nat.reduceLT, reduceCtorEq, Value.cells, setN, Value.oneCell', Nat.reduceLeDiff, undef, fcT, e2, rd_rw e3, hs_]))) | ((first | (with_reducible refine newB_i (fun nb_ hb_ => ?_)) | (with_reducible refine RgE_i (fun (hBd_ : Bd _ _) => ?_))); (try simp (disch := omega) only [bsW, WOp, WOq, WV, bo, eqN, gdc, gw, bnd, ↓reduceIte, Nat.reduceEqDiff, rsvs, rsv, oneOf, rdN, ne_eq, Nat.reduceAdd, Nat.reduceMul, Nat.reduceLT, reduceCtorEq, Value.cells, setN, Value.oneCell', Nat.reduceLeDiff, undef, fcT, e2, rd_rw e3])) | (with_reducible refine fun (hBd_ : Bd _ _) => ?_) | ((first | (with_reducible refine @And.intro (Sub _ _) _ ?_ ?_) | ((with_reducible refine @And.intro (Sub _ _ ∧ _) _ ?_ ?_); (with_reducible refine @And.intro (Sub _ _) _ ?_ ?_))); exact sbX) | ((with_reducible refine And.intro ?_ ?_); omega)))
  all_goals try (exfalso; omega)
  exact ⟨(sub_del _ _).trans (ht1.trans ht2), ⟨⟨_, _, rfl, OwnR.lo (lo' := nx) (OwnR.keep (OwnR.sub hO1 ht2 (Nat.le_refl _)) (fun c hc => upd_ne (by have := (OwnR.blk hO1 hc).1; omega)) (by omega)) (by omega), OwnR.lo (lo' := nx) (OwnR.keep hO2 (fun c hc => upd_ne (by have := (OwnR.blk hO2 hc).1; omega)) (Nat.le_refl _)) (by omega), fun c h1 h2 => by have := OwnR.blk hO1 h1; have := OwnR.blk hO2 h2; omega⟩, sub_up (nx := nx) (by omega) hB hs2⟩⟩
theorem isPuzzleStep (kd pc : Int) (H : Hp) (nx : Nat) : PC Tryd.prog 37 #[.agg #[.int .i64 kd, .int .i64 pc]] H nx (.bool (stepB kd pc)) := by
  refine AC_of x_impl_isPuzzleStep rfl fun hB => ?_
  simp (disch := omega) only [bsW, WOp, WOq, WV, bo, eqN, gdc, gw, bnd, ↓reduceIte, Nat.reduceEqDiff, rsvs, rsv, oneOf, rdN, ne_eq, Nat.reduceAdd, Nat.reduceMul, Nat.reduceLT, reduceCtorEq, Value.cells, setN, Value.oneCell', Nat.reduceLeDiff, undef, fcT, c_impl_isPuzzleStep]
  (repeat' (first | ((with_reducible refine gif_split (fun hs_ => ?_) (fun hs_ => ?_)) <;> (have hp_ := hs_; (try simp only [hpL, ne_eq] at hp_); (try simp (disch := omega) only [bsW, WOp, WOq, WV, bo, eqN, gdc, gw, bnd, ↓reduceIte, Nat.reduceEqDiff, rsvs, rsv, oneOf, rdN, ne_eq, Nat.reduceAdd, Nat.reduceMul, Nat.reduceLT, reduceCtorEq, Value.cells, setN, Value.oneCell', Nat.reduceLeDiff, undef, fcT, hs_]))) | ((first | (with_reducible refine newB_i (fun nb_ hb_ => ?_)) | ((with_reducible show QC _ _ _ _ _ _); (first | (refine QC_i (inRange _ _ _ _ _) ?_))) | ((with_reducible show AC _ _ _ _ _ _); (first | (refine PC.ac (inRange _ _ _ _ _) ?_))) | (with_reducible refine RgE_i (fun (hBd_ : Bd _ _) => ?_))); (try simp (disch := omega) only [bsW, WOp, WOq, WV, bo, eqN, gdc, gw, bnd, ↓reduceIte, Nat.reduceEqDiff, rsvs, rsv, oneOf, rdN, ne_eq, Nat.reduceAdd, Nat.reduceMul, Nat.reduceLT, reduceCtorEq, Value.cells, setN, Value.oneCell', Nat.reduceLeDiff, undef, fcT])) | (with_reducible refine fun (hBd_ : Bd _ _) => ?_) | ((first | (with_reducible refine @And.intro (Sub _ _) _ ?_ ?_) | ((with_reducible refine @And.intro (Sub _ _ ∧ _) _ ?_ ?_); (with_reducible refine @And.intro (Sub _ _) _ ?_ ?_))); exact sbX) | ((with_reducible refine And.intro ?_ ?_); omega)))
  all_goals try (exfalso; omega)
  all_goals refine Is_e (congrArg Value.bool ?_) (by (repeat (first | assumption | exact Sub.refl _ | (refine sub_up (nx := nx) ?_ hB ?_; omega))))
  all_goals rw [Bool.eq_iff_iff]
  all_goals try unfold inR
  all_goals unfold stepB
  all_goals split
  all_goals simp only [decide_eq_true_eq, beq_iff_eq, Bool.and_eq_true, Bool.false_eq_true, iff_false, false_iff]
  all_goals (try simp only [inR_true, inR_false] at *)
  all_goals omega
theorem l21Step (kd pc : Int) (H : Hp) (nx : Nat) : PC Tryd.prog 66 #[.agg #[.int .i64 kd, .int .i64 pc]] H nx (.bool (stepB kd pc)) := by
  refine AC_of x_spec_l21Step rfl fun hB => ?_
  simp (disch := omega) only [bsW, WOp, WOq, WV, bo, eqN, gdc, gw, bnd, ↓reduceIte, Nat.reduceEqDiff, rsvs, rsv, oneOf, rdN, ne_eq, Nat.reduceAdd, Nat.reduceMul, Nat.reduceLT, reduceCtorEq, Value.cells, setN, Value.oneCell', Nat.reduceLeDiff, undef, fcT, c_spec_l21Step]
  (repeat' (first | ((with_reducible refine gif_split (fun hs_ => ?_) (fun hs_ => ?_)) <;> (have hp_ := hs_; (try simp only [hpL, ne_eq] at hp_); (try simp (disch := omega) only [bsW, WOp, WOq, WV, bo, eqN, gdc, gw, bnd, ↓reduceIte, Nat.reduceEqDiff, rsvs, rsv, oneOf, rdN, ne_eq, Nat.reduceAdd, Nat.reduceMul, Nat.reduceLT, reduceCtorEq, Value.cells, setN, Value.oneCell', Nat.reduceLeDiff, undef, fcT, hs_]))) | ((first | (with_reducible refine newB_i (fun nb_ hb_ => ?_)) | ((with_reducible show QC _ _ _ _ _ _); (first | (refine QC_i (l1In _ _ _ _ _) ?_))) | ((with_reducible show AC _ _ _ _ _ _); (first | (refine PC.ac (l1In _ _ _ _ _) ?_))) | (with_reducible refine RgE_i (fun (hBd_ : Bd _ _) => ?_))); (try simp (disch := omega) only [bsW, WOp, WOq, WV, bo, eqN, gdc, gw, bnd, ↓reduceIte, Nat.reduceEqDiff, rsvs, rsv, oneOf, rdN, ne_eq, Nat.reduceAdd, Nat.reduceMul, Nat.reduceLT, reduceCtorEq, Value.cells, setN, Value.oneCell', Nat.reduceLeDiff, undef, fcT])) | (with_reducible refine fun (hBd_ : Bd _ _) => ?_) | ((first | (with_reducible refine @And.intro (Sub _ _) _ ?_ ?_) | ((with_reducible refine @And.intro (Sub _ _ ∧ _) _ ?_ ?_); (with_reducible refine @And.intro (Sub _ _) _ ?_ ?_))); exact sbX) | ((with_reducible refine And.intro ?_ ?_); omega)))
  all_goals try (exfalso; omega)
  all_goals refine Is_e (congrArg Value.bool ?_) (by (repeat (first | assumption | exact Sub.refl _ | (refine sub_up (nx := nx) ?_ hB ?_; omega))))
  all_goals rw [Bool.eq_iff_iff]
  all_goals try unfold inR
  all_goals unfold stepB
  all_goals split
  all_goals simp only [decide_eq_true_eq, beq_iff_eq, Bool.and_eq_true, Bool.false_eq_true, iff_false, false_iff]
  all_goals (try simp only [inR_true, inR_false] at *)
  all_goals omega
end Go.Proofs.YtbhabpenlaklcaaDoor
