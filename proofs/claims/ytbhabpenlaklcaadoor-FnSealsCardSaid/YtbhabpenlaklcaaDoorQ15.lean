/- Puzzles: steps run one after the other. -/
import Derived.Test.YtbhabpenlaklcaaDoorQ14
set_option linter.unusedVariables false
set_option linter.unusedSimpArgs false
set_option maxRecDepth 100000
set_option maxHeartbeats 4000000
namespace Go.Proofs.YtbhabpenlaklcaaDoor
open Go Go.RowKit Go.Proofs

theorem PzOk.len {tot : Int} {la : List Int} {hand : Int} {rj : List Int} {sl : Bool} (h : PzOk tot la hand rj sl) : la.length + rj.length ≤ 20 := by
  have h1 := h.t1
  have h2 := h.t2
  have := len_le (t := tot.toNat) h.nd (fun x hx => by have := h.rg x hx; omega)
  unfold pcs at this
  simp only [List.length_append] at this
  omega
/-- The steps run one after the other. -/
def runP (p : PzD) (f : Nat → Nat → Int) : Nat → PzD × Nat
  | 0 => (p, 0)
  | k + 1 => if stepB (f k 0) (f k 1) = true ∧ stOk (runP p f k).1 (f k 0) (f k 1) = true then (stP (runP p f k).1 (f k 0) (f k 1), (runP p f k).2 + 1) else runP p f k
theorem runP_ok {p : PzD} (h : p.ok) (f : Nat → Nat → Int) : ∀ k, (runP p f k).1.ok
  | 0 => h
  | k + 1 => by
    unfold runP
    split
    · rename_i hh
      exact st_valid (runP_ok h f k) hh.1 hh.2
    · exact runP_ok h f k
theorem runP_le (p : PzD) (f : Nat → Nat → Int) : ∀ k, (runP p f k).2 ≤ k
  | 0 => Nat.le_refl _
  | k + 1 => by
    have := runP_le p f k
    unfold runP
    split
    · show _ + 1 ≤ _; omega
    · omega
noncomputable def runB (p : PzD) (n : Nat) : Bool := pzB p.tot p.la p.hand p.rj p.sl && decide (n ≤ 40)
noncomputable def runD (p : PzD) (f : Nat → Nat → Int) (n : Nat) : PzD := if runB p n = true then (runP p f n).1 else PzD.zero
noncomputable def runM (p : PzD) (f : Nat → Nat → Int) (n : Nat) : Nat := if runB p n = true then (runP p f n).2 else 0
def RunK (H : Hp) (nx : Nat) (p : PzD) (f : Nat → Nat → Int) (n : Nat) (v : Value) (H' : Hp) (nx' : Nat) : Prop := ∃ w, v = .tuple #[w, .int .i64 (runM p f n : Nat), .bool (runB p n)] ∧ NewPz H nx (runD p f n) w H' nx'
theorem runK_no {H : Hp} {nx : Nat} {p : PzD} {f : Nat → Nat → Int} {n : Nat} {H' : Hp} {nx' : Nat} (h : runB p n = false) (hs : Sub H H') : RunK H nx p f n (.tuple #[.agg #[.int .i64 0, .slice none 0 0, .int .i64 0, .slice none 0 0, .bool false], .int .i64 0, .bool false]) H' nx' := by
  have e1 : runM p f n = 0 := by simp [runM, h]
  have e2 : runD p f n = PzD.zero := by simp [runD, h]
  refine ⟨_, by rw [e1, h]; rfl, ?_⟩
  rw [e2]
  exact ⟨ownP_nil _ _ _ _ _ _, hs⟩
theorem runK_yes {H : Hp} {nx : Nat} {p q : PzD} {f : Nat → Nat → Int} {n m : Nat} {w : Value} {H' : Hp} {nx' : Nat} (h : runB p n = true) (hq : runP p f n = (q, m)) (ho : OwnP H' nx nx' q.tot q.la q.hand q.rj q.sl w) (hs : Sub H H') : RunK H nx p f n (.tuple #[w, .int .i64 m, .bool true]) H' nx' := by
  have e1 : runM p f n = m := by simp [runM, h, hq]
  have e2 : runD p f n = q := by simp [runD, h, hq]
  refine ⟨w, by rw [e1, h], ?_⟩
  rw [e2]
  exact ⟨ho, hs⟩
/-- What a cell of the text's own holds: a puzzle, its rows elsewhere. -/
def CellP (H : Hp) (lo bN nx : Nat) (q : PzD) : Prop := ∃ A1 k1 A2 k2, H bN = some (.rw [.int .i64 q.tot, .slice A1 q.la.length k1, .int .i64 q.hand, .slice A2 q.rj.length k2, .bool q.sl] 28) ∧ q.la.length ≤ k1 ∧
  OwnL H lo nx q.la 3 (.slice A1 q.la.length k1) ∧ OwnL H lo nx q.rj 3 (.slice A2 q.rj.length k2) ∧ (∀ c, some c = ownBlk (.slice A1 q.la.length k1) → some c = ownBlk (.slice A2 q.rj.length k2) → False) ∧
  (∀ c, some c = ownBlk (.slice A1 q.la.length k1) → c ≠ bN) ∧ (∀ c, some c = ownBlk (.slice A2 q.rj.length k2) → c ≠ bN)
theorem CellP.sub {H H' : Hp} {lo bN nx nx' : Nat} {q : PzD} (h : CellP H lo bN nx q) (hs : Sub H H') (hn : nx ≤ nx') : CellP H' lo bN nx' q := by
  obtain ⟨A1, k1, A2, k2, h1, h2, h3, h4, h5, h6, h7⟩ := h
  exact ⟨A1, k1, A2, k2, hs _ _ h1, h2, OwnR.sub h3 hs hn, OwnR.sub h4 hs hn, h5, h6, h7⟩
theorem CellP.up {H : Hp} {lo bN nx b : Nat} {o : Blk} {q : PzD} (h : CellP H lo bN nx q) (hb : nx ≤ b) (hN : bN < nx) : CellP (upd H b o) lo bN (b + 1) q := by
  obtain ⟨A1, k1, A2, k2, h1, h2, h3, h4, h5, h6, h7⟩ := h
  exact ⟨A1, k1, A2, k2, by rw [upd_ne (by omega)]; exact h1, h2, OwnR.new h3 hb, OwnR.new h4 hb, h5, h6, h7⟩
theorem runP_no {p : PzD} {f : Nat → Nat → Int} {k : Nat} (h : stepB (f k 0) (f k 1) = false ∨ stOk (runP p f k).1 (f k 0) (f k 1) = false) : runP p f (k + 1) = runP p f k := by
  show (if _ then _ else _) = _
  rw [if_neg]
  rintro ⟨h1, h2⟩
  rcases h with h | h
  · rw [h] at h1; cases h1
  · rw [h] at h2; cases h2
theorem runP_yes {p : PzD} {f : Nat → Nat → Int} {k : Nat} (h1 : stepB (f k 0) (f k 1) = true) (h2 : stOk (runP p f k).1 (f k 0) (f k 1) = true) : runP p f (k + 1) = (stP (runP p f k).1 (f k 0) (f k 1), (runP p f k).2 + 1) := if_pos ⟨h1, h2⟩
theorem RunPuzzle (tot : Int) (A : Option Addr) (la : List Int) (c : Nat) (hand : Int) (B : Option Addr) (rj : List Int) (d : Nat) (sl : Bool) (S : Option Addr) (n e : Nat) (f : Nat → Nat → Int) (H : Hp) (nx : Nat) (hla : la.length + rj.length ≤ 1048576) (hc : la.length ≤ c) (hn : n ≤ 1048576) (hA : RdL H A la) (hRB : RdL H B rj) (hS : Rd H S n 2 f) :
    AC Tryd.prog 17 #[.agg #[.int .i64 tot, .slice A la.length c, .int .i64 hand, .slice B rj.length d, .bool sl], .slice S n e] H nx (RunK H nx ⟨tot, la, hand, rj, sl⟩ f n) := by
  refine AC_of x_impl_RunPuzzle rfl fun hB => ?_
  simp (disch := omega) only [bsW, WOp, WOq, WV, bo, eqN, gdc, gw, bnd, ↓reduceIte, Nat.reduceEqDiff, rsvs, rsv, oneOf, rdN, ne_eq, Nat.reduceAdd, Nat.reduceMul, Nat.reduceLT, reduceCtorEq, Value.cells, setN, Value.oneCell', Nat.reduceLeDiff, undef, fcT, c_impl_RunPuzzle]
  refine newB_i (fun nb_ hb_ => ?_)
  simp (disch := omega) only [bsW, WOp, WOq, WV, bo, eqN, gdc, gw, bnd, ↓reduceIte, Nat.reduceEqDiff, rsvs, rsv, oneOf, rdN, ne_eq, Nat.reduceAdd, Nat.reduceMul, Nat.reduceLT, reduceCtorEq, Value.cells, setN, Value.oneCell', Nat.reduceLeDiff, undef, fcT]
  have hs0 : Sub H (upd H nb_ (.rw [.int .i64 tot, .slice A la.length c, .int .i64 hand, .slice B rj.length d, .bool sl] 28)) := sub_up (nx := nx) (by omega) hB (Sub.refl _)
  have hBA : Bd (upd H nb_ (.rw [.int .i64 tot, .slice A la.length c, .int .i64 hand, .slice B rj.length d, .bool sl] 28)) (nb_ + 1) := Bd.up hB (by omega)
  have c0 : rd (upd H nb_ (.rw [.int .i64 tot, .slice A la.length c, .int .i64 hand, .slice B rj.length d, .bool sl] 28)) nb_ 0 = some (.int .i64 tot) := by rw [rd_upd_same]; rfl
  have c1 : rd (upd H nb_ (.rw [.int .i64 tot, .slice A la.length c, .int .i64 hand, .slice B rj.length d, .bool sl] 28)) nb_ 1 = some (.slice A la.length c) := by rw [rd_upd_same]; rfl
  have c2 : rd (upd H nb_ (.rw [.int .i64 tot, .slice A la.length c, .int .i64 hand, .slice B rj.length d, .bool sl] 28)) nb_ 2 = some (.int .i64 hand) := by rw [rd_upd_same]; rfl
  have c3 : rd (upd H nb_ (.rw [.int .i64 tot, .slice A la.length c, .int .i64 hand, .slice B rj.length d, .bool sl] 28)) nb_ 3 = some (.slice B rj.length d) := by rw [rd_upd_same]; rfl
  have c4 : rd (upd H nb_ (.rw [.int .i64 tot, .slice A la.length c, .int .i64 hand, .slice B rj.length d, .bool sl] 28)) nb_ 4 = some (.bool sl) := by rw [rd_upd_same]; rfl
  replace hA := hA.sub hs0
  replace hRB := hRB.sub hs0
  have hbA := hb_
  generalize (upd H nb_ (.rw [.int .i64 tot, .slice A la.length c, .int .i64 hand, .slice B rj.length d, .bool sl] 28)) = H0 at *
  generalize nb_ = bA at *
  cases hv : pzB tot la hand rj sl
  · have hno : runB ⟨tot, la, hand, rj, sl⟩ n = false := by simp [runB, hv]
    (try (simp (disch := omega) only [bsW, WOp, WOq, WV, bo, eqN, gdc, gw, bnd, ↓reduceIte, Nat.reduceEqDiff, rsvs, rsv, oneOf, rdN, ne_eq, Nat.reduceAdd, Nat.reduceMul, Nat.reduceLT, reduceCtorEq, Value.cells, setN, Value.oneCell', Nat.reduceLeDiff, undef, fcT, c0, c1, c2, c3, c4, hv, Bool.not_false]))
    (repeat' (first | ((with_reducible refine gif_split (fun hs_ => ?_) (fun hs_ => ?_)) <;> (have hp_ := hs_; (try simp only [hpL, ne_eq] at hp_); (try simp (disch := omega) only [bsW, WOp, WOq, WV, bo, eqN, gdc, gw, bnd, ↓reduceIte, Nat.reduceEqDiff, rsvs, rsv, oneOf, rdN, ne_eq, Nat.reduceAdd, Nat.reduceMul, Nat.reduceLT, reduceCtorEq, Value.cells, setN, Value.oneCell', Nat.reduceLeDiff, undef, fcT, c0, c1, c2, c3, c4, hv, Bool.not_false, hs_]))) | ((first | (with_reducible refine newB_i (fun nb_ hb_ => ?_)) | ((with_reducible show QC _ _ _ _ _ _); (first | (refine QC_i (isPuzzle bA tot A la c hand B rj d sl _ _ hla (by first | assumption | exact rd_sub (sub_up (nx := bA + 1) (by omega) hBA (Sub.refl _)) c0) (rd_sub (sub_up (nx := bA + 1) (by omega) hBA (Sub.refl _)) c1) (rd_sub (sub_up (nx := bA + 1) (by omega) hBA (Sub.refl _)) c2) (rd_sub (sub_up (nx := bA + 1) (by omega) hBA (Sub.refl _)) c3) (rd_sub (sub_up (nx := bA + 1) (by omega) hBA (Sub.refl _)) c4) (hA.sub (sub_up (nx := bA + 1) (by omega) hBA (Sub.refl _))) (hRB.sub (sub_up (nx := bA + 1) (by omega) hBA (Sub.refl _)))) ?_))) | ((with_reducible show AC _ _ _ _ _ _); (first | (refine PC.ac (isPuzzle bA tot A la c hand B rj d sl _ _ hla (by first | assumption | exact rd_sub (sub_up (nx := bA + 1) (by omega) hBA (Sub.refl _)) c0) (rd_sub (sub_up (nx := bA + 1) (by omega) hBA (Sub.refl _)) c1) (rd_sub (sub_up (nx := bA + 1) (by omega) hBA (Sub.refl _)) c2) (rd_sub (sub_up (nx := bA + 1) (by omega) hBA (Sub.refl _)) c3) (rd_sub (sub_up (nx := bA + 1) (by omega) hBA (Sub.refl _)) c4) (hA.sub (sub_up (nx := bA + 1) (by omega) hBA (Sub.refl _))) (hRB.sub (sub_up (nx := bA + 1) (by omega) hBA (Sub.refl _)))) ?_))) | (with_reducible refine RgE_i (fun (hBd_ : Bd _ _) => ?_))); (try simp (disch := omega) only [bsW, WOp, WOq, WV, bo, eqN, gdc, gw, bnd, ↓reduceIte, Nat.reduceEqDiff, rsvs, rsv, oneOf, rdN, ne_eq, Nat.reduceAdd, Nat.reduceMul, Nat.reduceLT, reduceCtorEq, Value.cells, setN, Value.oneCell', Nat.reduceLeDiff, undef, fcT, c0, c1, c2, c3, c4, hv, Bool.not_false])) | (with_reducible refine fun (hBd_ : Bd _ _) => ?_) | ((first | (with_reducible refine @And.intro (Sub _ _) _ ?_ ?_) | ((with_reducible refine @And.intro (Sub _ _ ∧ _) _ ?_ ?_); (with_reducible refine @And.intro (Sub _ _) _ ?_ ?_))); exact sbX) | ((with_reducible refine And.intro ?_ ?_); omega)))
    all_goals try (exfalso; omega)
    exact runK_no hno (by (repeat (first | assumption | exact Sub.refl _ | (refine sub_up (nx := nx) ?_ hB ?_; omega))))
  cases hn40 : decide ((40 : Int) < (n : Int))
  rotate_left
  · have hno : runB ⟨tot, la, hand, rj, sl⟩ n = false := by simp at hn40; simp [runB, hv]; omega
    (try (simp (disch := omega) only [bsW, WOp, WOq, WV, bo, eqN, gdc, gw, bnd, ↓reduceIte, Nat.reduceEqDiff, rsvs, rsv, oneOf, rdN, ne_eq, Nat.reduceAdd, Nat.reduceMul, Nat.reduceLT, reduceCtorEq, Value.cells, setN, Value.oneCell', Nat.reduceLeDiff, undef, fcT, c0, c1, c2, c3, c4, hv, hn40, Bool.not_true]))
    (repeat' (first | ((with_reducible refine gif_split (fun hs_ => ?_) (fun hs_ => ?_)) <;> (have hp_ := hs_; (try simp only [hpL, ne_eq] at hp_); (try simp (disch := omega) only [bsW, WOp, WOq, WV, bo, eqN, gdc, gw, bnd, ↓reduceIte, Nat.reduceEqDiff, rsvs, rsv, oneOf, rdN, ne_eq, Nat.reduceAdd, Nat.reduceMul, Nat.reduceLT, reduceCtorEq, Value.cells, setN, Value.oneCell', Nat.reduceLeDiff, undef, fcT, c0, c1, c2, c3, c4, hv, hn40, Bool.not_true, hs_]))) | ((first | (with_reducible refine newB_i (fun nb_ hb_ => ?_)) | ((with_reducible show QC _ _ _ _ _ _); (first | (refine QC_i (isPuzzle bA tot A la c hand B rj d sl _ _ hla (by first | assumption | exact rd_sub (sub_up (nx := bA + 1) (by omega) hBA (Sub.refl _)) c0) (rd_sub (sub_up (nx := bA + 1) (by omega) hBA (Sub.refl _)) c1) (rd_sub (sub_up (nx := bA + 1) (by omega) hBA (Sub.refl _)) c2) (rd_sub (sub_up (nx := bA + 1) (by omega) hBA (Sub.refl _)) c3) (rd_sub (sub_up (nx := bA + 1) (by omega) hBA (Sub.refl _)) c4) (hA.sub (sub_up (nx := bA + 1) (by omega) hBA (Sub.refl _))) (hRB.sub (sub_up (nx := bA + 1) (by omega) hBA (Sub.refl _)))) ?_))) | ((with_reducible show AC _ _ _ _ _ _); (first | (refine PC.ac (isPuzzle bA tot A la c hand B rj d sl _ _ hla (by first | assumption | exact rd_sub (sub_up (nx := bA + 1) (by omega) hBA (Sub.refl _)) c0) (rd_sub (sub_up (nx := bA + 1) (by omega) hBA (Sub.refl _)) c1) (rd_sub (sub_up (nx := bA + 1) (by omega) hBA (Sub.refl _)) c2) (rd_sub (sub_up (nx := bA + 1) (by omega) hBA (Sub.refl _)) c3) (rd_sub (sub_up (nx := bA + 1) (by omega) hBA (Sub.refl _)) c4) (hA.sub (sub_up (nx := bA + 1) (by omega) hBA (Sub.refl _))) (hRB.sub (sub_up (nx := bA + 1) (by omega) hBA (Sub.refl _)))) ?_))) | (with_reducible refine RgE_i (fun (hBd_ : Bd _ _) => ?_))); (try simp (disch := omega) only [bsW, WOp, WOq, WV, bo, eqN, gdc, gw, bnd, ↓reduceIte, Nat.reduceEqDiff, rsvs, rsv, oneOf, rdN, ne_eq, Nat.reduceAdd, Nat.reduceMul, Nat.reduceLT, reduceCtorEq, Value.cells, setN, Value.oneCell', Nat.reduceLeDiff, undef, fcT, c0, c1, c2, c3, c4, hv, hn40, Bool.not_true])) | (with_reducible refine fun (hBd_ : Bd _ _) => ?_) | ((first | (with_reducible refine @And.intro (Sub _ _) _ ?_ ?_) | ((with_reducible refine @And.intro (Sub _ _ ∧ _) _ ?_ ?_); (with_reducible refine @And.intro (Sub _ _) _ ?_ ?_))); exact sbX) | ((with_reducible refine And.intro ?_ ?_); omega)))
    all_goals try (exfalso; omega)
    exact runK_no hno (by (repeat (first | assumption | exact Sub.refl _ | (refine sub_up (nx := nx) ?_ hB ?_; omega))))
  have hyes : runB ⟨tot, la, hand, rj, sl⟩ n = true := by simp at hn40; simp [runB, hv]; omega
  have hok : PzD.ok ⟨tot, la, hand, rj, sl⟩ := pzB_iff.1 hv
  have hbc := rd_lt hBA c0
  (try (simp (disch := omega) only [bsW, WOp, WOq, WV, bo, eqN, gdc, gw, bnd, ↓reduceIte, Nat.reduceEqDiff, rsvs, rsv, oneOf, rdN, ne_eq, Nat.reduceAdd, Nat.reduceMul, Nat.reduceLT, reduceCtorEq, Value.cells, setN, Value.oneCell', Nat.reduceLeDiff, undef, fcT, c0, c1, c2, c3, c4, hv, hn40, Bool.not_true]))
  (repeat' (first | ((with_reducible refine gif_split (fun hs_ => ?_) (fun hs_ => ?_)) <;> (have hp_ := hs_; (try simp only [hpL, ne_eq] at hp_); (try simp (disch := omega) only [bsW, WOp, WOq, WV, bo, eqN, gdc, gw, bnd, ↓reduceIte, Nat.reduceEqDiff, rsvs, rsv, oneOf, rdN, ne_eq, Nat.reduceAdd, Nat.reduceMul, Nat.reduceLT, reduceCtorEq, Value.cells, setN, Value.oneCell', Nat.reduceLeDiff, undef, fcT, c0, c1, c2, c3, c4, hv, hn40, Bool.not_true, hs_]))) | ((first | (with_reducible refine newB_i (fun nb_ hb_ => ?_)) | ((with_reducible show QC _ _ _ _ _ _); (first | (refine QC_i (isPuzzle bA tot A la c hand B rj d sl _ _ hla (by first | assumption | exact rd_sub (sub_up (nx := bA + 1) (by omega) hBA (Sub.refl _)) c0) (rd_sub (sub_up (nx := bA + 1) (by omega) hBA (Sub.refl _)) c1) (rd_sub (sub_up (nx := bA + 1) (by omega) hBA (Sub.refl _)) c2) (rd_sub (sub_up (nx := bA + 1) (by omega) hBA (Sub.refl _)) c3) (rd_sub (sub_up (nx := bA + 1) (by omega) hBA (Sub.refl _)) c4) (hA.sub (sub_up (nx := bA + 1) (by omega) hBA (Sub.refl _))) (hRB.sub (sub_up (nx := bA + 1) (by omega) hBA (Sub.refl _)))) ?_))) | ((with_reducible show AC _ _ _ _ _ _); (first | (refine PC.ac (isPuzzle bA tot A la c hand B rj d sl _ _ hla (by first | assumption | exact rd_sub (sub_up (nx := bA + 1) (by omega) hBA (Sub.refl _)) c0) (rd_sub (sub_up (nx := bA + 1) (by omega) hBA (Sub.refl _)) c1) (rd_sub (sub_up (nx := bA + 1) (by omega) hBA (Sub.refl _)) c2) (rd_sub (sub_up (nx := bA + 1) (by omega) hBA (Sub.refl _)) c3) (rd_sub (sub_up (nx := bA + 1) (by omega) hBA (Sub.refl _)) c4) (hA.sub (sub_up (nx := bA + 1) (by omega) hBA (Sub.refl _))) (hRB.sub (sub_up (nx := bA + 1) (by omega) hBA (Sub.refl _)))) ?_))) | (with_reducible refine RgE_i (fun (hBd_ : Bd _ _) => ?_))); (try simp (disch := omega) only [bsW, WOp, WOq, WV, bo, eqN, gdc, gw, bnd, ↓reduceIte, Nat.reduceEqDiff, rsvs, rsv, oneOf, rdN, ne_eq, Nat.reduceAdd, Nat.reduceMul, Nat.reduceLT, reduceCtorEq, Value.cells, setN, Value.oneCell', Nat.reduceLeDiff, undef, fcT, c0, c1, c2, c3, c4, hv, hn40, Bool.not_true])) | (with_reducible refine fun (hBd_ : Bd _ _) => ?_) | ((first | (with_reducible refine @And.intro (Sub _ _) _ ?_ ?_) | ((with_reducible refine @And.intro (Sub _ _ ∧ _) _ ?_ ?_); (with_reducible refine @And.intro (Sub _ _) _ ?_ ?_))); exact sbX) | ((with_reducible refine And.intro ?_ ?_); omega)))
  all_goals try (exfalso; omega)
  have hbR := hb_
  have hs1 : Sub H0 (upd H0 nb_ (.rw [.int .i64 0, .slice none 0 0, .int .i64 0, .slice none 0 0, .bool false] 28)) := sub_up (nx := bA + 1) (by omega) hBA (Sub.refl _)
  generalize nb_ = bR at *
  refine (copyPuzzle bA tot A la c hand B rj d sl _ _ (by omega) (by omega) (rd_sub hs1 c0) (rd_sub hs1 c1) (rd_sub hs1 c2) (rd_sub hs1 c3) (rd_sub hs1 c4) (hA.sub hs1) (hRB.sub hs1)).monoC ?_
  rintro v1 H1 nx1 hB1 hx1 ⟨hO1, ht1⟩
  obtain ⟨u1, w1, rfl, hu1, hw1, hdis⟩ := hO1.ex
  obtain ⟨A1, k1, rfl, hk1, hR1⟩ := OwnR.rd hu1
  obtain ⟨A2, k2, rfl, hk2, hR2⟩ := OwnR.rd hw1
  have fR := ht1 bR _ (upd_same _ _ _)
  have hs2 : Sub H H1 := hs0.trans (hs1.trans ht1)
  simp (disch := omega) only [bsW, WOp, WOq, WV, bo, eqN, gdc, gw, bnd, ↓reduceIte, Nat.reduceEqDiff, rsvs, rsv, oneOf, rdN, ne_eq, Nat.reduceAdd, Nat.reduceMul, Nat.reduceLT, reduceCtorEq, Value.cells, setN, Value.oneCell', Nat.reduceLeDiff, undef, fcT]
  (repeat' (first | ((with_reducible refine gif_split (fun hs_ => ?_) (fun hs_ => ?_)) <;> (have hp_ := hs_; (try simp only [hpL, ne_eq] at hp_); (try simp (disch := omega) only [bsW, WOp, WOq, WV, bo, eqN, gdc, gw, bnd, ↓reduceIte, Nat.reduceEqDiff, rsvs, rsv, oneOf, rdN, ne_eq, Nat.reduceAdd, Nat.reduceMul, Nat.reduceLT, reduceCtorEq, Value.cells, setN, Value.oneCell', Nat.reduceLeDiff, undef, fcT, hs_]))) | ((first | (with_reducible refine newB_i (fun nb_ hb_ => ?_)) | (with_reducible refine RgE_i (fun (hBd_ : Bd _ _) => ?_))); (try simp (disch := omega) only [bsW, WOp, WOq, WV, bo, eqN, gdc, gw, bnd, ↓reduceIte, Nat.reduceEqDiff, rsvs, rsv, oneOf, rdN, ne_eq, Nat.reduceAdd, Nat.reduceMul, Nat.reduceLT, reduceCtorEq, Value.cells, setN, Value.oneCell', Nat.reduceLeDiff, undef, fcT])) | (with_reducible refine fun (hBd_ : Bd _ _) => ?_) | ((first | (with_reducible refine @And.intro (Sub _ _) _ ?_ ?_) | ((with_reducible refine @And.intro (Sub _ _ ∧ _) _ ?_ ?_); (with_reducible refine @And.intro (Sub _ _) _ ?_ ?_))); exact sbX) | ((with_reducible refine And.intro ?_ ?_); omega)))
  all_goals try (exfalso; omega)
  have hbN := hb_
  generalize nb_ = bN at *
  refine LpB_rule (fun mm fr H' nx' => ∃ k : Nat, mm = n - k + 1 ∧ k ≤ n ∧ fr 4 = .pointer (some ⟨bR, 0, none⟩) ∧ fr 7 = .pointer (some ⟨bN, 0, none⟩) ∧ fr 8 = .int .i64 ((runP ⟨tot, la, hand, rj, sl⟩ f k).2 : Nat) ∧ fr 22 = .slice S n e ∧ fr 23 = .int .i64 n ∧ fr 24 = .int .i64 k ∧
    CellP H' (bR + 1) bN nx' (runP ⟨tot, la, hand, rj, sl⟩ f k).1 ∧ H' bR = some (.rw [.int .i64 0, .slice none 0 0, .int .i64 0, .slice none 0 0, .bool false] 28) ∧ Sub H H' ∧ bN + 1 ≤ nx') ?_ ?_ (n + 1) ?_
  · rintro mm K hK fr H' nx' hB' ⟨k, hmm, hk, f4, f7, f8, f22, f23, f24, hC, hR, hs, hx⟩
    simp (disch := omega) only [bsW, WOp, WOq, WV, bo, eqN, gdc, gw, bnd, ↓reduceIte, Nat.reduceEqDiff, rsvs, rsv, oneOf, rdN, ne_eq, Nat.reduceAdd, Nat.reduceMul, Nat.reduceLT, reduceCtorEq, Value.cells, setN, Value.oneCell', Nat.reduceLeDiff, undef, fcT, f4, f7, f8, f22, f23, f24]
    refine gif_split (fun b1 => ?_) (fun b1 => ?_)
    · have hlt : k < n := by simpa using b1
      obtain ⟨bS, oS, rfl, hcS⟩ := hS.at_ (by omega)
      have s0 := rd_sub hs (hcS k 0 hlt (by omega))
      have s1 := rd_sub hs (hcS k 1 hlt (by omega))
      simp only [Nat.add_zero] at s0
      have hq := runP_ok hok f k
      have hno := runP_no (p := ⟨tot, la, hand, rj, sl⟩) (f := f) (k := k)
      have hyes' := runP_yes (p := ⟨tot, la, hand, rj, sl⟩) (f := f) (k := k)
      have hmk := runP_le ⟨tot, la, hand, rj, sl⟩ f k
      generalize hqm : runP ⟨tot, la, hand, rj, sl⟩ f k = qm at *
      obtain ⟨⟨tq, lq, hdq, rq, sq⟩, m⟩ := qm
      simp only at hC hq hno hyes' f8 hmk
      cases hsb : stepB (f k 0) (f k 1)
      · have e1 := hno (.inl hsb)
        simp (disch := omega) only [bsW, WOp, WOq, WV, bo, eqN, gdc, gw, bnd, ↓reduceIte, Nat.reduceEqDiff, rsvs, rsv, oneOf, rdN, ne_eq, Nat.reduceAdd, Nat.reduceMul, Nat.reduceLT, reduceCtorEq, Value.cells, setN, Value.oneCell', Nat.reduceLeDiff, undef, fcT, f4, f7, f8, f22, f23, f24, s0, s1, hsb, Bool.not_false, b1]
        (repeat' (first | ((with_reducible refine gif_split (fun hs_ => ?_) (fun hs_ => ?_)) <;> (have hp_ := hs_; (try simp only [hpL, ne_eq] at hp_); (try simp (disch := omega) only [bsW, WOp, WOq, WV, bo, eqN, gdc, gw, bnd, ↓reduceIte, Nat.reduceEqDiff, rsvs, rsv, oneOf, rdN, ne_eq, Nat.reduceAdd, Nat.reduceMul, Nat.reduceLT, reduceCtorEq, Value.cells, setN, Value.oneCell', Nat.reduceLeDiff, undef, fcT, f4, f7, f8, f22, f23, f24, s0, s1, hsb, Bool.not_false, hs_]))) | ((first | (with_reducible refine newB_i (fun nb_ hb_ => ?_)) | ((with_reducible show QC _ _ _ _ _ _); (first | (refine QC_i (isPuzzleStep _ _ _ _) ?_))) | ((with_reducible show AC _ _ _ _ _ _); (first | (refine PC.ac (isPuzzleStep _ _ _ _) ?_))) | (with_reducible refine RgE_i (fun (hBd_ : Bd _ _) => ?_))); (try simp (disch := omega) only [bsW, WOp, WOq, WV, bo, eqN, gdc, gw, bnd, ↓reduceIte, Nat.reduceEqDiff, rsvs, rsv, oneOf, rdN, ne_eq, Nat.reduceAdd, Nat.reduceMul, Nat.reduceLT, reduceCtorEq, Value.cells, setN, Value.oneCell', Nat.reduceLeDiff, undef, fcT, f4, f7, f8, f22, f23, f24, s0, s1, hsb, Bool.not_false])) | (with_reducible refine fun (hBd_ : Bd _ _) => ?_) | ((first | (with_reducible refine @And.intro (Sub _ _) _ ?_ ?_) | ((with_reducible refine @And.intro (Sub _ _ ∧ _) _ ?_ ?_); (with_reducible refine @And.intro (Sub _ _) _ ?_ ?_))); exact sbX) | ((with_reducible refine And.intro ?_ ?_); omega)))
        all_goals try (exfalso; omega)
        refine hK _ _ _ ?_
        exact ⟨k + 1, by omega, by omega, by simp (disch := omega) only [bsW, ↓reduceIte, Nat.reduceEqDiff, ne_eq, reduceCtorEq, fcT, f4, f7, f8, f22, f23, f24, s0, s1, hsb, Bool.not_false], by simp (disch := omega) only [bsW, ↓reduceIte, Nat.reduceEqDiff, ne_eq, reduceCtorEq, fcT, f4, f7, f8, f22, f23, f24, s0, s1, hsb, Bool.not_false], by rw [e1]; simp (disch := omega) only [bsW, ↓reduceIte, Nat.reduceEqDiff, ne_eq, reduceCtorEq, fcT, f4, f7, f8, f22, f23, f24, s0, s1, hsb, Bool.not_false], by simp (disch := omega) only [bsW, ↓reduceIte, Nat.reduceEqDiff, ne_eq, reduceCtorEq, fcT, f4, f7, f8, f22, f23, f24, s0, s1, hsb, Bool.not_false], by simp (disch := omega) only [bsW, ↓reduceIte, Nat.reduceEqDiff, ne_eq, reduceCtorEq, fcT, f4, f7, f8, f22, f23, f24, s0, s1, hsb, Bool.not_false], by simp (disch := omega) only [bsW, ↓reduceIte, Nat.reduceEqDiff, ne_eq, reduceCtorEq, fcT, f4, f7, f8, f22, f23, f24, s0, s1, hsb, Bool.not_false, Int.natCast_add, Int.natCast_one], by rw [e1]; exact hC.up (by omega) (by omega), by rw [upd_ne (by omega)]; exact hR, by (repeat (first | assumption | exact Sub.refl _ | (refine sub_up (nx := nx) ?_ hB ?_; omega))), by omega⟩
      · simp (disch := omega) only [bsW, WOp, WOq, WV, bo, eqN, gdc, gw, bnd, ↓reduceIte, Nat.reduceEqDiff, rsvs, rsv, oneOf, rdN, ne_eq, Nat.reduceAdd, Nat.reduceMul, Nat.reduceLT, reduceCtorEq, Value.cells, setN, Value.oneCell', Nat.reduceLeDiff, undef, fcT, f4, f7, f8, f22, f23, f24, s0, s1, hsb, Bool.not_true, b1]
        (repeat' (first | ((with_reducible refine gif_split (fun hs_ => ?_) (fun hs_ => ?_)) <;> (have hp_ := hs_; (try simp only [hpL, ne_eq] at hp_); (try simp (disch := omega) only [bsW, WOp, WOq, WV, bo, eqN, gdc, gw, bnd, ↓reduceIte, Nat.reduceEqDiff, rsvs, rsv, oneOf, rdN, ne_eq, Nat.reduceAdd, Nat.reduceMul, Nat.reduceLT, reduceCtorEq, Value.cells, setN, Value.oneCell', Nat.reduceLeDiff, undef, fcT, f4, f7, f8, f22, f23, f24, s0, s1, hsb, Bool.not_true, hs_]))) | ((first | (with_reducible refine newB_i (fun nb_ hb_ => ?_)) | ((with_reducible show QC _ _ _ _ _ _); (first | (refine QC_i (isPuzzleStep _ _ _ _) ?_))) | ((with_reducible show AC _ _ _ _ _ _); (first | (refine PC.ac (isPuzzleStep _ _ _ _) ?_))) | (with_reducible refine RgE_i (fun (hBd_ : Bd _ _) => ?_))); (try simp (disch := omega) only [bsW, WOp, WOq, WV, bo, eqN, gdc, gw, bnd, ↓reduceIte, Nat.reduceEqDiff, rsvs, rsv, oneOf, rdN, ne_eq, Nat.reduceAdd, Nat.reduceMul, Nat.reduceLT, reduceCtorEq, Value.cells, setN, Value.oneCell', Nat.reduceLeDiff, undef, fcT, f4, f7, f8, f22, f23, f24, s0, s1, hsb, Bool.not_true])) | (with_reducible refine fun (hBd_ : Bd _ _) => ?_) | ((first | (with_reducible refine @And.intro (Sub _ _) _ ?_ ?_) | ((with_reducible refine @And.intro (Sub _ _ ∧ _) _ ?_ ?_); (with_reducible refine @And.intro (Sub _ _) _ ?_ ?_))); exact sbX) | ((with_reducible refine And.intro ?_ ?_); omega)))
        all_goals try (exfalso; omega)
        have hC2 := hC.up (o := .rw [.int .i64 (f k 0), .int .i64 (f k 1)] 41) hb_ (by omega)
        have hR2' : upd H' nb_ (.rw [.int .i64 (f k 0), .int .i64 (f k 1)] 41) bR = _ := (upd_ne (by omega)).trans hR
        have hs3 : Sub H (upd H' nb_ (.rw [.int .i64 (f k 0), .int .i64 (f k 1)] 41)) := by (repeat (first | assumption | exact Sub.refl _ | (refine sub_up (nx := nx) ?_ hB ?_; omega)))
        have hbT := hb_
        generalize (upd H' nb_ (.rw [.int .i64 (f k 0), .int .i64 (f k 1)] 41)) = H2 at *
        generalize nb_ = bT at *
        obtain ⟨A3, k3, A4, k4, z1, z2, z3, z4, z5, z6, z7⟩ := hC2
        simp only at z1 z2 z3 z4 z5 z6 z7
        obtain ⟨_, _, e3, _, hR3⟩ := OwnR.rd z3
        obtain ⟨_, _, e4, _, hR4⟩ := OwnR.rd z4
        cases e3
        cases e4
        refine (stepPuzzle bN tq A3 lq k3 hdq A4 rq k4 sq (f k 0) (f k 1) _ _ hq hsb (by have := PzOk.len hq; simp only at this; omega) (by rw [rd_rw z1]; rfl) (by rw [rd_rw z1]; rfl) (by rw [rd_rw z1]; rfl) (by rw [rd_rw z1]; rfl) (by rw [rd_rw z1]; rfl) hR3 hR4).monoC ?_
        rintro v3 H3 nx3 hB3 hx3 ⟨w3, rfl, hO3, ht3⟩
        have zN := ht3 bN _ z1
        have zR := ht3 bR _ hR2'
        cases hso : stOk ⟨tq, lq, hdq, rq, sq⟩ (f k 0) (f k 1)
        · have e1 := hno (.inr hso)
          rw [hso, if_neg (by simp)] at hO3
          obtain ⟨u3, x3, rfl, hu3, hv3, hd3⟩ := hO3.ex
          obtain ⟨A5, k5, rfl, _, _⟩ := OwnR.rd hu3
          obtain ⟨A6, k6, rfl, _, _⟩ := OwnR.rd hv3
          simp (disch := omega) only [bsW, WOp, WOq, WV, bo, eqN, gdc, gw, bnd, ↓reduceIte, Nat.reduceEqDiff, rsvs, rsv, oneOf, rdN, ne_eq, Nat.reduceAdd, Nat.reduceMul, Nat.reduceLT, reduceCtorEq, Value.cells, setN, Value.oneCell', Nat.reduceLeDiff, undef, fcT, f4, f7, f8, f22, f23, f24, hso]
          (repeat' (first | ((with_reducible refine gif_split (fun hs_ => ?_) (fun hs_ => ?_)) <;> (have hp_ := hs_; (try simp only [hpL, ne_eq] at hp_); (try simp (disch := omega) only [bsW, WOp, WOq, WV, bo, eqN, gdc, gw, bnd, ↓reduceIte, Nat.reduceEqDiff, rsvs, rsv, oneOf, rdN, ne_eq, Nat.reduceAdd, Nat.reduceMul, Nat.reduceLT, reduceCtorEq, Value.cells, setN, Value.oneCell', Nat.reduceLeDiff, undef, fcT, f4, f7, f8, f22, f23, f24, hso, hs_]))) | ((first | (with_reducible refine newB_i (fun nb_ hb_ => ?_)) | (with_reducible refine RgE_i (fun (hBd_ : Bd _ _) => ?_))); (try simp (disch := omega) only [bsW, WOp, WOq, WV, bo, eqN, gdc, gw, bnd, ↓reduceIte, Nat.reduceEqDiff, rsvs, rsv, oneOf, rdN, ne_eq, Nat.reduceAdd, Nat.reduceMul, Nat.reduceLT, reduceCtorEq, Value.cells, setN, Value.oneCell', Nat.reduceLeDiff, undef, fcT, f4, f7, f8, f22, f23, f24, hso])) | (with_reducible refine fun (hBd_ : Bd _ _) => ?_) | ((first | (with_reducible refine @And.intro (Sub _ _) _ ?_ ?_) | ((with_reducible refine @And.intro (Sub _ _ ∧ _) _ ?_ ?_); (with_reducible refine @And.intro (Sub _ _) _ ?_ ?_))); exact sbX) | ((with_reducible refine And.intro ?_ ?_); omega)))
          all_goals try (exfalso; omega)
          refine hK _ _ _ ?_
          refine ⟨k + 1, by omega, by omega, by simp (disch := omega) only [bsW, ↓reduceIte, Nat.reduceEqDiff, ne_eq, reduceCtorEq, fcT, f4, f7, f8, f22, f23, f24, hso], by simp (disch := omega) only [bsW, ↓reduceIte, Nat.reduceEqDiff, ne_eq, reduceCtorEq, fcT, f4, f7, f8, f22, f23, f24, hso], by rw [e1]; simp (disch := omega) only [bsW, ↓reduceIte, Nat.reduceEqDiff, ne_eq, reduceCtorEq, fcT, f4, f7, f8, f22, f23, f24, hso], by simp (disch := omega) only [bsW, ↓reduceIte, Nat.reduceEqDiff, ne_eq, reduceCtorEq, fcT, f4, f7, f8, f22, f23, f24, hso], by simp (disch := omega) only [bsW, ↓reduceIte, Nat.reduceEqDiff, ne_eq, reduceCtorEq, fcT, f4, f7, f8, f22, f23, f24, hso], by simp (disch := omega) only [bsW, ↓reduceIte, Nat.reduceEqDiff, ne_eq, reduceCtorEq, fcT, f4, f7, f8, f22, f23, f24, hso, Int.natCast_add, Int.natCast_one], ?_, by rw [upd_ne (by omega)]; exact zR, sub_up (nx := nx) (by omega) hB (hs3.trans ht3), by omega⟩
          rw [e1]
          exact CellP.up (⟨A3, k3, A4, k4, zN, z2, OwnR.sub z3 ht3 (by omega), OwnR.sub z4 ht3 (by omega), z5, z6, z7⟩ : CellP H3 (bR + 1) bN nx3 ⟨tq, lq, hdq, rq, sq⟩) hb_ (by omega)
        · have e1 := hyes' hsb hso
          rw [hso, if_pos rfl] at hO3
          generalize hq3 : stP ⟨tq, lq, hdq, rq, sq⟩ (f k 0) (f k 1) = q3 at *
          obtain ⟨t3, l3, h3, r3, s3⟩ := q3
          obtain ⟨u3, x3, rfl, hu3, hv3, hd3⟩ := hO3.ex
          obtain ⟨A5, k5, rfl, hk5, _⟩ := OwnR.rd hu3
          obtain ⟨A6, k6, rfl, _, _⟩ := OwnR.rd hv3
          simp (disch := omega) only [bsW, WOp, WOq, WV, bo, eqN, gdc, gw, bnd, ↓reduceIte, Nat.reduceEqDiff, rsvs, rsv, oneOf, rdN, ne_eq, Nat.reduceAdd, Nat.reduceMul, Nat.reduceLT, reduceCtorEq, Value.cells, setN, Value.oneCell', Nat.reduceLeDiff, undef, fcT, f4, f7, f8, f22, f23, f24, hso, zN]
          (repeat' (first | ((with_reducible refine gif_split (fun hs_ => ?_) (fun hs_ => ?_)) <;> (have hp_ := hs_; (try simp only [hpL, ne_eq] at hp_); (try simp (disch := omega) only [bsW, WOp, WOq, WV, bo, eqN, gdc, gw, bnd, ↓reduceIte, Nat.reduceEqDiff, rsvs, rsv, oneOf, rdN, ne_eq, Nat.reduceAdd, Nat.reduceMul, Nat.reduceLT, reduceCtorEq, Value.cells, setN, Value.oneCell', Nat.reduceLeDiff, undef, fcT, f4, f7, f8, f22, f23, f24, hso, zN, hs_]))) | ((first | (with_reducible refine newB_i (fun nb_ hb_ => ?_)) | (with_reducible refine RgE_i (fun (hBd_ : Bd _ _) => ?_))); (try simp (disch := omega) only [bsW, WOp, WOq, WV, bo, eqN, gdc, gw, bnd, ↓reduceIte, Nat.reduceEqDiff, rsvs, rsv, oneOf, rdN, ne_eq, Nat.reduceAdd, Nat.reduceMul, Nat.reduceLT, reduceCtorEq, Value.cells, setN, Value.oneCell', Nat.reduceLeDiff, undef, fcT, f4, f7, f8, f22, f23, f24, hso, zN])) | (with_reducible refine fun (hBd_ : Bd _ _) => ?_) | ((first | (with_reducible refine @And.intro (Sub _ _) _ ?_ ?_) | ((with_reducible refine @And.intro (Sub _ _ ∧ _) _ ?_ ?_); (with_reducible refine @And.intro (Sub _ _) _ ?_ ?_))); exact sbX) | ((with_reducible refine And.intro ?_ ?_); omega)))
          all_goals try (exfalso; omega)
          refine hK _ _ _ ?_
          refine ⟨k + 1, by omega, by omega, by simp (disch := omega) only [bsW, ↓reduceIte, Nat.reduceEqDiff, ne_eq, reduceCtorEq, fcT, f4, f7, f8, f22, f23, f24, hso, zN], by simp (disch := omega) only [bsW, ↓reduceIte, Nat.reduceEqDiff, ne_eq, reduceCtorEq, fcT, f4, f7, f8, f22, f23, f24, hso, zN], by rw [e1]; simp (disch := omega) only [bsW, ↓reduceIte, Nat.reduceEqDiff, ne_eq, reduceCtorEq, fcT, f4, f7, f8, f22, f23, f24, hso, zN, Int.natCast_add, Int.natCast_one], by simp (disch := omega) only [bsW, ↓reduceIte, Nat.reduceEqDiff, ne_eq, reduceCtorEq, fcT, f4, f7, f8, f22, f23, f24, hso, zN], by simp (disch := omega) only [bsW, ↓reduceIte, Nat.reduceEqDiff, ne_eq, reduceCtorEq, fcT, f4, f7, f8, f22, f23, f24, hso, zN], by simp (disch := omega) only [bsW, ↓reduceIte, Nat.reduceEqDiff, ne_eq, reduceCtorEq, fcT, f4, f7, f8, f22, f23, f24, hso, zN, Int.natCast_add, Int.natCast_one], ?_, by rw [upd_ne (by omega), upd_ne (by omega)]; exact zR, sub_up (nx := nx) (by omega) hB (sub_up (nx := nx) (by omega) hB (hs3.trans ht3)), by omega⟩
          rw [e1]
          exact ⟨A5, k5, A6, k6, upd_same _ _ _, hk5, OwnR.lo (OwnR.keep hu3 (fun c hc => by have := OwnR.blk hu3 hc; rw [upd_ne (by omega), upd_ne (by omega)]) (by omega)) (by omega), OwnR.lo (OwnR.keep hv3 (fun c hc => by have := OwnR.blk hv3 hc; rw [upd_ne (by omega), upd_ne (by omega)]) (by omega)) (by omega), hd3, fun c hc => by have := OwnR.blk hu3 hc; omega, fun c hc => by have := OwnR.blk hv3 hc; omega⟩
    · have hkn : k = n := by simp at b1; omega
      subst hkn
      generalize hqm : runP ⟨tot, la, hand, rj, sl⟩ f k = qm at *
      obtain ⟨⟨tq, lq, hdq, rq, sq⟩, m⟩ := qm
      obtain ⟨A3, k3, A4, k4, z1, z2, z3, z4, z5, z6, z7⟩ := hC
      simp only at z1 z2 z3 z4 z5 z6 z7 f8
      simp (disch := omega) only [bsW, WOp, WOq, WV, bo, eqN, gdc, gw, bnd, ↓reduceIte, Nat.reduceEqDiff, rsvs, rsv, oneOf, rdN, ne_eq, Nat.reduceAdd, Nat.reduceMul, Nat.reduceLT, reduceCtorEq, Value.cells, setN, Value.oneCell', Nat.reduceLeDiff, undef, fcT, f4, f7, f8, f22, f23, f24, rd_rw z1, hR, b1]
      (repeat' (first | ((with_reducible refine gif_split (fun hs_ => ?_) (fun hs_ => ?_)) <;> (have hp_ := hs_; (try simp only [hpL, ne_eq] at hp_); (try simp (disch := omega) only [bsW, WOp, WOq, WV, bo, eqN, gdc, gw, bnd, ↓reduceIte, Nat.reduceEqDiff, rsvs, rsv, oneOf, rdN, ne_eq, Nat.reduceAdd, Nat.reduceMul, Nat.reduceLT, reduceCtorEq, Value.cells, setN, Value.oneCell', Nat.reduceLeDiff, undef, fcT, f4, f7, f8, f22, f23, f24, rd_rw z1, hR, hs_]))) | ((first | (with_reducible refine newB_i (fun nb_ hb_ => ?_)) | (with_reducible refine RgE_i (fun (hBd_ : Bd _ _) => ?_))); (try simp (disch := omega) only [bsW, WOp, WOq, WV, bo, eqN, gdc, gw, bnd, ↓reduceIte, Nat.reduceEqDiff, rsvs, rsv, oneOf, rdN, ne_eq, Nat.reduceAdd, Nat.reduceMul, Nat.reduceLT, reduceCtorEq, Value.cells, setN, Value.oneCell', Nat.reduceLeDiff, undef, fcT, f4, f7, f8, f22, f23, f24, rd_rw z1, hR])) | (with_reducible refine fun (hBd_ : Bd _ _) => ?_) | ((first | (with_reducible refine @And.intro (Sub _ _) _ ?_ ?_) | ((with_reducible refine @And.intro (Sub _ _ ∧ _) _ ?_ ?_); (with_reducible refine @And.intro (Sub _ _) _ ?_ ?_))); exact sbX) | ((with_reducible refine And.intro ?_ ?_); omega)))
      all_goals try (exfalso; omega)
      exact runK_yes hyes hqm ⟨_, _, rfl, OwnR.lo (OwnR.keep z3 (fun c hc => by have := OwnR.blk z3 hc; repeat rw [upd_ne (by omega)]) (by omega)) (by omega), OwnR.lo (OwnR.keep z4 (fun c hc => by have := OwnR.blk z4 hc; repeat rw [upd_ne (by omega)]) (by omega)) (by omega), z5⟩ (by (repeat (first | assumption | exact Sub.refl _ | (refine sub_up (nx := nx) ?_ hB ?_; omega))))
  · rintro fr H' nx' ⟨k, hmm, _⟩; omega
  · refine ⟨0, by omega, by omega, by simp (disch := omega) only [bsW, ↓reduceIte, Nat.reduceEqDiff, ne_eq, reduceCtorEq, fcT], by simp (disch := omega) only [bsW, ↓reduceIte, Nat.reduceEqDiff, ne_eq, reduceCtorEq, fcT], by simp (disch := omega) only [bsW, ↓reduceIte, Nat.reduceEqDiff, ne_eq, reduceCtorEq, fcT, runP, Int.natCast_zero], by simp (disch := omega) only [bsW, ↓reduceIte, Nat.reduceEqDiff, ne_eq, reduceCtorEq, fcT], by simp (disch := omega) only [bsW, ↓reduceIte, Nat.reduceEqDiff, ne_eq, reduceCtorEq, fcT], by simp (disch := omega) only [bsW, ↓reduceIte, Nat.reduceEqDiff, ne_eq, reduceCtorEq, fcT, Int.natCast_zero], ?_, by rw [upd_ne (by omega)]; exact fR, by (repeat (first | assumption | exact Sub.refl _ | (refine sub_up (nx := nx) ?_ hB ?_; omega))), by omega⟩
    exact ⟨A1, k1, A2, k2, upd_same _ _ _, hk1, OwnR.new hu1 hbN, OwnR.new hw1 hbN, hdis, fun c hc => by have := OwnR.blk hu1 hc; omega, fun c hc => by have := OwnR.blk hw1 hc; omega⟩
end Go.Proofs.YtbhabpenlaklcaaDoor
