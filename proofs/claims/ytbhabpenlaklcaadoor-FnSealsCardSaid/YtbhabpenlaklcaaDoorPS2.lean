/- What FnSeals draws. -/
import Derived.Test.YtbhabpenlaklcaaDoorPD3
set_option linter.unusedVariables false
set_option linter.unusedSimpArgs false
set_option maxRecDepth 100000
set_option maxHeartbeats 4000000
namespace Go.Proofs.YtbhabpenlaklcaaDoor
open Go Go.RowKit Go.Proofs
theorem DrawIsPuzzle (A : Option Addr) (n c : Nat) (H : Hp) (nx : Nat) (hn : n ≤ 9223372036854775807) (hR : RdU H A n) :
    AC Tryd.prog 33 #[.slice A n c] H nx (fun v H' nx' => Sub H H' ∧ nx ≤ nx' ∧ ∃ (p : PzD), OwnP H' nx nx' p.tot p.la p.hand p.rj p.sl v ∧ p.la.length + p.rj.length ≤ 22) := by
  refine AC_of x_spec_DrawIsPuzzle rfl fun hB => ?_
  simp (disch := omega) only [bsW, WOp, WOq, WV, bo, eqN, gdc, gw, bnd, ↓reduceIte, Nat.reduceEqDiff, rsvs, rsv, oneOf, rdN, ne_eq, Nat.reduceAdd, Nat.reduceMul, Nat.reduceLT, reduceCtorEq, Value.cells, setN, Value.oneCell', Nat.reduceLeDiff, undef, fcT, c_spec_DrawIsPuzzle]
  (repeat' (first | ((with_reducible refine gif_split (fun hs_ => ?_) (fun hs_ => ?_)) <;> (have hp_ := hs_; (try simp only [hpL, ne_eq] at hp_); (try simp (disch := omega) only [bsW, WOp, WOq, WV, bo, eqN, gdc, gw, bnd, ↓reduceIte, Nat.reduceEqDiff, rsvs, rsv, oneOf, rdN, ne_eq, Nat.reduceAdd, Nat.reduceMul, Nat.reduceLT, reduceCtorEq, Value.cells, setN, Value.oneCell', Nat.reduceLeDiff, undef, fcT, hs_]))) | ((first | (with_reducible refine newB_i (fun nb_ hb_ => ?_)) | (with_reducible refine RgE_i (fun (hBd_ : Bd _ _) => ?_))); (try simp (disch := omega) only [bsW, WOp, WOq, WV, bo, eqN, gdc, gw, bnd, ↓reduceIte, Nat.reduceEqDiff, rsvs, rsv, oneOf, rdN, ne_eq, Nat.reduceAdd, Nat.reduceMul, Nat.reduceLT, reduceCtorEq, Value.cells, setN, Value.oneCell', Nat.reduceLeDiff, undef, fcT])) | (with_reducible refine fun (hBd_ : Bd _ _) => ?_) | ((first | (with_reducible refine @And.intro (Sub _ _) _ ?_ ?_) | ((with_reducible refine @And.intro (Sub _ _ ∧ _) _ ?_ ?_); (with_reducible refine @And.intro (Sub _ _) _ ?_ ?_))); exact sbX) | ((with_reducible refine And.intro ?_ ?_); omega)))
  rename_i zP hzP
  have hbC := hb_
  generalize nb_ = bC at *
  have hBz : Bd (upd H zP (.rw [.int .i64 0, .slice none 0 0, .int .i64 0, .slice none 0 0, .bool false] 28)) (zP + 1) := Bd.up hB hzP
  have hsz : Sub H (upd H zP (.rw [.int .i64 0, .slice none 0 0, .int .i64 0, .slice none 0 0, .bool false] 28)) := sub_up hzP hB (Sub.refl _)
  refine (puzzle _ (zP + 1) bC 0 _ _ (Cur.start hBz hbC hn (hR.sub hsz)) (by omega)).monoC ?_
  rintro v1 H1 nx1 hB1 hx1 ⟨⟨p, hO, hl⟩, hC1, hs1, hx1'⟩
  obtain ⟨A1, c1, B1, d1, rfl, _, _, _, _⟩ := hO.rd
  have kP : H1 zP = some (.rw [.int .i64 0, .slice none 0 0, .int .i64 0, .slice none 0 0, .bool false] 28) := hs1 _ _ (by omega) (by rw [upd_ne (by omega), upd_same])
  have hsH : StayB bC H H1 := (((StayB.s hsz).new (nx := zP + 1) (by exact fun d o e => Nat.lt_of_lt_of_le (hB d o e) (by omega)) hbC)).trans hs1
  (try (simp (disch := omega) only [bsW, WOp, WOq, WV, bo, eqN, gdc, gw, bnd, ↓reduceIte, Nat.reduceEqDiff, rsvs, rsv, oneOf, rdN, ne_eq, Nat.reduceAdd, Nat.reduceMul, Nat.reduceLT, reduceCtorEq, Value.cells, setN, Value.oneCell', Nat.reduceLeDiff, undef, fcT, kP]))
  (repeat' (first | ((with_reducible refine gif_split (fun hs_ => ?_) (fun hs_ => ?_)) <;> (have hp_ := hs_; (try simp only [hpL, ne_eq] at hp_); (try simp (disch := omega) only [bsW, WOp, WOq, WV, bo, eqN, gdc, gw, bnd, ↓reduceIte, Nat.reduceEqDiff, rsvs, rsv, oneOf, rdN, ne_eq, Nat.reduceAdd, Nat.reduceMul, Nat.reduceLT, reduceCtorEq, Value.cells, setN, Value.oneCell', Nat.reduceLeDiff, undef, fcT, kP, hs_]))) | ((first | (with_reducible refine newB_i (fun nb_ hb_ => ?_)) | (with_reducible refine RgE_i (fun (hBd_ : Bd _ _) => ?_))); (try simp (disch := omega) only [bsW, WOp, WOq, WV, bo, eqN, gdc, gw, bnd, ↓reduceIte, Nat.reduceEqDiff, rsvs, rsv, oneOf, rdN, ne_eq, Nat.reduceAdd, Nat.reduceMul, Nat.reduceLT, reduceCtorEq, Value.cells, setN, Value.oneCell', Nat.reduceLeDiff, undef, fcT, kP])) | (with_reducible refine fun (hBd_ : Bd _ _) => ?_) | ((first | (with_reducible refine @And.intro (Sub _ _) _ ?_ ?_) | ((with_reducible refine @And.intro (Sub _ _ ∧ _) _ ?_ ?_); (with_reducible refine @And.intro (Sub _ _) _ ?_ ?_))); exact sbX) | ((with_reducible refine And.intro ?_ ?_); omega)))
  exact ⟨(hsH.new hB hzP).sub hB (by omega), by omega, p, (hO.keepI (fun q h1 h2 => by rw [upd_ne (by omega)])).wide (by omega) (Nat.le_refl _), hl⟩
theorem DrawStepsToSeal (A : Option Addr) (n c : Nat) (H : Hp) (nx : Nat) (hn : n ≤ 9223372036854775807) (hR : RdU H A n) :
    AC Tryd.prog 11 #[.slice A n c] H nx (fun v H' nx' => Sub H H' ∧ nx ≤ nx' ∧ ∃ (p : PzD), OwnP H' nx nx' p.tot p.la p.hand p.rj p.sl v ∧ p.la.length + p.rj.length ≤ 22) := by
  refine AC_of x_spec_DrawStepsToSeal rfl fun hB => ?_
  simp (disch := omega) only [bsW, WOp, WOq, WV, bo, eqN, gdc, gw, bnd, ↓reduceIte, Nat.reduceEqDiff, rsvs, rsv, oneOf, rdN, ne_eq, Nat.reduceAdd, Nat.reduceMul, Nat.reduceLT, reduceCtorEq, Value.cells, setN, Value.oneCell', Nat.reduceLeDiff, undef, fcT, c_spec_DrawStepsToSeal]
  (repeat' (first | ((with_reducible refine gif_split (fun hs_ => ?_) (fun hs_ => ?_)) <;> (have hp_ := hs_; (try simp only [hpL, ne_eq] at hp_); (try simp (disch := omega) only [bsW, WOp, WOq, WV, bo, eqN, gdc, gw, bnd, ↓reduceIte, Nat.reduceEqDiff, rsvs, rsv, oneOf, rdN, ne_eq, Nat.reduceAdd, Nat.reduceMul, Nat.reduceLT, reduceCtorEq, Value.cells, setN, Value.oneCell', Nat.reduceLeDiff, undef, fcT, hs_]))) | ((first | (with_reducible refine newB_i (fun nb_ hb_ => ?_)) | (with_reducible refine RgE_i (fun (hBd_ : Bd _ _) => ?_))); (try simp (disch := omega) only [bsW, WOp, WOq, WV, bo, eqN, gdc, gw, bnd, ↓reduceIte, Nat.reduceEqDiff, rsvs, rsv, oneOf, rdN, ne_eq, Nat.reduceAdd, Nat.reduceMul, Nat.reduceLT, reduceCtorEq, Value.cells, setN, Value.oneCell', Nat.reduceLeDiff, undef, fcT])) | (with_reducible refine fun (hBd_ : Bd _ _) => ?_) | ((first | (with_reducible refine @And.intro (Sub _ _) _ ?_ ?_) | ((with_reducible refine @And.intro (Sub _ _ ∧ _) _ ?_ ?_); (with_reducible refine @And.intro (Sub _ _) _ ?_ ?_))); exact sbX) | ((with_reducible refine And.intro ?_ ?_); omega)))
  have hzP := hb_
  generalize nb_ = zP at *
  have hsz : Sub H (upd H zP (.rw [.int .i64 0, .slice none 0 0, .int .i64 0, .slice none 0 0, .bool false] 28)) := sub_up hzP hB (Sub.refl _)
  refine (DrawIsPuzzle A n c _ _ hn (hR.sub hsz)).monoC ?_
  rintro v1 H1 nx1 hB1 hx1 ⟨hs1, hx1', p, hO, hl⟩
  obtain ⟨A1, c1, B1, d1, rfl, _, _, _, _⟩ := hO.rd
  have kP : H1 zP = some (.rw [.int .i64 0, .slice none 0 0, .int .i64 0, .slice none 0 0, .bool false] 28) := hs1 _ _ (upd_same _ _ _)
  (try (simp (disch := omega) only [bsW, WOp, WOq, WV, bo, eqN, gdc, gw, bnd, ↓reduceIte, Nat.reduceEqDiff, rsvs, rsv, oneOf, rdN, ne_eq, Nat.reduceAdd, Nat.reduceMul, Nat.reduceLT, reduceCtorEq, Value.cells, setN, Value.oneCell', Nat.reduceLeDiff, undef, fcT, kP]))
  (repeat' (first | ((with_reducible refine gif_split (fun hs_ => ?_) (fun hs_ => ?_)) <;> (have hp_ := hs_; (try simp only [hpL, ne_eq] at hp_); (try simp (disch := omega) only [bsW, WOp, WOq, WV, bo, eqN, gdc, gw, bnd, ↓reduceIte, Nat.reduceEqDiff, rsvs, rsv, oneOf, rdN, ne_eq, Nat.reduceAdd, Nat.reduceMul, Nat.reduceLT, reduceCtorEq, Value.cells, setN, Value.oneCell', Nat.reduceLeDiff, undef, fcT, kP, hs_]))) | ((first | (with_reducible refine newB_i (fun nb_ hb_ => ?_)) | (with_reducible refine RgE_i (fun (hBd_ : Bd _ _) => ?_))); (try simp (disch := omega) only [bsW, WOp, WOq, WV, bo, eqN, gdc, gw, bnd, ↓reduceIte, Nat.reduceEqDiff, rsvs, rsv, oneOf, rdN, ne_eq, Nat.reduceAdd, Nat.reduceMul, Nat.reduceLT, reduceCtorEq, Value.cells, setN, Value.oneCell', Nat.reduceLeDiff, undef, fcT, kP])) | (with_reducible refine fun (hBd_ : Bd _ _) => ?_) | ((first | (with_reducible refine @And.intro (Sub _ _) _ ?_ ?_) | ((with_reducible refine @And.intro (Sub _ _ ∧ _) _ ?_ ?_); (with_reducible refine @And.intro (Sub _ _) _ ?_ ?_))); exact sbX) | ((with_reducible refine And.intro ?_ ?_); omega)))
  exact ⟨sub_up hzP hB (hsz.trans hs1), by omega, p, (hO.keepI (fun q h1 h2 => by rw [upd_ne (by omega)])).wide (by omega) (Nat.le_refl _), hl⟩
theorem DrawPuzzleText (A : Option Addr) (n c : Nat) (H : Hp) (nx : Nat) (hn : n ≤ 9223372036854775807) (hR : RdU H A n) :
    AC Tryd.prog 22 #[.slice A n c] H nx (fun v H' nx' => Sub H H' ∧ nx ≤ nx' ∧ ∃ (p : PzD), OwnP H' nx nx' p.tot p.la p.hand p.rj p.sl v ∧ p.la.length + p.rj.length ≤ 22) := by
  refine AC_of x_spec_DrawPuzzleText rfl fun hB => ?_
  simp (disch := omega) only [bsW, WOp, WOq, WV, bo, eqN, gdc, gw, bnd, ↓reduceIte, Nat.reduceEqDiff, rsvs, rsv, oneOf, rdN, ne_eq, Nat.reduceAdd, Nat.reduceMul, Nat.reduceLT, reduceCtorEq, Value.cells, setN, Value.oneCell', Nat.reduceLeDiff, undef, fcT, c_spec_DrawPuzzleText]
  (repeat' (first | ((with_reducible refine gif_split (fun hs_ => ?_) (fun hs_ => ?_)) <;> (have hp_ := hs_; (try simp only [hpL, ne_eq] at hp_); (try simp (disch := omega) only [bsW, WOp, WOq, WV, bo, eqN, gdc, gw, bnd, ↓reduceIte, Nat.reduceEqDiff, rsvs, rsv, oneOf, rdN, ne_eq, Nat.reduceAdd, Nat.reduceMul, Nat.reduceLT, reduceCtorEq, Value.cells, setN, Value.oneCell', Nat.reduceLeDiff, undef, fcT, hs_]))) | ((first | (with_reducible refine newB_i (fun nb_ hb_ => ?_)) | (with_reducible refine RgE_i (fun (hBd_ : Bd _ _) => ?_))); (try simp (disch := omega) only [bsW, WOp, WOq, WV, bo, eqN, gdc, gw, bnd, ↓reduceIte, Nat.reduceEqDiff, rsvs, rsv, oneOf, rdN, ne_eq, Nat.reduceAdd, Nat.reduceMul, Nat.reduceLT, reduceCtorEq, Value.cells, setN, Value.oneCell', Nat.reduceLeDiff, undef, fcT])) | (with_reducible refine fun (hBd_ : Bd _ _) => ?_) | ((first | (with_reducible refine @And.intro (Sub _ _) _ ?_ ?_) | ((with_reducible refine @And.intro (Sub _ _ ∧ _) _ ?_ ?_); (with_reducible refine @And.intro (Sub _ _) _ ?_ ?_))); exact sbX) | ((with_reducible refine And.intro ?_ ?_); omega)))
  have hzP := hb_
  generalize nb_ = zP at *
  have hsz : Sub H (upd H zP (.rw [.int .i64 0, .slice none 0 0, .int .i64 0, .slice none 0 0, .bool false] 28)) := sub_up hzP hB (Sub.refl _)
  refine (DrawIsPuzzle A n c _ _ hn (hR.sub hsz)).monoC ?_
  rintro v1 H1 nx1 hB1 hx1 ⟨hs1, hx1', p, hO, hl⟩
  obtain ⟨A1, c1, B1, d1, rfl, _, _, _, _⟩ := hO.rd
  have kP : H1 zP = some (.rw [.int .i64 0, .slice none 0 0, .int .i64 0, .slice none 0 0, .bool false] 28) := hs1 _ _ (upd_same _ _ _)
  (try (simp (disch := omega) only [bsW, WOp, WOq, WV, bo, eqN, gdc, gw, bnd, ↓reduceIte, Nat.reduceEqDiff, rsvs, rsv, oneOf, rdN, ne_eq, Nat.reduceAdd, Nat.reduceMul, Nat.reduceLT, reduceCtorEq, Value.cells, setN, Value.oneCell', Nat.reduceLeDiff, undef, fcT, kP]))
  (repeat' (first | ((with_reducible refine gif_split (fun hs_ => ?_) (fun hs_ => ?_)) <;> (have hp_ := hs_; (try simp only [hpL, ne_eq] at hp_); (try simp (disch := omega) only [bsW, WOp, WOq, WV, bo, eqN, gdc, gw, bnd, ↓reduceIte, Nat.reduceEqDiff, rsvs, rsv, oneOf, rdN, ne_eq, Nat.reduceAdd, Nat.reduceMul, Nat.reduceLT, reduceCtorEq, Value.cells, setN, Value.oneCell', Nat.reduceLeDiff, undef, fcT, kP, hs_]))) | ((first | (with_reducible refine newB_i (fun nb_ hb_ => ?_)) | (with_reducible refine RgE_i (fun (hBd_ : Bd _ _) => ?_))); (try simp (disch := omega) only [bsW, WOp, WOq, WV, bo, eqN, gdc, gw, bnd, ↓reduceIte, Nat.reduceEqDiff, rsvs, rsv, oneOf, rdN, ne_eq, Nat.reduceAdd, Nat.reduceMul, Nat.reduceLT, reduceCtorEq, Value.cells, setN, Value.oneCell', Nat.reduceLeDiff, undef, fcT, kP])) | (with_reducible refine fun (hBd_ : Bd _ _) => ?_) | ((first | (with_reducible refine @And.intro (Sub _ _) _ ?_ ?_) | ((with_reducible refine @And.intro (Sub _ _ ∧ _) _ ?_ ?_); (with_reducible refine @And.intro (Sub _ _) _ ?_ ?_))); exact sbX) | ((with_reducible refine And.intro ?_ ?_); omega)))
  exact ⟨sub_up hzP hB (hsz.trans hs1), by omega, p, (hO.keepI (fun q h1 h2 => by rw [upd_ne (by omega)])).wide (by omega) (Nat.le_refl _), hl⟩
theorem DrawUndoSteps (A : Option Addr) (n c : Nat) (H : Hp) (nx : Nat) (hn : n ≤ 9223372036854775807) (hR : RdU H A n) :
    AC Tryd.prog 18 #[.slice A n c] H nx (fun v H' nx' => Sub H H' ∧ nx ≤ nx' ∧ ∃ (p : PzD) (x : Int) (w : Value), v = .tuple #[w, .int .i64 x] ∧ OwnP H' nx nx' p.tot p.la p.hand p.rj p.sl w ∧ p.la.length + p.rj.length ≤ 22) := by
  refine AC_of x_spec_DrawUndoSteps rfl fun hB => ?_
  simp (disch := omega) only [bsW, WOp, WOq, WV, bo, eqN, gdc, gw, bnd, ↓reduceIte, Nat.reduceEqDiff, rsvs, rsv, oneOf, rdN, ne_eq, Nat.reduceAdd, Nat.reduceMul, Nat.reduceLT, reduceCtorEq, Value.cells, setN, Value.oneCell', Nat.reduceLeDiff, undef, fcT, c_spec_DrawUndoSteps]
  (repeat' (first | ((with_reducible refine gif_split (fun hs_ => ?_) (fun hs_ => ?_)) <;> (have hp_ := hs_; (try simp only [hpL, ne_eq] at hp_); (try simp (disch := omega) only [bsW, WOp, WOq, WV, bo, eqN, gdc, gw, bnd, ↓reduceIte, Nat.reduceEqDiff, rsvs, rsv, oneOf, rdN, ne_eq, Nat.reduceAdd, Nat.reduceMul, Nat.reduceLT, reduceCtorEq, Value.cells, setN, Value.oneCell', Nat.reduceLeDiff, undef, fcT, hs_]))) | ((first | (with_reducible refine newB_i (fun nb_ hb_ => ?_)) | (with_reducible refine RgE_i (fun (hBd_ : Bd _ _) => ?_))); (try simp (disch := omega) only [bsW, WOp, WOq, WV, bo, eqN, gdc, gw, bnd, ↓reduceIte, Nat.reduceEqDiff, rsvs, rsv, oneOf, rdN, ne_eq, Nat.reduceAdd, Nat.reduceMul, Nat.reduceLT, reduceCtorEq, Value.cells, setN, Value.oneCell', Nat.reduceLeDiff, undef, fcT])) | (with_reducible refine fun (hBd_ : Bd _ _) => ?_) | ((first | (with_reducible refine @And.intro (Sub _ _) _ ?_ ?_) | ((with_reducible refine @And.intro (Sub _ _ ∧ _) _ ?_ ?_); (with_reducible refine @And.intro (Sub _ _) _ ?_ ?_))); exact sbX) | ((with_reducible refine And.intro ?_ ?_); omega)))
  rename_i zP hzP
  have hbC := hb_
  generalize nb_ = bC at *
  have hBz : Bd (upd H zP (.rw [.int .i64 0, .slice none 0 0, .int .i64 0, .slice none 0 0, .bool false] 28)) (zP + 1) := Bd.up hB hzP
  have hsz : Sub H (upd H zP (.rw [.int .i64 0, .slice none 0 0, .int .i64 0, .slice none 0 0, .bool false] 28)) := sub_up hzP hB (Sub.refl _)
  refine (puzzle _ (zP + 1) bC 0 _ _ (Cur.start hBz hbC hn (hR.sub hsz)) (by omega)).monoC ?_
  rintro v1 H1 nx1 hB1 hx1 ⟨⟨p, hO, hl⟩, hC1, hs1, hx1'⟩
  obtain ⟨A1, c1, B1, d1, rfl, _, _, _, _⟩ := hO.rd
  have kP : H1 zP = some (.rw [.int .i64 0, .slice none 0 0, .int .i64 0, .slice none 0 0, .bool false] 28) := hs1 _ _ (by omega) (by rw [upd_ne (by omega), upd_same])
  have hsH : StayB bC H H1 := (((StayB.s hsz).new (nx := zP + 1) (by exact fun d o e => Nat.lt_of_lt_of_le (hB d o e) (by omega)) hbC)).trans hs1
  clear hs1
  by_cases h0 : 0 < p.la.length
  · have d0 : decide ((0 : Int) < (p.la.length : Int)) = true := decide_eq_true (by omega)
    (try (simp (disch := omega) only [bsW, WOp, WOq, WV, bo, eqN, gdc, gw, bnd, ↓reduceIte, Nat.reduceEqDiff, rsvs, rsv, oneOf, rdN, ne_eq, Nat.reduceAdd, Nat.reduceMul, Nat.reduceLT, reduceCtorEq, Value.cells, setN, Value.oneCell', Nat.reduceLeDiff, undef, fcT, kP, d0]))
    (repeat' (first | ((with_reducible refine gif_split (fun hs_ => ?_) (fun hs_ => ?_)) <;> (have hp_ := hs_; (try simp only [hpL, ne_eq] at hp_); (try simp (disch := omega) only [bsW, WOp, WOq, WV, bo, eqN, gdc, gw, bnd, ↓reduceIte, Nat.reduceEqDiff, rsvs, rsv, oneOf, rdN, ne_eq, Nat.reduceAdd, Nat.reduceMul, Nat.reduceLT, reduceCtorEq, Value.cells, setN, Value.oneCell', Nat.reduceLeDiff, undef, fcT, kP, d0, hs_]))) | ((first | (with_reducible refine newB_i (fun nb_ hb_ => ?_)) | (with_reducible refine RgE_i (fun (hBd_ : Bd _ _) => ?_))); (try simp (disch := omega) only [bsW, WOp, WOq, WV, bo, eqN, gdc, gw, bnd, ↓reduceIte, Nat.reduceEqDiff, rsvs, rsv, oneOf, rdN, ne_eq, Nat.reduceAdd, Nat.reduceMul, Nat.reduceLT, reduceCtorEq, Value.cells, setN, Value.oneCell', Nat.reduceLeDiff, undef, fcT, kP, d0])) | (with_reducible refine fun (hBd_ : Bd _ _) => ?_) | ((first | (with_reducible refine @And.intro (Sub _ _) _ ?_ ?_) | ((with_reducible refine @And.intro (Sub _ _ ∧ _) _ ?_ ?_); (with_reducible refine @And.intro (Sub _ _) _ ?_ ?_))); exact sbX) | ((with_reducible refine And.intro ?_ ?_); omega)))
    have hb5 := hb_
    generalize nb_ = b5 at *
    refine (one1 _ _ bC _ 6 _ _ (hC1.new (b := b5) (by omega) (by omega)) (by omega) (by omega)).monoC ?_
    rintro v2 H2 nx2 hB2 hx2 ⟨⟨t, rfl⟩, hC2, hoth2, rfl⟩
    have j5 : H2 b5 = some (.rw [.int .i64 p.tot, .slice A1 p.la.length c1, .int .i64 p.hand, .slice B1 p.rj.length d1, .bool p.sl] 28) := by rw [hoth2 _ (by omega), upd_same]
    have jP : H2 zP = some (.rw [.int .i64 0, .slice none 0 0, .int .i64 0, .slice none 0 0, .bool false] 28) := by rw [hoth2 _ (by omega), upd_ne (by omega)]; exact kP
    have hO2 : OwnP H2 (bC + 1) nx1 p.tot p.la p.hand p.rj p.sl (.agg #[.int .i64 p.tot, .slice A1 p.la.length c1, .int .i64 p.hand, .slice B1 p.rj.length d1, .bool p.sl]) := hO.keepI (fun q h1 h2 => by rw [hoth2 _ (by omega), upd_ne (by omega)])
    have hs2 : StayB bC H H2 := (hsH.new hB (by omega)).trans (.k hoth2)
    clear hoth2
    cases t
    · (try (simp (disch := omega) only [bsW, WOp, WOq, WV, bo, eqN, gdc, gw, bnd, ↓reduceIte, Nat.reduceEqDiff, rsvs, rsv, oneOf, rdN, ne_eq, Nat.reduceAdd, Nat.reduceMul, Nat.reduceLT, reduceCtorEq, Value.cells, setN, Value.oneCell', Nat.reduceLeDiff, undef, fcT, d0, rd_rw j5]))
      (repeat' (first | ((with_reducible refine gif_split (fun hs_ => ?_) (fun hs_ => ?_)) <;> (have hp_ := hs_; (try simp only [hpL, ne_eq] at hp_); (try simp (disch := omega) only [bsW, WOp, WOq, WV, bo, eqN, gdc, gw, bnd, ↓reduceIte, Nat.reduceEqDiff, rsvs, rsv, oneOf, rdN, ne_eq, Nat.reduceAdd, Nat.reduceMul, Nat.reduceLT, reduceCtorEq, Value.cells, setN, Value.oneCell', Nat.reduceLeDiff, undef, fcT, d0, rd_rw j5, hs_]))) | ((first | (with_reducible refine newB_i (fun nb_ hb_ => ?_))); (try simp (disch := omega) only [bsW, WOp, WOq, WV, bo, eqN, gdc, gw, bnd, ↓reduceIte, Nat.reduceEqDiff, rsvs, rsv, oneOf, rdN, ne_eq, Nat.reduceAdd, Nat.reduceMul, Nat.reduceLT, reduceCtorEq, Value.cells, setN, Value.oneCell', Nat.reduceLeDiff, undef, fcT, d0, rd_rw j5])) | (with_reducible refine fun (hBd_ : Bd _ _) => ?_) | ((first | (with_reducible refine @And.intro (Sub _ _) _ ?_ ?_) | ((with_reducible refine @And.intro (Sub _ _ ∧ _) _ ?_ ?_); (with_reducible refine @And.intro (Sub _ _) _ ?_ ?_))); exact sbX) | ((with_reducible refine And.intro ?_ ?_); omega)))
      refine RgE_del bC (fun hBd => ?_)
      simp (disch := omega) only [bsW, WOp, WOq, WV, bo, eqN, gdc, gw, bnd, ↓reduceIte, Nat.reduceEqDiff, rsvs, rsv, oneOf, rdN, ne_eq, Nat.reduceAdd, Nat.reduceMul, Nat.reduceLT, reduceCtorEq, Value.cells, setN, Value.oneCell', Nat.reduceLeDiff, undef, fcT, d0, rd_rw j5]
      refine (pick1 _ _ bC _ p.la.length _ _ hC2 (by omega) (by omega)).monoC ?_
      rintro v3 H3 nx3 hB3 hx3 ⟨⟨x, rfl, hx1, hx2⟩, hC3, hoth3, rfl⟩
      have hxn : x < p.la.length := by split at hx2 <;> omega
      obtain ⟨k, rfl⟩ : ∃ k : Nat, x = (k : Int) := ⟨x.toNat, by omega⟩
      have hkl : k < p.la.length := by omega
      have hs3 : StayB bC H2 H3 := .k hoth3
      have gz := hs3 _ _ (by omega) jP
      have hO3 := hO2.stay hs3 (by omega)
      have hO4 := hO3.keepI (H' := upd H3 zP (.rw [.int .i64 p.tot, .slice A1 p.la.length c1, .int .i64 p.hand, .slice B1 p.rj.length d1, .bool p.sl] 28)) (fun q h1 h2 => by rw [upd_ne (by omega)])
      obtain ⟨A9, c9, B9, d9, e9, _, _, hR3, _⟩ := hO3.rd
      cases e9
      obtain ⟨A9, c9, B9, d9, e9, _, _, hR4, _⟩ := hO4.rd
      cases e9
      obtain ⟨bw, ow, eA, cw⟩ := RdL.at_ hR3 hkl
      cases eA
      obtain ⟨bw2, ow2, eA, cw2⟩ := RdL.at_ hR4 hkl
      cases eA
      have hsd : ∀ HH, StayB bC H2 HH → Sub (del (del H2 zP) bC) HH := fun HH h q o e => by
        simp only [del] at e
        split at e
        · cases e
        · split at e
          · cases e
          · exact h q o (by assumption) e
      have hsd2 : ∀ o', Sub (del (del H2 zP) bC) (upd H3 zP o') := fun o' q o e => by
        simp only [del] at e
        split at e
        · cases e
        · split at e
          · cases e
          · rw [upd_ne (by assumption)]
            exact hs3 q o (by assumption) e
      simp (disch := omega) only [bsW, WOp, WOq, WV, bo, eqN, gdc, gw, bnd, ↓reduceIte, Nat.reduceEqDiff, rsvs, rsv, oneOf, rdN, ne_eq, Nat.reduceAdd, Nat.reduceMul, Nat.reduceLT, reduceCtorEq, Value.cells, setN, Value.oneCell', Nat.reduceLeDiff, undef, fcT, gz, cw, cw2, Nat.mul_one]
      (repeat' (first | ((with_reducible refine gif_split (fun hs_ => ?_) (fun hs_ => ?_)) <;> (have hp_ := hs_; (try simp only [hpL, ne_eq] at hp_); (try simp (disch := omega) only [bsW, WOp, WOq, WV, bo, eqN, gdc, gw, bnd, ↓reduceIte, Nat.reduceEqDiff, rsvs, rsv, oneOf, rdN, ne_eq, Nat.reduceAdd, Nat.reduceMul, Nat.reduceLT, reduceCtorEq, Value.cells, setN, Value.oneCell', Nat.reduceLeDiff, undef, fcT, gz, cw, cw2, Nat.mul_one, hs_]))) | ((first | (with_reducible refine newB_i (fun nb_ hb_ => ?_)) | (with_reducible refine RgE_i (fun (hBd_ : Bd _ _) => ?_))); (try simp (disch := omega) only [bsW, WOp, WOq, WV, bo, eqN, gdc, gw, bnd, ↓reduceIte, Nat.reduceEqDiff, rsvs, rsv, oneOf, rdN, ne_eq, Nat.reduceAdd, Nat.reduceMul, Nat.reduceLT, reduceCtorEq, Value.cells, setN, Value.oneCell', Nat.reduceLeDiff, undef, fcT, gz, cw, cw2, Nat.mul_one])) | (with_reducible refine fun (hBd_ : Bd _ _) => ?_) | ((first | (with_reducible refine @And.intro (Sub _ _) _ ?_ ?_) | ((with_reducible refine @And.intro (Sub _ _ ∧ _) _ ?_ ?_); (with_reducible refine @And.intro (Sub _ _) _ ?_ ?_))); exact sbX) | ((with_reducible refine And.intro ?_ ?_); omega) | (with_reducible refine And.intro ?_ ?_)))
      all_goals first
        | exact hsd _ hs3
        | exact hsd2 _
        | exact ((hs2.trans hs3).new hB hzP).sub hB (by omega)
        | omega
        | exact ⟨p, _, _, rfl, hO4.wide (by omega) (by omega), hl⟩
    · (try (simp (disch := omega) only [bsW, WOp, WOq, WV, bo, eqN, gdc, gw, bnd, ↓reduceIte, Nat.reduceEqDiff, rsvs, rsv, oneOf, rdN, ne_eq, Nat.reduceAdd, Nat.reduceMul, Nat.reduceLT, reduceCtorEq, Value.cells, setN, Value.oneCell', Nat.reduceLeDiff, undef, fcT, d0]))
      (repeat' (first | ((with_reducible refine gif_split (fun hs_ => ?_) (fun hs_ => ?_)) <;> (have hp_ := hs_; (try simp only [hpL, ne_eq] at hp_); (try simp (disch := omega) only [bsW, WOp, WOq, WV, bo, eqN, gdc, gw, bnd, ↓reduceIte, Nat.reduceEqDiff, rsvs, rsv, oneOf, rdN, ne_eq, Nat.reduceAdd, Nat.reduceMul, Nat.reduceLT, reduceCtorEq, Value.cells, setN, Value.oneCell', Nat.reduceLeDiff, undef, fcT, d0, hs_]))) | ((first | (with_reducible refine newB_i (fun nb_ hb_ => ?_))); (try simp (disch := omega) only [bsW, WOp, WOq, WV, bo, eqN, gdc, gw, bnd, ↓reduceIte, Nat.reduceEqDiff, rsvs, rsv, oneOf, rdN, ne_eq, Nat.reduceAdd, Nat.reduceMul, Nat.reduceLT, reduceCtorEq, Value.cells, setN, Value.oneCell', Nat.reduceLeDiff, undef, fcT, d0])) | (with_reducible refine fun (hBd_ : Bd _ _) => ?_) | ((first | (with_reducible refine @And.intro (Sub _ _) _ ?_ ?_) | ((with_reducible refine @And.intro (Sub _ _ ∧ _) _ ?_ ?_); (with_reducible refine @And.intro (Sub _ _) _ ?_ ?_))); exact sbX) | ((with_reducible refine And.intro ?_ ?_); omega)))
      refine RgE_del bC (fun hBd => ?_)
      simp (disch := omega) only [bsW, WOp, WOq, WV, bo, eqN, gdc, gw, bnd, ↓reduceIte, Nat.reduceEqDiff, rsvs, rsv, oneOf, rdN, ne_eq, Nat.reduceAdd, Nat.reduceMul, Nat.reduceLT, reduceCtorEq, Value.cells, setN, Value.oneCell', Nat.reduceLeDiff, undef, fcT, rd_rw j5]
      refine newB_i (fun bL hbL => ?_)
      simp (disch := omega) only [bsW, WOp, WOq, WV, bo, eqN, gdc, gw, bnd, ↓reduceIte, Nat.reduceEqDiff, rsvs, rsv, oneOf, rdN, ne_eq, Nat.reduceAdd, Nat.reduceMul, Nat.reduceLT, reduceCtorEq, Value.cells, setN, Value.oneCell', Nat.reduceLeDiff, undef, fcT, rd_rw j5]
      refine ⟨fun q o e => ?_, ?_⟩
      · simp only [del] at e
        split at e
        · cases e
        · split at e
          · cases e
          · have := hBd q o e
            rw [upd_ne (by omega)]
            exact e
      refine (amongL _ _ bC _ 0 21 bL _ _ _ 3 _ _ (Cur.new (b := bL) hC2 (by omega) (by omega)) (by omega) (upd_same _ _ _) (by omega) (by omega) (by simp) (by simp) (by decide)).monoC ?_
      rintro v6 H6 nx6 hB6 hx6 ⟨⟨x, rfl, _, _⟩, hC6, hoth6, rfl⟩
      have hs6 : StayB bC (H2) H6 := ((StayB.s (Sub.refl _)).new hBd hbL).trans (.k hoth6)
      have gz := hs6 _ _ (by omega) jP
      have hO6 := hO2.stay hs6 (by omega)
      simp (disch := omega) only [bsW, WOp, WOq, WV, bo, eqN, gdc, gw, bnd, ↓reduceIte, Nat.reduceEqDiff, rsvs, rsv, oneOf, rdN, ne_eq, Nat.reduceAdd, Nat.reduceMul, Nat.reduceLT, reduceCtorEq, Value.cells, setN, Value.oneCell', Nat.reduceLeDiff, undef, fcT, gz]
      refine ⟨fun q o e => ?_, ?_⟩
      · simp only [del] at e
        split at e
        · cases e
        · split at e
          · cases e
          · exact hs6 q o (by assumption) e
      exact ⟨(((hs2).trans hs6).new hB hzP).sub hB (by omega), by omega, p, _, _, rfl, (hO6.keepI (fun q h1 h2 => by rw [upd_ne (by omega)])).wide (by omega) (by omega), hl⟩
  · have d0 : decide ((0 : Int) < (p.la.length : Int)) = false := decide_eq_false (by omega)
    (try (simp (disch := omega) only [bsW, WOp, WOq, WV, bo, eqN, gdc, gw, bnd, ↓reduceIte, Nat.reduceEqDiff, rsvs, rsv, oneOf, rdN, ne_eq, Nat.reduceAdd, Nat.reduceMul, Nat.reduceLT, reduceCtorEq, Value.cells, setN, Value.oneCell', Nat.reduceLeDiff, undef, fcT, kP, d0]))
    (repeat' (first | ((with_reducible refine gif_split (fun hs_ => ?_) (fun hs_ => ?_)) <;> (have hp_ := hs_; (try simp only [hpL, ne_eq] at hp_); (try simp (disch := omega) only [bsW, WOp, WOq, WV, bo, eqN, gdc, gw, bnd, ↓reduceIte, Nat.reduceEqDiff, rsvs, rsv, oneOf, rdN, ne_eq, Nat.reduceAdd, Nat.reduceMul, Nat.reduceLT, reduceCtorEq, Value.cells, setN, Value.oneCell', Nat.reduceLeDiff, undef, fcT, kP, d0, hs_]))) | ((first | (with_reducible refine newB_i (fun nb_ hb_ => ?_))); (try simp (disch := omega) only [bsW, WOp, WOq, WV, bo, eqN, gdc, gw, bnd, ↓reduceIte, Nat.reduceEqDiff, rsvs, rsv, oneOf, rdN, ne_eq, Nat.reduceAdd, Nat.reduceMul, Nat.reduceLT, reduceCtorEq, Value.cells, setN, Value.oneCell', Nat.reduceLeDiff, undef, fcT, kP, d0])) | (with_reducible refine fun (hBd_ : Bd _ _) => ?_) | ((first | (with_reducible refine @And.intro (Sub _ _) _ ?_ ?_) | ((with_reducible refine @And.intro (Sub _ _ ∧ _) _ ?_ ?_); (with_reducible refine @And.intro (Sub _ _) _ ?_ ?_))); exact sbX) | ((with_reducible refine And.intro ?_ ?_); omega)))
    have hb5 := hb_
    generalize nb_ = b5 at *
    have j5 : (upd H1 b5 (.rw [.int .i64 p.tot, .slice A1 p.la.length c1, .int .i64 p.hand, .slice B1 p.rj.length d1, .bool p.sl] 28)) b5 = some (.rw [.int .i64 p.tot, .slice A1 p.la.length c1, .int .i64 p.hand, .slice B1 p.rj.length d1, .bool p.sl] 28) := upd_same _ _ _
    have jP : (upd H1 b5 (.rw [.int .i64 p.tot, .slice A1 p.la.length c1, .int .i64 p.hand, .slice B1 p.rj.length d1, .bool p.sl] 28)) zP = some (.rw [.int .i64 0, .slice none 0 0, .int .i64 0, .slice none 0 0, .bool false] 28) := by rw [upd_ne (by omega)]; exact kP
    have hO2 : OwnP (upd H1 b5 (.rw [.int .i64 p.tot, .slice A1 p.la.length c1, .int .i64 p.hand, .slice B1 p.rj.length d1, .bool p.sl] 28)) (bC + 1) nx1 p.tot p.la p.hand p.rj p.sl (.agg #[.int .i64 p.tot, .slice A1 p.la.length c1, .int .i64 p.hand, .slice B1 p.rj.length d1, .bool p.sl]) := hO.keepI (fun q h1 h2 => by rw [upd_ne (by omega)])
    have hC2 := hC1.new (b := b5) (o := .rw [.int .i64 p.tot, .slice A1 p.la.length c1, .int .i64 p.hand, .slice B1 p.rj.length d1, .bool p.sl] 28) (by omega) (by omega)
    have hs2 : StayB bC H (upd H1 b5 (.rw [.int .i64 p.tot, .slice A1 p.la.length c1, .int .i64 p.hand, .slice B1 p.rj.length d1, .bool p.sl] 28)) := hsH.new hB (by omega)
    refine RgE_del bC (fun hBd => ?_)
    simp (disch := omega) only [bsW, WOp, WOq, WV, bo, eqN, gdc, gw, bnd, ↓reduceIte, Nat.reduceEqDiff, rsvs, rsv, oneOf, rdN, ne_eq, Nat.reduceAdd, Nat.reduceMul, Nat.reduceLT, reduceCtorEq, Value.cells, setN, Value.oneCell', Nat.reduceLeDiff, undef, fcT, rd_rw j5]
    refine newB_i (fun bL hbL => ?_)
    simp (disch := omega) only [bsW, WOp, WOq, WV, bo, eqN, gdc, gw, bnd, ↓reduceIte, Nat.reduceEqDiff, rsvs, rsv, oneOf, rdN, ne_eq, Nat.reduceAdd, Nat.reduceMul, Nat.reduceLT, reduceCtorEq, Value.cells, setN, Value.oneCell', Nat.reduceLeDiff, undef, fcT, rd_rw j5]
    refine ⟨fun q o e => ?_, ?_⟩
    · simp only [del] at e
      split at e
      · cases e
      · split at e
        · cases e
        · have := hBd q o e
          rw [upd_ne (by omega)]
          exact e
    refine (amongL _ _ bC _ 0 21 bL _ _ _ 3 _ _ (Cur.new (b := bL) hC2 (by omega) (by omega)) (by omega) (upd_same _ _ _) (by omega) (by omega) (by simp) (by simp) (by decide)).monoC ?_
    rintro v6 H6 nx6 hB6 hx6 ⟨⟨x, rfl, _, _⟩, hC6, hoth6, rfl⟩
    have hs6 : StayB bC (upd H1 b5 (.rw [.int .i64 p.tot, .slice A1 p.la.length c1, .int .i64 p.hand, .slice B1 p.rj.length d1, .bool p.sl] 28)) H6 := ((StayB.s (Sub.refl _)).new hBd hbL).trans (.k hoth6)
    have gz := hs6 _ _ (by omega) jP
    have hO6 := hO2.stay hs6 (by omega)
    simp (disch := omega) only [bsW, WOp, WOq, WV, bo, eqN, gdc, gw, bnd, ↓reduceIte, Nat.reduceEqDiff, rsvs, rsv, oneOf, rdN, ne_eq, Nat.reduceAdd, Nat.reduceMul, Nat.reduceLT, reduceCtorEq, Value.cells, setN, Value.oneCell', Nat.reduceLeDiff, undef, fcT, gz]
    refine ⟨fun q o e => ?_, ?_⟩
    · simp only [del] at e
      split at e
      · cases e
      · split at e
        · cases e
        · exact hs6 q o (by assumption) e
    exact ⟨(((hs2).trans hs6).new hB hzP).sub hB (by omega), by omega, p, _, _, rfl, (hO6.keepI (fun q h1 h2 => by rw [upd_ne (by omega)])).wide (by omega) (by omega), hl⟩
end Go.Proofs.YtbhabpenlaklcaaDoor
