/- What the laws on puzzles draw. -/
import Derived.Test.YtbhabpenlaklcaaPD2
set_option linter.unusedVariables false
set_option linter.unusedSimpArgs false
set_option maxRecDepth 100000
set_option maxHeartbeats 4000000
namespace Go.Proofs.Ytbhabpenlaklcaa
open Go Go.RowKit Go.Proofs
theorem StayB.sub {bC nx : Nat} {H H' : Hp} (h : StayB bC H H') (hB : Bd H nx) (hb : nx ≤ bC) : Sub H H' := fun c o e => by
  have := hB c o e
  exact h c o (by omega) e
theorem StayB.dl {bC b : Nat} {H H' : Hp} (h : StayB bC H H') : StayB bC (del H b) (del H' b) := fun c o hc e => by
  unfold del at e ⊢
  split at e
  · cases e
  · rename_i hb
    rw [if_neg hb]
    exact h c o hc e
theorem Sub.dl {b : Nat} {H H' : Hp} (h : Sub H H') : Sub (del H b) (del H' b) := fun c o e => by
  unfold del at e ⊢
  split at e
  · cases e
  · rename_i hb
    rw [if_neg hb]
    exact h c o e
theorem del_upd_ne {H : Hp} {b c : Nat} {o : Blk} (h : c ≠ b) : del (upd H c o) b = upd (del H b) c o := by
  funext d
  by_cases h1 : d = b <;> by_cases h2 : d = c <;> simp_all [del, upd]
theorem DrawNewPuzzle (A : Option Addr) (n c : Nat) (H : Hp) (nx : Nat) (hn : n ≤ 9223372036854775807) (hR : RdU H A n) :
    AC Try.prog 42 #[.slice A n c] H nx (fun v H' nx' => Sub H H' ∧ nx ≤ nx' ∧ ∃ x : Int, v = .int .i64 x) := by
  refine AC_of x_spec_DrawNewPuzzle rfl fun hB => ?_
  simp (disch := omega) only [bsW, WOp, WOq, WV, bo, eqN, gdc, gw, bnd, ↓reduceIte, Nat.reduceEqDiff, rsvs, rsv, oneOf, rdN, ne_eq, Nat.reduceAdd, Nat.reduceMul, Nat.reduceLT, reduceCtorEq, Value.cells, setN, Value.oneCell', Nat.reduceLeDiff, undef, fcT, c_spec_DrawNewPuzzle]
  (repeat' (first | ((with_reducible refine gif_split (fun hs_ => ?_) (fun hs_ => ?_)) <;> (have hp_ := hs_; (try simp only [hpL, ne_eq] at hp_); (try simp (disch := omega) only [bsW, WOp, WOq, WV, bo, eqN, gdc, gw, bnd, ↓reduceIte, Nat.reduceEqDiff, rsvs, rsv, oneOf, rdN, ne_eq, Nat.reduceAdd, Nat.reduceMul, Nat.reduceLT, reduceCtorEq, Value.cells, setN, Value.oneCell', Nat.reduceLeDiff, undef, fcT, hs_]))) | ((first | (with_reducible refine newB_i (fun nb_ hb_ => ?_)) | (with_reducible refine RgE_i (fun (hBd_ : Bd _ _) => ?_))); (try simp (disch := omega) only [bsW, WOp, WOq, WV, bo, eqN, gdc, gw, bnd, ↓reduceIte, Nat.reduceEqDiff, rsvs, rsv, oneOf, rdN, ne_eq, Nat.reduceAdd, Nat.reduceMul, Nat.reduceLT, reduceCtorEq, Value.cells, setN, Value.oneCell', Nat.reduceLeDiff, undef, fcT])) | (with_reducible refine fun (hBd_ : Bd _ _) => ?_) | ((first | (with_reducible refine @And.intro (Sub _ _) _ ?_ ?_) | ((with_reducible refine @And.intro (Sub _ _ ∧ _) _ ?_ ?_); (with_reducible refine @And.intro (Sub _ _) _ ?_ ?_))); exact sbX) | ((with_reducible refine And.intro ?_ ?_); omega)))
  rename_i bC hbC
  refine (amongL H nx bC 0 (-1) 21 nb_ _ _ _ 3 _ _ ((Cur.start hB hbC hn hR).new (by omega) (by omega)) (by omega) (upd_same _ _ _) (by omega) (by omega) (by simp) (by simp) (by decide)).monoC ?_
  rintro v1 H1 nx1 hB1 hx1 ⟨⟨x, rfl, _, _⟩, hC1, hoth1, rfl⟩
  (try (simp (disch := omega) only [bsW, WOp, WOq, WV, bo, eqN, gdc, gw, bnd, ↓reduceIte, Nat.reduceEqDiff, rsvs, rsv, oneOf, rdN, ne_eq, Nat.reduceAdd, Nat.reduceMul, Nat.reduceLT, reduceCtorEq, Value.cells, setN, Value.oneCell', Nat.reduceLeDiff, undef, fcT]))
  exact ⟨hC1.s, by omega, x, rfl⟩
theorem DrawStepPuzzle (A : Option Addr) (n c : Nat) (H : Hp) (nx : Nat) (hn : n ≤ 9223372036854775807) (hR : RdU H A n) :
    AC Try.prog 39 #[.slice A n c] H nx (fun v H' nx' => Sub H H' ∧ nx ≤ nx' ∧ ∃ (p : PzD) (kd pc : Int) (w : Value), v = .tuple #[w, .agg #[.int .i64 kd, .int .i64 pc]] ∧ OwnP H' nx nx' p.tot p.la p.hand p.rj p.sl w ∧ p.la.length + p.rj.length ≤ 22) := by
  refine AC_of x_spec_DrawStepPuzzle rfl fun hB => ?_
  simp (disch := omega) only [bsW, WOp, WOq, WV, bo, eqN, gdc, gw, bnd, ↓reduceIte, Nat.reduceEqDiff, rsvs, rsv, oneOf, rdN, ne_eq, Nat.reduceAdd, Nat.reduceMul, Nat.reduceLT, reduceCtorEq, Value.cells, setN, Value.oneCell', Nat.reduceLeDiff, undef, fcT, c_spec_DrawStepPuzzle]
  (repeat' (first | ((with_reducible refine gif_split (fun hs_ => ?_) (fun hs_ => ?_)) <;> (have hp_ := hs_; (try simp only [hpL, ne_eq] at hp_); (try simp (disch := omega) only [bsW, WOp, WOq, WV, bo, eqN, gdc, gw, bnd, ↓reduceIte, Nat.reduceEqDiff, rsvs, rsv, oneOf, rdN, ne_eq, Nat.reduceAdd, Nat.reduceMul, Nat.reduceLT, reduceCtorEq, Value.cells, setN, Value.oneCell', Nat.reduceLeDiff, undef, fcT, hs_]))) | ((first | (with_reducible refine newB_i (fun nb_ hb_ => ?_)) | (with_reducible refine RgE_i (fun (hBd_ : Bd _ _) => ?_))); (try simp (disch := omega) only [bsW, WOp, WOq, WV, bo, eqN, gdc, gw, bnd, ↓reduceIte, Nat.reduceEqDiff, rsvs, rsv, oneOf, rdN, ne_eq, Nat.reduceAdd, Nat.reduceMul, Nat.reduceLT, reduceCtorEq, Value.cells, setN, Value.oneCell', Nat.reduceLeDiff, undef, fcT])) | (with_reducible refine fun (hBd_ : Bd _ _) => ?_) | ((first | (with_reducible refine @And.intro (Sub _ _) _ ?_ ?_) | ((with_reducible refine @And.intro (Sub _ _ ∧ _) _ ?_ ?_); (with_reducible refine @And.intro (Sub _ _) _ ?_ ?_))); exact sbX) | ((with_reducible refine And.intro ?_ ?_); omega)))
  rename_i zP hzP zS hzS
  have hbC := hb_
  generalize nb_ = bC at *
  have hBz : Bd (upd (upd H zP (.rw [.int .i64 0, .slice none 0 0, .int .i64 0, .slice none 0 0, .bool false] 24)) zS (.rw [.int .i64 0, .int .i64 0] 46)) (zS + 1) := Bd.up (Bd.up hB hzP) (by omega)
  have hsz : Sub H (upd (upd H zP (.rw [.int .i64 0, .slice none 0 0, .int .i64 0, .slice none 0 0, .bool false] 24)) zS (.rw [.int .i64 0, .int .i64 0] 46)) := sub_up (nx := nx) (by omega) hB (sub_up hzP hB (Sub.refl _))
  refine (puzzle _ (zS + 1) bC 0 _ _ (Cur.start hBz hbC hn (hR.sub hsz)) (by omega)).monoC ?_
  rintro v1 H1 nx1 hB1 hx1 ⟨⟨p, hO, hl⟩, hC1, hs1, hx1'⟩
  obtain ⟨A1, c1, B1, d1, rfl, _, _, _, _⟩ := hO.rd
  have kP : H1 zP = some (.rw [.int .i64 0, .slice none 0 0, .int .i64 0, .slice none 0 0, .bool false] 24) := hs1 _ _ (by omega) (by rw [upd_ne (by omega), upd_ne (by omega), upd_same])
  have kS : H1 zS = some (.rw [.int .i64 0, .int .i64 0] 46) := hs1 _ _ (by omega) (by rw [upd_ne (by omega), upd_same])
  have hsH : StayB bC H H1 := (((StayB.s hsz).new (nx := zS + 1) (by exact fun d o e => Nat.lt_of_lt_of_le (hB d o e) (by omega)) hbC)).trans hs1
  clear hs1
  (try (simp (disch := omega) only [bsW, WOp, WOq, WV, bo, eqN, gdc, gw, bnd, ↓reduceIte, Nat.reduceEqDiff, rsvs, rsv, oneOf, rdN, ne_eq, Nat.reduceAdd, Nat.reduceMul, Nat.reduceLT, reduceCtorEq, Value.cells, setN, Value.oneCell', Nat.reduceLeDiff, undef, fcT, kP, kS]))
  (repeat' (first | ((with_reducible refine gif_split (fun hs_ => ?_) (fun hs_ => ?_)) <;> (have hp_ := hs_; (try simp only [hpL, ne_eq] at hp_); (try simp (disch := omega) only [bsW, WOp, WOq, WV, bo, eqN, gdc, gw, bnd, ↓reduceIte, Nat.reduceEqDiff, rsvs, rsv, oneOf, rdN, ne_eq, Nat.reduceAdd, Nat.reduceMul, Nat.reduceLT, reduceCtorEq, Value.cells, setN, Value.oneCell', Nat.reduceLeDiff, undef, fcT, kP, kS, hs_]))) | ((first | (with_reducible refine newB_i (fun nb_ hb_ => ?_))); (try simp (disch := omega) only [bsW, WOp, WOq, WV, bo, eqN, gdc, gw, bnd, ↓reduceIte, Nat.reduceEqDiff, rsvs, rsv, oneOf, rdN, ne_eq, Nat.reduceAdd, Nat.reduceMul, Nat.reduceLT, reduceCtorEq, Value.cells, setN, Value.oneCell', Nat.reduceLeDiff, undef, fcT, kP, kS])) | (with_reducible refine fun (hBd_ : Bd _ _) => ?_) | ((first | (with_reducible refine @And.intro (Sub _ _) _ ?_ ?_) | ((with_reducible refine @And.intro (Sub _ _ ∧ _) _ ?_ ?_); (with_reducible refine @And.intro (Sub _ _) _ ?_ ?_))); exact sbX) | ((with_reducible refine And.intro ?_ ?_); omega)))
  have hb5 := hb_
  generalize nb_ = b5 at *
  refine RgE_del bC (fun hBd => ?_)
  simp (disch := omega) only [bsW, WOp, WOq, WV, bo, eqN, gdc, gw, bnd, ↓reduceIte, Nat.reduceEqDiff, rsvs, rsv, oneOf, rdN, ne_eq, Nat.reduceAdd, Nat.reduceMul, Nat.reduceLT, reduceCtorEq, Value.cells, setN, Value.oneCell', Nat.reduceLeDiff, undef, fcT]
  refine (puzzleStep _ _ bC _ _ _ _ _ _ _ (bC + 1) nx1 _ _ (hC1.new (b := b5) (by omega) (by omega)) (by omega) (hO.keepI (fun q h1 h2 => upd_ne (by omega))) (by omega) (by omega) (by omega)).monoC ?_
  rintro v2 H2 nx2 hB2 hx2 ⟨⟨kd, pc, rfl⟩, hC2, hs2, hx2'⟩
  have hO2 := (hO.keepI (H' := upd H1 b5 (.rw [.int .i64 p.tot, .slice A1 p.la.length c1, .int .i64 p.hand, .slice B1 p.rj.length d1, .bool p.sl] 24)) (fun q h1 h2 => upd_ne (by omega))).stay hs2 (by omega)
  have qP : H2 zP = some (.rw [.int .i64 0, .slice none 0 0, .int .i64 0, .slice none 0 0, .bool false] 24) := hs2 _ _ (by omega) (by rw [upd_ne (by omega)]; exact kP)
  have qS : H2 zS = some (.rw [.int .i64 0, .int .i64 0] 46) := hs2 _ _ (by omega) (by rw [upd_ne (by omega)]; exact kS)
  have hsH2 : StayB bC H H2 := (hsH.new hB (by omega)).trans hs2
  simp (disch := omega) only [bsW, WOp, WOq, WV, bo, eqN, gdc, gw, bnd, ↓reduceIte, Nat.reduceEqDiff, rsvs, rsv, oneOf, rdN, ne_eq, Nat.reduceAdd, Nat.reduceMul, Nat.reduceLT, reduceCtorEq, Value.cells, setN, Value.oneCell', Nat.reduceLeDiff, undef, fcT, qP, qS]
  refine ⟨?_, ?_⟩
  · intro q o e
    simp only [del] at e
    split at e
    · cases e
    · rename_i h1
      split at e
      · cases e
      · split at e
        · cases e
        · exact hs2 q o h1 e
  · exact ⟨((hsH2.new hB hzP).new hB (by omega)).sub hB (by omega), by omega, p, kd, pc, _, rfl, (hO2.keepI (fun q h1 h2 => by rw [upd_ne (by omega), upd_ne (by omega)])).wide (by omega) (by omega), hl⟩
theorem DrawRunPuzzle (A : Option Addr) (n c : Nat) (H : Hp) (nx : Nat) (hn : n ≤ 9223372036854775807) (hR : RdU H A n) :
    AC Try.prog 41 #[.slice A n c] H nx (fun v H' nx' => Sub H H' ∧ nx ≤ nx' ∧ ∃ (p : PzD) (w : Value) (S : Option Addr) (m e : Nat) (f : Nat → Nat → Int), v = .tuple #[w, .slice S m e] ∧ OwnP H' nx nx' p.tot p.la p.hand p.rj p.sl w ∧ p.la.length + p.rj.length ≤ 22 ∧ Rd H' S m 2 f ∧ m ≤ 41) := by
  refine AC_of x_spec_DrawRunPuzzle rfl fun hB => ?_
  simp (disch := omega) only [bsW, WOp, WOq, WV, bo, eqN, gdc, gw, bnd, ↓reduceIte, Nat.reduceEqDiff, rsvs, rsv, oneOf, rdN, ne_eq, Nat.reduceAdd, Nat.reduceMul, Nat.reduceLT, reduceCtorEq, Value.cells, setN, Value.oneCell', Nat.reduceLeDiff, undef, fcT, c_spec_DrawRunPuzzle]
  (repeat' (first | ((with_reducible refine gif_split (fun hs_ => ?_) (fun hs_ => ?_)) <;> (have hp_ := hs_; (try simp only [hpL, ne_eq] at hp_); (try simp (disch := omega) only [bsW, WOp, WOq, WV, bo, eqN, gdc, gw, bnd, ↓reduceIte, Nat.reduceEqDiff, rsvs, rsv, oneOf, rdN, ne_eq, Nat.reduceAdd, Nat.reduceMul, Nat.reduceLT, reduceCtorEq, Value.cells, setN, Value.oneCell', Nat.reduceLeDiff, undef, fcT, hs_]))) | ((first | (with_reducible refine newB_i (fun nb_ hb_ => ?_)) | (with_reducible refine RgE_i (fun (hBd_ : Bd _ _) => ?_))); (try simp (disch := omega) only [bsW, WOp, WOq, WV, bo, eqN, gdc, gw, bnd, ↓reduceIte, Nat.reduceEqDiff, rsvs, rsv, oneOf, rdN, ne_eq, Nat.reduceAdd, Nat.reduceMul, Nat.reduceLT, reduceCtorEq, Value.cells, setN, Value.oneCell', Nat.reduceLeDiff, undef, fcT])) | (with_reducible refine fun (hBd_ : Bd _ _) => ?_) | ((first | (with_reducible refine @And.intro (Sub _ _) _ ?_ ?_) | ((with_reducible refine @And.intro (Sub _ _ ∧ _) _ ?_ ?_); (with_reducible refine @And.intro (Sub _ _) _ ?_ ?_))); exact sbX) | ((with_reducible refine And.intro ?_ ?_); omega)))
  rename_i zP hzP
  have hbC := hb_
  generalize nb_ = bC at *
  have hBz : Bd (upd H zP (.rw [.int .i64 0, .slice none 0 0, .int .i64 0, .slice none 0 0, .bool false] 24)) (zP + 1) := Bd.up hB hzP
  have hsz : Sub H (upd H zP (.rw [.int .i64 0, .slice none 0 0, .int .i64 0, .slice none 0 0, .bool false] 24)) := sub_up hzP hB (Sub.refl _)
  refine (puzzle _ (zP + 1) bC 0 _ _ (Cur.start hBz hbC hn (hR.sub hsz)) (by omega)).monoC ?_
  rintro v1 H1 nx1 hB1 hx1 ⟨⟨p, hO, hl⟩, hC1, hs1, hx1'⟩
  obtain ⟨A1, c1, B1, d1, rfl, _, _, _, _⟩ := hO.rd
  have kP : H1 zP = some (.rw [.int .i64 0, .slice none 0 0, .int .i64 0, .slice none 0 0, .bool false] 24) := hs1 _ _ (by omega) (by rw [upd_ne (by omega), upd_same])
  have hsH : StayB bC H H1 := (((StayB.s hsz).new (nx := zP + 1) (by exact fun d o e => Nat.lt_of_lt_of_le (hB d o e) (by omega)) hbC)).trans hs1
  clear hs1
  (try (simp (disch := omega) only [bsW, WOp, WOq, WV, bo, eqN, gdc, gw, bnd, ↓reduceIte, Nat.reduceEqDiff, rsvs, rsv, oneOf, rdN, ne_eq, Nat.reduceAdd, Nat.reduceMul, Nat.reduceLT, reduceCtorEq, Value.cells, setN, Value.oneCell', Nat.reduceLeDiff, undef, fcT, kP]))
  (repeat' (first | ((with_reducible refine gif_split (fun hs_ => ?_) (fun hs_ => ?_)) <;> (have hp_ := hs_; (try simp only [hpL, ne_eq] at hp_); (try simp (disch := omega) only [bsW, WOp, WOq, WV, bo, eqN, gdc, gw, bnd, ↓reduceIte, Nat.reduceEqDiff, rsvs, rsv, oneOf, rdN, ne_eq, Nat.reduceAdd, Nat.reduceMul, Nat.reduceLT, reduceCtorEq, Value.cells, setN, Value.oneCell', Nat.reduceLeDiff, undef, fcT, kP, hs_]))) | ((first | (with_reducible refine newB_i (fun nb_ hb_ => ?_)) | (with_reducible refine RgE_i (fun (hBd_ : Bd _ _) => ?_))); (try simp (disch := omega) only [bsW, WOp, WOq, WV, bo, eqN, gdc, gw, bnd, ↓reduceIte, Nat.reduceEqDiff, rsvs, rsv, oneOf, rdN, ne_eq, Nat.reduceAdd, Nat.reduceMul, Nat.reduceLT, reduceCtorEq, Value.cells, setN, Value.oneCell', Nat.reduceLeDiff, undef, fcT, kP])) | (with_reducible refine fun (hBd_ : Bd _ _) => ?_) | ((first | (with_reducible refine @And.intro (Sub _ _) _ ?_ ?_) | ((with_reducible refine @And.intro (Sub _ _ ∧ _) _ ?_ ?_); (with_reducible refine @And.intro (Sub _ _) _ ?_ ?_))); exact sbX) | ((with_reducible refine And.intro ?_ ?_); omega)))
  rename_i b5 hb5 bL hbL
  have hb7 := hb_
  generalize nb_ = b7 at *
  refine (pick1 _ _ bC _ 12 _ _ (((hC1.new (by omega) (by omega)).new (by omega) (by omega)).new (by omega) (by omega)) (by omega) (by omega)).monoC ?_
  rintro v2 H2 nx2 hB2 hx2 ⟨⟨k0, rfl, hk1, hk2⟩, hC2, hoth2, rfl⟩
  rw [if_neg (by omega)] at hk2
  have j5 : H2 b5 = some (.rw [.int .i64 p.tot, .slice A1 p.la.length c1, .int .i64 p.hand, .slice B1 p.rj.length d1, .bool p.sl] 24) := by rw [hoth2 _ (by omega), upd_ne (by omega), upd_ne (by omega), upd_same]
  have j7 : H2 b7 = some (.rw [.int .i64 p.tot, .slice A1 p.la.length c1, .int .i64 p.hand, .slice B1 p.rj.length d1, .bool p.sl] 24) := by rw [hoth2 _ (by omega), upd_same]
  have jL : H2 bL = some (.rw [] 46) := by rw [hoth2 _ (by omega), upd_ne (by omega), upd_same]
  have jP : H2 zP = some (.rw [.int .i64 0, .slice none 0 0, .int .i64 0, .slice none 0 0, .bool false] 24) := by rw [hoth2 _ (by omega), upd_ne (by omega), upd_ne (by omega), upd_ne (by omega)]; exact kP
  have hO2 : OwnP H2 (bC + 1) nx1 p.tot p.la p.hand p.rj p.sl (.agg #[.int .i64 p.tot, .slice A1 p.la.length c1, .int .i64 p.hand, .slice B1 p.rj.length d1, .bool p.sl]) := hO.keepI (fun q h1 h2 => by rw [hoth2 _ (by omega), upd_ne (by omega), upd_ne (by omega), upd_ne (by omega)])
  have hs2 : StayB bC H H2 := (((hsH.new hB (by omega)).new hB (by omega)).new hB (by omega)).trans (.k hoth2)
  clear hoth2
  (try (simp (disch := omega) only [bsW, WOp, WOq, WV, bo, eqN, gdc, gw, bnd, ↓reduceIte, Nat.reduceEqDiff, rsvs, rsv, oneOf, rdN, ne_eq, Nat.reduceAdd, Nat.reduceMul, Nat.reduceLT, reduceCtorEq, Value.cells, setN, Value.oneCell', Nat.reduceLeDiff, undef, fcT]))
  (repeat' (first | ((with_reducible refine gif_split (fun hs_ => ?_) (fun hs_ => ?_)) <;> (have hp_ := hs_; (try simp only [hpL, ne_eq] at hp_); (try simp (disch := omega) only [bsW, WOp, WOq, WV, bo, eqN, gdc, gw, bnd, ↓reduceIte, Nat.reduceEqDiff, rsvs, rsv, oneOf, rdN, ne_eq, Nat.reduceAdd, Nat.reduceMul, Nat.reduceLT, reduceCtorEq, Value.cells, setN, Value.oneCell', Nat.reduceLeDiff, undef, fcT, hs_]))) | ((first | (with_reducible refine newB_i (fun nb_ hb_ => ?_)) | (with_reducible refine RgE_i (fun (hBd_ : Bd _ _) => ?_))); (try simp (disch := omega) only [bsW, WOp, WOq, WV, bo, eqN, gdc, gw, bnd, ↓reduceIte, Nat.reduceEqDiff, rsvs, rsv, oneOf, rdN, ne_eq, Nat.reduceAdd, Nat.reduceMul, Nat.reduceLT, reduceCtorEq, Value.cells, setN, Value.oneCell', Nat.reduceLeDiff, undef, fcT])) | (with_reducible refine fun (hBd_ : Bd _ _) => ?_) | ((first | (with_reducible refine @And.intro (Sub _ _) _ ?_ ?_) | ((with_reducible refine @And.intro (Sub _ _ ∧ _) _ ?_ ?_); (with_reducible refine @And.intro (Sub _ _) _ ?_ ?_))); exact sbX) | ((with_reducible refine And.intro ?_ ?_); omega)))
  have fin : ∀ (HH : Hp) (nn : Nat) (S : Option Addr) (e m : Nat) (f : Nat → Nat → Int), StayB bC H HH → nx ≤ nn → OwnP HH (bC + 1) nx1 p.tot p.la p.hand p.rj p.sl (.agg #[.int .i64 p.tot, .slice A1 p.la.length c1, .int .i64 p.hand, .slice B1 p.rj.length d1, .bool p.sl]) → nx1 ≤ nn → OwnR HH bL nn m 2 f 46 (.slice S m e) → m ≤ 41 →
      (Sub H (upd HH zP (.rw [.int .i64 p.tot, .slice A1 p.la.length c1, .int .i64 p.hand, .slice B1 p.rj.length d1, .bool p.sl] 24)) ∧ nx ≤ nn ∧ ∃ (q0 : PzD) (w : Value) (S' : Option Addr) (m' e' : Nat) (f : Nat → Nat → Int), (.tuple #[.agg #[.int .i64 p.tot, .slice A1 p.la.length c1, .int .i64 p.hand, .slice B1 p.rj.length d1, .bool p.sl], .slice S m e] : Value) = .tuple #[w, .slice S' m' e'] ∧ OwnP (upd HH zP (.rw [.int .i64 p.tot, .slice A1 p.la.length c1, .int .i64 p.hand, .slice B1 p.rj.length d1, .bool p.sl] 24)) nx nn q0.tot q0.la q0.hand q0.rj q0.sl w ∧ q0.la.length + q0.rj.length ≤ 22 ∧ Rd (upd HH zP (.rw [.int .i64 p.tot, .slice A1 p.la.length c1, .int .i64 p.hand, .slice B1 p.rj.length d1, .bool p.sl] 24)) S' m' 2 f ∧ m' ≤ 41) := fun HH nn S e m f h1 h2 h3 h4 h5 h6 => by
    have h7 : OwnR (upd HH zP (.rw [.int .i64 p.tot, .slice A1 p.la.length c1, .int .i64 p.hand, .slice B1 p.rj.length d1, .bool p.sl] 24)) bL nn m 2 f 46 (.slice S m e) := OwnR.keepI h5 (fun c h1 h2 => upd_ne (by omega))
    obtain ⟨S9, e9, q9, _, hR9⟩ := OwnR.rd h7
    cases q9
    exact ⟨(h1.new hB hzP).sub hB (by omega), h2, p, _, S, m, e, f, rfl, (h3.keepI (fun c h1 h2 => upd_ne (by omega))).wide (by omega) h4, hl, hR9, h6⟩
  refine LpB_rule (fun mm fr H' nx' => ∃ (k : Int) (q : PzD) (n : Nat) (f : Nat → Nat → Int) (w : Value) (A2 : Option Addr) (c2 : Nat) (B2 : Option Addr) (d2 : Nat), (mm : Int) = k + 1 ∧ 0 ≤ k ∧ k + n ≤ 11 ∧ fr 2 = .pointer (some ⟨zP, 0, none⟩) ∧ fr 4 = .pointer (some ⟨bC, 0, none⟩) ∧ fr 5 = .pointer (some ⟨b5, 0, none⟩) ∧ fr 6 = w ∧ fr 7 = .pointer (some ⟨b7, 0, none⟩) ∧ fr 8 = .int .i64 k ∧
      Cur (upd H zP (.rw [.int .i64 0, .slice none 0 0, .int .i64 0, .slice none 0 0, .bool false] 24)) (zP + 1) H' bC (302 + 10 * n) ∧ StayB bC H H' ∧ b7 < nx' ∧ H' zP = some (.rw [.int .i64 0, .slice none 0 0, .int .i64 0, .slice none 0 0, .bool false] 24) ∧ H' b5 = some (.rw [.int .i64 p.tot, .slice A1 p.la.length c1, .int .i64 p.hand, .slice B1 p.rj.length d1, .bool p.sl] 24) ∧ OwnP H' (bC + 1) nx1 p.tot p.la p.hand p.rj p.sl (.agg #[.int .i64 p.tot, .slice A1 p.la.length c1, .int .i64 p.hand, .slice B1 p.rj.length d1, .bool p.sl]) ∧ OwnR H' bL nx' n 2 f 46 w ∧
      H' b7 = some (.rw [.int .i64 q.tot, .slice A2 q.la.length c2, .int .i64 q.hand, .slice B2 q.rj.length d2, .bool q.sl] 24) ∧ OwnP H' (bC + 1) nx' q.tot q.la q.hand q.rj q.sl (.agg #[.int .i64 q.tot, .slice A2 q.la.length c2, .int .i64 q.hand, .slice B2 q.rj.length d2, .bool q.sl]) ∧ (∀ b, some b = ownBlk w → b ≠ b7 ∧ OwnP (del H' b) (bC + 1) nx' q.tot q.la q.hand q.rj q.sl (.agg #[.int .i64 q.tot, .slice A2 q.la.length c2, .int .i64 q.hand, .slice B2 q.rj.length d2, .bool q.sl])) ∧ q.la.length + q.rj.length ≤ 22) ?_ ?_ (Int.toNat (k0 + 1)) ?_
  · rintro mm K hK fr H' nx' hB' ⟨k, q, n, f, w, A2, c2, B2, d2, hm, hk0, hkn, f2, f4, f5, f6, f7, f8, hC, hs, hx, iP, i5, hOx, hOw, h7, hOq, hOff, hql⟩
    simp (disch := omega) only [bsW, WOp, WOq, WV, bo, eqN, gdc, gw, bnd, ↓reduceIte, Nat.reduceEqDiff, rsvs, rsv, oneOf, rdN, ne_eq, Nat.reduceAdd, Nat.reduceMul, Nat.reduceLT, reduceCtorEq, Value.cells, setN, Value.oneCell', Nat.reduceLeDiff, undef, fcT, f2, f4, f5, f6, f7, f8, rd_rw h7]
    refine gif_split (fun b1 => ?_) (fun b1 => ?_)
    · have hlt : 0 < k := by simpa using b1
      simp (disch := omega) only [bsW, WOp, WOq, WV, bo, eqN, gdc, gw, bnd, ↓reduceIte, Nat.reduceEqDiff, rsvs, rsv, oneOf, rdN, ne_eq, Nat.reduceAdd, Nat.reduceMul, Nat.reduceLT, reduceCtorEq, Value.cells, setN, Value.oneCell', Nat.reduceLeDiff, undef, fcT, f2, f4, f5, f6, f7, f8, rd_rw h7, b1]
      refine (puzzleStep _ _ bC _ _ _ _ _ _ _ (bC + 1) nx' _ _ hC (by omega) hOq (by omega) (Nat.le_refl _) (by omega)).monoC ?_
      rintro v3 H3 nx3 hB3 hx3 ⟨⟨kd, pc, rfl⟩, hC3, hs3, hx3'⟩
      have h73 := hs3 _ _ (by omega) h7
      (try (simp (disch := omega) only [bsW, WOp, WOq, WV, bo, eqN, gdc, gw, bnd, ↓reduceIte, Nat.reduceEqDiff, rsvs, rsv, oneOf, rdN, ne_eq, Nat.reduceAdd, Nat.reduceMul, Nat.reduceLT, reduceCtorEq, Value.cells, setN, Value.oneCell', Nat.reduceLeDiff, undef, fcT, f2, f4, f5, f6, f7, f8, rd_rw h73, h73]))
      (repeat' (first | ((with_reducible refine gif_split (fun hs_ => ?_) (fun hs_ => ?_)) <;> (have hp_ := hs_; (try simp only [hpL, ne_eq] at hp_); (try simp (disch := omega) only [bsW, WOp, WOq, WV, bo, eqN, gdc, gw, bnd, ↓reduceIte, Nat.reduceEqDiff, rsvs, rsv, oneOf, rdN, ne_eq, Nat.reduceAdd, Nat.reduceMul, Nat.reduceLT, reduceCtorEq, Value.cells, setN, Value.oneCell', Nat.reduceLeDiff, undef, fcT, f2, f4, f5, f6, f7, f8, rd_rw h73, h73, hs_]))) | ((first | (with_reducible refine newB_i (fun nb_ hb_ => ?_)) | (with_reducible refine RgE_i (fun (hBd_ : Bd _ _) => ?_))); (try simp (disch := omega) only [bsW, WOp, WOq, WV, bo, eqN, gdc, gw, bnd, ↓reduceIte, Nat.reduceEqDiff, rsvs, rsv, oneOf, rdN, ne_eq, Nat.reduceAdd, Nat.reduceMul, Nat.reduceLT, reduceCtorEq, Value.cells, setN, Value.oneCell', Nat.reduceLeDiff, undef, fcT, f2, f4, f5, f6, f7, f8, rd_rw h73, h73])) | (with_reducible refine fun (hBd_ : Bd _ _) => ?_) | ((first | (with_reducible refine @And.intro (Sub _ _) _ ?_ ?_) | ((with_reducible refine @And.intro (Sub _ _ ∧ _) _ ?_ ?_); (with_reducible refine @And.intro (Sub _ _) _ ?_ ?_))); exact sbX) | ((with_reducible refine And.intro ?_ ?_); omega)))
      rename_i b9 hb9
      have hOw3 : OwnR (upd (upd H3 b9 (.rw [.int .i64 kd, .int .i64 pc] 46)) nb_ (.rw [.int .i64 kd, .int .i64 pc] 46)) bL (nb_ + 1) n 2 f 46 w := OwnR.sub (OwnR.keepI (OwnR.stay6 hOw hs3 (by omega)) (fun c h1 h2 => by rw [upd_ne (by omega), upd_ne (by omega)])) (Sub.refl _) (by omega)
      refine app_one (k := 2) (bytes := 16) (e := fun j => if j = 0 then kd else pc) (by simp (disch := omega) only [bsW, WOp, WOq, WV, bo, eqN, gdc, gw, bnd, ↓reduceIte, Nat.reduceEqDiff, rsvs, rsv, oneOf, rdN, ne_eq, Nat.reduceAdd, Nat.reduceMul, Nat.reduceLT, reduceCtorEq, Value.cells, setN, Value.oneCell', Nat.reduceLeDiff, undef, fcT, f2, f4, f5, f6, f7, f8, rd_rw h73, h73]) (by simp (disch := omega) only [bsW, WOp, WOq, WV, bo, eqN, gdc, gw, bnd, ↓reduceIte, Nat.reduceEqDiff, rsvs, rsv, oneOf, rdN, ne_eq, Nat.reduceAdd, Nat.reduceMul, Nat.reduceLT, reduceCtorEq, Value.cells, setN, Value.oneCell', Nat.reduceLeDiff, undef, fcT, f2, f4, f5, f6, f7, f8, rd_rw h73, h73]) (by simp (disch := omega) only [bsW, WOp, WOq, WV, bo, eqN, gdc, gw, bnd, ↓reduceIte, Nat.reduceEqDiff, rsvs, rsv, oneOf, rdN, ne_eq, Nat.reduceAdd, Nat.reduceMul, Nat.reduceLT, reduceCtorEq, Value.cells, setN, Value.oneCell', Nat.reduceLeDiff, undef, fcT, f2, f4, f5, f6, f7, f8, rd_rw h73, h73]) ⟨_, qz46, rfl⟩ (by omega) hOw3 (upd_same _ _ _) (by simp [List.range_succ]) (by omega) (by omega) (by unfold maxLen; omega) ?_
      rintro w' b' o nx4 hb' hn4 hown' hOw4
      have hbL4 := OwnR.blk hOw4 hown'
      have hb7' : b' ≠ b7 ∧ b' ≠ b9 := by
        rcases hb' with e | e
        · have := (hOff _ e).1
          have := OwnR.blk hOw e
          omega
        · omega
      have hOd : OwnP (del H3 b') (bC + 1) nx' q.tot q.la q.hand q.rj q.sl (.agg #[.int .i64 q.tot, .slice A2 q.la.length c2, .int .i64 q.hand, .slice B2 q.rj.length d2, .bool q.sl]) := by
        rcases hb' with e | e
        · exact (hOff _ e).2.stay hs3.dl (by omega)
        · exact (hOq.stay hs3 (by omega)).keepI (fun c h1 h2 => by unfold del; rw [if_neg (by omega)])
      have hSd : Sub (del H3 b') (upd (upd (upd H3 b9 (.rw [.int .i64 kd, .int .i64 pc] 46)) nb_ (.rw [.int .i64 kd, .int .i64 pc] 46)) b' o) := by
        intro c o' e
        unfold del at e
        split at e
        · cases e
        · rename_i hc
          have := hB3 c o' e
          rw [upd_ne hc, upd_ne (by omega), upd_ne (by omega)]
          exact e
      have h74 : (upd (upd (upd H3 b9 (.rw [.int .i64 kd, .int .i64 pc] 46)) nb_ (.rw [.int .i64 kd, .int .i64 pc] 46)) b' o) b7 = some (.rw [.int .i64 q.tot, .slice A2 q.la.length c2, .int .i64 q.hand, .slice B2 q.rj.length d2, .bool q.sl] 24) := by rw [upd_ne (by omega), upd_ne (by omega), upd_ne (by omega)]; exact h73
      have h94 : (upd (upd (upd H3 b9 (.rw [.int .i64 kd, .int .i64 pc] 46)) nb_ (.rw [.int .i64 kd, .int .i64 pc] 46)) b' o) b9 = some (.rw [.int .i64 kd, .int .i64 pc] 46) := by rw [upd_ne (by omega), upd_ne (by omega), upd_same]
      have h54 : (upd (upd (upd H3 b9 (.rw [.int .i64 kd, .int .i64 pc] 46)) nb_ (.rw [.int .i64 kd, .int .i64 pc] 46)) b' o) b5 = some (.rw [.int .i64 p.tot, .slice A1 p.la.length c1, .int .i64 p.hand, .slice B1 p.rj.length d1, .bool p.sl] 24) := by rw [upd_ne (by omega), upd_ne (by omega), upd_ne (by omega)]; exact hs3 _ _ (by omega) i5
      have hP4 : (upd (upd (upd H3 b9 (.rw [.int .i64 kd, .int .i64 pc] 46)) nb_ (.rw [.int .i64 kd, .int .i64 pc] 46)) b' o) zP = some (.rw [.int .i64 0, .slice none 0 0, .int .i64 0, .slice none 0 0, .bool false] 24) := by rw [upd_ne (by omega), upd_ne (by omega), upd_ne (by omega)]; exact hs3 _ _ (by omega) iP
      have hOx4 := (hOx.stay hs3 (by omega)).keepI (H' := upd (upd (upd H3 b9 (.rw [.int .i64 kd, .int .i64 pc] 46)) nb_ (.rw [.int .i64 kd, .int .i64 pc] 46)) b' o) (fun c h1 h2 => by rw [upd_ne (by omega), upd_ne (by omega), upd_ne (by omega)])
      have hC4 := ((hC3.new (b := b9) (o := .rw [.int .i64 kd, .int .i64 pc] 46) (by omega) (by omega)).new (b := nb_) (o := .rw [.int .i64 kd, .int .i64 pc] 46) (by omega) (by omega)).new (b := b') (o := o) (by omega) (by omega)
      have hs4 : StayB bC H (upd (upd (upd H3 b9 (.rw [.int .i64 kd, .int .i64 pc] 46)) nb_ (.rw [.int .i64 kd, .int .i64 pc] 46)) b' o) := (((hs.trans hs3).new hB (by omega)).new hB (by omega)).new hB (by omega)
      obtain ⟨H4, eH⟩ : ∃ H4, H4 = (upd (upd (upd H3 b9 (.rw [.int .i64 kd, .int .i64 pc] 46)) nb_ (.rw [.int .i64 kd, .int .i64 pc] 46)) b' o) := ⟨_, rfl⟩
      simp only [← eH] at *
      (try (simp (disch := omega) only [bsW, WOp, WOq, WV, bo, eqN, gdc, gw, bnd, ↓reduceIte, Nat.reduceEqDiff, rsvs, rsv, oneOf, rdN, ne_eq, Nat.reduceAdd, Nat.reduceMul, Nat.reduceLT, reduceCtorEq, Value.cells, setN, Value.oneCell', Nat.reduceLeDiff, undef, fcT, f2, f4, f5, f7, f8, rd_rw h74, rd_rw h94, h74, h94]))
      (repeat' (first | ((with_reducible refine gif_split (fun hs_ => ?_) (fun hs_ => ?_)) <;> (have hp_ := hs_; (try simp only [hpL, ne_eq] at hp_); (try simp (disch := omega) only [bsW, WOp, WOq, WV, bo, eqN, gdc, gw, bnd, ↓reduceIte, Nat.reduceEqDiff, rsvs, rsv, oneOf, rdN, ne_eq, Nat.reduceAdd, Nat.reduceMul, Nat.reduceLT, reduceCtorEq, Value.cells, setN, Value.oneCell', Nat.reduceLeDiff, undef, fcT, f2, f4, f5, f7, f8, rd_rw h74, rd_rw h94, h74, h94, hs_]))) | ((first | (with_reducible refine newB_i (fun nb_ hb_ => ?_)) | (with_reducible refine RgE_i (fun (hBd_ : Bd _ _) => ?_))); (try simp (disch := omega) only [bsW, WOp, WOq, WV, bo, eqN, gdc, gw, bnd, ↓reduceIte, Nat.reduceEqDiff, rsvs, rsv, oneOf, rdN, ne_eq, Nat.reduceAdd, Nat.reduceMul, Nat.reduceLT, reduceCtorEq, Value.cells, setN, Value.oneCell', Nat.reduceLeDiff, undef, fcT, f2, f4, f5, f7, f8, rd_rw h74, rd_rw h94, h74, h94])) | (with_reducible refine fun (hBd_ : Bd _ _) => ?_) | ((first | (with_reducible refine @And.intro (Sub _ _) _ ?_ ?_) | ((with_reducible refine @And.intro (Sub _ _ ∧ _) _ ?_ ?_); (with_reducible refine @And.intro (Sub _ _) _ ?_ ?_))); exact sbX) | ((with_reducible refine And.intro ?_ ?_); omega)))
      refine (sStepPuzzleO _ _ _ _ _ _ kd pc (bC + 1) nx' _ _ (by omega) (hOd.subI hSd)).monoC ?_
      rintro v5 H5 nx5 hB5 hx5 ⟨w5, rfl, hO5, ht5⟩
      obtain ⟨A5, c5, B5, d5, rfl, _, _, _, _⟩ := hO5.rd
      have h75 := ht5 _ _ h74
      have hdd : Sub (del H3 b') (del H4 b') := fun c o' e => by
        have h := hSd c o' e
        unfold del at e ⊢
        split at e
        · cases e
        · rename_i hc
          rw [if_neg hc]
          exact h
      have hown5 : ∀ b, some b = ownBlk w' → b = b' := fun b hb => by
        rw [← hown'] at hb
        cases hb
        rfl
      cases htt : sdB ⟨q.tot, q.la, q.hand, q.rj, q.sl⟩ kd pc
      · (try (simp (disch := omega) only [bsW, WOp, WOq, WV, bo, eqN, gdc, gw, bnd, ↓reduceIte, Nat.reduceEqDiff, rsvs, rsv, oneOf, rdN, ne_eq, Nat.reduceAdd, Nat.reduceMul, Nat.reduceLT, reduceCtorEq, Value.cells, setN, Value.oneCell', Nat.reduceLeDiff, undef, fcT, f2, f4, f5, f7, f8, htt, h75, rd_rw h75]))
        (repeat' (first | ((with_reducible refine gif_split (fun hs_ => ?_) (fun hs_ => ?_)) <;> (have hp_ := hs_; (try simp only [hpL, ne_eq] at hp_); (try simp (disch := omega) only [bsW, WOp, WOq, WV, bo, eqN, gdc, gw, bnd, ↓reduceIte, Nat.reduceEqDiff, rsvs, rsv, oneOf, rdN, ne_eq, Nat.reduceAdd, Nat.reduceMul, Nat.reduceLT, reduceCtorEq, Value.cells, setN, Value.oneCell', Nat.reduceLeDiff, undef, fcT, f2, f4, f5, f7, f8, htt, h75, rd_rw h75, hs_]))) | ((first | (with_reducible refine newB_i (fun nb_ hb_ => ?_)) | (with_reducible refine RgE_i (fun (hBd_ : Bd _ _) => ?_))); (try simp (disch := omega) only [bsW, WOp, WOq, WV, bo, eqN, gdc, gw, bnd, ↓reduceIte, Nat.reduceEqDiff, rsvs, rsv, oneOf, rdN, ne_eq, Nat.reduceAdd, Nat.reduceMul, Nat.reduceLT, reduceCtorEq, Value.cells, setN, Value.oneCell', Nat.reduceLeDiff, undef, fcT, f2, f4, f5, f7, f8, htt, h75, rd_rw h75])) | (with_reducible refine fun (hBd_ : Bd _ _) => ?_) | ((first | (with_reducible refine @And.intro (Sub _ _) _ ?_ ?_) | ((with_reducible refine @And.intro (Sub _ _ ∧ _) _ ?_ ?_); (with_reducible refine @And.intro (Sub _ _) _ ?_ ?_))); exact sbX) | ((with_reducible refine And.intro ?_ ?_); omega)))
        refine hK _ _ _ ?_
        refine ⟨k - 1, q, n + 1, _, w', A2, c2, B2, d2, by omega, by omega, by omega, by simp (disch := omega) only [bsW, ↓reduceIte, Nat.reduceEqDiff, ne_eq, reduceCtorEq, fcT, f2, f4, f5, f7, f8, htt, h75, rd_rw h75], by simp (disch := omega) only [bsW, ↓reduceIte, Nat.reduceEqDiff, ne_eq, reduceCtorEq, fcT, f2, f4, f5, f7, f8, htt, h75, rd_rw h75], by simp (disch := omega) only [bsW, ↓reduceIte, Nat.reduceEqDiff, ne_eq, reduceCtorEq, fcT, f2, f4, f5, f7, f8, htt, h75, rd_rw h75], by simp (disch := omega) only [bsW, ↓reduceIte, Nat.reduceEqDiff, ne_eq, reduceCtorEq, fcT, f2, f4, f5, f7, f8, htt, h75, rd_rw h75], by simp (disch := omega) only [bsW, ↓reduceIte, Nat.reduceEqDiff, ne_eq, reduceCtorEq, fcT, f2, f4, f5, f7, f8, htt, h75, rd_rw h75], by simp (disch := omega) only [bsW, ↓reduceIte, Nat.reduceEqDiff, ne_eq, reduceCtorEq, fcT, f2, f4, f5, f7, f8, htt, h75, rd_rw h75], ((hC4.subs ht5).new (by omega) (by omega)).le (by omega), (hs4.trans (.s ht5)).new hB (by omega), by omega, by rw [upd_ne (by omega)]; exact ht5 _ _ hP4, by rw [upd_ne (by omega)]; exact ht5 _ _ h54, (hOx4.subI ht5).keepI (fun c h1 h2 => by rw [upd_ne (by omega)]), OwnR.sub (OwnR.keepI (OwnR.subI hOw4 ht5) (fun c h1 h2 => by rw [upd_ne (by omega)])) (Sub.refl _) (by omega), by rw [upd_ne (by omega)]; exact h75, (((hOd.subI hSd).subI ht5).keepI (fun c h1 h2 => by rw [upd_ne (by omega)])).wide (Nat.le_refl _) (by omega), fun b hb => ?_, hql⟩
        have e := hown5 b hb
        subst e
        refine ⟨by omega, ?_⟩
        rw [del_upd_ne (by omega)]
        exact (((hOd.subI hdd).subI ht5.dl).keepI (fun c h1 h2 => by rw [upd_ne (by omega)])).wide (Nat.le_refl _) (by omega)
      · (try (simp (disch := omega) only [bsW, WOp, WOq, WV, bo, eqN, gdc, gw, bnd, ↓reduceIte, Nat.reduceEqDiff, rsvs, rsv, oneOf, rdN, ne_eq, Nat.reduceAdd, Nat.reduceMul, Nat.reduceLT, reduceCtorEq, Value.cells, setN, Value.oneCell', Nat.reduceLeDiff, undef, fcT, f2, f4, f5, f7, f8, htt, h75, rd_rw h75]))
        (repeat' (first | ((with_reducible refine gif_split (fun hs_ => ?_) (fun hs_ => ?_)) <;> (have hp_ := hs_; (try simp only [hpL, ne_eq] at hp_); (try simp (disch := omega) only [bsW, WOp, WOq, WV, bo, eqN, gdc, gw, bnd, ↓reduceIte, Nat.reduceEqDiff, rsvs, rsv, oneOf, rdN, ne_eq, Nat.reduceAdd, Nat.reduceMul, Nat.reduceLT, reduceCtorEq, Value.cells, setN, Value.oneCell', Nat.reduceLeDiff, undef, fcT, f2, f4, f5, f7, f8, htt, h75, rd_rw h75, hs_]))) | ((first | (with_reducible refine newB_i (fun nb_ hb_ => ?_)) | (with_reducible refine RgE_i (fun (hBd_ : Bd _ _) => ?_))); (try simp (disch := omega) only [bsW, WOp, WOq, WV, bo, eqN, gdc, gw, bnd, ↓reduceIte, Nat.reduceEqDiff, rsvs, rsv, oneOf, rdN, ne_eq, Nat.reduceAdd, Nat.reduceMul, Nat.reduceLT, reduceCtorEq, Value.cells, setN, Value.oneCell', Nat.reduceLeDiff, undef, fcT, f2, f4, f5, f7, f8, htt, h75, rd_rw h75])) | (with_reducible refine fun (hBd_ : Bd _ _) => ?_) | ((first | (with_reducible refine @And.intro (Sub _ _) _ ?_ ?_) | ((with_reducible refine @And.intro (Sub _ _ ∧ _) _ ?_ ?_); (with_reducible refine @And.intro (Sub _ _) _ ?_ ?_))); exact sbX) | ((with_reducible refine And.intro ?_ ?_); omega)))
        refine hK _ _ _ ?_
        refine ⟨k - 1, sdD ⟨q.tot, q.la, q.hand, q.rj, q.sl⟩ kd pc, n + 1, snoc n f (fun j => if j = 0 then kd else pc), w', A5, c5, B5, d5, by omega, by omega, by omega, by simp (disch := omega) only [bsW, ↓reduceIte, Nat.reduceEqDiff, ne_eq, reduceCtorEq, fcT, f2, f4, f5, f7, f8, htt, h75, rd_rw h75], by simp (disch := omega) only [bsW, ↓reduceIte, Nat.reduceEqDiff, ne_eq, reduceCtorEq, fcT, f2, f4, f5, f7, f8, htt, h75, rd_rw h75], by simp (disch := omega) only [bsW, ↓reduceIte, Nat.reduceEqDiff, ne_eq, reduceCtorEq, fcT, f2, f4, f5, f7, f8, htt, h75, rd_rw h75], by simp (disch := omega) only [bsW, ↓reduceIte, Nat.reduceEqDiff, ne_eq, reduceCtorEq, fcT, f2, f4, f5, f7, f8, htt, h75, rd_rw h75], by simp (disch := omega) only [bsW, ↓reduceIte, Nat.reduceEqDiff, ne_eq, reduceCtorEq, fcT, f2, f4, f5, f7, f8, htt, h75, rd_rw h75], by simp (disch := omega) only [bsW, ↓reduceIte, Nat.reduceEqDiff, ne_eq, reduceCtorEq, fcT, f2, f4, f5, f7, f8, htt, h75, rd_rw h75], (((hC4.subs ht5).new (by omega) (by omega)).new (by omega) (by omega)).le (by omega), ((hs4.trans (.s ht5)).new hB (by omega)).new hB (by omega), by omega, by rw [upd_ne (by omega), upd_ne (by omega)]; exact ht5 _ _ hP4, by rw [upd_ne (by omega), upd_ne (by omega)]; exact ht5 _ _ h54, (hOx4.subI ht5).keepI (fun c h1 h2 => by rw [upd_ne (by omega), upd_ne (by omega)]), ?_, upd_same _ _ _, (hO5.keepI (fun c h1 h2 => by rw [upd_ne (by omega), upd_ne (by omega)])).wide (by omega) (by omega), fun b hb => ?_, by have := @sdD_len ⟨q.tot, q.la, q.hand, q.rj, q.sl⟩ kd pc; omega⟩
        · refine OwnR.sub (OwnR.keep (OwnR.subI hOw4 ht5) (fun c hc => ?_) (Nat.le_refl _)) (Sub.refl _) (by omega)
          have := hown5 c hc
          rw [upd_ne (by omega), upd_ne (by omega)]
        · have e := hown5 b hb
          subst e
          exact ⟨by omega, (hO5.keepI (fun c h1 h2 => by unfold del; rw [if_neg (by omega), upd_ne (by omega), upd_ne (by omega)])).wide (by omega) (by omega)⟩
    · have hk : k = 0 := by
        have : ¬ 0 < k := by simpa using b1
        omega
      subst hk
      obtain ⟨S, e, rfl, he, hRw⟩ := OwnR.rd hOw
      simp (disch := omega) only [bsW, WOp, WOq, WV, bo, eqN, gdc, gw, bnd, ↓reduceIte, Nat.reduceEqDiff, rsvs, rsv, oneOf, rdN, ne_eq, Nat.reduceAdd, Nat.reduceMul, Nat.reduceLT, reduceCtorEq, Value.cells, setN, Value.oneCell', Nat.reduceLeDiff, undef, fcT, f2, f4, f5, f6, b1]
      refine (one1 _ _ bC _ 24 _ _ hC (by omega) (by omega)).monoC ?_
      rintro v3 H3 nx3 hB3 hx3 ⟨⟨t, rfl⟩, hC3, hoth3, rfl⟩
      have hs3 := hs.trans (.k hoth3)
      have h53 : H3 b5 = some (.rw [.int .i64 p.tot, .slice A1 p.la.length c1, .int .i64 p.hand, .slice B1 p.rj.length d1, .bool p.sl] 24) := by rw [hoth3 _ (by omega)]; exact i5
      have hP3 : H3 zP = some (.rw [.int .i64 0, .slice none 0 0, .int .i64 0, .slice none 0 0, .bool false] 24) := by rw [hoth3 _ (by omega)]; exact iP
      have hOx3 := hOx.stay (.k hoth3) (by omega)
      have hOw3 := OwnR.stay6 hOw (.k hoth3) (by omega)
      cases t
      · (try (simp (disch := omega) only [bsW, WOp, WOq, WV, bo, eqN, gdc, gw, bnd, ↓reduceIte, Nat.reduceEqDiff, rsvs, rsv, oneOf, rdN, ne_eq, Nat.reduceAdd, Nat.reduceMul, Nat.reduceLT, reduceCtorEq, Value.cells, setN, Value.oneCell', Nat.reduceLeDiff, undef, fcT, f2, f4, f5, f6, rd_rw h53, h53, hP3]))
        (repeat' (first | ((with_reducible refine gif_split (fun hs_ => ?_) (fun hs_ => ?_)) <;> (have hp_ := hs_; (try simp only [hpL, ne_eq] at hp_); (try simp (disch := omega) only [bsW, WOp, WOq, WV, bo, eqN, gdc, gw, bnd, ↓reduceIte, Nat.reduceEqDiff, rsvs, rsv, oneOf, rdN, ne_eq, Nat.reduceAdd, Nat.reduceMul, Nat.reduceLT, reduceCtorEq, Value.cells, setN, Value.oneCell', Nat.reduceLeDiff, undef, fcT, f2, f4, f5, f6, rd_rw h53, h53, hP3, hs_]))) | ((first | (with_reducible refine newB_i (fun nb_ hb_ => ?_)) | (with_reducible refine RgE_i (fun (hBd_ : Bd _ _) => ?_))); (try simp (disch := omega) only [bsW, WOp, WOq, WV, bo, eqN, gdc, gw, bnd, ↓reduceIte, Nat.reduceEqDiff, rsvs, rsv, oneOf, rdN, ne_eq, Nat.reduceAdd, Nat.reduceMul, Nat.reduceLT, reduceCtorEq, Value.cells, setN, Value.oneCell', Nat.reduceLeDiff, undef, fcT, f2, f4, f5, f6, rd_rw h53, h53, hP3])) | (with_reducible refine fun (hBd_ : Bd _ _) => ?_) | ((first | (with_reducible refine @And.intro (Sub _ _) _ ?_ ?_) | ((with_reducible refine @And.intro (Sub _ _ ∧ _) _ ?_ ?_); (with_reducible refine @And.intro (Sub _ _) _ ?_ ?_))); exact sbX) | ((with_reducible refine And.intro ?_ ?_); omega)))
        exact fin _ _ _ _ _ _ hs3 (by omega) hOx3 (by omega) hOw3 (by omega)
      · (try (simp (disch := omega) only [bsW, WOp, WOq, WV, bo, eqN, gdc, gw, bnd, ↓reduceIte, Nat.reduceEqDiff, rsvs, rsv, oneOf, rdN, ne_eq, Nat.reduceAdd, Nat.reduceMul, Nat.reduceLT, reduceCtorEq, Value.cells, setN, Value.oneCell', Nat.reduceLeDiff, undef, fcT, f2, f4, f5, f6]))
        refine LpB_rule (fun m2 fr2 H6 nx6 => ∃ (n : Nat) (f : Nat → Nat → Int) (S : Option Addr) (e : Nat), m2 = 42 - n ∧ n ≤ 41 ∧ fr2 2 = .pointer (some ⟨zP, 0, none⟩) ∧ fr2 4 = .pointer (some ⟨bC, 0, none⟩) ∧ fr2 5 = .pointer (some ⟨b5, 0, none⟩) ∧ fr2 6 = .slice S n e ∧
            Cur (upd H zP (.rw [.int .i64 0, .slice none 0 0, .int .i64 0, .slice none 0 0, .bool false] 24)) (zP + 1) H6 bC (500 + 2 * n) ∧ StayB bC H H6 ∧ b7 < nx6 ∧ H6 zP = some (.rw [.int .i64 0, .slice none 0 0, .int .i64 0, .slice none 0 0, .bool false] 24) ∧ H6 b5 = some (.rw [.int .i64 p.tot, .slice A1 p.la.length c1, .int .i64 p.hand, .slice B1 p.rj.length d1, .bool p.sl] 24) ∧ OwnP H6 (bC + 1) nx1 p.tot p.la p.hand p.rj p.sl (.agg #[.int .i64 p.tot, .slice A1 p.la.length c1, .int .i64 p.hand, .slice B1 p.rj.length d1, .bool p.sl]) ∧ OwnR H6 bL nx6 n 2 f 46 (.slice S n e)) ?_ ?_ (42 - n) ?_
        · rintro m2 K2 hK2 fr2 H6 nx6 hB6 ⟨n6, f6', S6, e6, hm6, hn6, g2, g4, g5, g6, hC6, hs6, hx6, iP6, i56, hOx6, hOw6⟩
          simp (disch := omega) only [bsW, WOp, WOq, WV, bo, eqN, gdc, gw, bnd, ↓reduceIte, Nat.reduceEqDiff, rsvs, rsv, oneOf, rdN, ne_eq, Nat.reduceAdd, Nat.reduceMul, Nat.reduceLT, reduceCtorEq, Value.cells, setN, Value.oneCell', Nat.reduceLeDiff, undef, fcT, g2, g4, g5, g6]
          refine (pick1 _ _ bC _ 2 _ _ hC6 (by omega) (by omega)).monoC ?_
          rintro v7 H7 nx7 hB7 hx7 ⟨⟨r, rfl, hr1, hr2⟩, hC7, hoth7, rfl⟩
          rw [if_neg (by omega)] at hr2
          have hs7 := hs6.trans (.k hoth7)
          have h57 : H7 b5 = some (.rw [.int .i64 p.tot, .slice A1 p.la.length c1, .int .i64 p.hand, .slice B1 p.rj.length d1, .bool p.sl] 24) := by rw [hoth7 _ (by omega)]; exact i56
          have hP7 : H7 zP = some (.rw [.int .i64 0, .slice none 0 0, .int .i64 0, .slice none 0 0, .bool false] 24) := by rw [hoth7 _ (by omega)]; exact iP6
          have hOx7 := hOx6.stay (.k hoth7) (by omega)
          have hOw7 := OwnR.stay6 hOw6 (.k hoth7) (by omega)
          (try (simp (disch := omega) only [bsW, WOp, WOq, WV, bo, eqN, gdc, gw, bnd, ↓reduceIte, Nat.reduceEqDiff, rsvs, rsv, oneOf, rdN, ne_eq, Nat.reduceAdd, Nat.reduceMul, Nat.reduceLT, reduceCtorEq, Value.cells, setN, Value.oneCell', Nat.reduceLeDiff, undef, fcT, g2, g4, g5, g6, rd_rw h57, h57, hP7]))
          (repeat' (first | ((with_reducible refine gif_split (fun hs_ => ?_) (fun hs_ => ?_)) <;> (have hp_ := hs_; (try simp only [hpL, ne_eq] at hp_); (try simp (disch := omega) only [bsW, WOp, WOq, WV, bo, eqN, gdc, gw, bnd, ↓reduceIte, Nat.reduceEqDiff, rsvs, rsv, oneOf, rdN, ne_eq, Nat.reduceAdd, Nat.reduceMul, Nat.reduceLT, reduceCtorEq, Value.cells, setN, Value.oneCell', Nat.reduceLeDiff, undef, fcT, g2, g4, g5, g6, rd_rw h57, h57, hP7, hs_]))) | ((first | (with_reducible refine newB_i (fun nb_ hb_ => ?_)) | (with_reducible refine RgE_i (fun (hBd_ : Bd _ _) => ?_))); (try simp (disch := omega) only [bsW, WOp, WOq, WV, bo, eqN, gdc, gw, bnd, ↓reduceIte, Nat.reduceEqDiff, rsvs, rsv, oneOf, rdN, ne_eq, Nat.reduceAdd, Nat.reduceMul, Nat.reduceLT, reduceCtorEq, Value.cells, setN, Value.oneCell', Nat.reduceLeDiff, undef, fcT, g2, g4, g5, g6, rd_rw h57, h57, hP7])) | (with_reducible refine fun (hBd_ : Bd _ _) => ?_) | ((first | (with_reducible refine @And.intro (Sub _ _) _ ?_ ?_) | ((with_reducible refine @And.intro (Sub _ _ ∧ _) _ ?_ ?_); (with_reducible refine @And.intro (Sub _ _) _ ?_ ?_))); exact sbX) | ((with_reducible refine And.intro ?_ ?_); omega)))
          · refine app_one (k := 2) (bytes := 16) (e := fun j => if j = 0 then 2 else 0) (by simp (disch := omega) only [bsW, WOp, WOq, WV, bo, eqN, gdc, gw, bnd, ↓reduceIte, Nat.reduceEqDiff, rsvs, rsv, oneOf, rdN, ne_eq, Nat.reduceAdd, Nat.reduceMul, Nat.reduceLT, reduceCtorEq, Value.cells, setN, Value.oneCell', Nat.reduceLeDiff, undef, fcT, g2, g4, g5, g6, rd_rw h57, h57, hP7]) (by simp (disch := omega) only [bsW, WOp, WOq, WV, bo, eqN, gdc, gw, bnd, ↓reduceIte, Nat.reduceEqDiff, rsvs, rsv, oneOf, rdN, ne_eq, Nat.reduceAdd, Nat.reduceMul, Nat.reduceLT, reduceCtorEq, Value.cells, setN, Value.oneCell', Nat.reduceLeDiff, undef, fcT, g2, g4, g5, g6, rd_rw h57, h57, hP7]) (by simp (disch := omega) only [bsW, WOp, WOq, WV, bo, eqN, gdc, gw, bnd, ↓reduceIte, Nat.reduceEqDiff, rsvs, rsv, oneOf, rdN, ne_eq, Nat.reduceAdd, Nat.reduceMul, Nat.reduceLT, reduceCtorEq, Value.cells, setN, Value.oneCell', Nat.reduceLeDiff, undef, fcT, g2, g4, g5, g6, rd_rw h57, h57, hP7]) ⟨_, qz46, rfl⟩ (by omega) (hOw7.new (by omega)) (upd_same _ _ _) (by simp [List.range_succ]) (by omega) (by omega) (by unfold maxLen; omega) ?_
            rintro w' b' o nx8 hb' hn8 hown' hOw8
            have hbL8 := OwnR.blk hOw8 hown'
            obtain ⟨S8, e8, rfl, _, _⟩ := OwnR.rd hOw8
            (try (simp (disch := omega) only [bsW, WOp, WOq, WV, bo, eqN, gdc, gw, bnd, ↓reduceIte, Nat.reduceEqDiff, rsvs, rsv, oneOf, rdN, ne_eq, Nat.reduceAdd, Nat.reduceMul, Nat.reduceLT, reduceCtorEq, Value.cells, setN, Value.oneCell', Nat.reduceLeDiff, undef, fcT, g2, g4, g5, g6]))
            (repeat' (first | ((with_reducible refine gif_split (fun hs_ => ?_) (fun hs_ => ?_)) <;> (have hp_ := hs_; (try simp only [hpL, ne_eq] at hp_); (try simp (disch := omega) only [bsW, WOp, WOq, WV, bo, eqN, gdc, gw, bnd, ↓reduceIte, Nat.reduceEqDiff, rsvs, rsv, oneOf, rdN, ne_eq, Nat.reduceAdd, Nat.reduceMul, Nat.reduceLT, reduceCtorEq, Value.cells, setN, Value.oneCell', Nat.reduceLeDiff, undef, fcT, g2, g4, g5, g6, hs_]))) | ((first | (with_reducible refine newB_i (fun nb_ hb_ => ?_)) | (with_reducible refine RgE_i (fun (hBd_ : Bd _ _) => ?_))); (try simp (disch := omega) only [bsW, WOp, WOq, WV, bo, eqN, gdc, gw, bnd, ↓reduceIte, Nat.reduceEqDiff, rsvs, rsv, oneOf, rdN, ne_eq, Nat.reduceAdd, Nat.reduceMul, Nat.reduceLT, reduceCtorEq, Value.cells, setN, Value.oneCell', Nat.reduceLeDiff, undef, fcT, g2, g4, g5, g6])) | (with_reducible refine fun (hBd_ : Bd _ _) => ?_) | ((first | (with_reducible refine @And.intro (Sub _ _) _ ?_ ?_) | ((with_reducible refine @And.intro (Sub _ _ ∧ _) _ ?_ ?_); (with_reducible refine @And.intro (Sub _ _) _ ?_ ?_))); exact sbX) | ((with_reducible refine And.intro ?_ ?_); omega)))
            refine hK2 _ _ _ ?_
            exact ⟨n6 + 1, _, S8, e8, by omega, by omega, by simp (disch := omega) only [bsW, ↓reduceIte, Nat.reduceEqDiff, ne_eq, reduceCtorEq, fcT, g2, g4, g5, g6], by simp (disch := omega) only [bsW, ↓reduceIte, Nat.reduceEqDiff, ne_eq, reduceCtorEq, fcT, g2, g4, g5, g6], by simp (disch := omega) only [bsW, ↓reduceIte, Nat.reduceEqDiff, ne_eq, reduceCtorEq, fcT, g2, g4, g5, g6], by simp (disch := omega) only [bsW, ↓reduceIte, Nat.reduceEqDiff, ne_eq, reduceCtorEq, fcT, g2, g4, g5, g6], ((hC7.new (by omega) (by omega)).new (by omega) (by omega)).le (by omega), (hs7.new hB (by omega)).new hB (by omega), by omega, by rw [upd_ne (by omega), upd_ne (by omega)]; exact hP7, by rw [upd_ne (by omega), upd_ne (by omega)]; exact h57, hOx7.keepI (fun c h1 h2 => by rw [upd_ne (by omega), upd_ne (by omega)]), hOw8⟩
          · exact fin _ _ _ _ _ _ hs7 (by omega) hOx7 (by omega) hOw7 (by omega)
        · rintro fr2 H6 nx6 ⟨n6, f6', S6, e6, hm6, hn6, _⟩; omega
        · exact ⟨n, f, S, e, rfl, by omega, by simp (disch := omega) only [bsW, ↓reduceIte, Nat.reduceEqDiff, ne_eq, reduceCtorEq, fcT, f2, f4, f5, f6], by simp (disch := omega) only [bsW, ↓reduceIte, Nat.reduceEqDiff, ne_eq, reduceCtorEq, fcT, f2, f4, f5, f6], by simp (disch := omega) only [bsW, ↓reduceIte, Nat.reduceEqDiff, ne_eq, reduceCtorEq, fcT, f2, f4, f5, f6], by simp (disch := omega) only [bsW, ↓reduceIte, Nat.reduceEqDiff, ne_eq, reduceCtorEq, fcT, f2, f4, f5, f6], hC3.le (by omega), hs3, by omega, hP3, h53, hOx3, hOw3⟩
  · rintro fr H' nx' ⟨k, q, n, f, w, A2, c2, B2, d2, hm, _⟩; omega
  · refine ⟨k0, p, 0, fun _ _ => 0, .slice (some ⟨bL, 0, none⟩) 0 0, A1, c1, B1, d1, by omega, by omega, by omega, by simp (disch := omega) only [bsW, ↓reduceIte, Nat.reduceEqDiff, ne_eq, reduceCtorEq, fcT], by simp (disch := omega) only [bsW, ↓reduceIte, Nat.reduceEqDiff, ne_eq, reduceCtorEq, fcT], by simp (disch := omega) only [bsW, ↓reduceIte, Nat.reduceEqDiff, ne_eq, reduceCtorEq, fcT], by simp (disch := omega) only [bsW, ↓reduceIte, Nat.reduceEqDiff, ne_eq, reduceCtorEq, fcT], by simp (disch := omega) only [bsW, ↓reduceIte, Nat.reduceEqDiff, ne_eq, reduceCtorEq, fcT], by simp (disch := omega) only [bsW, ↓reduceIte, Nat.reduceEqDiff, ne_eq, reduceCtorEq, fcT], hC2.le (by omega), hs2, by omega, jP, j5, hO2, OwnR.full (n := 0) (by omega) (by omega) (by simp [flat]; exact jL) (by omega), j7, hO2.wide (Nat.le_refl _) (by omega), fun b hb => ?_, hl⟩
    have hb' : b = bL := by simpa [ownBlk] using hb
    subst hb'
    exact ⟨by omega, (hO2.keepI (fun c h1 h2 => by unfold del; rw [if_neg (by omega)])).wide (Nat.le_refl _) (by omega)⟩
end Go.Proofs.Ytbhabpenlaklcaa
