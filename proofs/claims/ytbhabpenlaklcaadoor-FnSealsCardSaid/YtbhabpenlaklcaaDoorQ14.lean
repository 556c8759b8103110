/- Puzzles: a step, the reference. -/
import Derived.Test.YtbhabpenlaklcaaDoorQ13
set_option linter.unusedVariables false
set_option linter.unusedSimpArgs false
set_option maxRecDepth 100000
set_option maxHeartbeats 4000000
namespace Go.Proofs.YtbhabpenlaklcaaDoor
open Go Go.RowKit Go.Proofs

def MkK (H : Hp) (nx : Nat) (p : PzD) (kd pc : Int) (v : Value) (H' : Hp) (nx' : Nat) : Prop := ∃ w q, v = .tuple #[w, .bool (stOk p kd pc)] ∧ NewPz H nx q w H' nx' ∧ (stOk p kd pc = true → q = stP p kd pc)
theorem putL_insA {l : List Int} {x : Int} (h : x ∉ l) : putL l x = insA l x := by
  unfold putL insA
  rw [if_neg]
  intro e
  exact h ((List.dropWhile_sublist _).subset (List.mem_of_mem_head? e))
theorem mkK_no {H : Hp} {nx : Nat} {p : PzD} {kd pc : Int} {H' : Hp} {nx' : Nat} {w : Value} (q : PzD) (h : stOk p kd pc = false) (ho : OwnP H' nx nx' q.tot q.la q.hand q.rj q.sl w) (hs : Sub H H') : MkK H nx p kd pc (.tuple #[w, .bool false]) H' nx' :=
  ⟨w, q, by rw [h], ⟨ho, hs⟩, fun e => by rw [h] at e; cases e⟩
theorem mkK_yes {H : Hp} {nx : Nat} {p : PzD} {kd pc : Int} {H' : Hp} {nx' : Nat} {w : Value} (q : PzD) (h : stOk p kd pc = true) (hq : q = stP p kd pc) (ho : OwnP H' nx nx' q.tot q.la q.hand q.rj q.sl w) (hs : Sub H H') : MkK H nx p kd pc (.tuple #[w, .bool true]) H' nx' :=
  ⟨w, q, by rw [h], ⟨ho, hs⟩, fun _ => hq⟩
theorem l21Make1 (tot : Int) (A : Option Addr) (la : List Int) (c : Nat) (hand : Int) (B : Option Addr) (rj : List Int) (d : Nat) (pc : Int) (H : Hp) (nx : Nat) (hv : PzOk tot la hand rj false) (hst : stepB 1 pc = true) (hla : la.length + rj.length ≤ 1048576) (hc : la.length ≤ c) (hA : RdL H A la) (hRB : RdL H B rj) :
    AC Tryd.prog 67 #[.agg #[.int .i64 tot, .slice A la.length c, .int .i64 hand, .slice B rj.length d, .bool false], .agg #[.int .i64 1, .int .i64 pc]] H nx (MkK H nx ⟨tot, la, hand, rj, false⟩ 1 pc) := by
  have e4 : stOk ⟨tot, la, hand, rj, false⟩ 1 pc = (decide (hand = 0) && decide (pc ∈ waitL tot la hand rj)) := rfl
  cases e1 : (hand == 0)
  · have hno : stOk ⟨tot, la, hand, rj, false⟩ 1 pc = false := by
      have : hand ≠ 0 := by simpa using e1
      rw [e4]; simp [this]
    refine AC_of x_spec_l21Make rfl fun hB => ?_
    simp (disch := omega) only [bsW, WOp, WOq, WV, bo, eqN, gdc, gw, bnd, ↓reduceIte, Nat.reduceEqDiff, rsvs, rsv, oneOf, rdN, ne_eq, Nat.reduceAdd, Nat.reduceMul, Nat.reduceLT, reduceCtorEq, Value.cells, setN, Value.oneCell', Nat.reduceLeDiff, undef, fcT, Int.reduceBEq, Int.reduceBNe, Int.reduceLT, Int.reduceNeg, c_spec_l21Make]
    (repeat' (first | ((with_reducible refine gif_split (fun hs_ => ?_) (fun hs_ => ?_)) <;> (have hp_ := hs_; (try simp only [hpL, ne_eq] at hp_); (try simp (disch := omega) only [bsW, WOp, WOq, WV, bo, eqN, gdc, gw, bnd, ↓reduceIte, Nat.reduceEqDiff, rsvs, rsv, oneOf, rdN, ne_eq, Nat.reduceAdd, Nat.reduceMul, Nat.reduceLT, reduceCtorEq, Value.cells, setN, Value.oneCell', Nat.reduceLeDiff, undef, fcT, Int.reduceBEq, Int.reduceBNe, Int.reduceLT, Int.reduceNeg, hs_]))) | ((first | (with_reducible refine newB_i (fun nb_ hb_ => ?_)) | (with_reducible refine RgE_i (fun (hBd_ : Bd _ _) => ?_))); (try simp (disch := omega) only [bsW, WOp, WOq, WV, bo, eqN, gdc, gw, bnd, ↓reduceIte, Nat.reduceEqDiff, rsvs, rsv, oneOf, rdN, ne_eq, Nat.reduceAdd, Nat.reduceMul, Nat.reduceLT, reduceCtorEq, Value.cells, setN, Value.oneCell', Nat.reduceLeDiff, undef, fcT, Int.reduceBEq, Int.reduceBNe, Int.reduceLT, Int.reduceNeg])) | (with_reducible refine fun (hBd_ : Bd _ _) => ?_) | ((first | (with_reducible refine @And.intro (Sub _ _) _ ?_ ?_) | ((with_reducible refine @And.intro (Sub _ _ ∧ _) _ ?_ ?_); (with_reducible refine @And.intro (Sub _ _) _ ?_ ?_))); exact sbX) | ((with_reducible refine And.intro ?_ ?_); omega)))
    all_goals try (exfalso; omega)
    rename_i bP hbP bS hbS
    have hbR := hb_
    generalize nb_ = bR at *
    have hs0 : Sub H (upd (upd (upd H bP (.rw [.int .i64 tot, .slice A la.length c, .int .i64 hand, .slice B rj.length d, .bool false] 28)) bS (.rw [.int .i64 1, .int .i64 pc] 41)) bR (.rw [.int .i64 0, .slice none 0 0, .int .i64 0, .slice none 0 0, .bool false] 28)) := by (repeat (first | assumption | exact Sub.refl _ | (refine sub_up (nx := nx) ?_ hB ?_; omega)))
    have fR : (upd (upd (upd H bP (.rw [.int .i64 tot, .slice A la.length c, .int .i64 hand, .slice B rj.length d, .bool false] 28)) bS (.rw [.int .i64 1, .int .i64 pc] 41)) bR (.rw [.int .i64 0, .slice none 0 0, .int .i64 0, .slice none 0 0, .bool false] 28)) bR = some (.rw [.int .i64 0, .slice none 0 0, .int .i64 0, .slice none 0 0, .bool false] 28) := upd_same _ _ _
    have fS : (upd (upd (upd H bP (.rw [.int .i64 tot, .slice A la.length c, .int .i64 hand, .slice B rj.length d, .bool false] 28)) bS (.rw [.int .i64 1, .int .i64 pc] 41)) bR (.rw [.int .i64 0, .slice none 0 0, .int .i64 0, .slice none 0 0, .bool false] 28)) bS = some (.rw [.int .i64 1, .int .i64 pc] 41) := (upd_ne (by omega)).trans (upd_same _ _ _)
    have fP : (upd (upd (upd H bP (.rw [.int .i64 tot, .slice A la.length c, .int .i64 hand, .slice B rj.length d, .bool false] 28)) bS (.rw [.int .i64 1, .int .i64 pc] 41)) bR (.rw [.int .i64 0, .slice none 0 0, .int .i64 0, .slice none 0 0, .bool false] 28)) bP = some (.rw [.int .i64 tot, .slice A la.length c, .int .i64 hand, .slice B rj.length d, .bool false] 28) := (upd_ne (by omega)).trans ((upd_ne (by omega)).trans (upd_same _ _ _))
    generalize (upd (upd (upd H bP (.rw [.int .i64 tot, .slice A la.length c, .int .i64 hand, .slice B rj.length d, .bool false] 28)) bS (.rw [.int .i64 1, .int .i64 pc] 41)) bR (.rw [.int .i64 0, .slice none 0 0, .int .i64 0, .slice none 0 0, .bool false] 28)) = H0 at *
    refine (l21Own tot A la c hand B rj d false _ _ (by omega) (by omega) (hA.sub hs0) (hRB.sub hs0)).monoC ?_
    rintro v1 H1 nx1 hB1 hx1 ⟨hO1, ht1⟩
    obtain ⟨u1, w1, rfl, hu1, hw1, hdis⟩ := hO1.ex
    obtain ⟨A1, k1, rfl, hk1, hR1⟩ := OwnR.rd hu1
    obtain ⟨A2, k2, rfl, hk2, hR2⟩ := OwnR.rd hw1
    have hs1 := hs0.trans ht1
    replace fR := ht1 bR _ fR
    replace fS := ht1 bS _ fS
    replace fP := ht1 bP _ fP
    have hu1 : OwnL H1 (bR + 1) nx1 la 3 (.slice A1 la.length k1) := hu1
    have hw1 : OwnL H1 (bR + 1) nx1 rj 3 (.slice A2 rj.length k2) := hw1
    have hk1 : la.length ≤ k1 := hk1
    have hk2 : rj.length ≤ k2 := hk2
    have hR2 : RdL H1 A2 rj := hR2
    simp (disch := omega) only [bsW, WOp, WOq, WV, bo, eqN, gdc, gw, bnd, ↓reduceIte, Nat.reduceEqDiff, rsvs, rsv, oneOf, rdN, ne_eq, Nat.reduceAdd, Nat.reduceMul, Nat.reduceLT, reduceCtorEq, Value.cells, setN, Value.oneCell', Nat.reduceLeDiff, undef, fcT, rd_rw fS, rd_rw fP, fR, Int.reduceBEq, Int.reduceBNe, Int.reduceLT, Int.reduceNeg, e1]
    (repeat' (first | ((with_reducible refine gif_split (fun hs_ => ?_) (fun hs_ => ?_)) <;> (have hp_ := hs_; (try simp only [hpL, ne_eq] at hp_); (try simp (disch := omega) only [bsW, WOp, WOq, WV, bo, eqN, gdc, gw, bnd, ↓reduceIte, Nat.reduceEqDiff, rsvs, rsv, oneOf, rdN, ne_eq, Nat.reduceAdd, Nat.reduceMul, Nat.reduceLT, reduceCtorEq, Value.cells, setN, Value.oneCell', Nat.reduceLeDiff, undef, fcT, rd_rw fS, rd_rw fP, fR, Int.reduceBEq, Int.reduceBNe, Int.reduceLT, Int.reduceNeg, e1, hs_]))) | ((first | (with_reducible refine newB_i (fun nb_ hb_ => ?_)) | (with_reducible refine RgE_i (fun (hBd_ : Bd _ _) => ?_))); (try simp (disch := omega) only [bsW, WOp, WOq, WV, bo, eqN, gdc, gw, bnd, ↓reduceIte, Nat.reduceEqDiff, rsvs, rsv, oneOf, rdN, ne_eq, Nat.reduceAdd, Nat.reduceMul, Nat.reduceLT, reduceCtorEq, Value.cells, setN, Value.oneCell', Nat.reduceLeDiff, undef, fcT, rd_rw fS, rd_rw fP, fR, Int.reduceBEq, Int.reduceBNe, Int.reduceLT, Int.reduceNeg, e1])) | (with_reducible refine fun (hBd_ : Bd _ _) => ?_) | ((first | (with_reducible refine @And.intro (Sub _ _) _ ?_ ?_) | ((with_reducible refine @And.intro (Sub _ _ ∧ _) _ ?_ ?_); (with_reducible refine @And.intro (Sub _ _) _ ?_ ?_))); exact sbX) | ((with_reducible refine And.intro ?_ ?_); omega)))
    all_goals try (exfalso; omega)
    all_goals
      refine mkK_no ⟨tot, la, pc, rj, false⟩ hno ?_ ?_
      · exact ⟨_, _, rfl, OwnR.lo (lo' := nx) (OwnR.keep hu1 (fun c hc => by have := OwnR.blk hu1 hc; repeat rw [upd_ne (by omega)]) (by omega)) (by omega), OwnR.lo (lo' := nx) (OwnR.keep hw1 (fun c hc => by have := OwnR.blk hw1 hc; repeat rw [upd_ne (by omega)]) (by omega)) (by omega), hdis⟩
      · (repeat (first | assumption | exact Sub.refl _ | (refine sub_up (nx := nx) ?_ hB ?_; omega)))
  · have h0 : hand = 0 := by simpa using e1
    refine AC_of x_spec_l21Make rfl fun hB => ?_
    simp (disch := omega) only [bsW, WOp, WOq, WV, bo, eqN, gdc, gw, bnd, ↓reduceIte, Nat.reduceEqDiff, rsvs, rsv, oneOf, rdN, ne_eq, Nat.reduceAdd, Nat.reduceMul, Nat.reduceLT, reduceCtorEq, Value.cells, setN, Value.oneCell', Nat.reduceLeDiff, undef, fcT, Int.reduceBEq, Int.reduceBNe, Int.reduceLT, Int.reduceNeg, c_spec_l21Make]
    (repeat' (first | ((with_reducible refine gif_split (fun hs_ => ?_) (fun hs_ => ?_)) <;> (have hp_ := hs_; (try simp only [hpL, ne_eq] at hp_); (try simp (disch := omega) only [bsW, WOp, WOq, WV, bo, eqN, gdc, gw, bnd, ↓reduceIte, Nat.reduceEqDiff, rsvs, rsv, oneOf, rdN, ne_eq, Nat.reduceAdd, Nat.reduceMul, Nat.reduceLT, reduceCtorEq, Value.cells, setN, Value.oneCell', Nat.reduceLeDiff, undef, fcT, Int.reduceBEq, Int.reduceBNe, Int.reduceLT, Int.reduceNeg, hs_]))) | ((first | (with_reducible refine newB_i (fun nb_ hb_ => ?_)) | (with_reducible refine RgE_i (fun (hBd_ : Bd _ _) => ?_))); (try simp (disch := omega) only [bsW, WOp, WOq, WV, bo, eqN, gdc, gw, bnd, ↓reduceIte, Nat.reduceEqDiff, rsvs, rsv, oneOf, rdN, ne_eq, Nat.reduceAdd, Nat.reduceMul, Nat.reduceLT, reduceCtorEq, Value.cells, setN, Value.oneCell', Nat.reduceLeDiff, undef, fcT, Int.reduceBEq, Int.reduceBNe, Int.reduceLT, Int.reduceNeg])) | (with_reducible refine fun (hBd_ : Bd _ _) => ?_) | ((first | (with_reducible refine @And.intro (Sub _ _) _ ?_ ?_) | ((with_reducible refine @And.intro (Sub _ _ ∧ _) _ ?_ ?_); (with_reducible refine @And.intro (Sub _ _) _ ?_ ?_))); exact sbX) | ((with_reducible refine And.intro ?_ ?_); omega)))
    all_goals try (exfalso; omega)
    rename_i bP hbP bS hbS
    have hbR := hb_
    generalize nb_ = bR at *
    have hs0 : Sub H (upd (upd (upd H bP (.rw [.int .i64 tot, .slice A la.length c, .int .i64 hand, .slice B rj.length d, .bool false] 28)) bS (.rw [.int .i64 1, .int .i64 pc] 41)) bR (.rw [.int .i64 0, .slice none 0 0, .int .i64 0, .slice none 0 0, .bool false] 28)) := by (repeat (first | assumption | exact Sub.refl _ | (refine sub_up (nx := nx) ?_ hB ?_; omega)))
    have fR : (upd (upd (upd H bP (.rw [.int .i64 tot, .slice A la.length c, .int .i64 hand, .slice B rj.length d, .bool false] 28)) bS (.rw [.int .i64 1, .int .i64 pc] 41)) bR (.rw [.int .i64 0, .slice none 0 0, .int .i64 0, .slice none 0 0, .bool false] 28)) bR = some (.rw [.int .i64 0, .slice none 0 0, .int .i64 0, .slice none 0 0, .bool false] 28) := upd_same _ _ _
    have fS : (upd (upd (upd H bP (.rw [.int .i64 tot, .slice A la.length c, .int .i64 hand, .slice B rj.length d, .bool false] 28)) bS (.rw [.int .i64 1, .int .i64 pc] 41)) bR (.rw [.int .i64 0, .slice none 0 0, .int .i64 0, .slice none 0 0, .bool false] 28)) bS = some (.rw [.int .i64 1, .int .i64 pc] 41) := (upd_ne (by omega)).trans (upd_same _ _ _)
    have fP : (upd (upd (upd H bP (.rw [.int .i64 tot, .slice A la.length c, .int .i64 hand, .slice B rj.length d, .bool false] 28)) bS (.rw [.int .i64 1, .int .i64 pc] 41)) bR (.rw [.int .i64 0, .slice none 0 0, .int .i64 0, .slice none 0 0, .bool false] 28)) bP = some (.rw [.int .i64 tot, .slice A la.length c, .int .i64 hand, .slice B rj.length d, .bool false] 28) := (upd_ne (by omega)).trans ((upd_ne (by omega)).trans (upd_same _ _ _))
    generalize (upd (upd (upd H bP (.rw [.int .i64 tot, .slice A la.length c, .int .i64 hand, .slice B rj.length d, .bool false] 28)) bS (.rw [.int .i64 1, .int .i64 pc] 41)) bR (.rw [.int .i64 0, .slice none 0 0, .int .i64 0, .slice none 0 0, .bool false] 28)) = H0 at *
    refine (l21Own tot A la c hand B rj d false _ _ (by omega) (by omega) (hA.sub hs0) (hRB.sub hs0)).monoC ?_
    rintro v1 H1 nx1 hB1 hx1 ⟨hO1, ht1⟩
    obtain ⟨u1, w1, rfl, hu1, hw1, hdis⟩ := hO1.ex
    obtain ⟨A1, k1, rfl, hk1, hR1⟩ := OwnR.rd hu1
    obtain ⟨A2, k2, rfl, hk2, hR2⟩ := OwnR.rd hw1
    have hs1 := hs0.trans ht1
    replace fR := ht1 bR _ fR
    replace fS := ht1 bS _ fS
    replace fP := ht1 bP _ fP
    have hu1 : OwnL H1 (bR + 1) nx1 la 3 (.slice A1 la.length k1) := hu1
    have hw1 : OwnL H1 (bR + 1) nx1 rj 3 (.slice A2 rj.length k2) := hw1
    have hk1 : la.length ≤ k1 := hk1
    have hk2 : rj.length ≤ k2 := hk2
    have hR2 : RdL H1 A2 rj := hR2
    simp (disch := omega) only [bsW, WOp, WOq, WV, bo, eqN, gdc, gw, bnd, ↓reduceIte, Nat.reduceEqDiff, rsvs, rsv, oneOf, rdN, ne_eq, Nat.reduceAdd, Nat.reduceMul, Nat.reduceLT, reduceCtorEq, Value.cells, setN, Value.oneCell', Nat.reduceLeDiff, undef, fcT, rd_rw fS, rd_rw fP, fR, Int.reduceBEq, Int.reduceBNe, Int.reduceLT, Int.reduceNeg, e1]
    (repeat' (first | ((with_reducible refine gif_split (fun hs_ => ?_) (fun hs_ => ?_)) <;> (have hp_ := hs_; (try simp only [hpL, ne_eq] at hp_); (try simp (disch := omega) only [bsW, WOp, WOq, WV, bo, eqN, gdc, gw, bnd, ↓reduceIte, Nat.reduceEqDiff, rsvs, rsv, oneOf, rdN, ne_eq, Nat.reduceAdd, Nat.reduceMul, Nat.reduceLT, reduceCtorEq, Value.cells, setN, Value.oneCell', Nat.reduceLeDiff, undef, fcT, rd_rw fS, rd_rw fP, fR, Int.reduceBEq, Int.reduceBNe, Int.reduceLT, Int.reduceNeg, e1, hs_]))) | ((first | (with_reducible refine newB_i (fun nb_ hb_ => ?_)) | (with_reducible refine RgE_i (fun (hBd_ : Bd _ _) => ?_))); (try simp (disch := omega) only [bsW, WOp, WOq, WV, bo, eqN, gdc, gw, bnd, ↓reduceIte, Nat.reduceEqDiff, rsvs, rsv, oneOf, rdN, ne_eq, Nat.reduceAdd, Nat.reduceMul, Nat.reduceLT, reduceCtorEq, Value.cells, setN, Value.oneCell', Nat.reduceLeDiff, undef, fcT, rd_rw fS, rd_rw fP, fR, Int.reduceBEq, Int.reduceBNe, Int.reduceLT, Int.reduceNeg, e1])) | (with_reducible refine fun (hBd_ : Bd _ _) => ?_) | ((first | (with_reducible refine @And.intro (Sub _ _) _ ?_ ?_) | ((with_reducible refine @And.intro (Sub _ _ ∧ _) _ ?_ ?_); (with_reducible refine @And.intro (Sub _ _) _ ?_ ?_))); exact sbX) | ((with_reducible refine And.intro ?_ ?_); omega)))
    all_goals try (exfalso; omega)
    have ht2 : Sub H1 (upd H1 nb_ (.rw [.int .i64 tot, .slice A1 la.length k1, .int .i64 pc, .slice A2 rj.length k2, .bool false] 28)) := sub_up (nx := nx1) (by omega) hB1 (Sub.refl _)
    have hbO := hb_
    have fO : (upd H1 nb_ (.rw [.int .i64 tot, .slice A1 la.length k1, .int .i64 pc, .slice A2 rj.length k2, .bool false] 28)) nb_ = some (.rw [.int .i64 tot, .slice A1 la.length k1, .int .i64 pc, .slice A2 rj.length k2, .bool false] 28) := upd_same _ _ _
    have hB2 : Bd (upd H1 nb_ (.rw [.int .i64 tot, .slice A1 la.length k1, .int .i64 pc, .slice A2 rj.length k2, .bool false] 28)) (nb_ + 1) := Bd.up hB1 (by omega)
    generalize (upd H1 nb_ (.rw [.int .i64 tot, .slice A1 la.length k1, .int .i64 pc, .slice A2 rj.length k2, .bool false] 28)) = H2 at *
    generalize nb_ = bO at *
    replace fS := ht2 _ _ fS
    replace fR := ht2 _ _ fR
    replace fP := ht2 _ _ fP
    replace hu1 := OwnR.subI hu1 ht2
    replace hw1 := OwnR.subI hw1 ht2
    have hs2 := hs1.trans ht2
    refine (l21Waiting tot A la c hand B rj d false _ _ (by omega) (by omega) (by have := hv.t2; omega) (hA.sub hs2) (hRB.sub hs2)).monoC ?_
    rintro v3 H3 nx3 hB3 hx3 ⟨hO3, ht3⟩
    obtain ⟨A3, k3, rfl, _, hR3⟩ := OwnR.rd hO3
    replace hR3 : RdL H3 A3 (waitK la hand rj tot.toNat) := hR3
    have hwl := waitK_len la hand rj tot.toNat
    have ht20 := hv.t2
    replace fS := ht3 _ _ fS
    replace fR := ht3 _ _ fR
    replace fO := ht3 _ _ fO
    replace fP := ht3 _ _ fP
    replace hu1 := OwnR.subI hu1 ht3
    replace hw1 := OwnR.subI hw1 ht3
    have hs3 := hs2.trans ht3
    cases e2 : decide (pc ∈ waitK la hand rj tot.toNat)
    · have hno : stOk ⟨tot, la, hand, rj, false⟩ 1 pc = false := by
        have e3 : decide (pc ∈ waitL tot la hand rj) = false := e2
        rw [e4, e3, Bool.and_false]
      simp (disch := omega) only [bsW, WOp, WOq, WV, bo, eqN, gdc, gw, bnd, ↓reduceIte, Nat.reduceEqDiff, rsvs, rsv, oneOf, rdN, ne_eq, Nat.reduceAdd, Nat.reduceMul, Nat.reduceLT, reduceCtorEq, Value.cells, setN, Value.oneCell', Nat.reduceLeDiff, undef, fcT, rd_rw fS, rd_rw fP, fR, rd_rw fO, e2, Int.reduceBEq]
      (repeat' (first | ((with_reducible refine gif_split (fun hs_ => ?_) (fun hs_ => ?_)) <;> (have hp_ := hs_; (try simp only [hpL, ne_eq] at hp_); (try simp (disch := omega) only [bsW, WOp, WOq, WV, bo, eqN, gdc, gw, bnd, ↓reduceIte, Nat.reduceEqDiff, rsvs, rsv, oneOf, rdN, ne_eq, Nat.reduceAdd, Nat.reduceMul, Nat.reduceLT, reduceCtorEq, Value.cells, setN, Value.oneCell', Nat.reduceLeDiff, undef, fcT, rd_rw fS, rd_rw fP, fR, rd_rw fO, e2, Int.reduceBEq, hs_]))) | ((first | (with_reducible refine newB_i (fun nb_ hb_ => ?_)) | ((with_reducible show QC _ _ _ _ _ _); (first | (refine QC_i (l1Has A3 (waitK la hand rj tot.toNat) _ k3 pc _ _ rfl (by omega) hR3) ?_))) | ((with_reducible show AC _ _ _ _ _ _); (first | (refine PC.ac (l1Has A3 (waitK la hand rj tot.toNat) _ k3 pc _ _ rfl (by omega) hR3) ?_))) | (with_reducible refine RgE_i (fun (hBd_ : Bd _ _) => ?_))); (try simp (disch := omega) only [bsW, WOp, WOq, WV, bo, eqN, gdc, gw, bnd, ↓reduceIte, Nat.reduceEqDiff, rsvs, rsv, oneOf, rdN, ne_eq, Nat.reduceAdd, Nat.reduceMul, Nat.reduceLT, reduceCtorEq, Value.cells, setN, Value.oneCell', Nat.reduceLeDiff, undef, fcT, rd_rw fS, rd_rw fP, fR, rd_rw fO, e2, Int.reduceBEq])) | (with_reducible refine fun (hBd_ : Bd _ _) => ?_) | ((first | (with_reducible refine @And.intro (Sub _ _) _ ?_ ?_) | ((with_reducible refine @And.intro (Sub _ _ ∧ _) _ ?_ ?_); (with_reducible refine @And.intro (Sub _ _) _ ?_ ?_))); exact sbX) | ((with_reducible refine And.intro ?_ ?_); omega)))
      all_goals try (exfalso; omega)
      all_goals
        refine mkK_no ⟨tot, la, pc, rj, false⟩ hno ?_ ?_
        · exact ⟨_, _, rfl, OwnR.lo (lo' := nx) (OwnR.keep hu1 (fun c hc => by have := OwnR.blk hu1 hc; repeat rw [upd_ne (by omega)]) (by omega)) (by omega), OwnR.lo (lo' := nx) (OwnR.keep hw1 (fun c hc => by have := OwnR.blk hw1 hc; repeat rw [upd_ne (by omega)]) (by omega)) (by omega), hdis⟩
        · (repeat (first | assumption | exact Sub.refl _ | (refine sub_up (nx := nx) ?_ hB ?_; omega)))
    · have hyes : stOk ⟨tot, la, hand, rj, false⟩ 1 pc = true := by
        have e3 : decide (pc ∈ waitL tot la hand rj) = true := e2
        rw [e4, e3, h0]; rfl
      simp (disch := omega) only [bsW, WOp, WOq, WV, bo, eqN, gdc, gw, bnd, ↓reduceIte, Nat.reduceEqDiff, rsvs, rsv, oneOf, rdN, ne_eq, Nat.reduceAdd, Nat.reduceMul, Nat.reduceLT, reduceCtorEq, Value.cells, setN, Value.oneCell', Nat.reduceLeDiff, undef, fcT, rd_rw fS, rd_rw fP, fR, rd_rw fO, e2, Int.reduceBEq]
      (repeat' (first | ((with_reducible refine gif_split (fun hs_ => ?_) (fun hs_ => ?_)) <;> (have hp_ := hs_; (try simp only [hpL, ne_eq] at hp_); (try simp (disch := omega) only [bsW, WOp, WOq, WV, bo, eqN, gdc, gw, bnd, ↓reduceIte, Nat.reduceEqDiff, rsvs, rsv, oneOf, rdN, ne_eq, Nat.reduceAdd, Nat.reduceMul, Nat.reduceLT, reduceCtorEq, Value.cells, setN, Value.oneCell', Nat.reduceLeDiff, undef, fcT, rd_rw fS, rd_rw fP, fR, rd_rw fO, e2, Int.reduceBEq, hs_]))) | ((first | (with_reducible refine newB_i (fun nb_ hb_ => ?_)) | ((with_reducible show QC _ _ _ _ _ _); (first | (refine QC_i (l1Has A3 (waitK la hand rj tot.toNat) _ k3 pc _ _ rfl (by omega) hR3) ?_))) | ((with_reducible show AC _ _ _ _ _ _); (first | (refine PC.ac (l1Has A3 (waitK la hand rj tot.toNat) _ k3 pc _ _ rfl (by omega) hR3) ?_))) | (with_reducible refine RgE_i (fun (hBd_ : Bd _ _) => ?_))); (try simp (disch := omega) only [bsW, WOp, WOq, WV, bo, eqN, gdc, gw, bnd, ↓reduceIte, Nat.reduceEqDiff, rsvs, rsv, oneOf, rdN, ne_eq, Nat.reduceAdd, Nat.reduceMul, Nat.reduceLT, reduceCtorEq, Value.cells, setN, Value.oneCell', Nat.reduceLeDiff, undef, fcT, rd_rw fS, rd_rw fP, fR, rd_rw fO, e2, Int.reduceBEq])) | (with_reducible refine fun (hBd_ : Bd _ _) => ?_) | ((first | (with_reducible refine @And.intro (Sub _ _) _ ?_ ?_) | ((with_reducible refine @And.intro (Sub _ _ ∧ _) _ ?_ ?_); (with_reducible refine @And.intro (Sub _ _) _ ?_ ?_))); exact sbX) | ((with_reducible refine And.intro ?_ ?_); omega)))
      all_goals try (exfalso; omega)
      all_goals
        refine mkK_yes ⟨tot, la, pc, rj, false⟩ hyes rfl ?_ ?_
        · exact ⟨_, _, rfl, OwnR.lo (lo' := nx) (OwnR.keep hu1 (fun c hc => by have := OwnR.blk hu1 hc; repeat rw [upd_ne (by omega)]) (by omega)) (by omega), OwnR.lo (lo' := nx) (OwnR.keep hw1 (fun c hc => by have := OwnR.blk hw1 hc; repeat rw [upd_ne (by omega)]) (by omega)) (by omega), hdis⟩
        · (repeat (first | assumption | exact Sub.refl _ | (refine sub_up (nx := nx) ?_ hB ?_; omega)))
theorem l21Make2 (tot : Int) (A : Option Addr) (la : List Int) (c : Nat) (hand : Int) (B : Option Addr) (rj : List Int) (d : Nat) (pc : Int) (H : Hp) (nx : Nat) (hv : PzOk tot la hand rj false) (hst : stepB 2 pc = true) (hla : la.length + rj.length ≤ 1048576) (hc : la.length ≤ c) (hA : RdL H A la) (hRB : RdL H B rj) :
    AC Tryd.prog 67 #[.agg #[.int .i64 tot, .slice A la.length c, .int .i64 hand, .slice B rj.length d, .bool false], .agg #[.int .i64 2, .int .i64 pc]] H nx (MkK H nx ⟨tot, la, hand, rj, false⟩ 2 pc) := by
  refine AC_of x_spec_l21Make rfl fun hB => ?_
  simp (disch := omega) only [bsW, WOp, WOq, WV, bo, eqN, gdc, gw, bnd, ↓reduceIte, Nat.reduceEqDiff, rsvs, rsv, oneOf, rdN, ne_eq, Nat.reduceAdd, Nat.reduceMul, Nat.reduceLT, reduceCtorEq, Value.cells, setN, Value.oneCell', Nat.reduceLeDiff, undef, fcT, Int.reduceBEq, Int.reduceBNe, Int.reduceLT, Int.reduceNeg, c_spec_l21Make]
  (repeat' (first | ((with_reducible refine gif_split (fun hs_ => ?_) (fun hs_ => ?_)) <;> (have hp_ := hs_; (try simp only [hpL, ne_eq] at hp_); (try simp (disch := omega) only [bsW, WOp, WOq, WV, bo, eqN, gdc, gw, bnd, ↓reduceIte, Nat.reduceEqDiff, rsvs, rsv, oneOf, rdN, ne_eq, Nat.reduceAdd, Nat.reduceMul, Nat.reduceLT, reduceCtorEq, Value.cells, setN, Value.oneCell', Nat.reduceLeDiff, undef, fcT, Int.reduceBEq, Int.reduceBNe, Int.reduceLT, Int.reduceNeg, hs_]))) | ((first | (with_reducible refine newB_i (fun nb_ hb_ => ?_)) | (with_reducible refine RgE_i (fun (hBd_ : Bd _ _) => ?_))); (try simp (disch := omega) only [bsW, WOp, WOq, WV, bo, eqN, gdc, gw, bnd, ↓reduceIte, Nat.reduceEqDiff, rsvs, rsv, oneOf, rdN, ne_eq, Nat.reduceAdd, Nat.reduceMul, Nat.reduceLT, reduceCtorEq, Value.cells, setN, Value.oneCell', Nat.reduceLeDiff, undef, fcT, Int.reduceBEq, Int.reduceBNe, Int.reduceLT, Int.reduceNeg])) | (with_reducible refine fun (hBd_ : Bd _ _) => ?_) | ((first | (with_reducible refine @And.intro (Sub _ _) _ ?_ ?_) | ((with_reducible refine @And.intro (Sub _ _ ∧ _) _ ?_ ?_); (with_reducible refine @And.intro (Sub _ _) _ ?_ ?_))); exact sbX) | ((with_reducible refine And.intro ?_ ?_); omega)))
  all_goals try (exfalso; omega)
  rename_i bP hbP bS hbS
  have hbR := hb_
  generalize nb_ = bR at *
  have hs0 : Sub H (upd (upd (upd H bP (.rw [.int .i64 tot, .slice A la.length c, .int .i64 hand, .slice B rj.length d, .bool false] 28)) bS (.rw [.int .i64 2, .int .i64 pc] 41)) bR (.rw [.int .i64 0, .slice none 0 0, .int .i64 0, .slice none 0 0, .bool false] 28)) := by (repeat (first | assumption | exact Sub.refl _ | (refine sub_up (nx := nx) ?_ hB ?_; omega)))
  have fR : (upd (upd (upd H bP (.rw [.int .i64 tot, .slice A la.length c, .int .i64 hand, .slice B rj.length d, .bool false] 28)) bS (.rw [.int .i64 2, .int .i64 pc] 41)) bR (.rw [.int .i64 0, .slice none 0 0, .int .i64 0, .slice none 0 0, .bool false] 28)) bR = some (.rw [.int .i64 0, .slice none 0 0, .int .i64 0, .slice none 0 0, .bool false] 28) := upd_same _ _ _
  have fS : (upd (upd (upd H bP (.rw [.int .i64 tot, .slice A la.length c, .int .i64 hand, .slice B rj.length d, .bool false] 28)) bS (.rw [.int .i64 2, .int .i64 pc] 41)) bR (.rw [.int .i64 0, .slice none 0 0, .int .i64 0, .slice none 0 0, .bool false] 28)) bS = some (.rw [.int .i64 2, .int .i64 pc] 41) := (upd_ne (by omega)).trans (upd_same _ _ _)
  have fP : (upd (upd (upd H bP (.rw [.int .i64 tot, .slice A la.length c, .int .i64 hand, .slice B rj.length d, .bool false] 28)) bS (.rw [.int .i64 2, .int .i64 pc] 41)) bR (.rw [.int .i64 0, .slice none 0 0, .int .i64 0, .slice none 0 0, .bool false] 28)) bP = some (.rw [.int .i64 tot, .slice A la.length c, .int .i64 hand, .slice B rj.length d, .bool false] 28) := (upd_ne (by omega)).trans ((upd_ne (by omega)).trans (upd_same _ _ _))
  generalize (upd (upd (upd H bP (.rw [.int .i64 tot, .slice A la.length c, .int .i64 hand, .slice B rj.length d, .bool false] 28)) bS (.rw [.int .i64 2, .int .i64 pc] 41)) bR (.rw [.int .i64 0, .slice none 0 0, .int .i64 0, .slice none 0 0, .bool false] 28)) = H0 at *
  refine (l21Own tot A la c hand B rj d false _ _ (by omega) (by omega) (hA.sub hs0) (hRB.sub hs0)).monoC ?_
  rintro v1 H1 nx1 hB1 hx1 ⟨hO1, ht1⟩
  obtain ⟨u1, w1, rfl, hu1, hw1, hdis⟩ := hO1.ex
  obtain ⟨A1, k1, rfl, hk1, hR1⟩ := OwnR.rd hu1
  obtain ⟨A2, k2, rfl, hk2, hR2⟩ := OwnR.rd hw1
  have hs1 := hs0.trans ht1
  replace fR := ht1 bR _ fR
  replace fS := ht1 bS _ fS
  replace fP := ht1 bP _ fP
  have hu1 : OwnL H1 (bR + 1) nx1 la 3 (.slice A1 la.length k1) := hu1
  have hw1 : OwnL H1 (bR + 1) nx1 rj 3 (.slice A2 rj.length k2) := hw1
  have hk1 : la.length ≤ k1 := hk1
  have hk2 : rj.length ≤ k2 := hk2
  have hR2 : RdL H1 A2 rj := hR2
  simp (disch := omega) only [bsW, WOp, WOq, WV, bo, eqN, gdc, gw, bnd, ↓reduceIte, Nat.reduceEqDiff, rsvs, rsv, oneOf, rdN, ne_eq, Nat.reduceAdd, Nat.reduceMul, Nat.reduceLT, reduceCtorEq, Value.cells, setN, Value.oneCell', Nat.reduceLeDiff, undef, fcT, rd_rw fS, rd_rw fP, fR, Int.reduceBEq, Int.reduceBNe, Int.reduceLT, Int.reduceNeg]
  (repeat' (first | ((with_reducible refine gif_split (fun hs_ => ?_) (fun hs_ => ?_)) <;> (have hp_ := hs_; (try simp only [hpL, ne_eq] at hp_); (try simp (disch := omega) only [bsW, WOp, WOq, WV, bo, eqN, gdc, gw, bnd, ↓reduceIte, Nat.reduceEqDiff, rsvs, rsv, oneOf, rdN, ne_eq, Nat.reduceAdd, Nat.reduceMul, Nat.reduceLT, reduceCtorEq, Value.cells, setN, Value.oneCell', Nat.reduceLeDiff, undef, fcT, rd_rw fS, rd_rw fP, fR, Int.reduceBEq, Int.reduceBNe, Int.reduceLT, Int.reduceNeg, hs_]))) | ((first | (with_reducible refine newB_i (fun nb_ hb_ => ?_)) | (with_reducible refine RgE_i (fun (hBd_ : Bd _ _) => ?_))); (try simp (disch := omega) only [bsW, WOp, WOq, WV, bo, eqN, gdc, gw, bnd, ↓reduceIte, Nat.reduceEqDiff, rsvs, rsv, oneOf, rdN, ne_eq, Nat.reduceAdd, Nat.reduceMul, Nat.reduceLT, reduceCtorEq, Value.cells, setN, Value.oneCell', Nat.reduceLeDiff, undef, fcT, rd_rw fS, rd_rw fP, fR, Int.reduceBEq, Int.reduceBNe, Int.reduceLT, Int.reduceNeg])) | (with_reducible refine fun (hBd_ : Bd _ _) => ?_) | ((first | (with_reducible refine @And.intro (Sub _ _) _ ?_ ?_) | ((with_reducible refine @And.intro (Sub _ _ ∧ _) _ ?_ ?_); (with_reducible refine @And.intro (Sub _ _) _ ?_ ?_))); exact sbX) | ((with_reducible refine And.intro ?_ ?_); omega)))
  all_goals try (exfalso; omega)
  rename_i bO hbO
  refine app_oneL (lo := bR + 1) (x := hand) (by simp (disch := omega) only [bsW, WOp, WOq, WV, bo, eqN, gdc, gw, bnd, ↓reduceIte, Nat.reduceEqDiff, rsvs, rsv, oneOf, rdN, ne_eq, Nat.reduceAdd, Nat.reduceMul, Nat.reduceLT, reduceCtorEq, Value.cells, setN, Value.oneCell', Nat.reduceLeDiff, undef, fcT, rd_rw fS, rd_rw fP, fR, Int.reduceBEq, Int.reduceBNe, Int.reduceLT, Int.reduceNeg]) (by simp (disch := omega) only [bsW, WOp, WOq, WV, bo, eqN, gdc, gw, bnd, ↓reduceIte, Nat.reduceEqDiff, rsvs, rsv, oneOf, rdN, ne_eq, Nat.reduceAdd, Nat.reduceMul, Nat.reduceLT, reduceCtorEq, Value.cells, setN, Value.oneCell', Nat.reduceLeDiff, undef, fcT, rd_rw fS, rd_rw fP, fR, Int.reduceBEq, Int.reduceBNe, Int.reduceLT, Int.reduceNeg]) (by simp (disch := omega) only [bsW, WOp, WOq, WV, bo, eqN, gdc, gw, bnd, ↓reduceIte, Nat.reduceEqDiff, rsvs, rsv, oneOf, rdN, ne_eq, Nat.reduceAdd, Nat.reduceMul, Nat.reduceLT, reduceCtorEq, Value.cells, setN, Value.oneCell', Nat.reduceLeDiff, undef, fcT, rd_rw fS, rd_rw fP, fR, Int.reduceBEq, Int.reduceBNe, Int.reduceLT, Int.reduceNeg]) (by simp (disch := omega) only [bsW, WOp, WOq, WV, bo, eqN, gdc, gw, bnd, ↓reduceIte, Nat.reduceEqDiff, rsvs, rsv, oneOf, rdN, ne_eq, Nat.reduceAdd, Nat.reduceMul, Nat.reduceLT, reduceCtorEq, Value.cells, setN, Value.oneCell', Nat.reduceLeDiff, undef, fcT, rd_rw fS, rd_rw fP, fR, Int.reduceBEq, Int.reduceBNe, Int.reduceLT, Int.reduceNeg]) (OwnR.keep hu1 (fun c hc => by have := OwnR.blk hu1 hc; repeat rw [upd_ne (by omega)]) (by omega)) (upd_same _ _ _) (by omega) (by omega) ?_
  rintro v' b' o nx2 hb' hn2 hown' hO2
  obtain ⟨A3, k3, rfl, _, _⟩ := OwnR.rd hO2
  have hbb : (bR + 1 ≤ b' ∧ b' < nx1) ∨ nb_ + 1 ≤ b' := by
    rcases hb' with e | e
    · exact .inl (OwnR.blk hu1 e)
    · exact .inr e
  have hcb : ∀ c, some c = ownBlk (.slice A3 (la ++ [hand]).length k3) → c = b' := fun c hc => by simpa using hc.trans hown'.symm
  have hw1' : ∀ c, some c = ownBlk (.slice A2 rj.length k2) → c ≠ b' := fun c hc e => by
    subst e
    rcases hb' with e | e
    · exact hdis _ e hc
    · have := OwnR.blk hw1 hc; omega
  cases e1 : decide (0 < hand)
  · have hno : stOk ⟨tot, la, hand, rj, false⟩ 2 pc = false := e1
    simp (disch := omega) only [bsW, WOp, WOq, WV, bo, eqN, gdc, gw, bnd, ↓reduceIte, Nat.reduceEqDiff, rsvs, rsv, oneOf, rdN, ne_eq, Nat.reduceAdd, Nat.reduceMul, Nat.reduceLT, reduceCtorEq, Value.cells, setN, Value.oneCell', Nat.reduceLeDiff, undef, fcT, fR, rd_rw fP, e1]
    (repeat' (first | ((with_reducible refine gif_split (fun hs_ => ?_) (fun hs_ => ?_)) <;> (have hp_ := hs_; (try simp only [hpL, ne_eq] at hp_); (try simp (disch := omega) only [bsW, WOp, WOq, WV, bo, eqN, gdc, gw, bnd, ↓reduceIte, Nat.reduceEqDiff, rsvs, rsv, oneOf, rdN, ne_eq, Nat.reduceAdd, Nat.reduceMul, Nat.reduceLT, reduceCtorEq, Value.cells, setN, Value.oneCell', Nat.reduceLeDiff, undef, fcT, fR, rd_rw fP, e1, hs_]))) | ((first | (with_reducible refine newB_i (fun nb_ hb_ => ?_)) | (with_reducible refine RgE_i (fun (hBd_ : Bd _ _) => ?_))); (try simp (disch := omega) only [bsW, WOp, WOq, WV, bo, eqN, gdc, gw, bnd, ↓reduceIte, Nat.reduceEqDiff, rsvs, rsv, oneOf, rdN, ne_eq, Nat.reduceAdd, Nat.reduceMul, Nat.reduceLT, reduceCtorEq, Value.cells, setN, Value.oneCell', Nat.reduceLeDiff, undef, fcT, fR, rd_rw fP, e1])) | (with_reducible refine fun (hBd_ : Bd _ _) => ?_) | ((first | (with_reducible refine @And.intro (Sub _ _) _ ?_ ?_) | ((with_reducible refine @And.intro (Sub _ _ ∧ _) _ ?_ ?_); (with_reducible refine @And.intro (Sub _ _) _ ?_ ?_))); exact sbX) | ((with_reducible refine And.intro ?_ ?_); omega)))
    all_goals try (exfalso; omega)
    refine mkK_no ⟨tot, la ++ [hand], 0, rj, false⟩ hno ?_ ?_
    · exact ⟨_, _, rfl, OwnR.lo (lo' := nx) (OwnR.keep hO2 (fun c hc => by have := hcb c hc; subst this; repeat rw [upd_ne (by omega)]) (by omega)) (by omega), OwnR.lo (lo' := nx) (OwnR.keep hw1 (fun c hc => by have := OwnR.blk hw1 hc; have := hw1' c hc; repeat rw [upd_ne (by omega)]) (by omega)) (by omega), fun c h1 h2 => hw1' c h2 (hcb c h1)⟩
    · (repeat (first | assumption | exact Sub.refl _ | (refine sub_up (nx := nx) ?_ hB ?_; omega)))
  · have hyes : stOk ⟨tot, la, hand, rj, false⟩ 2 pc = true := e1
    simp (disch := omega) only [bsW, WOp, WOq, WV, bo, eqN, gdc, gw, bnd, ↓reduceIte, Nat.reduceEqDiff, rsvs, rsv, oneOf, rdN, ne_eq, Nat.reduceAdd, Nat.reduceMul, Nat.reduceLT, reduceCtorEq, Value.cells, setN, Value.oneCell', Nat.reduceLeDiff, undef, fcT, fR, rd_rw fP, e1]
    (repeat' (first | ((with_reducible refine gif_split (fun hs_ => ?_) (fun hs_ => ?_)) <;> (have hp_ := hs_; (try simp only [hpL, ne_eq] at hp_); (try simp (disch := omega) only [bsW, WOp, WOq, WV, bo, eqN, gdc, gw, bnd, ↓reduceIte, Nat.reduceEqDiff, rsvs, rsv, oneOf, rdN, ne_eq, Nat.reduceAdd, Nat.reduceMul, Nat.reduceLT, reduceCtorEq, Value.cells, setN, Value.oneCell', Nat.reduceLeDiff, undef, fcT, fR, rd_rw fP, e1, hs_]))) | ((first | (with_reducible refine newB_i (fun nb_ hb_ => ?_)) | (with_reducible refine RgE_i (fun (hBd_ : Bd _ _) => ?_))); (try simp (disch := omega) only [bsW, WOp, WOq, WV, bo, eqN, gdc, gw, bnd, ↓reduceIte, Nat.reduceEqDiff, rsvs, rsv, oneOf, rdN, ne_eq, Nat.reduceAdd, Nat.reduceMul, Nat.reduceLT, reduceCtorEq, Value.cells, setN, Value.oneCell', Nat.reduceLeDiff, undef, fcT, fR, rd_rw fP, e1])) | (with_reducible refine fun (hBd_ : Bd _ _) => ?_) | ((first | (with_reducible refine @And.intro (Sub _ _) _ ?_ ?_) | ((with_reducible refine @And.intro (Sub _ _ ∧ _) _ ?_ ?_); (with_reducible refine @And.intro (Sub _ _) _ ?_ ?_))); exact sbX) | ((with_reducible refine And.intro ?_ ?_); omega)))
    all_goals try (exfalso; omega)
    refine mkK_yes ⟨tot, la ++ [hand], 0, rj, false⟩ hyes rfl ?_ ?_
    · exact ⟨_, _, rfl, OwnR.lo (lo' := nx) (OwnR.keep hO2 (fun c hc => by have := hcb c hc; subst this; repeat rw [upd_ne (by omega)]) (by omega)) (by omega), OwnR.lo (lo' := nx) (OwnR.keep hw1 (fun c hc => by have := OwnR.blk hw1 hc; have := hw1' c hc; repeat rw [upd_ne (by omega)]) (by omega)) (by omega), fun c h1 h2 => hw1' c h2 (hcb c h1)⟩
    · (repeat (first | assumption | exact Sub.refl _ | (refine sub_up (nx := nx) ?_ hB ?_; omega)))
theorem l21Make3 (tot : Int) (A : Option Addr) (la : List Int) (c : Nat) (hand : Int) (B : Option Addr) (rj : List Int) (d : Nat) (pc : Int) (H : Hp) (nx : Nat) (hv : PzOk tot la hand rj false) (hst : stepB 3 pc = true) (hla : la.length + rj.length ≤ 1048576) (hc : la.length ≤ c) (hA : RdL H A la) (hRB : RdL H B rj) :
    AC Tryd.prog 67 #[.agg #[.int .i64 tot, .slice A la.length c, .int .i64 hand, .slice B rj.length d, .bool false], .agg #[.int .i64 3, .int .i64 pc]] H nx (MkK H nx ⟨tot, la, hand, rj, false⟩ 3 pc) := by
  have e4 : stOk ⟨tot, la, hand, rj, false⟩ 3 pc = (decide (hand = 0) && decide (la ≠ []) && decide (la.getD (la.length - 1) 0 = pc)) := rfl
  have hh0 := (pz_iff.2 hv).h1
  by_cases hl0 : 0 < la.length
  rotate_left
  · have hl1 : la = [] := List.eq_nil_of_length_eq_zero (by omega)
    have hno : stOk ⟨tot, la, hand, rj, false⟩ 3 pc = false := by rw [e4, hl1]; simp
    have g1 : (((la.length : Nat) : Int) == 0) = true := by simp; exact hl1
    refine AC_of x_spec_l21Make rfl fun hB => ?_
    simp (disch := omega) only [bsW, WOp, WOq, WV, bo, eqN, gdc, gw, bnd, ↓reduceIte, Nat.reduceEqDiff, rsvs, rsv, oneOf, rdN, ne_eq, Nat.reduceAdd, Nat.reduceMul, Nat.reduceLT, reduceCtorEq, Value.cells, setN, Value.oneCell', Nat.reduceLeDiff, undef, fcT, Int.reduceBEq, Int.reduceBNe, Int.reduceLT, Int.reduceNeg, c_spec_l21Make]
    (repeat' (first | ((with_reducible refine gif_split (fun hs_ => ?_) (fun hs_ => ?_)) <;> (have hp_ := hs_; (try simp only [hpL, ne_eq] at hp_); (try simp (disch := omega) only [bsW, WOp, WOq, WV, bo, eqN, gdc, gw, bnd, ↓reduceIte, Nat.reduceEqDiff, rsvs, rsv, oneOf, rdN, ne_eq, Nat.reduceAdd, Nat.reduceMul, Nat.reduceLT, reduceCtorEq, Value.cells, setN, Value.oneCell', Nat.reduceLeDiff, undef, fcT, Int.reduceBEq, Int.reduceBNe, Int.reduceLT, Int.reduceNeg, hs_]))) | ((first | (with_reducible refine newB_i (fun nb_ hb_ => ?_)) | (with_reducible refine RgE_i (fun (hBd_ : Bd _ _) => ?_))); (try simp (disch := omega) only [bsW, WOp, WOq, WV, bo, eqN, gdc, gw, bnd, ↓reduceIte, Nat.reduceEqDiff, rsvs, rsv, oneOf, rdN, ne_eq, Nat.reduceAdd, Nat.reduceMul, Nat.reduceLT, reduceCtorEq, Value.cells, setN, Value.oneCell', Nat.reduceLeDiff, undef, fcT, Int.reduceBEq, Int.reduceBNe, Int.reduceLT, Int.reduceNeg])) | (with_reducible refine fun (hBd_ : Bd _ _) => ?_) | ((first | (with_reducible refine @And.intro (Sub _ _) _ ?_ ?_) | ((with_reducible refine @And.intro (Sub _ _ ∧ _) _ ?_ ?_); (with_reducible refine @And.intro (Sub _ _) _ ?_ ?_))); exact sbX) | ((with_reducible refine And.intro ?_ ?_); omega)))
    all_goals try (exfalso; omega)
    rename_i bP hbP bS hbS
    have hbR := hb_
    generalize nb_ = bR at *
    have hs0 : Sub H (upd (upd (upd H bP (.rw [.int .i64 tot, .slice A la.length c, .int .i64 hand, .slice B rj.length d, .bool false] 28)) bS (.rw [.int .i64 3, .int .i64 pc] 41)) bR (.rw [.int .i64 0, .slice none 0 0, .int .i64 0, .slice none 0 0, .bool false] 28)) := by (repeat (first | assumption | exact Sub.refl _ | (refine sub_up (nx := nx) ?_ hB ?_; omega)))
    have fR : (upd (upd (upd H bP (.rw [.int .i64 tot, .slice A la.length c, .int .i64 hand, .slice B rj.length d, .bool false] 28)) bS (.rw [.int .i64 3, .int .i64 pc] 41)) bR (.rw [.int .i64 0, .slice none 0 0, .int .i64 0, .slice none 0 0, .bool false] 28)) bR = some (.rw [.int .i64 0, .slice none 0 0, .int .i64 0, .slice none 0 0, .bool false] 28) := upd_same _ _ _
    have fS : (upd (upd (upd H bP (.rw [.int .i64 tot, .slice A la.length c, .int .i64 hand, .slice B rj.length d, .bool false] 28)) bS (.rw [.int .i64 3, .int .i64 pc] 41)) bR (.rw [.int .i64 0, .slice none 0 0, .int .i64 0, .slice none 0 0, .bool false] 28)) bS = some (.rw [.int .i64 3, .int .i64 pc] 41) := (upd_ne (by omega)).trans (upd_same _ _ _)
    have fP : (upd (upd (upd H bP (.rw [.int .i64 tot, .slice A la.length c, .int .i64 hand, .slice B rj.length d, .bool false] 28)) bS (.rw [.int .i64 3, .int .i64 pc] 41)) bR (.rw [.int .i64 0, .slice none 0 0, .int .i64 0, .slice none 0 0, .bool false] 28)) bP = some (.rw [.int .i64 tot, .slice A la.length c, .int .i64 hand, .slice B rj.length d, .bool false] 28) := (upd_ne (by omega)).trans ((upd_ne (by omega)).trans (upd_same _ _ _))
    generalize (upd (upd (upd H bP (.rw [.int .i64 tot, .slice A la.length c, .int .i64 hand, .slice B rj.length d, .bool false] 28)) bS (.rw [.int .i64 3, .int .i64 pc] 41)) bR (.rw [.int .i64 0, .slice none 0 0, .int .i64 0, .slice none 0 0, .bool false] 28)) = H0 at *
    refine (l21Own tot A la c hand B rj d false _ _ (by omega) (by omega) (hA.sub hs0) (hRB.sub hs0)).monoC ?_
    rintro v1 H1 nx1 hB1 hx1 ⟨hO1, ht1⟩
    obtain ⟨u1, w1, rfl, hu1, hw1, hdis⟩ := hO1.ex
    obtain ⟨A1, k1, rfl, hk1, hR1⟩ := OwnR.rd hu1
    obtain ⟨A2, k2, rfl, hk2, hR2⟩ := OwnR.rd hw1
    have hs1 := hs0.trans ht1
    replace fR := ht1 bR _ fR
    replace fS := ht1 bS _ fS
    replace fP := ht1 bP _ fP
    have hu1 : OwnL H1 (bR + 1) nx1 la 3 (.slice A1 la.length k1) := hu1
    have hw1 : OwnL H1 (bR + 1) nx1 rj 3 (.slice A2 rj.length k2) := hw1
    have hk1 : la.length ≤ k1 := hk1
    have hk2 : rj.length ≤ k2 := hk2
    have hR2 : RdL H1 A2 rj := hR2
    simp (disch := omega) only [bsW, WOp, WOq, WV, bo, eqN, gdc, gw, bnd, ↓reduceIte, Nat.reduceEqDiff, rsvs, rsv, oneOf, rdN, ne_eq, Nat.reduceAdd, Nat.reduceMul, Nat.reduceLT, reduceCtorEq, Value.cells, setN, Value.oneCell', Nat.reduceLeDiff, undef, fcT, rd_rw fS, rd_rw fP, fR, Int.reduceBEq, Int.reduceBNe, Int.reduceLT, Int.reduceNeg, g1]
    (repeat' (first | ((with_reducible refine gif_split (fun hs_ => ?_) (fun hs_ => ?_)) <;> (have hp_ := hs_; (try simp only [hpL, ne_eq] at hp_); (try simp (disch := omega) only [bsW, WOp, WOq, WV, bo, eqN, gdc, gw, bnd, ↓reduceIte, Nat.reduceEqDiff, rsvs, rsv, oneOf, rdN, ne_eq, Nat.reduceAdd, Nat.reduceMul, Nat.reduceLT, reduceCtorEq, Value.cells, setN, Value.oneCell', Nat.reduceLeDiff, undef, fcT, rd_rw fS, rd_rw fP, fR, Int.reduceBEq, Int.reduceBNe, Int.reduceLT, Int.reduceNeg, g1, hs_]))) | ((first | (with_reducible refine newB_i (fun nb_ hb_ => ?_)) | (with_reducible refine RgE_i (fun (hBd_ : Bd _ _) => ?_))); (try simp (disch := omega) only [bsW, WOp, WOq, WV, bo, eqN, gdc, gw, bnd, ↓reduceIte, Nat.reduceEqDiff, rsvs, rsv, oneOf, rdN, ne_eq, Nat.reduceAdd, Nat.reduceMul, Nat.reduceLT, reduceCtorEq, Value.cells, setN, Value.oneCell', Nat.reduceLeDiff, undef, fcT, rd_rw fS, rd_rw fP, fR, Int.reduceBEq, Int.reduceBNe, Int.reduceLT, Int.reduceNeg, g1])) | (with_reducible refine fun (hBd_ : Bd _ _) => ?_) | ((first | (with_reducible refine @And.intro (Sub _ _) _ ?_ ?_) | ((with_reducible refine @And.intro (Sub _ _ ∧ _) _ ?_ ?_); (with_reducible refine @And.intro (Sub _ _) _ ?_ ?_))); exact sbX) | ((with_reducible refine And.intro ?_ ?_); omega)))
    all_goals try (exfalso; omega)
    refine mkK_no ⟨tot, la, hand, rj, false⟩ hno ?_ ?_
    · exact ⟨_, _, rfl, OwnR.lo (lo' := nx) (OwnR.keep hu1 (fun c hc => by have := OwnR.blk hu1 hc; repeat rw [upd_ne (by omega)]) (by omega)) (by omega), OwnR.lo (lo' := nx) (OwnR.keep hw1 (fun c hc => by have := OwnR.blk hw1 hc; repeat rw [upd_ne (by omega)]) (by omega)) (by omega), hdis⟩
    · (repeat (first | assumption | exact Sub.refl _ | (refine sub_up (nx := nx) ?_ hB ?_; omega)))
  · have g1 : (((la.length : Nat) : Int) == 0) = false := by simp; intro e; rw [e] at hl0; simp at hl0
    have ek : ((la.length : Int) - 1).toNat = la.length - 1 := by omega
    have hA' := hA
    obtain ⟨bL, oL, rfl, cL⟩ := hA.at_ (show la.length - 1 < la.length by omega)
    cases e3 : (la.getD (la.length - 1) 0 != pc)
    rotate_left
    · have hno : stOk ⟨tot, la, hand, rj, false⟩ 3 pc = false := by
        have : ¬ la.getD (la.length - 1) 0 = pc := by simpa using e3
        rw [e4, decide_eq_false this]; simp
      refine AC_of x_spec_l21Make rfl fun hB => ?_
      simp (disch := omega) only [bsW, WOp, WOq, WV, bo, eqN, gdc, gw, bnd, ↓reduceIte, Nat.reduceEqDiff, rsvs, rsv, oneOf, rdN, ne_eq, Nat.reduceAdd, Nat.reduceMul, Nat.reduceLT, reduceCtorEq, Value.cells, setN, Value.oneCell', Nat.reduceLeDiff, undef, fcT, Int.reduceBEq, Int.reduceBNe, Int.reduceLT, Int.reduceNeg, c_spec_l21Make]
      (repeat' (first | ((with_reducible refine gif_split (fun hs_ => ?_) (fun hs_ => ?_)) <;> (have hp_ := hs_; (try simp only [hpL, ne_eq] at hp_); (try simp (disch := omega) only [bsW, WOp, WOq, WV, bo, eqN, gdc, gw, bnd, ↓reduceIte, Nat.reduceEqDiff, rsvs, rsv, oneOf, rdN, ne_eq, Nat.reduceAdd, Nat.reduceMul, Nat.reduceLT, reduceCtorEq, Value.cells, setN, Value.oneCell', Nat.reduceLeDiff, undef, fcT, Int.reduceBEq, Int.reduceBNe, Int.reduceLT, Int.reduceNeg, hs_]))) | ((first | (with_reducible refine newB_i (fun nb_ hb_ => ?_)) | (with_reducible refine RgE_i (fun (hBd_ : Bd _ _) => ?_))); (try simp (disch := omega) only [bsW, WOp, WOq, WV, bo, eqN, gdc, gw, bnd, ↓reduceIte, Nat.reduceEqDiff, rsvs, rsv, oneOf, rdN, ne_eq, Nat.reduceAdd, Nat.reduceMul, Nat.reduceLT, reduceCtorEq, Value.cells, setN, Value.oneCell', Nat.reduceLeDiff, undef, fcT, Int.reduceBEq, Int.reduceBNe, Int.reduceLT, Int.reduceNeg])) | (with_reducible refine fun (hBd_ : Bd _ _) => ?_) | ((first | (with_reducible refine @And.intro (Sub _ _) _ ?_ ?_) | ((with_reducible refine @And.intro (Sub _ _ ∧ _) _ ?_ ?_); (with_reducible refine @And.intro (Sub _ _) _ ?_ ?_))); exact sbX) | ((with_reducible refine And.intro ?_ ?_); omega)))
      all_goals try (exfalso; omega)
      rename_i bP hbP bS hbS
      have hbR := hb_
      generalize nb_ = bR at *
      have hs0 : Sub H (upd (upd (upd H bP (.rw [.int .i64 tot, .slice (some ⟨bL, oL, none⟩) la.length c, .int .i64 hand, .slice B rj.length d, .bool false] 28)) bS (.rw [.int .i64 3, .int .i64 pc] 41)) bR (.rw [.int .i64 0, .slice none 0 0, .int .i64 0, .slice none 0 0, .bool false] 28)) := by (repeat (first | assumption | exact Sub.refl _ | (refine sub_up (nx := nx) ?_ hB ?_; omega)))
      have fR : (upd (upd (upd H bP (.rw [.int .i64 tot, .slice (some ⟨bL, oL, none⟩) la.length c, .int .i64 hand, .slice B rj.length d, .bool false] 28)) bS (.rw [.int .i64 3, .int .i64 pc] 41)) bR (.rw [.int .i64 0, .slice none 0 0, .int .i64 0, .slice none 0 0, .bool false] 28)) bR = some (.rw [.int .i64 0, .slice none 0 0, .int .i64 0, .slice none 0 0, .bool false] 28) := upd_same _ _ _
      have fS : (upd (upd (upd H bP (.rw [.int .i64 tot, .slice (some ⟨bL, oL, none⟩) la.length c, .int .i64 hand, .slice B rj.length d, .bool false] 28)) bS (.rw [.int .i64 3, .int .i64 pc] 41)) bR (.rw [.int .i64 0, .slice none 0 0, .int .i64 0, .slice none 0 0, .bool false] 28)) bS = some (.rw [.int .i64 3, .int .i64 pc] 41) := (upd_ne (by omega)).trans (upd_same _ _ _)
      have fP : (upd (upd (upd H bP (.rw [.int .i64 tot, .slice (some ⟨bL, oL, none⟩) la.length c, .int .i64 hand, .slice B rj.length d, .bool false] 28)) bS (.rw [.int .i64 3, .int .i64 pc] 41)) bR (.rw [.int .i64 0, .slice none 0 0, .int .i64 0, .slice none 0 0, .bool false] 28)) bP = some (.rw [.int .i64 tot, .slice (some ⟨bL, oL, none⟩) la.length c, .int .i64 hand, .slice B rj.length d, .bool false] 28) := (upd_ne (by omega)).trans ((upd_ne (by omega)).trans (upd_same _ _ _))
      generalize (upd (upd (upd H bP (.rw [.int .i64 tot, .slice (some ⟨bL, oL, none⟩) la.length c, .int .i64 hand, .slice B rj.length d, .bool false] 28)) bS (.rw [.int .i64 3, .int .i64 pc] 41)) bR (.rw [.int .i64 0, .slice none 0 0, .int .i64 0, .slice none 0 0, .bool false] 28)) = H0 at *
      refine (l21Own tot _ la c hand B rj d false _ _ (by omega) (by omega) (hA.sub hs0) (hRB.sub hs0)).monoC ?_
      rintro v1 H1 nx1 hB1 hx1 ⟨hO1, ht1⟩
      obtain ⟨u1, w1, rfl, hu1, hw1, hdis⟩ := hO1.ex
      obtain ⟨A1, k1, rfl, hk1, hR1⟩ := OwnR.rd hu1
      obtain ⟨A2, k2, rfl, hk2, hR2⟩ := OwnR.rd hw1
      have hs1 := hs0.trans ht1
      replace fR := ht1 bR _ fR
      replace fS := ht1 bS _ fS
      replace fP := ht1 bP _ fP
      have hu1 : OwnL H1 (bR + 1) nx1 la 3 (.slice A1 la.length k1) := hu1
      have hw1 : OwnL H1 (bR + 1) nx1 rj 3 (.slice A2 rj.length k2) := hw1
      have hk1 : la.length ≤ k1 := hk1
      have hk2 : rj.length ≤ k2 := hk2
      have hR2 : RdL H1 A2 rj := hR2
      have cL1 := rd_sub hs1 cL
      have hbL := rd_lt hB cL
      simp (disch := omega) only [bsW, WOp, WOq, WV, bo, eqN, gdc, gw, bnd, ↓reduceIte, Nat.reduceEqDiff, rsvs, rsv, oneOf, rdN, ne_eq, Nat.reduceAdd, Nat.reduceMul, Nat.reduceLT, reduceCtorEq, Value.cells, setN, Value.oneCell', Nat.reduceLeDiff, undef, fcT, rd_rw fS, rd_rw fP, fR, Int.reduceBEq, Int.reduceBNe, Int.reduceLT, Int.reduceNeg, g1, e3, ek, cL1, Nat.mul_one]
      (repeat' (first | ((with_reducible refine gif_split (fun hs_ => ?_) (fun hs_ => ?_)) <;> (have hp_ := hs_; (try simp only [hpL, ne_eq] at hp_); (try simp (disch := omega) only [bsW, WOp, WOq, WV, bo, eqN, gdc, gw, bnd, ↓reduceIte, Nat.reduceEqDiff, rsvs, rsv, oneOf, rdN, ne_eq, Nat.reduceAdd, Nat.reduceMul, Nat.reduceLT, reduceCtorEq, Value.cells, setN, Value.oneCell', Nat.reduceLeDiff, undef, fcT, rd_rw fS, rd_rw fP, fR, Int.reduceBEq, Int.reduceBNe, Int.reduceLT, Int.reduceNeg, g1, e3, ek, cL1, Nat.mul_one, hs_]))) | ((first | (with_reducible refine newB_i (fun nb_ hb_ => ?_)) | (with_reducible refine RgE_i (fun (hBd_ : Bd _ _) => ?_))); (try simp (disch := omega) only [bsW, WOp, WOq, WV, bo, eqN, gdc, gw, bnd, ↓reduceIte, Nat.reduceEqDiff, rsvs, rsv, oneOf, rdN, ne_eq, Nat.reduceAdd, Nat.reduceMul, Nat.reduceLT, reduceCtorEq, Value.cells, setN, Value.oneCell', Nat.reduceLeDiff, undef, fcT, rd_rw fS, rd_rw fP, fR, Int.reduceBEq, Int.reduceBNe, Int.reduceLT, Int.reduceNeg, g1, e3, ek, cL1, Nat.mul_one])) | (with_reducible refine fun (hBd_ : Bd _ _) => ?_) | ((first | (with_reducible refine @And.intro (Sub _ _) _ ?_ ?_) | ((with_reducible refine @And.intro (Sub _ _ ∧ _) _ ?_ ?_); (with_reducible refine @And.intro (Sub _ _) _ ?_ ?_))); exact sbX) | ((with_reducible refine And.intro ?_ ?_); omega)))
      all_goals try (exfalso; omega)
      refine mkK_no ⟨tot, la, hand, rj, false⟩ hno ?_ ?_
      · exact ⟨_, _, rfl, OwnR.lo (lo' := nx) (OwnR.keep hu1 (fun c hc => by have := OwnR.blk hu1 hc; repeat rw [upd_ne (by omega)]) (by omega)) (by omega), OwnR.lo (lo' := nx) (OwnR.keep hw1 (fun c hc => by have := OwnR.blk hw1 hc; repeat rw [upd_ne (by omega)]) (by omega)) (by omega), hdis⟩
      · (repeat (first | assumption | exact Sub.refl _ | (refine sub_up (nx := nx) ?_ hB ?_; omega)))
    cases e1 : decide (0 < hand)
    rotate_left
    · have hno : stOk ⟨tot, la, hand, rj, false⟩ 3 pc = false := by
        have : ¬ hand = 0 := by simp at e1; omega
        rw [e4, decide_eq_false this]; simp
      refine AC_of x_spec_l21Make rfl fun hB => ?_
      simp (disch := omega) only [bsW, WOp, WOq, WV, bo, eqN, gdc, gw, bnd, ↓reduceIte, Nat.reduceEqDiff, rsvs, rsv, oneOf, rdN, ne_eq, Nat.reduceAdd, Nat.reduceMul, Nat.reduceLT, reduceCtorEq, Value.cells, setN, Value.oneCell', Nat.reduceLeDiff, undef, fcT, Int.reduceBEq, Int.reduceBNe, Int.reduceLT, Int.reduceNeg, c_spec_l21Make]
      (repeat' (first | ((with_reducible refine gif_split (fun hs_ => ?_) (fun hs_ => ?_)) <;> (have hp_ := hs_; (try simp only [hpL, ne_eq] at hp_); (try simp (disch := omega) only [bsW, WOp, WOq, WV, bo, eqN, gdc, gw, bnd, ↓reduceIte, Nat.reduceEqDiff, rsvs, rsv, oneOf, rdN, ne_eq, Nat.reduceAdd, Nat.reduceMul, Nat.reduceLT, reduceCtorEq, Value.cells, setN, Value.oneCell', Nat.reduceLeDiff, undef, fcT, Int.reduceBEq, Int.reduceBNe, Int.reduceLT, Int.reduceNeg, hs_]))) | ((first | (with_reducible refine newB_i (fun nb_ hb_ => ?_)) | (with_reducible refine RgE_i (fun (hBd_ : Bd _ _) => ?_))); (try simp (disch := omega) only [bsW, WOp, WOq, WV, bo, eqN, gdc, gw, bnd, ↓reduceIte, Nat.reduceEqDiff, rsvs, rsv, oneOf, rdN, ne_eq, Nat.reduceAdd, Nat.reduceMul, Nat.reduceLT, reduceCtorEq, Value.cells, setN, Value.oneCell', Nat.reduceLeDiff, undef, fcT, Int.reduceBEq, Int.reduceBNe, Int.reduceLT, Int.reduceNeg])) | (with_reducible refine fun (hBd_ : Bd _ _) => ?_) | ((first | (with_reducible refine @And.intro (Sub _ _) _ ?_ ?_) | ((with_reducible refine @And.intro (Sub _ _ ∧ _) _ ?_ ?_); (with_reducible refine @And.intro (Sub _ _) _ ?_ ?_))); exact sbX) | ((with_reducible refine And.intro ?_ ?_); omega)))
      all_goals try (exfalso; omega)
      rename_i bP hbP bS hbS
      have hbR := hb_
      generalize nb_ = bR at *
      have hs0 : Sub H (upd (upd (upd H bP (.rw [.int .i64 tot, .slice (some ⟨bL, oL, none⟩) la.length c, .int .i64 hand, .slice B rj.length d, .bool false] 28)) bS (.rw [.int .i64 3, .int .i64 pc] 41)) bR (.rw [.int .i64 0, .slice none 0 0, .int .i64 0, .slice none 0 0, .bool false] 28)) := by (repeat (first | assumption | exact Sub.refl _ | (refine sub_up (nx := nx) ?_ hB ?_; omega)))
      have fR : (upd (upd (upd H bP (.rw [.int .i64 tot, .slice (some ⟨bL, oL, none⟩) la.length c, .int .i64 hand, .slice B rj.length d, .bool false] 28)) bS (.rw [.int .i64 3, .int .i64 pc] 41)) bR (.rw [.int .i64 0, .slice none 0 0, .int .i64 0, .slice none 0 0, .bool false] 28)) bR = some (.rw [.int .i64 0, .slice none 0 0, .int .i64 0, .slice none 0 0, .bool false] 28) := upd_same _ _ _
      have fS : (upd (upd (upd H bP (.rw [.int .i64 tot, .slice (some ⟨bL, oL, none⟩) la.length c, .int .i64 hand, .slice B rj.length d, .bool false] 28)) bS (.rw [.int .i64 3, .int .i64 pc] 41)) bR (.rw [.int .i64 0, .slice none 0 0, .int .i64 0, .slice none 0 0, .bool false] 28)) bS = some (.rw [.int .i64 3, .int .i64 pc] 41) := (upd_ne (by omega)).trans (upd_same _ _ _)
      have fP : (upd (upd (upd H bP (.rw [.int .i64 tot, .slice (some ⟨bL, oL, none⟩) la.length c, .int .i64 hand, .slice B rj.length d, .bool false] 28)) bS (.rw [.int .i64 3, .int .i64 pc] 41)) bR (.rw [.int .i64 0, .slice none 0 0, .int .i64 0, .slice none 0 0, .bool false] 28)) bP = some (.rw [.int .i64 tot, .slice (some ⟨bL, oL, none⟩) la.length c, .int .i64 hand, .slice B rj.length d, .bool false] 28) := (upd_ne (by omega)).trans ((upd_ne (by omega)).trans (upd_same _ _ _))
      generalize (upd (upd (upd H bP (.rw [.int .i64 tot, .slice (some ⟨bL, oL, none⟩) la.length c, .int .i64 hand, .slice B rj.length d, .bool false] 28)) bS (.rw [.int .i64 3, .int .i64 pc] 41)) bR (.rw [.int .i64 0, .slice none 0 0, .int .i64 0, .slice none 0 0, .bool false] 28)) = H0 at *
      refine (l21Own tot _ la c hand B rj d false _ _ (by omega) (by omega) (hA.sub hs0) (hRB.sub hs0)).monoC ?_
      rintro v1 H1 nx1 hB1 hx1 ⟨hO1, ht1⟩
      obtain ⟨u1, w1, rfl, hu1, hw1, hdis⟩ := hO1.ex
      obtain ⟨A1, k1, rfl, hk1, hR1⟩ := OwnR.rd hu1
      obtain ⟨A2, k2, rfl, hk2, hR2⟩ := OwnR.rd hw1
      have hs1 := hs0.trans ht1
      replace fR := ht1 bR _ fR
      replace fS := ht1 bS _ fS
      replace fP := ht1 bP _ fP
      have hu1 : OwnL H1 (bR + 1) nx1 la 3 (.slice A1 la.length k1) := hu1
      have hw1 : OwnL H1 (bR + 1) nx1 rj 3 (.slice A2 rj.length k2) := hw1
      have hk1 : la.length ≤ k1 := hk1
      have hk2 : rj.length ≤ k2 := hk2
      have hR2 : RdL H1 A2 rj := hR2
      have cL1 := rd_sub hs1 cL
      have hbL := rd_lt hB cL
      simp (disch := omega) only [bsW, WOp, WOq, WV, bo, eqN, gdc, gw, bnd, ↓reduceIte, Nat.reduceEqDiff, rsvs, rsv, oneOf, rdN, ne_eq, Nat.reduceAdd, Nat.reduceMul, Nat.reduceLT, reduceCtorEq, Value.cells, setN, Value.oneCell', Nat.reduceLeDiff, undef, fcT, rd_rw fS, rd_rw fP, fR, Int.reduceBEq, Int.reduceBNe, Int.reduceLT, Int.reduceNeg, g1, e3, e1, ek, cL1, Nat.mul_one]
      (repeat' (first | ((with_reducible refine gif_split (fun hs_ => ?_) (fun hs_ => ?_)) <;> (have hp_ := hs_; (try simp only [hpL, ne_eq] at hp_); (try simp (disch := omega) only [bsW, WOp, WOq, WV, bo, eqN, gdc, gw, bnd, ↓reduceIte, Nat.reduceEqDiff, rsvs, rsv, oneOf, rdN, ne_eq, Nat.reduceAdd, Nat.reduceMul, Nat.reduceLT, reduceCtorEq, Value.cells, setN, Value.oneCell', Nat.reduceLeDiff, undef, fcT, rd_rw fS, rd_rw fP, fR, Int.reduceBEq, Int.reduceBNe, Int.reduceLT, Int.reduceNeg, g1, e3, e1, ek, cL1, Nat.mul_one, hs_]))) | ((first | (with_reducible refine newB_i (fun nb_ hb_ => ?_)) | (with_reducible refine RgE_i (fun (hBd_ : Bd _ _) => ?_))); (try simp (disch := omega) only [bsW, WOp, WOq, WV, bo, eqN, gdc, gw, bnd, ↓reduceIte, Nat.reduceEqDiff, rsvs, rsv, oneOf, rdN, ne_eq, Nat.reduceAdd, Nat.reduceMul, Nat.reduceLT, reduceCtorEq, Value.cells, setN, Value.oneCell', Nat.reduceLeDiff, undef, fcT, rd_rw fS, rd_rw fP, fR, Int.reduceBEq, Int.reduceBNe, Int.reduceLT, Int.reduceNeg, g1, e3, e1, ek, cL1, Nat.mul_one])) | (with_reducible refine fun (hBd_ : Bd _ _) => ?_) | ((first | (with_reducible refine @And.intro (Sub _ _) _ ?_ ?_) | ((with_reducible refine @And.intro (Sub _ _ ∧ _) _ ?_ ?_); (with_reducible refine @And.intro (Sub _ _) _ ?_ ?_))); exact sbX) | ((with_reducible refine And.intro ?_ ?_); omega)))
      all_goals try (exfalso; omega)
      refine mkK_no ⟨tot, la, hand, rj, false⟩ hno ?_ ?_
      · exact ⟨_, _, rfl, OwnR.lo (lo' := nx) (OwnR.keep hu1 (fun c hc => by have := OwnR.blk hu1 hc; repeat rw [upd_ne (by omega)]) (by omega)) (by omega), OwnR.lo (lo' := nx) (OwnR.keep hw1 (fun c hc => by have := OwnR.blk hw1 hc; repeat rw [upd_ne (by omega)]) (by omega)) (by omega), hdis⟩
      · (repeat (first | assumption | exact Sub.refl _ | (refine sub_up (nx := nx) ?_ hB ?_; omega)))
    have hyes : stOk ⟨tot, la, hand, rj, false⟩ 3 pc = true := by
      have h1 : la.getD (la.length - 1) 0 = pc := by simpa using e3
      have h2 : la ≠ [] := fun e => by rw [e] at hl0; simp at hl0
      have h3 : hand = 0 := by simp at e1; omega
      rw [e4, decide_eq_true h1, decide_eq_true h2, decide_eq_true h3]; rfl
    refine AC_of x_spec_l21Make rfl fun hB => ?_
    simp (disch := omega) only [bsW, WOp, WOq, WV, bo, eqN, gdc, gw, bnd, ↓reduceIte, Nat.reduceEqDiff, rsvs, rsv, oneOf, rdN, ne_eq, Nat.reduceAdd, Nat.reduceMul, Nat.reduceLT, reduceCtorEq, Value.cells, setN, Value.oneCell', Nat.reduceLeDiff, undef, fcT, Int.reduceBEq, Int.reduceBNe, Int.reduceLT, Int.reduceNeg, c_spec_l21Make]
    (repeat' (first | ((with_reducible refine gif_split (fun hs_ => ?_) (fun hs_ => ?_)) <;> (have hp_ := hs_; (try simp only [hpL, ne_eq] at hp_); (try simp (disch := omega) only [bsW, WOp, WOq, WV, bo, eqN, gdc, gw, bnd, ↓reduceIte, Nat.reduceEqDiff, rsvs, rsv, oneOf, rdN, ne_eq, Nat.reduceAdd, Nat.reduceMul, Nat.reduceLT, reduceCtorEq, Value.cells, setN, Value.oneCell', Nat.reduceLeDiff, undef, fcT, Int.reduceBEq, Int.reduceBNe, Int.reduceLT, Int.reduceNeg, hs_]))) | ((first | (with_reducible refine newB_i (fun nb_ hb_ => ?_)) | (with_reducible refine RgE_i (fun (hBd_ : Bd _ _) => ?_))); (try simp (disch := omega) only [bsW, WOp, WOq, WV, bo, eqN, gdc, gw, bnd, ↓reduceIte, Nat.reduceEqDiff, rsvs, rsv, oneOf, rdN, ne_eq, Nat.reduceAdd, Nat.reduceMul, Nat.reduceLT, reduceCtorEq, Value.cells, setN, Value.oneCell', Nat.reduceLeDiff, undef, fcT, Int.reduceBEq, Int.reduceBNe, Int.reduceLT, Int.reduceNeg])) | (with_reducible refine fun (hBd_ : Bd _ _) => ?_) | ((first | (with_reducible refine @And.intro (Sub _ _) _ ?_ ?_) | ((with_reducible refine @And.intro (Sub _ _ ∧ _) _ ?_ ?_); (with_reducible refine @And.intro (Sub _ _) _ ?_ ?_))); exact sbX) | ((with_reducible refine And.intro ?_ ?_); omega)))
    all_goals try (exfalso; omega)
    rename_i bP hbP bS hbS
    have hbR := hb_
    generalize nb_ = bR at *
    have hs0 : Sub H (upd (upd (upd H bP (.rw [.int .i64 tot, .slice (some ⟨bL, oL, none⟩) la.length c, .int .i64 hand, .slice B rj.length d, .bool false] 28)) bS (.rw [.int .i64 3, .int .i64 pc] 41)) bR (.rw [.int .i64 0, .slice none 0 0, .int .i64 0, .slice none 0 0, .bool false] 28)) := by (repeat (first | assumption | exact Sub.refl _ | (refine sub_up (nx := nx) ?_ hB ?_; omega)))
    have fR : (upd (upd (upd H bP (.rw [.int .i64 tot, .slice (some ⟨bL, oL, none⟩) la.length c, .int .i64 hand, .slice B rj.length d, .bool false] 28)) bS (.rw [.int .i64 3, .int .i64 pc] 41)) bR (.rw [.int .i64 0, .slice none 0 0, .int .i64 0, .slice none 0 0, .bool false] 28)) bR = some (.rw [.int .i64 0, .slice none 0 0, .int .i64 0, .slice none 0 0, .bool false] 28) := upd_same _ _ _
    have fS : (upd (upd (upd H bP (.rw [.int .i64 tot, .slice (some ⟨bL, oL, none⟩) la.length c, .int .i64 hand, .slice B rj.length d, .bool false] 28)) bS (.rw [.int .i64 3, .int .i64 pc] 41)) bR (.rw [.int .i64 0, .slice none 0 0, .int .i64 0, .slice none 0 0, .bool false] 28)) bS = some (.rw [.int .i64 3, .int .i64 pc] 41) := (upd_ne (by omega)).trans (upd_same _ _ _)
    have fP : (upd (upd (upd H bP (.rw [.int .i64 tot, .slice (some ⟨bL, oL, none⟩) la.length c, .int .i64 hand, .slice B rj.length d, .bool false] 28)) bS (.rw [.int .i64 3, .int .i64 pc] 41)) bR (.rw [.int .i64 0, .slice none 0 0, .int .i64 0, .slice none 0 0, .bool false] 28)) bP = some (.rw [.int .i64 tot, .slice (some ⟨bL, oL, none⟩) la.length c, .int .i64 hand, .slice B rj.length d, .bool false] 28) := (upd_ne (by omega)).trans ((upd_ne (by omega)).trans (upd_same _ _ _))
    generalize (upd (upd (upd H bP (.rw [.int .i64 tot, .slice (some ⟨bL, oL, none⟩) la.length c, .int .i64 hand, .slice B rj.length d, .bool false] 28)) bS (.rw [.int .i64 3, .int .i64 pc] 41)) bR (.rw [.int .i64 0, .slice none 0 0, .int .i64 0, .slice none 0 0, .bool false] 28)) = H0 at *
    refine (l21Own tot _ la c hand B rj d false _ _ (by omega) (by omega) (hA.sub hs0) (hRB.sub hs0)).monoC ?_
    rintro v1 H1 nx1 hB1 hx1 ⟨hO1, ht1⟩
    obtain ⟨u1, w1, rfl, hu1, hw1, hdis⟩ := hO1.ex
    obtain ⟨A1, k1, rfl, hk1, hR1⟩ := OwnR.rd hu1
    obtain ⟨A2, k2, rfl, hk2, hR2⟩ := OwnR.rd hw1
    have hs1 := hs0.trans ht1
    replace fR := ht1 bR _ fR
    replace fS := ht1 bS _ fS
    replace fP := ht1 bP _ fP
    have hu1 : OwnL H1 (bR + 1) nx1 la 3 (.slice A1 la.length k1) := hu1
    have hw1 : OwnL H1 (bR + 1) nx1 rj 3 (.slice A2 rj.length k2) := hw1
    have hk1 : la.length ≤ k1 := hk1
    have hk2 : rj.length ≤ k2 := hk2
    have hR2 : RdL H1 A2 rj := hR2
    have cL1 := rd_sub hs1 cL
    have hbL := rd_lt hB cL
    simp (disch := omega) only [bsW, WOp, WOq, WV, bo, eqN, gdc, gw, bnd, ↓reduceIte, Nat.reduceEqDiff, rsvs, rsv, oneOf, rdN, ne_eq, Nat.reduceAdd, Nat.reduceMul, Nat.reduceLT, reduceCtorEq, Value.cells, setN, Value.oneCell', Nat.reduceLeDiff, undef, fcT, rd_rw fS, rd_rw fP, fR, Int.reduceBEq, Int.reduceBNe, Int.reduceLT, Int.reduceNeg, g1, e3, e1, ek, cL1, Nat.mul_one, cutA_zero, Nat.sub_zero, Int.toNat_natCast]
    (repeat' (first | ((with_reducible refine gif_split (fun hs_ => ?_) (fun hs_ => ?_)) <;> (have hp_ := hs_; (try simp only [hpL, ne_eq] at hp_); (try simp (disch := omega) only [bsW, WOp, WOq, WV, bo, eqN, gdc, gw, bnd, ↓reduceIte, Nat.reduceEqDiff, rsvs, rsv, oneOf, rdN, ne_eq, Nat.reduceAdd, Nat.reduceMul, Nat.reduceLT, reduceCtorEq, Value.cells, setN, Value.oneCell', Nat.reduceLeDiff, undef, fcT, rd_rw fS, rd_rw fP, fR, Int.reduceBEq, Int.reduceBNe, Int.reduceLT, Int.reduceNeg, g1, e3, e1, ek, cL1, Nat.mul_one, cutA_zero, Nat.sub_zero, Int.toNat_natCast, hs_]))) | ((first | (with_reducible refine newB_i (fun nb_ hb_ => ?_)) | (with_reducible refine RgE_i (fun (hBd_ : Bd _ _) => ?_))); (try simp (disch := omega) only [bsW, WOp, WOq, WV, bo, eqN, gdc, gw, bnd, ↓reduceIte, Nat.reduceEqDiff, rsvs, rsv, oneOf, rdN, ne_eq, Nat.reduceAdd, Nat.reduceMul, Nat.reduceLT, reduceCtorEq, Value.cells, setN, Value.oneCell', Nat.reduceLeDiff, undef, fcT, rd_rw fS, rd_rw fP, fR, Int.reduceBEq, Int.reduceBNe, Int.reduceLT, Int.reduceNeg, g1, e3, e1, ek, cL1, Nat.mul_one, cutA_zero, Nat.sub_zero, Int.toNat_natCast])) | (with_reducible refine fun (hBd_ : Bd _ _) => ?_) | ((first | (with_reducible refine @And.intro (Sub _ _) _ ?_ ?_) | ((with_reducible refine @And.intro (Sub _ _ ∧ _) _ ?_ ?_); (with_reducible refine @And.intro (Sub _ _) _ ?_ ?_))); exact sbX) | ((with_reducible refine And.intro ?_ ?_); omega)))
    all_goals try (exfalso; omega)
    refine (l1OwnN (some ⟨bL, oL, none⟩) (la.take (la.length - 1)) (la.length - 1) c _ _ (by simp) (by omega) ((hA.take (by omega)).sub (by (repeat (first | assumption | exact Sub.refl _ | (refine sub_up (nx := nx) ?_ hB ?_; omega)))))).monoC ?_
    rintro v3 H3 nx3 hB3 hx3 ⟨hO3, ht3⟩
    obtain ⟨A3, k3, rfl, _, _⟩ := OwnR.rd hO3
    have fO := ht3 nb_ _ (upd_same _ _ _)
    have fP3 := ht3 bP _ ((upd_ne (by omega)).trans fP)
    have fS3 := ht3 bS _ ((upd_ne (by omega)).trans fS)
    have fR3 := ht3 bR _ ((upd_ne (by omega)).trans fR)
    have hs3 : Sub H H3 := Sub.trans (by (repeat (first | assumption | exact Sub.refl _ | (refine sub_up (nx := nx) ?_ hB ?_; omega)))) ht3
    have hw3 := OwnR.subI (OwnR.keep hw1 (fun c hc => upd_ne (by have := OwnR.blk hw1 hc; omega)) (Nat.le_refl _)) ht3
    simp (disch := omega) only [bsW, WOp, WOq, WV, bo, eqN, gdc, gw, bnd, ↓reduceIte, Nat.reduceEqDiff, rsvs, rsv, oneOf, rdN, ne_eq, Nat.reduceAdd, Nat.reduceMul, Nat.reduceLT, reduceCtorEq, Value.cells, setN, Value.oneCell', Nat.reduceLeDiff, undef, fcT, rd_rw fS3, rd_rw fP3, fR3, fO, rd_rw fO, Int.reduceBEq]
    (repeat' (first | ((with_reducible refine gif_split (fun hs_ => ?_) (fun hs_ => ?_)) <;> (have hp_ := hs_; (try simp only [hpL, ne_eq] at hp_); (try simp (disch := omega) only [bsW, WOp, WOq, WV, bo, eqN, gdc, gw, bnd, ↓reduceIte, Nat.reduceEqDiff, rsvs, rsv, oneOf, rdN, ne_eq, Nat.reduceAdd, Nat.reduceMul, Nat.reduceLT, reduceCtorEq, Value.cells, setN, Value.oneCell', Nat.reduceLeDiff, undef, fcT, rd_rw fS3, rd_rw fP3, fR3, fO, rd_rw fO, Int.reduceBEq, hs_]))) | ((first | (with_reducible refine newB_i (fun nb_ hb_ => ?_)) | (with_reducible refine RgE_i (fun (hBd_ : Bd _ _) => ?_))); (try simp (disch := omega) only [bsW, WOp, WOq, WV, bo, eqN, gdc, gw, bnd, ↓reduceIte, Nat.reduceEqDiff, rsvs, rsv, oneOf, rdN, ne_eq, Nat.reduceAdd, Nat.reduceMul, Nat.reduceLT, reduceCtorEq, Value.cells, setN, Value.oneCell', Nat.reduceLeDiff, undef, fcT, rd_rw fS3, rd_rw fP3, fR3, fO, rd_rw fO, Int.reduceBEq])) | (with_reducible refine fun (hBd_ : Bd _ _) => ?_) | ((first | (with_reducible refine @And.intro (Sub _ _) _ ?_ ?_) | ((with_reducible refine @And.intro (Sub _ _ ∧ _) _ ?_ ?_); (with_reducible refine @And.intro (Sub _ _) _ ?_ ?_))); exact sbX) | ((with_reducible refine And.intro ?_ ?_); omega)))
    all_goals try (exfalso; omega)
    refine mkK_yes ⟨tot, la.take (la.length - 1), pc, rj, false⟩ hyes rfl ?_ ?_
    · exact ⟨_, _, rfl, OwnR.lo (lo' := nx) (OwnR.keep hO3 (fun c hc => by have := OwnR.blk hO3 hc; repeat rw [upd_ne (by omega)]) (by omega)) (by omega), OwnR.lo (lo' := nx) (OwnR.keep hw3 (fun c hc => by have := OwnR.blk hw3 hc; repeat rw [upd_ne (by omega)]) (by omega)) (by omega), fun c h1 h2 => by have := OwnR.blk hO3 h1; have := OwnR.blk hw3 h2; omega⟩
    · (repeat (first | assumption | exact Sub.refl _ | (refine sub_up (nx := nx) ?_ hB ?_; omega)))
theorem l21Make4 (tot : Int) (A : Option Addr) (la : List Int) (c : Nat) (hand : Int) (B : Option Addr) (rj : List Int) (d : Nat) (pc : Int) (H : Hp) (nx : Nat) (hv : PzOk tot la hand rj false) (hst : stepB 4 pc = true) (hla : la.length + rj.length ≤ 1048576) (hc : la.length ≤ c) (hA : RdL H A la) (hRB : RdL H B rj) :
    AC Tryd.prog 67 #[.agg #[.int .i64 tot, .slice A la.length c, .int .i64 hand, .slice B rj.length d, .bool false], .agg #[.int .i64 4, .int .i64 pc]] H nx (MkK H nx ⟨tot, la, hand, rj, false⟩ 4 pc) := by
  have hnr : 0 < hand → hand ∉ rj := (pz_iff.2 hv).hr
  refine AC_of x_spec_l21Make rfl fun hB => ?_
  simp (disch := omega) only [bsW, WOp, WOq, WV, bo, eqN, gdc, gw, bnd, ↓reduceIte, Nat.reduceEqDiff, rsvs, rsv, oneOf, rdN, ne_eq, Nat.reduceAdd, Nat.reduceMul, Nat.reduceLT, reduceCtorEq, Value.cells, setN, Value.oneCell', Nat.reduceLeDiff, undef, fcT, Int.reduceBEq, Int.reduceBNe, Int.reduceLT, Int.reduceNeg, c_spec_l21Make]
  (repeat' (first | ((with_reducible refine gif_split (fun hs_ => ?_) (fun hs_ => ?_)) <;> (have hp_ := hs_; (try simp only [hpL, ne_eq] at hp_); (try simp (disch := omega) only [bsW, WOp, WOq, WV, bo, eqN, gdc, gw, bnd, ↓reduceIte, Nat.reduceEqDiff, rsvs, rsv, oneOf, rdN, ne_eq, Nat.reduceAdd, Nat.reduceMul, Nat.reduceLT, reduceCtorEq, Value.cells, setN, Value.oneCell', Nat.reduceLeDiff, undef, fcT, Int.reduceBEq, Int.reduceBNe, Int.reduceLT, Int.reduceNeg, hs_]))) | ((first | (with_reducible refine newB_i (fun nb_ hb_ => ?_)) | (with_reducible refine RgE_i (fun (hBd_ : Bd _ _) => ?_))); (try simp (disch := omega) only [bsW, WOp, WOq, WV, bo, eqN, gdc, gw, bnd, ↓reduceIte, Nat.reduceEqDiff, rsvs, rsv, oneOf, rdN, ne_eq, Nat.reduceAdd, Nat.reduceMul, Nat.reduceLT, reduceCtorEq, Value.cells, setN, Value.oneCell', Nat.reduceLeDiff, undef, fcT, Int.reduceBEq, Int.reduceBNe, Int.reduceLT, Int.reduceNeg])) | (with_reducible refine fun (hBd_ : Bd _ _) => ?_) | ((first | (with_reducible refine @And.intro (Sub _ _) _ ?_ ?_) | ((with_reducible refine @And.intro (Sub _ _ ∧ _) _ ?_ ?_); (with_reducible refine @And.intro (Sub _ _) _ ?_ ?_))); exact sbX) | ((with_reducible refine And.intro ?_ ?_); omega)))
  all_goals try (exfalso; omega)
  rename_i bP hbP bS hbS
  have hbR := hb_
  generalize nb_ = bR at *
  have hs0 : Sub H (upd (upd (upd H bP (.rw [.int .i64 tot, .slice A la.length c, .int .i64 hand, .slice B rj.length d, .bool false] 28)) bS (.rw [.int .i64 4, .int .i64 pc] 41)) bR (.rw [.int .i64 0, .slice none 0 0, .int .i64 0, .slice none 0 0, .bool false] 28)) := by (repeat (first | assumption | exact Sub.refl _ | (refine sub_up (nx := nx) ?_ hB ?_; omega)))
  have fR : (upd (upd (upd H bP (.rw [.int .i64 tot, .slice A la.length c, .int .i64 hand, .slice B rj.length d, .bool false] 28)) bS (.rw [.int .i64 4, .int .i64 pc] 41)) bR (.rw [.int .i64 0, .slice none 0 0, .int .i64 0, .slice none 0 0, .bool false] 28)) bR = some (.rw [.int .i64 0, .slice none 0 0, .int .i64 0, .slice none 0 0, .bool false] 28) := upd_same _ _ _
  have fS : (upd (upd (upd H bP (.rw [.int .i64 tot, .slice A la.length c, .int .i64 hand, .slice B rj.length d, .bool false] 28)) bS (.rw [.int .i64 4, .int .i64 pc] 41)) bR (.rw [.int .i64 0, .slice none 0 0, .int .i64 0, .slice none 0 0, .bool false] 28)) bS = some (.rw [.int .i64 4, .int .i64 pc] 41) := (upd_ne (by omega)).trans (upd_same _ _ _)
  have fP : (upd (upd (upd H bP (.rw [.int .i64 tot, .slice A la.length c, .int .i64 hand, .slice B rj.length d, .bool false] 28)) bS (.rw [.int .i64 4, .int .i64 pc] 41)) bR (.rw [.int .i64 0, .slice none 0 0, .int .i64 0, .slice none 0 0, .bool false] 28)) bP = some (.rw [.int .i64 tot, .slice A la.length c, .int .i64 hand, .slice B rj.length d, .bool false] 28) := (upd_ne (by omega)).trans ((upd_ne (by omega)).trans (upd_same _ _ _))
  generalize (upd (upd (upd H bP (.rw [.int .i64 tot, .slice A la.length c, .int .i64 hand, .slice B rj.length d, .bool false] 28)) bS (.rw [.int .i64 4, .int .i64 pc] 41)) bR (.rw [.int .i64 0, .slice none 0 0, .int .i64 0, .slice none 0 0, .bool false] 28)) = H0 at *
  refine (l21Own tot A la c hand B rj d false _ _ (by omega) (by omega) (hA.sub hs0) (hRB.sub hs0)).monoC ?_
  rintro v1 H1 nx1 hB1 hx1 ⟨hO1, ht1⟩
  obtain ⟨u1, w1, rfl, hu1, hw1, hdis⟩ := hO1.ex
  obtain ⟨A1, k1, rfl, hk1, hR1⟩ := OwnR.rd hu1
  obtain ⟨A2, k2, rfl, hk2, hR2⟩ := OwnR.rd hw1
  have hs1 := hs0.trans ht1
  replace fR := ht1 bR _ fR
  replace fS := ht1 bS _ fS
  replace fP := ht1 bP _ fP
  have hu1 : OwnL H1 (bR + 1) nx1 la 3 (.slice A1 la.length k1) := hu1
  have hw1 : OwnL H1 (bR + 1) nx1 rj 3 (.slice A2 rj.length k2) := hw1
  have hk1 : la.length ≤ k1 := hk1
  have hk2 : rj.length ≤ k2 := hk2
  have hR2 : RdL H1 A2 rj := hR2
  simp (disch := omega) only [bsW, WOp, WOq, WV, bo, eqN, gdc, gw, bnd, ↓reduceIte, Nat.reduceEqDiff, rsvs, rsv, oneOf, rdN, ne_eq, Nat.reduceAdd, Nat.reduceMul, Nat.reduceLT, reduceCtorEq, Value.cells, setN, Value.oneCell', Nat.reduceLeDiff, undef, fcT, rd_rw fS, rd_rw fP, fR, Int.reduceBEq, Int.reduceBNe, Int.reduceLT, Int.reduceNeg]
  (repeat' (first | ((with_reducible refine gif_split (fun hs_ => ?_) (fun hs_ => ?_)) <;> (have hp_ := hs_; (try simp only [hpL, ne_eq] at hp_); (try simp (disch := omega) only [bsW, WOp, WOq, WV, bo, eqN, gdc, gw, bnd, ↓reduceIte, Nat.reduceEqDiff, rsvs, rsv, oneOf, rdN, ne_eq, Nat.reduceAdd, Nat.reduceMul, Nat.reduceLT, reduceCtorEq, Value.cells, setN, Value.oneCell', Nat.reduceLeDiff, undef, fcT, rd_rw fS, rd_rw fP, fR, Int.reduceBEq, Int.reduceBNe, Int.reduceLT, Int.reduceNeg, hs_]))) | ((first | (with_reducible refine newB_i (fun nb_ hb_ => ?_)) | (with_reducible refine RgE_i (fun (hBd_ : Bd _ _) => ?_))); (try simp (disch := omega) only [bsW, WOp, WOq, WV, bo, eqN, gdc, gw, bnd, ↓reduceIte, Nat.reduceEqDiff, rsvs, rsv, oneOf, rdN, ne_eq, Nat.reduceAdd, Nat.reduceMul, Nat.reduceLT, reduceCtorEq, Value.cells, setN, Value.oneCell', Nat.reduceLeDiff, undef, fcT, rd_rw fS, rd_rw fP, fR, Int.reduceBEq, Int.reduceBNe, Int.reduceLT, Int.reduceNeg])) | (with_reducible refine fun (hBd_ : Bd _ _) => ?_) | ((first | (with_reducible refine @And.intro (Sub _ _) _ ?_ ?_) | ((with_reducible refine @And.intro (Sub _ _ ∧ _) _ ?_ ?_); (with_reducible refine @And.intro (Sub _ _) _ ?_ ?_))); exact sbX) | ((with_reducible refine And.intro ?_ ?_); omega)))
  all_goals try (exfalso; omega)
  refine (l1Put (.slice A2 rj.length k2) rj hand (bR + 1) _ _ (by omega) (by omega) (OwnR.keep hw1 (fun c hc => upd_ne (by have := OwnR.blk hw1 hc; omega)) (by omega))).monoC ?_
  rintro v3 H3 nx3 hB3 hx3 hP3
  have hw2 : OwnL (upd H1 nb_ (.rw [.int .i64 tot, .slice A1 la.length k1, .int .i64 hand, .slice A2 rj.length k2, .bool false] 28)) (bR + 1) nx1 rj 3 (.slice A2 rj.length k2) := OwnR.keep hw1 (fun c hc => upd_ne (by have := OwnR.blk hw1 hc; omega)) (Nat.le_refl _)
  have hu2 : OwnL (upd H1 nb_ (.rw [.int .i64 tot, .slice A1 la.length k1, .int .i64 hand, .slice A2 rj.length k2, .bool false] 28)) (bR + 1) nx1 la 3 (.slice A1 la.length k1) := OwnR.keep hu1 (fun c hc => upd_ne (by have := OwnR.blk hu1 hc; omega)) (Nat.le_refl _)
  obtain ⟨ht3, hO3, hat3⟩ : Sub (upd H1 nb_ (.rw [.int .i64 tot, .slice A1 la.length k1, .int .i64 hand, .slice A2 rj.length k2, .bool false] 28)) H3 ∧ OwnL H3 (bR + 1) nx3 (putL rj hand) 3 v3 ∧ (∀ c, some c = ownBlk v3 → some c = ownBlk (.slice A2 rj.length k2) ∨ nb_ + 1 ≤ c) := by
    rcases hP3 with ⟨rfl, e, hs⟩ | ⟨ho, hs⟩
    · refine ⟨hs, ?_, fun c hc => .inl hc⟩
      rw [e]
      exact OwnR.sub hw2 hs (by omega)
    · exact ⟨hs, OwnR.lo ho (by omega), fun c hc => .inr (OwnR.blk ho hc).1⟩
  obtain ⟨A3, k3, rfl, _, _⟩ := OwnR.rd hO3
  have fO := ht3 nb_ _ (upd_same _ _ _)
  have fP3 := ht3 bP _ ((upd_ne (by omega)).trans fP)
  have fS3 := ht3 bS _ ((upd_ne (by omega)).trans fS)
  have fR3 := ht3 bR _ ((upd_ne (by omega)).trans fR)
  have hs3 : Sub H H3 := Sub.trans (by (repeat (first | assumption | exact Sub.refl _ | (refine sub_up (nx := nx) ?_ hB ?_; omega)))) ht3
  have hu3 := OwnR.subI hu2 ht3
  have hcO : ∀ c, some c = ownBlk (.slice A3 (putL rj hand).length k3) → c ≠ nb_ ∧ c ≠ bR := fun c hc => by
    have h9 := OwnR.blk hO3 hc
    rcases hat3 c hc with e | e
    · have := OwnR.blk hw1 e; omega
    · omega
  have hdis3 : ∀ c, some c = ownBlk (.slice A1 la.length k1) → some c = ownBlk (.slice A3 (putL rj hand).length k3) → False := fun c h1 h2 => by
    rcases hat3 c h2 with e | e
    · exact hdis c h1 e
    · have := OwnR.blk hu1 h1; omega
  cases e1 : decide (0 < hand)
  · have hno : stOk ⟨tot, la, hand, rj, false⟩ 4 pc = false := e1
    simp (disch := omega) only [bsW, WOp, WOq, WV, bo, eqN, gdc, gw, bnd, ↓reduceIte, Nat.reduceEqDiff, rsvs, rsv, oneOf, rdN, ne_eq, Nat.reduceAdd, Nat.reduceMul, Nat.reduceLT, reduceCtorEq, Value.cells, setN, Value.oneCell', Nat.reduceLeDiff, undef, fcT, rd_rw fS3, rd_rw fP3, fR3, fO, rd_rw fO, e1]
    (repeat' (first | ((with_reducible refine gif_split (fun hs_ => ?_) (fun hs_ => ?_)) <;> (have hp_ := hs_; (try simp only [hpL, ne_eq] at hp_); (try simp (disch := omega) only [bsW, WOp, WOq, WV, bo, eqN, gdc, gw, bnd, ↓reduceIte, Nat.reduceEqDiff, rsvs, rsv, oneOf, rdN, ne_eq, Nat.reduceAdd, Nat.reduceMul, Nat.reduceLT, reduceCtorEq, Value.cells, setN, Value.oneCell', Nat.reduceLeDiff, undef, fcT, rd_rw fS3, rd_rw fP3, fR3, fO, rd_rw fO, e1, hs_]))) | ((first | (with_reducible refine newB_i (fun nb_ hb_ => ?_)) | (with_reducible refine RgE_i (fun (hBd_ : Bd _ _) => ?_))); (try simp (disch := omega) only [bsW, WOp, WOq, WV, bo, eqN, gdc, gw, bnd, ↓reduceIte, Nat.reduceEqDiff, rsvs, rsv, oneOf, rdN, ne_eq, Nat.reduceAdd, Nat.reduceMul, Nat.reduceLT, reduceCtorEq, Value.cells, setN, Value.oneCell', Nat.reduceLeDiff, undef, fcT, rd_rw fS3, rd_rw fP3, fR3, fO, rd_rw fO, e1])) | (with_reducible refine fun (hBd_ : Bd _ _) => ?_) | ((first | (with_reducible refine @And.intro (Sub _ _) _ ?_ ?_) | ((with_reducible refine @And.intro (Sub _ _ ∧ _) _ ?_ ?_); (with_reducible refine @And.intro (Sub _ _) _ ?_ ?_))); exact sbX) | ((with_reducible refine And.intro ?_ ?_); omega)))
    all_goals try (exfalso; omega)
    refine mkK_no ⟨tot, la, 0, putL rj hand, false⟩ hno ?_ ?_
    · exact ⟨_, _, rfl, OwnR.lo (lo' := nx) (OwnR.keep hu3 (fun c hc => by have := OwnR.blk hu3 hc; repeat rw [upd_ne (by omega)]) (by omega)) (by omega), OwnR.lo (lo' := nx) (OwnR.keep hO3 (fun c hc => by have := hcO c hc; repeat rw [upd_ne (by omega)]) (by omega)) (by omega), hdis3⟩
    · (repeat (first | assumption | exact Sub.refl _ | (refine sub_up (nx := nx) ?_ hB ?_; omega)))
  · have hyes : stOk ⟨tot, la, hand, rj, false⟩ 4 pc = true := e1
    have hpi : putL rj hand = insA rj hand := putL_insA (hnr (by simpa using e1))
    simp (disch := omega) only [bsW, WOp, WOq, WV, bo, eqN, gdc, gw, bnd, ↓reduceIte, Nat.reduceEqDiff, rsvs, rsv, oneOf, rdN, ne_eq, Nat.reduceAdd, Nat.reduceMul, Nat.reduceLT, reduceCtorEq, Value.cells, setN, Value.oneCell', Nat.reduceLeDiff, undef, fcT, rd_rw fS3, rd_rw fP3, fR3, fO, rd_rw fO, e1]
    (repeat' (first | ((with_reducible refine gif_split (fun hs_ => ?_) (fun hs_ => ?_)) <;> (have hp_ := hs_; (try simp only [hpL, ne_eq] at hp_); (try simp (disch := omega) only [bsW, WOp, WOq, WV, bo, eqN, gdc, gw, bnd, ↓reduceIte, Nat.reduceEqDiff, rsvs, rsv, oneOf, rdN, ne_eq, Nat.reduceAdd, Nat.reduceMul, Nat.reduceLT, reduceCtorEq, Value.cells, setN, Value.oneCell', Nat.reduceLeDiff, undef, fcT, rd_rw fS3, rd_rw fP3, fR3, fO, rd_rw fO, e1, hs_]))) | ((first | (with_reducible refine newB_i (fun nb_ hb_ => ?_)) | (with_reducible refine RgE_i (fun (hBd_ : Bd _ _) => ?_))); (try simp (disch := omega) only [bsW, WOp, WOq, WV, bo, eqN, gdc, gw, bnd, ↓reduceIte, Nat.reduceEqDiff, rsvs, rsv, oneOf, rdN, ne_eq, Nat.reduceAdd, Nat.reduceMul, Nat.reduceLT, reduceCtorEq, Value.cells, setN, Value.oneCell', Nat.reduceLeDiff, undef, fcT, rd_rw fS3, rd_rw fP3, fR3, fO, rd_rw fO, e1])) | (with_reducible refine fun (hBd_ : Bd _ _) => ?_) | ((first | (with_reducible refine @And.intro (Sub _ _) _ ?_ ?_) | ((with_reducible refine @And.intro (Sub _ _ ∧ _) _ ?_ ?_); (with_reducible refine @And.intro (Sub _ _) _ ?_ ?_))); exact sbX) | ((with_reducible refine And.intro ?_ ?_); omega)))
    all_goals try (exfalso; omega)
    refine mkK_yes ⟨tot, la, 0, putL rj hand, false⟩ hyes (by rw [hpi]; rfl) ?_ ?_
    · exact ⟨_, _, rfl, OwnR.lo (lo' := nx) (OwnR.keep hu3 (fun c hc => by have := OwnR.blk hu3 hc; repeat rw [upd_ne (by omega)]) (by omega)) (by omega), OwnR.lo (lo' := nx) (OwnR.keep hO3 (fun c hc => by have := hcO c hc; repeat rw [upd_ne (by omega)]) (by omega)) (by omega), hdis3⟩
    · (repeat (first | assumption | exact Sub.refl _ | (refine sub_up (nx := nx) ?_ hB ?_; omega)))
theorem l21Make5 (tot : Int) (A : Option Addr) (la : List Int) (c : Nat) (hand : Int) (B : Option Addr) (rj : List Int) (d : Nat) (pc : Int) (H : Hp) (nx : Nat) (hv : PzOk tot la hand rj false) (hst : stepB 5 pc = true) (hla : la.length + rj.length ≤ 1048576) (hc : la.length ≤ c) (hA : RdL H A la) (hRB : RdL H B rj) :
    AC Tryd.prog 67 #[.agg #[.int .i64 tot, .slice A la.length c, .int .i64 hand, .slice B rj.length d, .bool false], .agg #[.int .i64 5, .int .i64 pc]] H nx (MkK H nx ⟨tot, la, hand, rj, false⟩ 5 pc) := by
  have e4 : stOk ⟨tot, la, hand, rj, false⟩ 5 pc = (decide (hand = 0) && decide (waitL tot la hand rj = [])) := rfl
  cases e1 : (hand == 0)
  · have hno : stOk ⟨tot, la, hand, rj, false⟩ 5 pc = false := by
      have : hand ≠ 0 := by simpa using e1
      rw [e4]; simp [this]
    refine AC_of x_spec_l21Make rfl fun hB => ?_
    simp (disch := omega) only [bsW, WOp, WOq, WV, bo, eqN, gdc, gw, bnd, ↓reduceIte, Nat.reduceEqDiff, rsvs, rsv, oneOf, rdN, ne_eq, Nat.reduceAdd, Nat.reduceMul, Nat.reduceLT, reduceCtorEq, Value.cells, setN, Value.oneCell', Nat.reduceLeDiff, undef, fcT, Int.reduceBEq, Int.reduceBNe, Int.reduceLT, Int.reduceNeg, c_spec_l21Make]
    (repeat' (first | ((with_reducible refine gif_split (fun hs_ => ?_) (fun hs_ => ?_)) <;> (have hp_ := hs_; (try simp only [hpL, ne_eq] at hp_); (try simp (disch := omega) only [bsW, WOp, WOq, WV, bo, eqN, gdc, gw, bnd, ↓reduceIte, Nat.reduceEqDiff, rsvs, rsv, oneOf, rdN, ne_eq, Nat.reduceAdd, Nat.reduceMul, Nat.reduceLT, reduceCtorEq, Value.cells, setN, Value.oneCell', Nat.reduceLeDiff, undef, fcT, Int.reduceBEq, Int.reduceBNe, Int.reduceLT, Int.reduceNeg, hs_]))) | ((first | (with_reducible refine newB_i (fun nb_ hb_ => ?_)) | (with_reducible refine RgE_i (fun (hBd_ : Bd _ _) => ?_))); (try simp (disch := omega) only [bsW, WOp, WOq, WV, bo, eqN, gdc, gw, bnd, ↓reduceIte, Nat.reduceEqDiff, rsvs, rsv, oneOf, rdN, ne_eq, Nat.reduceAdd, Nat.reduceMul, Nat.reduceLT, reduceCtorEq, Value.cells, setN, Value.oneCell', Nat.reduceLeDiff, undef, fcT, Int.reduceBEq, Int.reduceBNe, Int.reduceLT, Int.reduceNeg])) | (with_reducible refine fun (hBd_ : Bd _ _) => ?_) | ((first | (with_reducible refine @And.intro (Sub _ _) _ ?_ ?_) | ((with_reducible refine @And.intro (Sub _ _ ∧ _) _ ?_ ?_); (with_reducible refine @And.intro (Sub _ _) _ ?_ ?_))); exact sbX) | ((with_reducible refine And.intro ?_ ?_); omega)))
    all_goals try (exfalso; omega)
    rename_i bP hbP bS hbS
    have hbR := hb_
    generalize nb_ = bR at *
    have hs0 : Sub H (upd (upd (upd H bP (.rw [.int .i64 tot, .slice A la.length c, .int .i64 hand, .slice B rj.length d, .bool false] 28)) bS (.rw [.int .i64 5, .int .i64 pc] 41)) bR (.rw [.int .i64 0, .slice none 0 0, .int .i64 0, .slice none 0 0, .bool false] 28)) := by (repeat (first | assumption | exact Sub.refl _ | (refine sub_up (nx := nx) ?_ hB ?_; omega)))
    have fR : (upd (upd (upd H bP (.rw [.int .i64 tot, .slice A la.length c, .int .i64 hand, .slice B rj.length d, .bool false] 28)) bS (.rw [.int .i64 5, .int .i64 pc] 41)) bR (.rw [.int .i64 0, .slice none 0 0, .int .i64 0, .slice none 0 0, .bool false] 28)) bR = some (.rw [.int .i64 0, .slice none 0 0, .int .i64 0, .slice none 0 0, .bool false] 28) := upd_same _ _ _
    have fS : (upd (upd (upd H bP (.rw [.int .i64 tot, .slice A la.length c, .int .i64 hand, .slice B rj.length d, .bool false] 28)) bS (.rw [.int .i64 5, .int .i64 pc] 41)) bR (.rw [.int .i64 0, .slice none 0 0, .int .i64 0, .slice none 0 0, .bool false] 28)) bS = some (.rw [.int .i64 5, .int .i64 pc] 41) := (upd_ne (by omega)).trans (upd_same _ _ _)
    have fP : (upd (upd (upd H bP (.rw [.int .i64 tot, .slice A la.length c, .int .i64 hand, .slice B rj.length d, .bool false] 28)) bS (.rw [.int .i64 5, .int .i64 pc] 41)) bR (.rw [.int .i64 0, .slice none 0 0, .int .i64 0, .slice none 0 0, .bool false] 28)) bP = some (.rw [.int .i64 tot, .slice A la.length c, .int .i64 hand, .slice B rj.length d, .bool false] 28) := (upd_ne (by omega)).trans ((upd_ne (by omega)).trans (upd_same _ _ _))
    generalize (upd (upd (upd H bP (.rw [.int .i64 tot, .slice A la.length c, .int .i64 hand, .slice B rj.length d, .bool false] 28)) bS (.rw [.int .i64 5, .int .i64 pc] 41)) bR (.rw [.int .i64 0, .slice none 0 0, .int .i64 0, .slice none 0 0, .bool false] 28)) = H0 at *
    refine (l21Own tot A la c hand B rj d false _ _ (by omega) (by omega) (hA.sub hs0) (hRB.sub hs0)).monoC ?_
    rintro v1 H1 nx1 hB1 hx1 ⟨hO1, ht1⟩
    obtain ⟨u1, w1, rfl, hu1, hw1, hdis⟩ := hO1.ex
    obtain ⟨A1, k1, rfl, hk1, hR1⟩ := OwnR.rd hu1
    obtain ⟨A2, k2, rfl, hk2, hR2⟩ := OwnR.rd hw1
    have hs1 := hs0.trans ht1
    replace fR := ht1 bR _ fR
    replace fS := ht1 bS _ fS
    replace fP := ht1 bP _ fP
    have hu1 : OwnL H1 (bR + 1) nx1 la 3 (.slice A1 la.length k1) := hu1
    have hw1 : OwnL H1 (bR + 1) nx1 rj 3 (.slice A2 rj.length k2) := hw1
    have hk1 : la.length ≤ k1 := hk1
    have hk2 : rj.length ≤ k2 := hk2
    have hR2 : RdL H1 A2 rj := hR2
    simp (disch := omega) only [bsW, WOp, WOq, WV, bo, eqN, gdc, gw, bnd, ↓reduceIte, Nat.reduceEqDiff, rsvs, rsv, oneOf, rdN, ne_eq, Nat.reduceAdd, Nat.reduceMul, Nat.reduceLT, reduceCtorEq, Value.cells, setN, Value.oneCell', Nat.reduceLeDiff, undef, fcT, rd_rw fS, rd_rw fP, fR, Int.reduceBEq, Int.reduceBNe, Int.reduceLT, Int.reduceNeg, e1]
    (repeat' (first | ((with_reducible refine gif_split (fun hs_ => ?_) (fun hs_ => ?_)) <;> (have hp_ := hs_; (try simp only [hpL, ne_eq] at hp_); (try simp (disch := omega) only [bsW, WOp, WOq, WV, bo, eqN, gdc, gw, bnd, ↓reduceIte, Nat.reduceEqDiff, rsvs, rsv, oneOf, rdN, ne_eq, Nat.reduceAdd, Nat.reduceMul, Nat.reduceLT, reduceCtorEq, Value.cells, setN, Value.oneCell', Nat.reduceLeDiff, undef, fcT, rd_rw fS, rd_rw fP, fR, Int.reduceBEq, Int.reduceBNe, Int.reduceLT, Int.reduceNeg, e1, hs_]))) | ((first | (with_reducible refine newB_i (fun nb_ hb_ => ?_)) | (with_reducible refine RgE_i (fun (hBd_ : Bd _ _) => ?_))); (try simp (disch := omega) only [bsW, WOp, WOq, WV, bo, eqN, gdc, gw, bnd, ↓reduceIte, Nat.reduceEqDiff, rsvs, rsv, oneOf, rdN, ne_eq, Nat.reduceAdd, Nat.reduceMul, Nat.reduceLT, reduceCtorEq, Value.cells, setN, Value.oneCell', Nat.reduceLeDiff, undef, fcT, rd_rw fS, rd_rw fP, fR, Int.reduceBEq, Int.reduceBNe, Int.reduceLT, Int.reduceNeg, e1])) | (with_reducible refine fun (hBd_ : Bd _ _) => ?_) | ((first | (with_reducible refine @And.intro (Sub _ _) _ ?_ ?_) | ((with_reducible refine @And.intro (Sub _ _ ∧ _) _ ?_ ?_); (with_reducible refine @And.intro (Sub _ _) _ ?_ ?_))); exact sbX) | ((with_reducible refine And.intro ?_ ?_); omega)))
    all_goals try (exfalso; omega)
    all_goals
      refine mkK_no ⟨tot, la, hand, rj, true⟩ hno ?_ ?_
      · exact ⟨_, _, rfl, OwnR.lo (lo' := nx) (OwnR.keep hu1 (fun c hc => by have := OwnR.blk hu1 hc; repeat rw [upd_ne (by omega)]) (by omega)) (by omega), OwnR.lo (lo' := nx) (OwnR.keep hw1 (fun c hc => by have := OwnR.blk hw1 hc; repeat rw [upd_ne (by omega)]) (by omega)) (by omega), hdis⟩
      · (repeat (first | assumption | exact Sub.refl _ | (refine sub_up (nx := nx) ?_ hB ?_; omega)))
  · have h0 : hand = 0 := by simpa using e1
    refine AC_of x_spec_l21Make rfl fun hB => ?_
    simp (disch := omega) only [bsW, WOp, WOq, WV, bo, eqN, gdc, gw, bnd, ↓reduceIte, Nat.reduceEqDiff, rsvs, rsv, oneOf, rdN, ne_eq, Nat.reduceAdd, Nat.reduceMul, Nat.reduceLT, reduceCtorEq, Value.cells, setN, Value.oneCell', Nat.reduceLeDiff, undef, fcT, Int.reduceBEq, Int.reduceBNe, Int.reduceLT, Int.reduceNeg, c_spec_l21Make]
    (repeat' (first | ((with_reducible refine gif_split (fun hs_ => ?_) (fun hs_ => ?_)) <;> (have hp_ := hs_; (try simp only [hpL, ne_eq] at hp_); (try simp (disch := omega) only [bsW, WOp, WOq, WV, bo, eqN, gdc, gw, bnd, ↓reduceIte, Nat.reduceEqDiff, rsvs, rsv, oneOf, rdN, ne_eq, Nat.reduceAdd, Nat.reduceMul, Nat.reduceLT, reduceCtorEq, Value.cells, setN, Value.oneCell', Nat.reduceLeDiff, undef, fcT, Int.reduceBEq, Int.reduceBNe, Int.reduceLT, Int.reduceNeg, hs_]))) | ((first | (with_reducible refine newB_i (fun nb_ hb_ => ?_)) | (with_reducible refine RgE_i (fun (hBd_ : Bd _ _) => ?_))); (try simp (disch := omega) only [bsW, WOp, WOq, WV, bo, eqN, gdc, gw, bnd, ↓reduceIte, Nat.reduceEqDiff, rsvs, rsv, oneOf, rdN, ne_eq, Nat.reduceAdd, Nat.reduceMul, Nat.reduceLT, reduceCtorEq, Value.cells, setN, Value.oneCell', Nat.reduceLeDiff, undef, fcT, Int.reduceBEq, Int.reduceBNe, Int.reduceLT, Int.reduceNeg])) | (with_reducible refine fun (hBd_ : Bd _ _) => ?_) | ((first | (with_reducible refine @And.intro (Sub _ _) _ ?_ ?_) | ((with_reducible refine @And.intro (Sub _ _ ∧ _) _ ?_ ?_); (with_reducible refine @And.intro (Sub _ _) _ ?_ ?_))); exact sbX) | ((with_reducible refine And.intro ?_ ?_); omega)))
    all_goals try (exfalso; omega)
    rename_i bP hbP bS hbS
    have hbR := hb_
    generalize nb_ = bR at *
    have hs0 : Sub H (upd (upd (upd H bP (.rw [.int .i64 tot, .slice A la.length c, .int .i64 hand, .slice B rj.length d, .bool false] 28)) bS (.rw [.int .i64 5, .int .i64 pc] 41)) bR (.rw [.int .i64 0, .slice none 0 0, .int .i64 0, .slice none 0 0, .bool false] 28)) := by (repeat (first | assumption | exact Sub.refl _ | (refine sub_up (nx := nx) ?_ hB ?_; omega)))
    have fR : (upd (upd (upd H bP (.rw [.int .i64 tot, .slice A la.length c, .int .i64 hand, .slice B rj.length d, .bool false] 28)) bS (.rw [.int .i64 5, .int .i64 pc] 41)) bR (.rw [.int .i64 0, .slice none 0 0, .int .i64 0, .slice none 0 0, .bool false] 28)) bR = some (.rw [.int .i64 0, .slice none 0 0, .int .i64 0, .slice none 0 0, .bool false] 28) := upd_same _ _ _
    have fS : (upd (upd (upd H bP (.rw [.int .i64 tot, .slice A la.length c, .int .i64 hand, .slice B rj.length d, .bool false] 28)) bS (.rw [.int .i64 5, .int .i64 pc] 41)) bR (.rw [.int .i64 0, .slice none 0 0, .int .i64 0, .slice none 0 0, .bool false] 28)) bS = some (.rw [.int .i64 5, .int .i64 pc] 41) := (upd_ne (by omega)).trans (upd_same _ _ _)
    have fP : (upd (upd (upd H bP (.rw [.int .i64 tot, .slice A la.length c, .int .i64 hand, .slice B rj.length d, .bool false] 28)) bS (.rw [.int .i64 5, .int .i64 pc] 41)) bR (.rw [.int .i64 0, .slice none 0 0, .int .i64 0, .slice none 0 0, .bool false] 28)) bP = some (.rw [.int .i64 tot, .slice A la.length c, .int .i64 hand, .slice B rj.length d, .bool false] 28) := (upd_ne (by omega)).trans ((upd_ne (by omega)).trans (upd_same _ _ _))
    generalize (upd (upd (upd H bP (.rw [.int .i64 tot, .slice A la.length c, .int .i64 hand, .slice B rj.length d, .bool false] 28)) bS (.rw [.int .i64 5, .int .i64 pc] 41)) bR (.rw [.int .i64 0, .slice none 0 0, .int .i64 0, .slice none 0 0, .bool false] 28)) = H0 at *
    refine (l21Own tot A la c hand B rj d false _ _ (by omega) (by omega) (hA.sub hs0) (hRB.sub hs0)).monoC ?_
    rintro v1 H1 nx1 hB1 hx1 ⟨hO1, ht1⟩
    obtain ⟨u1, w1, rfl, hu1, hw1, hdis⟩ := hO1.ex
    obtain ⟨A1, k1, rfl, hk1, hR1⟩ := OwnR.rd hu1
    obtain ⟨A2, k2, rfl, hk2, hR2⟩ := OwnR.rd hw1
    have hs1 := hs0.trans ht1
    replace fR := ht1 bR _ fR
    replace fS := ht1 bS _ fS
    replace fP := ht1 bP _ fP
    have hu1 : OwnL H1 (bR + 1) nx1 la 3 (.slice A1 la.length k1) := hu1
    have hw1 : OwnL H1 (bR + 1) nx1 rj 3 (.slice A2 rj.length k2) := hw1
    have hk1 : la.length ≤ k1 := hk1
    have hk2 : rj.length ≤ k2 := hk2
    have hR2 : RdL H1 A2 rj := hR2
    simp (disch := omega) only [bsW, WOp, WOq, WV, bo, eqN, gdc, gw, bnd, ↓reduceIte, Nat.reduceEqDiff, rsvs, rsv, oneOf, rdN, ne_eq, Nat.reduceAdd, Nat.reduceMul, Nat.reduceLT, reduceCtorEq, Value.cells, setN, Value.oneCell', Nat.reduceLeDiff, undef, fcT, rd_rw fS, rd_rw fP, fR, Int.reduceBEq, Int.reduceBNe, Int.reduceLT, Int.reduceNeg, e1]
    (repeat' (first | ((with_reducible refine gif_split (fun hs_ => ?_) (fun hs_ => ?_)) <;> (have hp_ := hs_; (try simp only [hpL, ne_eq] at hp_); (try simp (disch := omega) only [bsW, WOp, WOq, WV, bo, eqN, gdc, gw, bnd, ↓reduceIte, Nat.reduceEqDiff, rsvs, rsv, oneOf, rdN, ne_eq, Nat.reduceAdd, Nat.reduceMul, Nat.reduceLT, reduceCtorEq, Value.cells, setN, Value.oneCell', Nat.reduceLeDiff, undef, fcT, rd_rw fS, rd_rw fP, fR, Int.reduceBEq, Int.reduceBNe, Int.reduceLT, Int.reduceNeg, e1, hs_]))) | ((first | (with_reducible refine newB_i (fun nb_ hb_ => ?_)) | (with_reducible refine RgE_i (fun (hBd_ : Bd _ _) => ?_))); (try simp (disch := omega) only [bsW, WOp, WOq, WV, bo, eqN, gdc, gw, bnd, ↓reduceIte, Nat.reduceEqDiff, rsvs, rsv, oneOf, rdN, ne_eq, Nat.reduceAdd, Nat.reduceMul, Nat.reduceLT, reduceCtorEq, Value.cells, setN, Value.oneCell', Nat.reduceLeDiff, undef, fcT, rd_rw fS, rd_rw fP, fR, Int.reduceBEq, Int.reduceBNe, Int.reduceLT, Int.reduceNeg, e1])) | (with_reducible refine fun (hBd_ : Bd _ _) => ?_) | ((first | (with_reducible refine @And.intro (Sub _ _) _ ?_ ?_) | ((with_reducible refine @And.intro (Sub _ _ ∧ _) _ ?_ ?_); (with_reducible refine @And.intro (Sub _ _) _ ?_ ?_))); exact sbX) | ((with_reducible refine And.intro ?_ ?_); omega)))
    all_goals try (exfalso; omega)
    have ht2 : Sub H1 (upd H1 nb_ (.rw [.int .i64 tot, .slice A1 la.length k1, .int .i64 hand, .slice A2 rj.length k2, .bool true] 28)) := sub_up (nx := nx1) (by omega) hB1 (Sub.refl _)
    have hbO := hb_
    have fO : (upd H1 nb_ (.rw [.int .i64 tot, .slice A1 la.length k1, .int .i64 hand, .slice A2 rj.length k2, .bool true] 28)) nb_ = some (.rw [.int .i64 tot, .slice A1 la.length k1, .int .i64 hand, .slice A2 rj.length k2, .bool true] 28) := upd_same _ _ _
    have hB2 : Bd (upd H1 nb_ (.rw [.int .i64 tot, .slice A1 la.length k1, .int .i64 hand, .slice A2 rj.length k2, .bool true] 28)) (nb_ + 1) := Bd.up hB1 (by omega)
    generalize (upd H1 nb_ (.rw [.int .i64 tot, .slice A1 la.length k1, .int .i64 hand, .slice A2 rj.length k2, .bool true] 28)) = H2 at *
    generalize nb_ = bO at *
    replace fS := ht2 _ _ fS
    replace fR := ht2 _ _ fR
    replace fP := ht2 _ _ fP
    replace hu1 := OwnR.subI hu1 ht2
    replace hw1 := OwnR.subI hw1 ht2
    have hs2 := hs1.trans ht2
    refine (l21Waiting tot A la c hand B rj d false _ _ (by omega) (by omega) (by have := hv.t2; omega) (hA.sub hs2) (hRB.sub hs2)).monoC ?_
    rintro v3 H3 nx3 hB3 hx3 ⟨hO3, ht3⟩
    obtain ⟨A3, k3, rfl, _, hR3⟩ := OwnR.rd hO3
    replace hR3 : RdL H3 A3 (waitK la hand rj tot.toNat) := hR3
    have hwl := waitK_len la hand rj tot.toNat
    have ht20 := hv.t2
    replace fS := ht3 _ _ fS
    replace fR := ht3 _ _ fR
    replace fO := ht3 _ _ fO
    replace fP := ht3 _ _ fP
    replace hu1 := OwnR.subI hu1 ht3
    replace hw1 := OwnR.subI hw1 ht3
    have hs3 := hs2.trans ht3
    cases e2 : (((waitK la hand rj tot.toNat).length : Int) == 0)
    · have hno : stOk ⟨tot, la, hand, rj, false⟩ 5 pc = false := by
        have e3 : waitL tot la hand rj ≠ [] := fun e => by
          have : waitK la hand rj tot.toNat = [] := e
          rw [this] at e2; simp at e2
        rw [e4, decide_eq_false e3, Bool.and_false]
      simp (disch := omega) only [bsW, WOp, WOq, WV, bo, eqN, gdc, gw, bnd, ↓reduceIte, Nat.reduceEqDiff, rsvs, rsv, oneOf, rdN, ne_eq, Nat.reduceAdd, Nat.reduceMul, Nat.reduceLT, reduceCtorEq, Value.cells, setN, Value.oneCell', Nat.reduceLeDiff, undef, fcT, rd_rw fS, rd_rw fP, fR, rd_rw fO, e2, Int.reduceBEq]
      (repeat' (first | ((with_reducible refine gif_split (fun hs_ => ?_) (fun hs_ => ?_)) <;> (have hp_ := hs_; (try simp only [hpL, ne_eq] at hp_); (try simp (disch := omega) only [bsW, WOp, WOq, WV, bo, eqN, gdc, gw, bnd, ↓reduceIte, Nat.reduceEqDiff, rsvs, rsv, oneOf, rdN, ne_eq, Nat.reduceAdd, Nat.reduceMul, Nat.reduceLT, reduceCtorEq, Value.cells, setN, Value.oneCell', Nat.reduceLeDiff, undef, fcT, rd_rw fS, rd_rw fP, fR, rd_rw fO, e2, Int.reduceBEq, hs_]))) | ((first | (with_reducible refine newB_i (fun nb_ hb_ => ?_)) | (with_reducible refine RgE_i (fun (hBd_ : Bd _ _) => ?_))); (try simp (disch := omega) only [bsW, WOp, WOq, WV, bo, eqN, gdc, gw, bnd, ↓reduceIte, Nat.reduceEqDiff, rsvs, rsv, oneOf, rdN, ne_eq, Nat.reduceAdd, Nat.reduceMul, Nat.reduceLT, reduceCtorEq, Value.cells, setN, Value.oneCell', Nat.reduceLeDiff, undef, fcT, rd_rw fS, rd_rw fP, fR, rd_rw fO, e2, Int.reduceBEq])) | (with_reducible refine fun (hBd_ : Bd _ _) => ?_) | ((first | (with_reducible refine @And.intro (Sub _ _) _ ?_ ?_) | ((with_reducible refine @And.intro (Sub _ _ ∧ _) _ ?_ ?_); (with_reducible refine @And.intro (Sub _ _) _ ?_ ?_))); exact sbX) | ((with_reducible refine And.intro ?_ ?_); omega)))
      all_goals try (exfalso; omega)
      all_goals
        refine mkK_no ⟨tot, la, hand, rj, true⟩ hno ?_ ?_
        · exact ⟨_, _, rfl, OwnR.lo (lo' := nx) (OwnR.keep hu1 (fun c hc => by have := OwnR.blk hu1 hc; repeat rw [upd_ne (by omega)]) (by omega)) (by omega), OwnR.lo (lo' := nx) (OwnR.keep hw1 (fun c hc => by have := OwnR.blk hw1 hc; repeat rw [upd_ne (by omega)]) (by omega)) (by omega), hdis⟩
        · (repeat (first | assumption | exact Sub.refl _ | (refine sub_up (nx := nx) ?_ hB ?_; omega)))
    · have hyes : stOk ⟨tot, la, hand, rj, false⟩ 5 pc = true := by
        have e3 : waitL tot la hand rj = [] := by
          have e5 : ((waitK la hand rj tot.toNat).length : Int) = 0 := by simpa using e2
          exact List.eq_nil_of_length_eq_zero (show (waitK la hand rj tot.toNat).length = 0 by omega)
        rw [e4, decide_eq_true e3, decide_eq_true h0]; rfl
      simp (disch := omega) only [bsW, WOp, WOq, WV, bo, eqN, gdc, gw, bnd, ↓reduceIte, Nat.reduceEqDiff, rsvs, rsv, oneOf, rdN, ne_eq, Nat.reduceAdd, Nat.reduceMul, Nat.reduceLT, reduceCtorEq, Value.cells, setN, Value.oneCell', Nat.reduceLeDiff, undef, fcT, rd_rw fS, rd_rw fP, fR, rd_rw fO, e2, Int.reduceBEq]
      (repeat' (first | ((with_reducible refine gif_split (fun hs_ => ?_) (fun hs_ => ?_)) <;> (have hp_ := hs_; (try simp only [hpL, ne_eq] at hp_); (try simp (disch := omega) only [bsW, WOp, WOq, WV, bo, eqN, gdc, gw, bnd, ↓reduceIte, Nat.reduceEqDiff, rsvs, rsv, oneOf, rdN, ne_eq, Nat.reduceAdd, Nat.reduceMul, Nat.reduceLT, reduceCtorEq, Value.cells, setN, Value.oneCell', Nat.reduceLeDiff, undef, fcT, rd_rw fS, rd_rw fP, fR, rd_rw fO, e2, Int.reduceBEq, hs_]))) | ((first | (with_reducible refine newB_i (fun nb_ hb_ => ?_)) | (with_reducible refine RgE_i (fun (hBd_ : Bd _ _) => ?_))); (try simp (disch := omega) only [bsW, WOp, WOq, WV, bo, eqN, gdc, gw, bnd, ↓reduceIte, Nat.reduceEqDiff, rsvs, rsv, oneOf, rdN, ne_eq, Nat.reduceAdd, Nat.reduceMul, Nat.reduceLT, reduceCtorEq, Value.cells, setN, Value.oneCell', Nat.reduceLeDiff, undef, fcT, rd_rw fS, rd_rw fP, fR, rd_rw fO, e2, Int.reduceBEq])) | (with_reducible refine fun (hBd_ : Bd _ _) => ?_) | ((first | (with_reducible refine @And.intro (Sub _ _) _ ?_ ?_) | ((with_reducible refine @And.intro (Sub _ _ ∧ _) _ ?_ ?_); (with_reducible refine @And.intro (Sub _ _) _ ?_ ?_))); exact sbX) | ((with_reducible refine And.intro ?_ ?_); omega)))
      all_goals try (exfalso; omega)
      all_goals
        refine mkK_yes ⟨tot, la, hand, rj, true⟩ hyes rfl ?_ ?_
        · exact ⟨_, _, rfl, OwnR.lo (lo' := nx) (OwnR.keep hu1 (fun c hc => by have := OwnR.blk hu1 hc; repeat rw [upd_ne (by omega)]) (by omega)) (by omega), OwnR.lo (lo' := nx) (OwnR.keep hw1 (fun c hc => by have := OwnR.blk hw1 hc; repeat rw [upd_ne (by omega)]) (by omega)) (by omega), hdis⟩
        · (repeat (first | assumption | exact Sub.refl _ | (refine sub_up (nx := nx) ?_ hB ?_; omega)))
theorem l21Make6 (tot : Int) (A : Option Addr) (la : List Int) (c : Nat) (hand : Int) (B : Option Addr) (rj : List Int) (d : Nat) (pc : Int) (H : Hp) (nx : Nat) (hv : PzOk tot la hand rj false) (hst : stepB 6 pc = true) (hla : la.length + rj.length ≤ 1048576) (hc : la.length ≤ c) (hA : RdL H A la) (hRB : RdL H B rj) :
    AC Tryd.prog 67 #[.agg #[.int .i64 tot, .slice A la.length c, .int .i64 hand, .slice B rj.length d, .bool false], .agg #[.int .i64 6, .int .i64 pc]] H nx (MkK H nx ⟨tot, la, hand, rj, false⟩ 6 pc) := by
  have hno : stOk ⟨tot, la, hand, rj, false⟩ 6 pc = false := rfl
  refine AC_of x_spec_l21Make rfl fun hB => ?_
  simp (disch := omega) only [bsW, WOp, WOq, WV, bo, eqN, gdc, gw, bnd, ↓reduceIte, Nat.reduceEqDiff, rsvs, rsv, oneOf, rdN, ne_eq, Nat.reduceAdd, Nat.reduceMul, Nat.reduceLT, reduceCtorEq, Value.cells, setN, Value.oneCell', Nat.reduceLeDiff, undef, fcT, Int.reduceBEq, Int.reduceBNe, Int.reduceLT, Int.reduceNeg, c_spec_l21Make]
  (repeat' (first | ((with_reducible refine gif_split (fun hs_ => ?_) (fun hs_ => ?_)) <;> (have hp_ := hs_; (try simp only [hpL, ne_eq] at hp_); (try simp (disch := omega) only [bsW, WOp, WOq, WV, bo, eqN, gdc, gw, bnd, ↓reduceIte, Nat.reduceEqDiff, rsvs, rsv, oneOf, rdN, ne_eq, Nat.reduceAdd, Nat.reduceMul, Nat.reduceLT, reduceCtorEq, Value.cells, setN, Value.oneCell', Nat.reduceLeDiff, undef, fcT, Int.reduceBEq, Int.reduceBNe, Int.reduceLT, Int.reduceNeg, hs_]))) | ((first | (with_reducible refine newB_i (fun nb_ hb_ => ?_)) | (with_reducible refine RgE_i (fun (hBd_ : Bd _ _) => ?_))); (try simp (disch := omega) only [bsW, WOp, WOq, WV, bo, eqN, gdc, gw, bnd, ↓reduceIte, Nat.reduceEqDiff, rsvs, rsv, oneOf, rdN, ne_eq, Nat.reduceAdd, Nat.reduceMul, Nat.reduceLT, reduceCtorEq, Value.cells, setN, Value.oneCell', Nat.reduceLeDiff, undef, fcT, Int.reduceBEq, Int.reduceBNe, Int.reduceLT, Int.reduceNeg])) | (with_reducible refine fun (hBd_ : Bd _ _) => ?_) | ((first | (with_reducible refine @And.intro (Sub _ _) _ ?_ ?_) | ((with_reducible refine @And.intro (Sub _ _ ∧ _) _ ?_ ?_); (with_reducible refine @And.intro (Sub _ _) _ ?_ ?_))); exact sbX) | ((with_reducible refine And.intro ?_ ?_); omega)))
  all_goals try (exfalso; omega)
  rename_i bP hbP bS hbS
  have hbR := hb_
  generalize nb_ = bR at *
  have hs0 : Sub H (upd (upd (upd H bP (.rw [.int .i64 tot, .slice A la.length c, .int .i64 hand, .slice B rj.length d, .bool false] 28)) bS (.rw [.int .i64 6, .int .i64 pc] 41)) bR (.rw [.int .i64 0, .slice none 0 0, .int .i64 0, .slice none 0 0, .bool false] 28)) := by (repeat (first | assumption | exact Sub.refl _ | (refine sub_up (nx := nx) ?_ hB ?_; omega)))
  have fR : (upd (upd (upd H bP (.rw [.int .i64 tot, .slice A la.length c, .int .i64 hand, .slice B rj.length d, .bool false] 28)) bS (.rw [.int .i64 6, .int .i64 pc] 41)) bR (.rw [.int .i64 0, .slice none 0 0, .int .i64 0, .slice none 0 0, .bool false] 28)) bR = some (.rw [.int .i64 0, .slice none 0 0, .int .i64 0, .slice none 0 0, .bool false] 28) := upd_same _ _ _
  have fS : (upd (upd (upd H bP (.rw [.int .i64 tot, .slice A la.length c, .int .i64 hand, .slice B rj.length d, .bool false] 28)) bS (.rw [.int .i64 6, .int .i64 pc] 41)) bR (.rw [.int .i64 0, .slice none 0 0, .int .i64 0, .slice none 0 0, .bool false] 28)) bS = some (.rw [.int .i64 6, .int .i64 pc] 41) := (upd_ne (by omega)).trans (upd_same _ _ _)
  have fP : (upd (upd (upd H bP (.rw [.int .i64 tot, .slice A la.length c, .int .i64 hand, .slice B rj.length d, .bool false] 28)) bS (.rw [.int .i64 6, .int .i64 pc] 41)) bR (.rw [.int .i64 0, .slice none 0 0, .int .i64 0, .slice none 0 0, .bool false] 28)) bP = some (.rw [.int .i64 tot, .slice A la.length c, .int .i64 hand, .slice B rj.length d, .bool false] 28) := (upd_ne (by omega)).trans ((upd_ne (by omega)).trans (upd_same _ _ _))
  generalize (upd (upd (upd H bP (.rw [.int .i64 tot, .slice A la.length c, .int .i64 hand, .slice B rj.length d, .bool false] 28)) bS (.rw [.int .i64 6, .int .i64 pc] 41)) bR (.rw [.int .i64 0, .slice none 0 0, .int .i64 0, .slice none 0 0, .bool false] 28)) = H0 at *
  refine (l21Own tot A la c hand B rj d false _ _ (by omega) (by omega) (hA.sub hs0) (hRB.sub hs0)).monoC ?_
  rintro v1 H1 nx1 hB1 hx1 ⟨hO1, ht1⟩
  obtain ⟨u1, w1, rfl, hu1, hw1, hdis⟩ := hO1.ex
  obtain ⟨A1, k1, rfl, hk1, hR1⟩ := OwnR.rd hu1
  obtain ⟨A2, k2, rfl, hk2, hR2⟩ := OwnR.rd hw1
  have hs1 := hs0.trans ht1
  replace fR := ht1 bR _ fR
  replace fS := ht1 bS _ fS
  replace fP := ht1 bP _ fP
  have hu1 : OwnL H1 (bR + 1) nx1 la 3 (.slice A1 la.length k1) := hu1
  have hw1 : OwnL H1 (bR + 1) nx1 rj 3 (.slice A2 rj.length k2) := hw1
  have hk1 : la.length ≤ k1 := hk1
  have hk2 : rj.length ≤ k2 := hk2
  have hR2 : RdL H1 A2 rj := hR2
  simp (disch := omega) only [bsW, WOp, WOq, WV, bo, eqN, gdc, gw, bnd, ↓reduceIte, Nat.reduceEqDiff, rsvs, rsv, oneOf, rdN, ne_eq, Nat.reduceAdd, Nat.reduceMul, Nat.reduceLT, reduceCtorEq, Value.cells, setN, Value.oneCell', Nat.reduceLeDiff, undef, fcT, rd_rw fS, rd_rw fP, fR, Int.reduceBEq, Int.reduceBNe, Int.reduceLT, Int.reduceNeg]
  (repeat' (first | ((with_reducible refine gif_split (fun hs_ => ?_) (fun hs_ => ?_)) <;> (have hp_ := hs_; (try simp only [hpL, ne_eq] at hp_); (try simp (disch := omega) only [bsW, WOp, WOq, WV, bo, eqN, gdc, gw, bnd, ↓reduceIte, Nat.reduceEqDiff, rsvs, rsv, oneOf, rdN, ne_eq, Nat.reduceAdd, Nat.reduceMul, Nat.reduceLT, reduceCtorEq, Value.cells, setN, Value.oneCell', Nat.reduceLeDiff, undef, fcT, rd_rw fS, rd_rw fP, fR, Int.reduceBEq, Int.reduceBNe, Int.reduceLT, Int.reduceNeg, hs_]))) | ((first | (with_reducible refine newB_i (fun nb_ hb_ => ?_)) | (with_reducible refine RgE_i (fun (hBd_ : Bd _ _) => ?_))); (try simp (disch := omega) only [bsW, WOp, WOq, WV, bo, eqN, gdc, gw, bnd, ↓reduceIte, Nat.reduceEqDiff, rsvs, rsv, oneOf, rdN, ne_eq, Nat.reduceAdd, Nat.reduceMul, Nat.reduceLT, reduceCtorEq, Value.cells, setN, Value.oneCell', Nat.reduceLeDiff, undef, fcT, rd_rw fS, rd_rw fP, fR, Int.reduceBEq, Int.reduceBNe, Int.reduceLT, Int.reduceNeg])) | (with_reducible refine fun (hBd_ : Bd _ _) => ?_) | ((first | (with_reducible refine @And.intro (Sub _ _) _ ?_ ?_) | ((with_reducible refine @And.intro (Sub _ _ ∧ _) _ ?_ ?_); (with_reducible refine @And.intro (Sub _ _) _ ?_ ?_))); exact sbX) | ((with_reducible refine And.intro ?_ ?_); omega)))
  all_goals try (exfalso; omega)
  refine mkK_no ⟨tot, la, hand, rj, false⟩ hno ?_ ?_
  · exact ⟨_, _, rfl, OwnR.lo (lo' := nx) (OwnR.keep hu1 (fun c hc => by have := OwnR.blk hu1 hc; repeat rw [upd_ne (by omega)]) (by omega)) (by omega), OwnR.lo (lo' := nx) (OwnR.keep hw1 (fun c hc => by have := OwnR.blk hw1 hc; repeat rw [upd_ne (by omega)]) (by omega)) (by omega), hdis⟩
  · (repeat (first | assumption | exact Sub.refl _ | (refine sub_up (nx := nx) ?_ hB ?_; omega)))
theorem l21Make (tot : Int) (A : Option Addr) (la : List Int) (c : Nat) (hand : Int) (B : Option Addr) (rj : List Int) (d : Nat) (sl : Bool) (kd pc : Int) (H : Hp) (nx : Nat) (hv : PzOk tot la hand rj sl) (hst : stepB kd pc = true) (hla : la.length + rj.length ≤ 1048576) (hc : la.length ≤ c) (hA : RdL H A la) (hRB : RdL H B rj) :
    AC Tryd.prog 67 #[.agg #[.int .i64 tot, .slice A la.length c, .int .i64 hand, .slice B rj.length d, .bool sl], .agg #[.int .i64 kd, .int .i64 pc]] H nx (MkK H nx ⟨tot, la, hand, rj, sl⟩ kd pc) := by
  cases sl
  rotate_left
  · have hno : stOk ⟨tot, la, hand, rj, true⟩ kd pc = (kd == 6) := by
      have e : stOk ⟨tot, la, hand, rj, true⟩ kd pc = decide (kd = 6) := rfl
      rw [e]; rfl
    cases d0 : (kd == 6)
    · rw [d0] at hno
      refine AC_of x_spec_l21Make rfl fun hB => ?_
      simp (disch := omega) only [bsW, WOp, WOq, WV, bo, eqN, gdc, gw, bnd, ↓reduceIte, Nat.reduceEqDiff, rsvs, rsv, oneOf, rdN, ne_eq, Nat.reduceAdd, Nat.reduceMul, Nat.reduceLT, reduceCtorEq, Value.cells, setN, Value.oneCell', Nat.reduceLeDiff, undef, fcT, Int.reduceBEq, Int.reduceBNe, Int.reduceLT, Int.reduceNeg, c_spec_l21Make]
      (repeat' (first | ((with_reducible refine gif_split (fun hs_ => ?_) (fun hs_ => ?_)) <;> (have hp_ := hs_; (try simp only [hpL, ne_eq] at hp_); (try simp (disch := omega) only [bsW, WOp, WOq, WV, bo, eqN, gdc, gw, bnd, ↓reduceIte, Nat.reduceEqDiff, rsvs, rsv, oneOf, rdN, ne_eq, Nat.reduceAdd, Nat.reduceMul, Nat.reduceLT, reduceCtorEq, Value.cells, setN, Value.oneCell', Nat.reduceLeDiff, undef, fcT, Int.reduceBEq, Int.reduceBNe, Int.reduceLT, Int.reduceNeg, hs_]))) | ((first | (with_reducible refine newB_i (fun nb_ hb_ => ?_)) | (with_reducible refine RgE_i (fun (hBd_ : Bd _ _) => ?_))); (try simp (disch := omega) only [bsW, WOp, WOq, WV, bo, eqN, gdc, gw, bnd, ↓reduceIte, Nat.reduceEqDiff, rsvs, rsv, oneOf, rdN, ne_eq, Nat.reduceAdd, Nat.reduceMul, Nat.reduceLT, reduceCtorEq, Value.cells, setN, Value.oneCell', Nat.reduceLeDiff, undef, fcT, Int.reduceBEq, Int.reduceBNe, Int.reduceLT, Int.reduceNeg])) | (with_reducible refine fun (hBd_ : Bd _ _) => ?_) | ((first | (with_reducible refine @And.intro (Sub _ _) _ ?_ ?_) | ((with_reducible refine @And.intro (Sub _ _ ∧ _) _ ?_ ?_); (with_reducible refine @And.intro (Sub _ _) _ ?_ ?_))); exact sbX) | ((with_reducible refine And.intro ?_ ?_); omega)))
      all_goals try (exfalso; omega)
      rename_i bP hbP bS hbS
      have hbR := hb_
      generalize nb_ = bR at *
      have hs0 : Sub H (upd (upd (upd H bP (.rw [.int .i64 tot, .slice A la.length c, .int .i64 hand, .slice B rj.length d, .bool true] 28)) bS (.rw [.int .i64 kd, .int .i64 pc] 41)) bR (.rw [.int .i64 0, .slice none 0 0, .int .i64 0, .slice none 0 0, .bool false] 28)) := by (repeat (first | assumption | exact Sub.refl _ | (refine sub_up (nx := nx) ?_ hB ?_; omega)))
      have fR : (upd (upd (upd H bP (.rw [.int .i64 tot, .slice A la.length c, .int .i64 hand, .slice B rj.length d, .bool true] 28)) bS (.rw [.int .i64 kd, .int .i64 pc] 41)) bR (.rw [.int .i64 0, .slice none 0 0, .int .i64 0, .slice none 0 0, .bool false] 28)) bR = some (.rw [.int .i64 0, .slice none 0 0, .int .i64 0, .slice none 0 0, .bool false] 28) := upd_same _ _ _
      have fS : (upd (upd (upd H bP (.rw [.int .i64 tot, .slice A la.length c, .int .i64 hand, .slice B rj.length d, .bool true] 28)) bS (.rw [.int .i64 kd, .int .i64 pc] 41)) bR (.rw [.int .i64 0, .slice none 0 0, .int .i64 0, .slice none 0 0, .bool false] 28)) bS = some (.rw [.int .i64 kd, .int .i64 pc] 41) := (upd_ne (by omega)).trans (upd_same _ _ _)
      have fP : (upd (upd (upd H bP (.rw [.int .i64 tot, .slice A la.length c, .int .i64 hand, .slice B rj.length d, .bool true] 28)) bS (.rw [.int .i64 kd, .int .i64 pc] 41)) bR (.rw [.int .i64 0, .slice none 0 0, .int .i64 0, .slice none 0 0, .bool false] 28)) bP = some (.rw [.int .i64 tot, .slice A la.length c, .int .i64 hand, .slice B rj.length d, .bool true] 28) := (upd_ne (by omega)).trans ((upd_ne (by omega)).trans (upd_same _ _ _))
      generalize (upd (upd (upd H bP (.rw [.int .i64 tot, .slice A la.length c, .int .i64 hand, .slice B rj.length d, .bool true] 28)) bS (.rw [.int .i64 kd, .int .i64 pc] 41)) bR (.rw [.int .i64 0, .slice none 0 0, .int .i64 0, .slice none 0 0, .bool false] 28)) = H0 at *
      refine (l21Own tot A la c hand B rj d true _ _ (by omega) (by omega) (hA.sub hs0) (hRB.sub hs0)).monoC ?_
      rintro v1 H1 nx1 hB1 hx1 ⟨hO1, ht1⟩
      obtain ⟨u1, w1, rfl, hu1, hw1, hdis⟩ := hO1.ex
      obtain ⟨A1, k1, rfl, hk1, hR1⟩ := OwnR.rd hu1
      obtain ⟨A2, k2, rfl, hk2, hR2⟩ := OwnR.rd hw1
      have hs1 := hs0.trans ht1
      replace fR := ht1 bR _ fR
      replace fS := ht1 bS _ fS
      replace fP := ht1 bP _ fP
      have hu1 : OwnL H1 (bR + 1) nx1 la 3 (.slice A1 la.length k1) := hu1
      have hw1 : OwnL H1 (bR + 1) nx1 rj 3 (.slice A2 rj.length k2) := hw1
      have hk1 : la.length ≤ k1 := hk1
      have hk2 : rj.length ≤ k2 := hk2
      have hR2 : RdL H1 A2 rj := hR2
      simp (disch := omega) only [bsW, WOp, WOq, WV, bo, eqN, gdc, gw, bnd, ↓reduceIte, Nat.reduceEqDiff, rsvs, rsv, oneOf, rdN, ne_eq, Nat.reduceAdd, Nat.reduceMul, Nat.reduceLT, reduceCtorEq, Value.cells, setN, Value.oneCell', Nat.reduceLeDiff, undef, fcT, rd_rw fS, rd_rw fP, fR, Int.reduceBEq, Int.reduceBNe, Int.reduceLT, Int.reduceNeg, d0]
      (repeat' (first | ((with_reducible refine gif_split (fun hs_ => ?_) (fun hs_ => ?_)) <;> (have hp_ := hs_; (try simp only [hpL, ne_eq] at hp_); (try simp (disch := omega) only [bsW, WOp, WOq, WV, bo, eqN, gdc, gw, bnd, ↓reduceIte, Nat.reduceEqDiff, rsvs, rsv, oneOf, rdN, ne_eq, Nat.reduceAdd, Nat.reduceMul, Nat.reduceLT, reduceCtorEq, Value.cells, setN, Value.oneCell', Nat.reduceLeDiff, undef, fcT, rd_rw fS, rd_rw fP, fR, Int.reduceBEq, Int.reduceBNe, Int.reduceLT, Int.reduceNeg, d0, hs_]))) | ((first | (with_reducible refine newB_i (fun nb_ hb_ => ?_)) | (with_reducible refine RgE_i (fun (hBd_ : Bd _ _) => ?_))); (try simp (disch := omega) only [bsW, WOp, WOq, WV, bo, eqN, gdc, gw, bnd, ↓reduceIte, Nat.reduceEqDiff, rsvs, rsv, oneOf, rdN, ne_eq, Nat.reduceAdd, Nat.reduceMul, Nat.reduceLT, reduceCtorEq, Value.cells, setN, Value.oneCell', Nat.reduceLeDiff, undef, fcT, rd_rw fS, rd_rw fP, fR, Int.reduceBEq, Int.reduceBNe, Int.reduceLT, Int.reduceNeg, d0])) | (with_reducible refine fun (hBd_ : Bd _ _) => ?_) | ((first | (with_reducible refine @And.intro (Sub _ _) _ ?_ ?_) | ((with_reducible refine @And.intro (Sub _ _ ∧ _) _ ?_ ?_); (with_reducible refine @And.intro (Sub _ _) _ ?_ ?_))); exact sbX) | ((with_reducible refine And.intro ?_ ?_); omega)))
      all_goals try (exfalso; omega)
      refine mkK_no ⟨tot, la, hand, rj, false⟩ hno ?_ ?_
      · exact ⟨_, _, rfl, OwnR.lo (lo' := nx) (OwnR.keep hu1 (fun c hc => by have := OwnR.blk hu1 hc; repeat rw [upd_ne (by omega)]) (by omega)) (by omega), OwnR.lo (lo' := nx) (OwnR.keep hw1 (fun c hc => by have := OwnR.blk hw1 hc; repeat rw [upd_ne (by omega)]) (by omega)) (by omega), hdis⟩
      · (repeat (first | assumption | exact Sub.refl _ | (refine sub_up (nx := nx) ?_ hB ?_; omega)))
    · rw [d0] at hno
      refine AC_of x_spec_l21Make rfl fun hB => ?_
      simp (disch := omega) only [bsW, WOp, WOq, WV, bo, eqN, gdc, gw, bnd, ↓reduceIte, Nat.reduceEqDiff, rsvs, rsv, oneOf, rdN, ne_eq, Nat.reduceAdd, Nat.reduceMul, Nat.reduceLT, reduceCtorEq, Value.cells, setN, Value.oneCell', Nat.reduceLeDiff, undef, fcT, Int.reduceBEq, Int.reduceBNe, Int.reduceLT, Int.reduceNeg, c_spec_l21Make]
      (repeat' (first | ((with_reducible refine gif_split (fun hs_ => ?_) (fun hs_ => ?_)) <;> (have hp_ := hs_; (try simp only [hpL, ne_eq] at hp_); (try simp (disch := omega) only [bsW, WOp, WOq, WV, bo, eqN, gdc, gw, bnd, ↓reduceIte, Nat.reduceEqDiff, rsvs, rsv, oneOf, rdN, ne_eq, Nat.reduceAdd, Nat.reduceMul, Nat.reduceLT, reduceCtorEq, Value.cells, setN, Value.oneCell', Nat.reduceLeDiff, undef, fcT, Int.reduceBEq, Int.reduceBNe, Int.reduceLT, Int.reduceNeg, hs_]))) | ((first | (with_reducible refine newB_i (fun nb_ hb_ => ?_)) | (with_reducible refine RgE_i (fun (hBd_ : Bd _ _) => ?_))); (try simp (disch := omega) only [bsW, WOp, WOq, WV, bo, eqN, gdc, gw, bnd, ↓reduceIte, Nat.reduceEqDiff, rsvs, rsv, oneOf, rdN, ne_eq, Nat.reduceAdd, Nat.reduceMul, Nat.reduceLT, reduceCtorEq, Value.cells, setN, Value.oneCell', Nat.reduceLeDiff, undef, fcT, Int.reduceBEq, Int.reduceBNe, Int.reduceLT, Int.reduceNeg])) | (with_reducible refine fun (hBd_ : Bd _ _) => ?_) | ((first | (with_reducible refine @And.intro (Sub _ _) _ ?_ ?_) | ((with_reducible refine @And.intro (Sub _ _ ∧ _) _ ?_ ?_); (with_reducible refine @And.intro (Sub _ _) _ ?_ ?_))); exact sbX) | ((with_reducible refine And.intro ?_ ?_); omega)))
      all_goals try (exfalso; omega)
      rename_i bP hbP bS hbS
      have hbR := hb_
      generalize nb_ = bR at *
      have hs0 : Sub H (upd (upd (upd H bP (.rw [.int .i64 tot, .slice A la.length c, .int .i64 hand, .slice B rj.length d, .bool true] 28)) bS (.rw [.int .i64 kd, .int .i64 pc] 41)) bR (.rw [.int .i64 0, .slice none 0 0, .int .i64 0, .slice none 0 0, .bool false] 28)) := by (repeat (first | assumption | exact Sub.refl _ | (refine sub_up (nx := nx) ?_ hB ?_; omega)))
      have fR : (upd (upd (upd H bP (.rw [.int .i64 tot, .slice A la.length c, .int .i64 hand, .slice B rj.length d, .bool true] 28)) bS (.rw [.int .i64 kd, .int .i64 pc] 41)) bR (.rw [.int .i64 0, .slice none 0 0, .int .i64 0, .slice none 0 0, .bool false] 28)) bR = some (.rw [.int .i64 0, .slice none 0 0, .int .i64 0, .slice none 0 0, .bool false] 28) := upd_same _ _ _
      have fS : (upd (upd (upd H bP (.rw [.int .i64 tot, .slice A la.length c, .int .i64 hand, .slice B rj.length d, .bool true] 28)) bS (.rw [.int .i64 kd, .int .i64 pc] 41)) bR (.rw [.int .i64 0, .slice none 0 0, .int .i64 0, .slice none 0 0, .bool false] 28)) bS = some (.rw [.int .i64 kd, .int .i64 pc] 41) := (upd_ne (by omega)).trans (upd_same _ _ _)
      have fP : (upd (upd (upd H bP (.rw [.int .i64 tot, .slice A la.length c, .int .i64 hand, .slice B rj.length d, .bool true] 28)) bS (.rw [.int .i64 kd, .int .i64 pc] 41)) bR (.rw [.int .i64 0, .slice none 0 0, .int .i64 0, .slice none 0 0, .bool false] 28)) bP = some (.rw [.int .i64 tot, .slice A la.length c, .int .i64 hand, .slice B rj.length d, .bool true] 28) := (upd_ne (by omega)).trans ((upd_ne (by omega)).trans (upd_same _ _ _))
      generalize (upd (upd (upd H bP (.rw [.int .i64 tot, .slice A la.length c, .int .i64 hand, .slice B rj.length d, .bool true] 28)) bS (.rw [.int .i64 kd, .int .i64 pc] 41)) bR (.rw [.int .i64 0, .slice none 0 0, .int .i64 0, .slice none 0 0, .bool false] 28)) = H0 at *
      refine (l21Own tot A la c hand B rj d true _ _ (by omega) (by omega) (hA.sub hs0) (hRB.sub hs0)).monoC ?_
      rintro v1 H1 nx1 hB1 hx1 ⟨hO1, ht1⟩
      obtain ⟨u1, w1, rfl, hu1, hw1, hdis⟩ := hO1.ex
      obtain ⟨A1, k1, rfl, hk1, hR1⟩ := OwnR.rd hu1
      obtain ⟨A2, k2, rfl, hk2, hR2⟩ := OwnR.rd hw1
      have hs1 := hs0.trans ht1
      replace fR := ht1 bR _ fR
      replace fS := ht1 bS _ fS
      replace fP := ht1 bP _ fP
      have hu1 : OwnL H1 (bR + 1) nx1 la 3 (.slice A1 la.length k1) := hu1
      have hw1 : OwnL H1 (bR + 1) nx1 rj 3 (.slice A2 rj.length k2) := hw1
      have hk1 : la.length ≤ k1 := hk1
      have hk2 : rj.length ≤ k2 := hk2
      have hR2 : RdL H1 A2 rj := hR2
      simp (disch := omega) only [bsW, WOp, WOq, WV, bo, eqN, gdc, gw, bnd, ↓reduceIte, Nat.reduceEqDiff, rsvs, rsv, oneOf, rdN, ne_eq, Nat.reduceAdd, Nat.reduceMul, Nat.reduceLT, reduceCtorEq, Value.cells, setN, Value.oneCell', Nat.reduceLeDiff, undef, fcT, rd_rw fS, rd_rw fP, fR, Int.reduceBEq, Int.reduceBNe, Int.reduceLT, Int.reduceNeg, d0]
      (repeat' (first | ((with_reducible refine gif_split (fun hs_ => ?_) (fun hs_ => ?_)) <;> (have hp_ := hs_; (try simp only [hpL, ne_eq] at hp_); (try simp (disch := omega) only [bsW, WOp, WOq, WV, bo, eqN, gdc, gw, bnd, ↓reduceIte, Nat.reduceEqDiff, rsvs, rsv, oneOf, rdN, ne_eq, Nat.reduceAdd, Nat.reduceMul, Nat.reduceLT, reduceCtorEq, Value.cells, setN, Value.oneCell', Nat.reduceLeDiff, undef, fcT, rd_rw fS, rd_rw fP, fR, Int.reduceBEq, Int.reduceBNe, Int.reduceLT, Int.reduceNeg, d0, hs_]))) | ((first | (with_reducible refine newB_i (fun nb_ hb_ => ?_)) | (with_reducible refine RgE_i (fun (hBd_ : Bd _ _) => ?_))); (try simp (disch := omega) only [bsW, WOp, WOq, WV, bo, eqN, gdc, gw, bnd, ↓reduceIte, Nat.reduceEqDiff, rsvs, rsv, oneOf, rdN, ne_eq, Nat.reduceAdd, Nat.reduceMul, Nat.reduceLT, reduceCtorEq, Value.cells, setN, Value.oneCell', Nat.reduceLeDiff, undef, fcT, rd_rw fS, rd_rw fP, fR, Int.reduceBEq, Int.reduceBNe, Int.reduceLT, Int.reduceNeg, d0])) | (with_reducible refine fun (hBd_ : Bd _ _) => ?_) | ((first | (with_reducible refine @And.intro (Sub _ _) _ ?_ ?_) | ((with_reducible refine @And.intro (Sub _ _ ∧ _) _ ?_ ?_); (with_reducible refine @And.intro (Sub _ _) _ ?_ ?_))); exact sbX) | ((with_reducible refine And.intro ?_ ?_); omega)))
      all_goals try (exfalso; omega)
      refine mkK_yes ⟨tot, la, hand, rj, false⟩ hno rfl ?_ ?_
      · exact ⟨_, _, rfl, OwnR.lo (lo' := nx) (OwnR.keep hu1 (fun c hc => by have := OwnR.blk hu1 hc; repeat rw [upd_ne (by omega)]) (by omega)) (by omega), OwnR.lo (lo' := nx) (OwnR.keep hw1 (fun c hc => by have := OwnR.blk hw1 hc; repeat rw [upd_ne (by omega)]) (by omega)) (by omega), hdis⟩
      · (repeat (first | assumption | exact Sub.refl _ | (refine sub_up (nx := nx) ?_ hB ?_; omega)))
  rcases kd_cases hst with rfl | rfl | rfl | rfl | rfl | rfl
  · exact l21Make1 tot A la c hand B rj d pc H nx hv hst hla hc hA hRB
  · exact l21Make2 tot A la c hand B rj d pc H nx hv hst hla hc hA hRB
  · exact l21Make3 tot A la c hand B rj d pc H nx hv hst hla hc hA hRB
  · exact l21Make4 tot A la c hand B rj d pc H nx hv hst hla hc hA hRB
  · exact l21Make5 tot A la c hand B rj d pc H nx hv hst hla hc hA hRB
  · exact l21Make6 tot A la c hand B rj d pc H nx hv hst hla hc hA hRB
end Go.Proofs.YtbhabpenlaklcaaDoor
