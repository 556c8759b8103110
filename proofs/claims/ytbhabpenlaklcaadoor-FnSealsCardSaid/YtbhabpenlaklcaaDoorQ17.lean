/- Puzzles: a step, and what is asked of it. -/
import Derived.Test.YtbhabpenlaklcaaDoorQ14
import Derived.Test.YtbhabpenlaklcaaDoorQ15
set_option linter.unusedVariables false
set_option linter.unusedSimpArgs false
set_option maxRecDepth 100000
set_option maxHeartbeats 1000000
namespace Go.Proofs.YtbhabpenlaklcaaDoor
open Go Go.RowKit Go.Proofs

noncomputable def sdB (p : PzD) (kd pc : Int) : Bool := pzB p.tot p.la p.hand p.rj p.sl && stepB kd pc && stOk p kd pc
noncomputable def sdD (p : PzD) (kd pc : Int) : PzD := if sdB p kd pc = true then stP p kd pc else PzD.zero
def SdK (H : Hp) (nx : Nat) (p : PzD) (kd pc : Int) (v : Value) (H' : Hp) (nx' : Nat) : Prop := ∃ w, v = .tuple #[w, .bool (sdB p kd pc)] ∧ NewPz H nx (sdD p kd pc) w H' nx'
theorem sdK_no {H : Hp} {nx : Nat} {p : PzD} {kd pc : Int} {H' : Hp} {nx' : Nat} (h : sdB p kd pc = false) (hs : Sub H H') : SdK H nx p kd pc (.tuple #[.agg #[.int .i64 0, .slice none 0 0, .int .i64 0, .slice none 0 0, .bool false], .bool false]) H' nx' := by
  refine ⟨_, by rw [h], ?_⟩
  rw [sdD, h, if_neg (by simp)]
  exact ⟨ownP_nil _ _ _ _ _ _, hs⟩
theorem sdK_yes {H : Hp} {nx : Nat} {p q : PzD} {kd pc : Int} {w : Value} {H' : Hp} {nx' : Nat} (h : sdB p kd pc = true) (hq : stP p kd pc = q) (ho : OwnP H' nx nx' q.tot q.la q.hand q.rj q.sl w) (hs : Sub H H') : SdK H nx p kd pc (.tuple #[w, .bool true]) H' nx' := by
  refine ⟨_, by rw [h], ?_⟩
  rw [sdD, h, if_pos rfl, hq]
  exact ⟨ho, hs⟩
theorem sdD_ok {p : PzD} {kd pc : Int} (h : sdB p kd pc = true) : (sdD p kd pc).ok := by
  rw [sdD, if_pos h]
  unfold sdB at h
  simp only [Bool.and_eq_true] at h
  exact st_valid (pzB_iff.1 h.1.1) h.1.2 h.2
theorem sdD_len {p : PzD} {kd pc : Int} : (sdD p kd pc).la.length + (sdD p kd pc).rj.length ≤ 20 := by
  cases h : sdB p kd pc
  · rw [sdD, h, if_neg (by simp)]; simp [PzD.zero]
  · exact PzOk.len (sdD_ok h)
theorem StepPuzzle (tot : Int) (A : Option Addr) (la : List Int) (c : Nat) (hand : Int) (B : Option Addr) (rj : List Int) (d : Nat) (sl : Bool) (kd pc : Int) (H : Hp) (nx : Nat) (hla : la.length + rj.length ≤ 1048576) (hc : la.length ≤ c) (hA : RdL H A la) (hRB : RdL H B rj) :
    AC Tryd.prog 21 #[.agg #[.int .i64 tot, .slice A la.length c, .int .i64 hand, .slice B rj.length d, .bool sl], .agg #[.int .i64 kd, .int .i64 pc]] H nx (SdK H nx ⟨tot, la, hand, rj, sl⟩ kd pc) := by
  refine AC_of x_impl_StepPuzzle rfl fun hB => ?_
  simp (disch := omega) only [bsW, WOp, WOq, WV, bo, eqN, gdc, gw, bnd, ↓reduceIte, Nat.reduceEqDiff, rsvs, rsv, oneOf, rdN, ne_eq, Nat.reduceAdd, Nat.reduceMul, Nat.reduceLT, reduceCtorEq, Value.cells, setN, Value.oneCell', Nat.reduceLeDiff, undef, fcT, c_impl_StepPuzzle]
  refine newB_i (fun nb_ hb_ => ?_)
  simp (disch := omega) only [bsW, WOp, WOq, WV, bo, eqN, gdc, gw, bnd, ↓reduceIte, Nat.reduceEqDiff, rsvs, rsv, oneOf, rdN, ne_eq, Nat.reduceAdd, Nat.reduceMul, Nat.reduceLT, reduceCtorEq, Value.cells, setN, Value.oneCell', Nat.reduceLeDiff, undef, fcT]
  have hs0 : Sub H (upd H nb_ (.rw [.int .i64 tot, .slice A la.length c, .int .i64 hand, .slice B rj.length d, .bool sl] 28)) := sub_up (nx := nx) (by omega) hB (Sub.refl _)
  have hBA : Bd (upd H nb_ (.rw [.int .i64 tot, .slice A la.length c, .int .i64 hand, .slice B rj.length d, .bool sl] 28)) (nb_ + 1) := Bd.up hB (by omega)
  have c0 : rd (upd H nb_ (.rw [.int .i64 tot, .slice A la.length c, .int .i64 hand, .slice B rj.length d, .bool sl] 28)) nb_ 0 = some (.int .i64 tot) := by rw [rd_upd_same]; rfl
  have c1 : rd (upd H nb_ (.rw [.int .i64 tot, .slice A la.length c, .int .i64 hand, .slice B rj.length d, .bool sl] 28)) nb_ 1 = some (.slice A la.length c) := by rw [rd_upd_same]; rfl
  have c2 : rd (upd H nb_ (.rw [.int .i64 tot, .slice A la.length c, .int .i64 hand, .slice B rj.length d, .bool sl] 28)) nb_ 2 = some (.int .i64 hand) := by rw [rd_upd_same]; rfl
  have c3 : rd (upd H nb_ (.rw [.int .i64 tot, .slice A la.length c, .int .i64 hand, .slice B rj.length d, .bool sl] 28)) nb_ 3 = some (.slice B rj.length d) := by rw [rd_upd_same]; rfl
  have c4 : rd (upd H nb_ (.rw [.int .i64 tot, .slice A la.length c, .int .i64 hand, .slice B rj.length d, .bool sl] 28)) nb_ 4 = some (.bool sl) := by rw [rd_upd_same]; rfl
  replace hA := hA.sub hs0
  replace hRB := hRB.sub hs0
  have hbA := hb_
  generalize (upd H nb_ (.rw [.int .i64 tot, .slice A la.length c, .int .i64 hand, .slice B rj.length d, .bool sl] 28)) = H0 at *
  generalize nb_ = bA at *
  refine newB_i (fun nb_ hb_ => ?_)
  simp (disch := omega) only [bsW, WOp, WOq, WV, bo, eqN, gdc, gw, bnd, ↓reduceIte, Nat.reduceEqDiff, rsvs, rsv, oneOf, rdN, ne_eq, Nat.reduceAdd, Nat.reduceMul, Nat.reduceLT, reduceCtorEq, Value.cells, setN, Value.oneCell', Nat.reduceLeDiff, undef, fcT]
  have hsx_H1 : Sub H0 (upd H0 nb_ (.rw [.int .i64 kd, .int .i64 pc] 41)) := sub_up (nx := bA + 1) (by omega) hBA (Sub.refl _)
  have hBH1 : Bd (upd H0 nb_ (.rw [.int .i64 kd, .int .i64 pc] 41)) (nb_ + 1) := Bd.up hBA (by omega)
  have zS : (upd H0 nb_ (.rw [.int .i64 kd, .int .i64 pc] 41)) nb_ = some (.rw [.int .i64 kd, .int .i64 pc] 41) := upd_same _ _ _
  have hbS := hb_
  replace c0 := rd_sub hsx_H1 c0
  replace c1 := rd_sub hsx_H1 c1
  replace c2 := rd_sub hsx_H1 c2
  replace c3 := rd_sub hsx_H1 c3
  replace c4 := rd_sub hsx_H1 c4
  replace hA := hA.sub hsx_H1
  replace hRB := hRB.sub hsx_H1
  generalize (upd H0 nb_ (.rw [.int .i64 kd, .int .i64 pc] 41)) = H1 at *
  generalize nb_ = bS at *
  refine newB_i (fun nb_ hb_ => ?_)
  simp (disch := omega) only [bsW, WOp, WOq, WV, bo, eqN, gdc, gw, bnd, ↓reduceIte, Nat.reduceEqDiff, rsvs, rsv, oneOf, rdN, ne_eq, Nat.reduceAdd, Nat.reduceMul, Nat.reduceLT, reduceCtorEq, Value.cells, setN, Value.oneCell', Nat.reduceLeDiff, undef, fcT]
  have e0 := c0
  have e1 := c1
  have e2 := c2
  have e3 := c3
  have e4 := c4
  have eS := zS
  have hsx_H2 : Sub H1 (upd H1 nb_ (.rw [.int .i64 0, .slice none 0 0, .int .i64 0, .slice none 0 0, .bool false] 28)) := sub_up (nx := bS + 1) (by omega) hBH1 (Sub.refl _)
  have hBH2 : Bd (upd H1 nb_ (.rw [.int .i64 0, .slice none 0 0, .int .i64 0, .slice none 0 0, .bool false] 28)) (nb_ + 1) := Bd.up hBH1 (by omega)
  have zR : (upd H1 nb_ (.rw [.int .i64 0, .slice none 0 0, .int .i64 0, .slice none 0 0, .bool false] 28)) nb_ = some (.rw [.int .i64 0, .slice none 0 0, .int .i64 0, .slice none 0 0, .bool false] 28) := upd_same _ _ _
  have hbR := hb_
  replace c0 := rd_sub hsx_H2 c0
  replace c1 := rd_sub hsx_H2 c1
  replace c2 := rd_sub hsx_H2 c2
  replace c3 := rd_sub hsx_H2 c3
  replace c4 := rd_sub hsx_H2 c4
  replace hA := hA.sub hsx_H2
  replace hRB := hRB.sub hsx_H2
  generalize (upd H1 nb_ (.rw [.int .i64 0, .slice none 0 0, .int .i64 0, .slice none 0 0, .bool false] 28)) = H2 at *
  generalize nb_ = bR at *
  replace zS := hsx_H2 _ _ zS
  have hs2 : Sub H H2 := hs0.trans (hsx_H1.trans hsx_H2)
  cases hv : pzB tot la hand rj sl
  · (try (simp (disch := omega) only [bsW, WOp, WOq, WV, bo, eqN, gdc, gw, bnd, ↓reduceIte, Nat.reduceEqDiff, rsvs, rsv, oneOf, rdN, ne_eq, Nat.reduceAdd, Nat.reduceMul, Nat.reduceLT, reduceCtorEq, Value.cells, setN, Value.oneCell', Nat.reduceLeDiff, undef, fcT, c0, c1, c2, c3, c4, e0, e1, e2, e3, e4, rd_rw eS, rd_rw zS, rd_rw zR, zR, hv, Bool.not_false]))
    (repeat' (first | ((with_reducible refine gif_split (fun hs_ => ?_) (fun hs_ => ?_)) <;> (have hp_ := hs_; (try simp only [hpL, ne_eq] at hp_); (try simp (disch := omega) only [bsW, WOp, WOq, WV, bo, eqN, gdc, gw, bnd, ↓reduceIte, Nat.reduceEqDiff, rsvs, rsv, oneOf, rdN, ne_eq, Nat.reduceAdd, Nat.reduceMul, Nat.reduceLT, reduceCtorEq, Value.cells, setN, Value.oneCell', Nat.reduceLeDiff, undef, fcT, c0, c1, c2, c3, c4, e0, e1, e2, e3, e4, rd_rw eS, rd_rw zS, rd_rw zR, zR, hv, Bool.not_false, hs_]))) | ((first | (with_reducible refine newB_i (fun nb_ hb_ => ?_)) | ((with_reducible show QC _ _ _ _ _ _); (first | (refine QC_i (isPuzzle bA tot A la c hand B rj d sl _ _ hla c0 c1 c2 c3 c4 hA hRB) ?_))) | ((with_reducible show AC _ _ _ _ _ _); (first | (refine PC.ac (isPuzzle bA tot A la c hand B rj d sl _ _ hla c0 c1 c2 c3 c4 hA hRB) ?_))) | (with_reducible refine RgE_i (fun (hBd_ : Bd _ _) => ?_))); (try simp (disch := omega) only [bsW, WOp, WOq, WV, bo, eqN, gdc, gw, bnd, ↓reduceIte, Nat.reduceEqDiff, rsvs, rsv, oneOf, rdN, ne_eq, Nat.reduceAdd, Nat.reduceMul, Nat.reduceLT, reduceCtorEq, Value.cells, setN, Value.oneCell', Nat.reduceLeDiff, undef, fcT, c0, c1, c2, c3, c4, e0, e1, e2, e3, e4, rd_rw eS, rd_rw zS, rd_rw zR, zR, hv, Bool.not_false])) | (with_reducible refine fun (hBd_ : Bd _ _) => ?_) | ((first | (with_reducible refine @And.intro (Sub _ _) _ ?_ ?_) | ((with_reducible refine @And.intro (Sub _ _ ∧ _) _ ?_ ?_); (with_reducible refine @And.intro (Sub _ _) _ ?_ ?_))); exact sbX) | ((with_reducible refine And.intro ?_ ?_); omega)))
    all_goals try (exfalso; omega)
    refine sdK_no ?_ ?_
    · simp [sdB, hv]
    · (first | assumption | exact sub_up (nx := nx) (by omega) hB hs2)
  cases hst : stepB kd pc
  · (try (simp (disch := omega) only [bsW, WOp, WOq, WV, bo, eqN, gdc, gw, bnd, ↓reduceIte, Nat.reduceEqDiff, rsvs, rsv, oneOf, rdN, ne_eq, Nat.reduceAdd, Nat.reduceMul, Nat.reduceLT, reduceCtorEq, Value.cells, setN, Value.oneCell', Nat.reduceLeDiff, undef, fcT, c0, c1, c2, c3, c4, e0, e1, e2, e3, e4, rd_rw eS, rd_rw zS, rd_rw zR, zR, hv, hst, Bool.not_false, Bool.not_true]))
    (repeat' (first | ((with_reducible refine gif_split (fun hs_ => ?_) (fun hs_ => ?_)) <;> (have hp_ := hs_; (try simp only [hpL, ne_eq] at hp_); (try simp (disch := omega) only [bsW, WOp, WOq, WV, bo, eqN, gdc, gw, bnd, ↓reduceIte, Nat.reduceEqDiff, rsvs, rsv, oneOf, rdN, ne_eq, Nat.reduceAdd, Nat.reduceMul, Nat.reduceLT, reduceCtorEq, Value.cells, setN, Value.oneCell', Nat.reduceLeDiff, undef, fcT, c0, c1, c2, c3, c4, e0, e1, e2, e3, e4, rd_rw eS, rd_rw zS, rd_rw zR, zR, hv, hst, Bool.not_false, Bool.not_true, hs_]))) | ((first | (with_reducible refine newB_i (fun nb_ hb_ => ?_)) | ((with_reducible show QC _ _ _ _ _ _); (first | (refine QC_i (isPuzzle bA tot A la c hand B rj d sl _ _ hla c0 c1 c2 c3 c4 hA hRB) ?_) | (refine QC_i (isPuzzleStep _ _ _ _) ?_))) | ((with_reducible show AC _ _ _ _ _ _); (first | (refine PC.ac (isPuzzle bA tot A la c hand B rj d sl _ _ hla c0 c1 c2 c3 c4 hA hRB) ?_) | (refine PC.ac (isPuzzleStep _ _ _ _) ?_))) | (with_reducible refine RgE_i (fun (hBd_ : Bd _ _) => ?_))); (try simp (disch := omega) only [bsW, WOp, WOq, WV, bo, eqN, gdc, gw, bnd, ↓reduceIte, Nat.reduceEqDiff, rsvs, rsv, oneOf, rdN, ne_eq, Nat.reduceAdd, Nat.reduceMul, Nat.reduceLT, reduceCtorEq, Value.cells, setN, Value.oneCell', Nat.reduceLeDiff, undef, fcT, c0, c1, c2, c3, c4, e0, e1, e2, e3, e4, rd_rw eS, rd_rw zS, rd_rw zR, zR, hv, hst, Bool.not_false, Bool.not_true])) | (with_reducible refine fun (hBd_ : Bd _ _) => ?_) | ((first | (with_reducible refine @And.intro (Sub _ _) _ ?_ ?_) | ((with_reducible refine @And.intro (Sub _ _ ∧ _) _ ?_ ?_); (with_reducible refine @And.intro (Sub _ _) _ ?_ ?_))); exact sbX) | ((with_reducible refine And.intro ?_ ?_); omega)))
    all_goals try (exfalso; omega)
    refine sdK_no ?_ ?_
    · simp [sdB, hst]
    · (first | assumption | exact sub_up (nx := nx) (by omega) hB hs2)
  have hok := pzB_iff.1 hv
  have hlen := PzOk.len hok
  (try (simp (disch := omega) only [bsW, WOp, WOq, WV, bo, eqN, gdc, gw, bnd, ↓reduceIte, Nat.reduceEqDiff, rsvs, rsv, oneOf, rdN, ne_eq, Nat.reduceAdd, Nat.reduceMul, Nat.reduceLT, reduceCtorEq, Value.cells, setN, Value.oneCell', Nat.reduceLeDiff, undef, fcT, c0, c1, c2, c3, c4, e0, e1, e2, e3, e4, rd_rw eS, rd_rw zS, rd_rw zR, zR, hv, hst, Bool.not_false, Bool.not_true]))
  (repeat' (first | ((with_reducible refine gif_split (fun hs_ => ?_) (fun hs_ => ?_)) <;> (have hp_ := hs_; (try simp only [hpL, ne_eq] at hp_); (try simp (disch := omega) only [bsW, WOp, WOq, WV, bo, eqN, gdc, gw, bnd, ↓reduceIte, Nat.reduceEqDiff, rsvs, rsv, oneOf, rdN, ne_eq, Nat.reduceAdd, Nat.reduceMul, Nat.reduceLT, reduceCtorEq, Value.cells, setN, Value.oneCell', Nat.reduceLeDiff, undef, fcT, c0, c1, c2, c3, c4, e0, e1, e2, e3, e4, rd_rw eS, rd_rw zS, rd_rw zR, zR, hv, hst, Bool.not_false, Bool.not_true, hs_]))) | ((first | (with_reducible refine newB_i (fun nb_ hb_ => ?_)) | ((with_reducible show QC _ _ _ _ _ _); (first | (refine QC_i (isPuzzle bA tot A la c hand B rj d sl _ _ hla c0 c1 c2 c3 c4 hA hRB) ?_) | (refine QC_i (isPuzzleStep _ _ _ _) ?_))) | ((with_reducible show AC _ _ _ _ _ _); (first | (refine PC.ac (isPuzzle bA tot A la c hand B rj d sl _ _ hla c0 c1 c2 c3 c4 hA hRB) ?_) | (refine PC.ac (isPuzzleStep _ _ _ _) ?_))) | (with_reducible refine RgE_i (fun (hBd_ : Bd _ _) => ?_))); (try simp (disch := omega) only [bsW, WOp, WOq, WV, bo, eqN, gdc, gw, bnd, ↓reduceIte, Nat.reduceEqDiff, rsvs, rsv, oneOf, rdN, ne_eq, Nat.reduceAdd, Nat.reduceMul, Nat.reduceLT, reduceCtorEq, Value.cells, setN, Value.oneCell', Nat.reduceLeDiff, undef, fcT, c0, c1, c2, c3, c4, e0, e1, e2, e3, e4, rd_rw eS, rd_rw zS, rd_rw zR, zR, hv, hst, Bool.not_false, Bool.not_true])) | (with_reducible refine fun (hBd_ : Bd _ _) => ?_) | ((first | (with_reducible refine @And.intro (Sub _ _) _ ?_ ?_) | ((with_reducible refine @And.intro (Sub _ _ ∧ _) _ ?_ ?_); (with_reducible refine @And.intro (Sub _ _) _ ?_ ?_))); exact sbX) | ((with_reducible refine And.intro ?_ ?_); omega)))
  all_goals try (exfalso; omega)
  refine (stepPuzzle bA tot A la c hand B rj d sl kd pc _ _ hok hst (by omega) c0 c1 c2 c3 c4 hA hRB).monoC ?_
  rintro v3 H3 nx3 hB3 hx3 ⟨w3, rfl, hO, ht3⟩
  have zR3 := ht3 _ _ zR
  have hs3 := hs2.trans ht3
  cases hso : stOk ⟨tot, la, hand, rj, sl⟩ kd pc
  · rw [hso, if_neg (by simp)] at hO
    obtain ⟨u3, x3, rfl, hu3, hv3, hd3⟩ := hO.ex
    obtain ⟨A5, k5, rfl, _, _⟩ := OwnR.rd hu3
    obtain ⟨A6, k6, rfl, _, _⟩ := OwnR.rd hv3
    rcases OwnR.ex hu3 with ⟨e5, _⟩ | ⟨_, _, _, e5, _, _, _⟩
    all_goals cases e5
    all_goals rcases OwnR.ex hv3 with ⟨e6, _⟩ | ⟨_, _, _, e6, _, _, _⟩
    all_goals cases e6
    all_goals
      (try (simp (disch := omega) only [bsW, WOp, WOq, WV, bo, eqN, gdc, gw, bnd, ↓reduceIte, Nat.reduceEqDiff, rsvs, rsv, oneOf, rdN, ne_eq, Nat.reduceAdd, Nat.reduceMul, Nat.reduceLT, reduceCtorEq, Value.cells, setN, Value.oneCell', Nat.reduceLeDiff, undef, fcT, zR3, hso]))
      (repeat' (first | ((with_reducible refine gif_split (fun hs_ => ?_) (fun hs_ => ?_)) <;> (have hp_ := hs_; (try simp only [hpL, ne_eq] at hp_); (try simp (disch := omega) only [bsW, WOp, WOq, WV, bo, eqN, gdc, gw, bnd, ↓reduceIte, Nat.reduceEqDiff, rsvs, rsv, oneOf, rdN, ne_eq, Nat.reduceAdd, Nat.reduceMul, Nat.reduceLT, reduceCtorEq, Value.cells, setN, Value.oneCell', Nat.reduceLeDiff, undef, fcT, zR3, hso, hs_]))) | ((first | (with_reducible refine newB_i (fun nb_ hb_ => ?_)) | (with_reducible refine RgE_i (fun (hBd_ : Bd _ _) => ?_))); (try simp (disch := omega) only [bsW, WOp, WOq, WV, bo, eqN, gdc, gw, bnd, ↓reduceIte, Nat.reduceEqDiff, rsvs, rsv, oneOf, rdN, ne_eq, Nat.reduceAdd, Nat.reduceMul, Nat.reduceLT, reduceCtorEq, Value.cells, setN, Value.oneCell', Nat.reduceLeDiff, undef, fcT, zR3, hso])) | (with_reducible refine fun (hBd_ : Bd _ _) => ?_) | ((first | (with_reducible refine @And.intro (Sub _ _) _ ?_ ?_) | ((with_reducible refine @And.intro (Sub _ _ ∧ _) _ ?_ ?_); (with_reducible refine @And.intro (Sub _ _) _ ?_ ?_))); exact sbX) | ((with_reducible refine And.intro ?_ ?_); omega)))
      all_goals try (exfalso; omega)
    all_goals
      refine ⟨_, by rw [show sdB ⟨tot, la, hand, rj, sl⟩ kd pc = false by simp [sdB, hso]], ?_⟩
      rw [sdD, show sdB ⟨tot, la, hand, rj, sl⟩ kd pc = false by simp [sdB, hso], if_neg (by simp)]
      exact ⟨⟨_, _, rfl, OwnR.lo (OwnR.keep hu3 (fun c hc => by have := OwnR.blk hu3 hc; rw [upd_ne (by omega)]) (by omega)) (by omega), OwnR.lo (OwnR.keep hv3 (fun c hc => by have := OwnR.blk hv3 hc; rw [upd_ne (by omega)]) (by omega)) (by omega), hd3⟩, sub_up (nx := nx) (by omega) hB hs3⟩
  · rw [hso, if_pos rfl] at hO
    generalize hq3 : stP ⟨tot, la, hand, rj, sl⟩ kd pc = q3 at *
    obtain ⟨t3, l3, h3, r3, s3⟩ := q3
    obtain ⟨u3, x3, rfl, hu3, hv3, hd3⟩ := hO.ex
    obtain ⟨A5, k5, rfl, _, _⟩ := OwnR.rd hu3
    obtain ⟨A6, k6, rfl, _, _⟩ := OwnR.rd hv3
    (try (simp (disch := omega) only [bsW, WOp, WOq, WV, bo, eqN, gdc, gw, bnd, ↓reduceIte, Nat.reduceEqDiff, rsvs, rsv, oneOf, rdN, ne_eq, Nat.reduceAdd, Nat.reduceMul, Nat.reduceLT, reduceCtorEq, Value.cells, setN, Value.oneCell', Nat.reduceLeDiff, undef, fcT, zR3, hso]))
    (repeat' (first | ((with_reducible refine gif_split (fun hs_ => ?_) (fun hs_ => ?_)) <;> (have hp_ := hs_; (try simp only [hpL, ne_eq] at hp_); (try simp (disch := omega) only [bsW, WOp, WOq, WV, bo, eqN, gdc, gw, bnd, ↓reduceIte, Nat.reduceEqDiff, rsvs, rsv, oneOf, rdN, ne_eq, Nat.reduceAdd, Nat.reduceMul, Nat.reduceLT, reduceCtorEq, Value.cells, setN, Value.oneCell', Nat.reduceLeDiff, undef, fcT, zR3, hso, hs_]))) | ((first | (with_reducible refine newB_i (fun nb_ hb_ => ?_)) | (with_reducible refine RgE_i (fun (hBd_ : Bd _ _) => ?_))); (try simp (disch := omega) only [bsW, WOp, WOq, WV, bo, eqN, gdc, gw, bnd, ↓reduceIte, Nat.reduceEqDiff, rsvs, rsv, oneOf, rdN, ne_eq, Nat.reduceAdd, Nat.reduceMul, Nat.reduceLT, reduceCtorEq, Value.cells, setN, Value.oneCell', Nat.reduceLeDiff, undef, fcT, zR3, hso])) | (with_reducible refine fun (hBd_ : Bd _ _) => ?_) | ((first | (with_reducible refine @And.intro (Sub _ _) _ ?_ ?_) | ((with_reducible refine @And.intro (Sub _ _ ∧ _) _ ?_ ?_); (with_reducible refine @And.intro (Sub _ _) _ ?_ ?_))); exact sbX) | ((with_reducible refine And.intro ?_ ?_); omega)))
    all_goals try (exfalso; omega)
    exact sdK_yes (by simp [sdB, hso, hst, hv]) hq3 ⟨_, _, rfl, OwnR.lo (OwnR.keep hu3 (fun c hc => by have := OwnR.blk hu3 hc; rw [upd_ne (by omega)]) (by omega)) (by omega), OwnR.lo (OwnR.keep hv3 (fun c hc => by have := OwnR.blk hv3 hc; rw [upd_ne (by omega)]) (by omega)) (by omega), hd3⟩ (sub_up (nx := nx) (by omega) hB hs3)
theorem sStepPuzzle (tot : Int) (A : Option Addr) (la : List Int) (c : Nat) (hand : Int) (B : Option Addr) (rj : List Int) (d : Nat) (sl : Bool) (kd pc : Int) (H : Hp) (nx : Nat) (hla : la.length + rj.length ≤ 1048576) (hc : la.length ≤ c) (hA : RdL H A la) (hRB : RdL H B rj) :
    AC Tryd.prog 56 #[.agg #[.int .i64 tot, .slice A la.length c, .int .i64 hand, .slice B rj.length d, .bool sl], .agg #[.int .i64 kd, .int .i64 pc]] H nx (SdK H nx ⟨tot, la, hand, rj, sl⟩ kd pc) := by
  refine AC_of x_spec_StepPuzzle rfl fun hB => ?_
  simp (disch := omega) only [bsW, WOp, WOq, WV, bo, eqN, gdc, gw, bnd, ↓reduceIte, Nat.reduceEqDiff, rsvs, rsv, oneOf, rdN, ne_eq, Nat.reduceAdd, Nat.reduceMul, Nat.reduceLT, reduceCtorEq, Value.cells, setN, Value.oneCell', Nat.reduceLeDiff, undef, fcT, c_spec_StepPuzzle]
  refine newB_i (fun nb_ hb_ => ?_)
  simp (disch := omega) only [bsW, WOp, WOq, WV, bo, eqN, gdc, gw, bnd, ↓reduceIte, Nat.reduceEqDiff, rsvs, rsv, oneOf, rdN, ne_eq, Nat.reduceAdd, Nat.reduceMul, Nat.reduceLT, reduceCtorEq, Value.cells, setN, Value.oneCell', Nat.reduceLeDiff, undef, fcT]
  have hs0 : Sub H (upd H nb_ (.rw [.int .i64 tot, .slice A la.length c, .int .i64 hand, .slice B rj.length d, .bool sl] 28)) := sub_up (nx := nx) (by omega) hB (Sub.refl _)
  have hBA : Bd (upd H nb_ (.rw [.int .i64 tot, .slice A la.length c, .int .i64 hand, .slice B rj.length d, .bool sl] 28)) (nb_ + 1) := Bd.up hB (by omega)
  have c0 : rd (upd H nb_ (.rw [.int .i64 tot, .slice A la.length c, .int .i64 hand, .slice B rj.length d, .bool sl] 28)) nb_ 0 = some (.int .i64 tot) := by rw [rd_upd_same]; rfl
  have c1 : rd (upd H nb_ (.rw [.int .i64 tot, .slice A la.length c, .int .i64 hand, .slice B rj.length d, .bool sl] 28)) nb_ 1 = some (.slice A la.length c) := by rw [rd_upd_same]; rfl
  have c2 : rd (upd H nb_ (.rw [.int .i64 tot, .slice A la.length c, .int .i64 hand, .slice B rj.length d, .bool sl] 28)) nb_ 2 = some (.int .i64 hand) := by rw [rd_upd_same]; rfl
  have c3 : rd (upd H nb_ (.rw [.int .i64 tot, .slice A la.length c, .int .i64 hand, .slice B rj.length d, .bool sl] 28)) nb_ 3 = some (.slice B rj.length d) := by rw [rd_upd_same]; rfl
  have c4 : rd (upd H nb_ (.rw [.int .i64 tot, .slice A la.length c, .int .i64 hand, .slice B rj.length d, .bool sl] 28)) nb_ 4 = some (.bool sl) := by rw [rd_upd_same]; rfl
  replace hA := hA.sub hs0
  replace hRB := hRB.sub hs0
  have hbA := hb_
  generalize (upd H nb_ (.rw [.int .i64 tot, .slice A la.length c, .int .i64 hand, .slice B rj.length d, .bool sl] 28)) = H0 at *
  generalize nb_ = bA at *
  refine newB_i (fun nb_ hb_ => ?_)
  simp (disch := omega) only [bsW, WOp, WOq, WV, bo, eqN, gdc, gw, bnd, ↓reduceIte, Nat.reduceEqDiff, rsvs, rsv, oneOf, rdN, ne_eq, Nat.reduceAdd, Nat.reduceMul, Nat.reduceLT, reduceCtorEq, Value.cells, setN, Value.oneCell', Nat.reduceLeDiff, undef, fcT]
  have hsx_H1 : Sub H0 (upd H0 nb_ (.rw [.int .i64 kd, .int .i64 pc] 41)) := sub_up (nx := bA + 1) (by omega) hBA (Sub.refl _)
  have hBH1 : Bd (upd H0 nb_ (.rw [.int .i64 kd, .int .i64 pc] 41)) (nb_ + 1) := Bd.up hBA (by omega)
  have zS : (upd H0 nb_ (.rw [.int .i64 kd, .int .i64 pc] 41)) nb_ = some (.rw [.int .i64 kd, .int .i64 pc] 41) := upd_same _ _ _
  have hbS := hb_
  replace c0 := rd_sub hsx_H1 c0
  replace c1 := rd_sub hsx_H1 c1
  replace c2 := rd_sub hsx_H1 c2
  replace c3 := rd_sub hsx_H1 c3
  replace c4 := rd_sub hsx_H1 c4
  replace hA := hA.sub hsx_H1
  replace hRB := hRB.sub hsx_H1
  generalize (upd H0 nb_ (.rw [.int .i64 kd, .int .i64 pc] 41)) = H1 at *
  generalize nb_ = bS at *
  refine newB_i (fun nb_ hb_ => ?_)
  simp (disch := omega) only [bsW, WOp, WOq, WV, bo, eqN, gdc, gw, bnd, ↓reduceIte, Nat.reduceEqDiff, rsvs, rsv, oneOf, rdN, ne_eq, Nat.reduceAdd, Nat.reduceMul, Nat.reduceLT, reduceCtorEq, Value.cells, setN, Value.oneCell', Nat.reduceLeDiff, undef, fcT]
  have e0 := c0
  have e1 := c1
  have e2 := c2
  have e3 := c3
  have e4 := c4
  have eS := zS
  have hsx_H2 : Sub H1 (upd H1 nb_ (.rw [.int .i64 0, .slice none 0 0, .int .i64 0, .slice none 0 0, .bool false] 28)) := sub_up (nx := bS + 1) (by omega) hBH1 (Sub.refl _)
  have hBH2 : Bd (upd H1 nb_ (.rw [.int .i64 0, .slice none 0 0, .int .i64 0, .slice none 0 0, .bool false] 28)) (nb_ + 1) := Bd.up hBH1 (by omega)
  have zR : (upd H1 nb_ (.rw [.int .i64 0, .slice none 0 0, .int .i64 0, .slice none 0 0, .bool false] 28)) nb_ = some (.rw [.int .i64 0, .slice none 0 0, .int .i64 0, .slice none 0 0, .bool false] 28) := upd_same _ _ _
  have hbR := hb_
  replace c0 := rd_sub hsx_H2 c0
  replace c1 := rd_sub hsx_H2 c1
  replace c2 := rd_sub hsx_H2 c2
  replace c3 := rd_sub hsx_H2 c3
  replace c4 := rd_sub hsx_H2 c4
  replace hA := hA.sub hsx_H2
  replace hRB := hRB.sub hsx_H2
  generalize (upd H1 nb_ (.rw [.int .i64 0, .slice none 0 0, .int .i64 0, .slice none 0 0, .bool false] 28)) = H2 at *
  generalize nb_ = bR at *
  replace zS := hsx_H2 _ _ zS
  have hs2 : Sub H H2 := hs0.trans (hsx_H1.trans hsx_H2)
  cases hv : pzB tot la hand rj sl
  · (try (simp (disch := omega) only [bsW, WOp, WOq, WV, bo, eqN, gdc, gw, bnd, ↓reduceIte, Nat.reduceEqDiff, rsvs, rsv, oneOf, rdN, ne_eq, Nat.reduceAdd, Nat.reduceMul, Nat.reduceLT, reduceCtorEq, Value.cells, setN, Value.oneCell', Nat.reduceLeDiff, undef, fcT, c0, c1, c2, c3, c4, e0, e1, e2, e3, e4, rd_rw eS, rd_rw zS, rd_rw zR, zR, hv, Bool.not_false]))
    (repeat' (first | ((with_reducible refine gif_split (fun hs_ => ?_) (fun hs_ => ?_)) <;> (have hp_ := hs_; (try simp only [hpL, ne_eq] at hp_); (try simp (disch := omega) only [bsW, WOp, WOq, WV, bo, eqN, gdc, gw, bnd, ↓reduceIte, Nat.reduceEqDiff, rsvs, rsv, oneOf, rdN, ne_eq, Nat.reduceAdd, Nat.reduceMul, Nat.reduceLT, reduceCtorEq, Value.cells, setN, Value.oneCell', Nat.reduceLeDiff, undef, fcT, c0, c1, c2, c3, c4, e0, e1, e2, e3, e4, rd_rw eS, rd_rw zS, rd_rw zR, zR, hv, Bool.not_false, hs_]))) | ((first | (with_reducible refine newB_i (fun nb_ hb_ => ?_)) | ((with_reducible show QC _ _ _ _ _ _); (first | (refine QC_i (l21Good tot A la c hand B rj d sl _ _ hla hc hA hRB) ?_))) | ((with_reducible show AC _ _ _ _ _ _); (first | (refine PC.ac (l21Good tot A la c hand B rj d sl _ _ hla hc hA hRB) ?_))) | (with_reducible refine RgE_i (fun (hBd_ : Bd _ _) => ?_))); (try simp (disch := omega) only [bsW, WOp, WOq, WV, bo, eqN, gdc, gw, bnd, ↓reduceIte, Nat.reduceEqDiff, rsvs, rsv, oneOf, rdN, ne_eq, Nat.reduceAdd, Nat.reduceMul, Nat.reduceLT, reduceCtorEq, Value.cells, setN, Value.oneCell', Nat.reduceLeDiff, undef, fcT, c0, c1, c2, c3, c4, e0, e1, e2, e3, e4, rd_rw eS, rd_rw zS, rd_rw zR, zR, hv, Bool.not_false])) | (with_reducible refine fun (hBd_ : Bd _ _) => ?_) | ((first | (with_reducible refine @And.intro (Sub _ _) _ ?_ ?_) | ((with_reducible refine @And.intro (Sub _ _ ∧ _) _ ?_ ?_); (with_reducible refine @And.intro (Sub _ _) _ ?_ ?_))); exact sbX) | ((with_reducible refine And.intro ?_ ?_); omega)))
    all_goals try (exfalso; omega)
    refine sdK_no ?_ ?_
    · simp [sdB, hv]
    · (first | assumption | exact sub_up (nx := nx) (by omega) hB hs2)
  cases hst : stepB kd pc
  · (try (simp (disch := omega) only [bsW, WOp, WOq, WV, bo, eqN, gdc, gw, bnd, ↓reduceIte, Nat.reduceEqDiff, rsvs, rsv, oneOf, rdN, ne_eq, Nat.reduceAdd, Nat.reduceMul, Nat.reduceLT, reduceCtorEq, Value.cells, setN, Value.oneCell', Nat.reduceLeDiff, undef, fcT, c0, c1, c2, c3, c4, e0, e1, e2, e3, e4, rd_rw eS, rd_rw zS, rd_rw zR, zR, hv, hst, Bool.not_false, Bool.not_true]))
    (repeat' (first | ((with_reducible refine gif_split (fun hs_ => ?_) (fun hs_ => ?_)) <;> (have hp_ := hs_; (try simp only [hpL, ne_eq] at hp_); (try simp (disch := omega) only [bsW, WOp, WOq, WV, bo, eqN, gdc, gw, bnd, ↓reduceIte, Nat.reduceEqDiff, rsvs, rsv, oneOf, rdN, ne_eq, Nat.reduceAdd, Nat.reduceMul, Nat.reduceLT, reduceCtorEq, Value.cells, setN, Value.oneCell', Nat.reduceLeDiff, undef, fcT, c0, c1, c2, c3, c4, e0, e1, e2, e3, e4, rd_rw eS, rd_rw zS, rd_rw zR, zR, hv, hst, Bool.not_false, Bool.not_true, hs_]))) | ((first | (with_reducible refine newB_i (fun nb_ hb_ => ?_)) | ((with_reducible show QC _ _ _ _ _ _); (first | (refine QC_i (l21Good tot A la c hand B rj d sl _ _ hla hc hA hRB) ?_) | (refine QC_i (l21Step _ _ _ _) ?_))) | ((with_reducible show AC _ _ _ _ _ _); (first | (refine PC.ac (l21Good tot A la c hand B rj d sl _ _ hla hc hA hRB) ?_) | (refine PC.ac (l21Step _ _ _ _) ?_))) | (with_reducible refine RgE_i (fun (hBd_ : Bd _ _) => ?_))); (try simp (disch := omega) only [bsW, WOp, WOq, WV, bo, eqN, gdc, gw, bnd, ↓reduceIte, Nat.reduceEqDiff, rsvs, rsv, oneOf, rdN, ne_eq, Nat.reduceAdd, Nat.reduceMul, Nat.reduceLT, reduceCtorEq, Value.cells, setN, Value.oneCell', Nat.reduceLeDiff, undef, fcT, c0, c1, c2, c3, c4, e0, e1, e2, e3, e4, rd_rw eS, rd_rw zS, rd_rw zR, zR, hv, hst, Bool.not_false, Bool.not_true])) | (with_reducible refine fun (hBd_ : Bd _ _) => ?_) | ((first | (with_reducible refine @And.intro (Sub _ _) _ ?_ ?_) | ((with_reducible refine @And.intro (Sub _ _ ∧ _) _ ?_ ?_); (with_reducible refine @And.intro (Sub _ _) _ ?_ ?_))); exact sbX) | ((with_reducible refine And.intro ?_ ?_); omega)))
    all_goals try (exfalso; omega)
    refine sdK_no ?_ ?_
    · simp [sdB, hst]
    · (first | assumption | exact sub_up (nx := nx) (by omega) hB hs2)
  have hok := pzB_iff.1 hv
  have hlen := PzOk.len hok
  (try (simp (disch := omega) only [bsW, WOp, WOq, WV, bo, eqN, gdc, gw, bnd, ↓reduceIte, Nat.reduceEqDiff, rsvs, rsv, oneOf, rdN, ne_eq, Nat.reduceAdd, Nat.reduceMul, Nat.reduceLT, reduceCtorEq, Value.cells, setN, Value.oneCell', Nat.reduceLeDiff, undef, fcT, c0, c1, c2, c3, c4, e0, e1, e2, e3, e4, rd_rw eS, rd_rw zS, rd_rw zR, zR, hv, hst, Bool.not_false, Bool.not_true]))
  (repeat' (first | ((with_reducible refine gif_split (fun hs_ => ?_) (fun hs_ => ?_)) <;> (have hp_ := hs_; (try simp only [hpL, ne_eq] at hp_); (try simp (disch := omega) only [bsW, WOp, WOq, WV, bo, eqN, gdc, gw, bnd, ↓reduceIte, Nat.reduceEqDiff, rsvs, rsv, oneOf, rdN, ne_eq, Nat.reduceAdd, Nat.reduceMul, Nat.reduceLT, reduceCtorEq, Value.cells, setN, Value.oneCell', Nat.reduceLeDiff, undef, fcT, c0, c1, c2, c3, c4, e0, e1, e2, e3, e4, rd_rw eS, rd_rw zS, rd_rw zR, zR, hv, hst, Bool.not_false, Bool.not_true, hs_]))) | ((first | (with_reducible refine newB_i (fun nb_ hb_ => ?_)) | ((with_reducible show QC _ _ _ _ _ _); (first | (refine QC_i (l21Good tot A la c hand B rj d sl _ _ hla hc hA hRB) ?_) | (refine QC_i (l21Step _ _ _ _) ?_))) | ((with_reducible show AC _ _ _ _ _ _); (first | (refine PC.ac (l21Good tot A la c hand B rj d sl _ _ hla hc hA hRB) ?_) | (refine PC.ac (l21Step _ _ _ _) ?_))) | (with_reducible refine RgE_i (fun (hBd_ : Bd _ _) => ?_))); (try simp (disch := omega) only [bsW, WOp, WOq, WV, bo, eqN, gdc, gw, bnd, ↓reduceIte, Nat.reduceEqDiff, rsvs, rsv, oneOf, rdN, ne_eq, Nat.reduceAdd, Nat.reduceMul, Nat.reduceLT, reduceCtorEq, Value.cells, setN, Value.oneCell', Nat.reduceLeDiff, undef, fcT, c0, c1, c2, c3, c4, e0, e1, e2, e3, e4, rd_rw eS, rd_rw zS, rd_rw zR, zR, hv, hst, Bool.not_false, Bool.not_true])) | (with_reducible refine fun (hBd_ : Bd _ _) => ?_) | ((first | (with_reducible refine @And.intro (Sub _ _) _ ?_ ?_) | ((with_reducible refine @And.intro (Sub _ _ ∧ _) _ ?_ ?_); (with_reducible refine @And.intro (Sub _ _) _ ?_ ?_))); exact sbX) | ((with_reducible refine And.intro ?_ ?_); omega)))
  all_goals try (exfalso; omega)
  refine (l21Make tot A la c hand B rj d sl kd pc _ _ hok hst (by omega) hc hA hRB).monoC ?_
  rintro v3 H3 nx3 hB3 hx3 ⟨w3, q3, rfl, ⟨hO, ht3⟩, hq3⟩
  have zR3 := ht3 _ _ zR
  have hs3 := hs2.trans ht3
  obtain ⟨t3, l3, h3, r3, s3⟩ := q3
  obtain ⟨u3, x3, rfl, hu3, hv3, hd3⟩ := hO.ex
  obtain ⟨A5, k5, rfl, _, _⟩ := OwnR.rd hu3
  obtain ⟨A6, k6, rfl, _, _⟩ := OwnR.rd hv3
  cases hso : stOk ⟨tot, la, hand, rj, sl⟩ kd pc
  · (try (simp (disch := omega) only [bsW, WOp, WOq, WV, bo, eqN, gdc, gw, bnd, ↓reduceIte, Nat.reduceEqDiff, rsvs, rsv, oneOf, rdN, ne_eq, Nat.reduceAdd, Nat.reduceMul, Nat.reduceLT, reduceCtorEq, Value.cells, setN, Value.oneCell', Nat.reduceLeDiff, undef, fcT, zR3, hso, Bool.not_false]))
    (repeat' (first | ((with_reducible refine gif_split (fun hs_ => ?_) (fun hs_ => ?_)) <;> (have hp_ := hs_; (try simp only [hpL, ne_eq] at hp_); (try simp (disch := omega) only [bsW, WOp, WOq, WV, bo, eqN, gdc, gw, bnd, ↓reduceIte, Nat.reduceEqDiff, rsvs, rsv, oneOf, rdN, ne_eq, Nat.reduceAdd, Nat.reduceMul, Nat.reduceLT, reduceCtorEq, Value.cells, setN, Value.oneCell', Nat.reduceLeDiff, undef, fcT, zR3, hso, Bool.not_false, hs_]))) | ((first | (with_reducible refine newB_i (fun nb_ hb_ => ?_)) | (with_reducible refine RgE_i (fun (hBd_ : Bd _ _) => ?_))); (try simp (disch := omega) only [bsW, WOp, WOq, WV, bo, eqN, gdc, gw, bnd, ↓reduceIte, Nat.reduceEqDiff, rsvs, rsv, oneOf, rdN, ne_eq, Nat.reduceAdd, Nat.reduceMul, Nat.reduceLT, reduceCtorEq, Value.cells, setN, Value.oneCell', Nat.reduceLeDiff, undef, fcT, zR3, hso, Bool.not_false])) | (with_reducible refine fun (hBd_ : Bd _ _) => ?_) | ((first | (with_reducible refine @And.intro (Sub _ _) _ ?_ ?_) | ((with_reducible refine @And.intro (Sub _ _ ∧ _) _ ?_ ?_); (with_reducible refine @And.intro (Sub _ _) _ ?_ ?_))); exact sbX) | ((with_reducible refine And.intro ?_ ?_); omega)))
    all_goals try (exfalso; omega)
    exact sdK_no (by simp [sdB, hso]) (sub_up (nx := nx) (by omega) hB (sub_up (nx := nx) (by omega) hB hs3))
  · (try (simp (disch := omega) only [bsW, WOp, WOq, WV, bo, eqN, gdc, gw, bnd, ↓reduceIte, Nat.reduceEqDiff, rsvs, rsv, oneOf, rdN, ne_eq, Nat.reduceAdd, Nat.reduceMul, Nat.reduceLT, reduceCtorEq, Value.cells, setN, Value.oneCell', Nat.reduceLeDiff, undef, fcT, zR3, hso, Bool.not_true]))
    (repeat' (first | ((with_reducible refine gif_split (fun hs_ => ?_) (fun hs_ => ?_)) <;> (have hp_ := hs_; (try simp only [hpL, ne_eq] at hp_); (try simp (disch := omega) only [bsW, WOp, WOq, WV, bo, eqN, gdc, gw, bnd, ↓reduceIte, Nat.reduceEqDiff, rsvs, rsv, oneOf, rdN, ne_eq, Nat.reduceAdd, Nat.reduceMul, Nat.reduceLT, reduceCtorEq, Value.cells, setN, Value.oneCell', Nat.reduceLeDiff, undef, fcT, zR3, hso, Bool.not_true, hs_]))) | ((first | (with_reducible refine newB_i (fun nb_ hb_ => ?_)) | (with_reducible refine RgE_i (fun (hBd_ : Bd _ _) => ?_))); (try simp (disch := omega) only [bsW, WOp, WOq, WV, bo, eqN, gdc, gw, bnd, ↓reduceIte, Nat.reduceEqDiff, rsvs, rsv, oneOf, rdN, ne_eq, Nat.reduceAdd, Nat.reduceMul, Nat.reduceLT, reduceCtorEq, Value.cells, setN, Value.oneCell', Nat.reduceLeDiff, undef, fcT, zR3, hso, Bool.not_true])) | (with_reducible refine fun (hBd_ : Bd _ _) => ?_) | ((first | (with_reducible refine @And.intro (Sub _ _) _ ?_ ?_) | ((with_reducible refine @And.intro (Sub _ _ ∧ _) _ ?_ ?_); (with_reducible refine @And.intro (Sub _ _) _ ?_ ?_))); exact sbX) | ((with_reducible refine And.intro ?_ ?_); omega)))
    all_goals try (exfalso; omega)
    exact sdK_yes (by simp [sdB, hso, hst, hv]) (hq3 hso).symm ⟨_, _, rfl, OwnR.lo (OwnR.keep hu3 (fun c hc => by have := OwnR.blk hu3 hc; rw [upd_ne (by omega), upd_ne (by omega)]) (by omega)) (by omega), OwnR.lo (OwnR.keep hv3 (fun c hc => by have := OwnR.blk hv3 hc; rw [upd_ne (by omega), upd_ne (by omega)]) (by omega)) (by omega), hd3⟩ (sub_up (nx := nx) (by omega) hB (sub_up (nx := nx) (by omega) hB hs3))
theorem StepPuzzleO (v : Value) (tot : Int) (la : List Int) (hand : Int) (rj : List Int) (sl : Bool) (kd pc : Int) (lo hi : Nat) (H : Hp) (nx : Nat) (hla : la.length + rj.length ≤ 1048576) (h : OwnP H lo hi tot la hand rj sl v) :
    AC Tryd.prog 21 #[v, .agg #[.int .i64 kd, .int .i64 pc]] H nx (SdK H nx ⟨tot, la, hand, rj, sl⟩ kd pc) := by
  obtain ⟨A, c, B, d, rfl, hc, hd, hA, hB⟩ := h.rd
  exact StepPuzzle tot A la c hand B rj d sl kd pc H nx hla hc hA hB
theorem sStepPuzzleO (v : Value) (tot : Int) (la : List Int) (hand : Int) (rj : List Int) (sl : Bool) (kd pc : Int) (lo hi : Nat) (H : Hp) (nx : Nat) (hla : la.length + rj.length ≤ 1048576) (h : OwnP H lo hi tot la hand rj sl v) :
    AC Tryd.prog 56 #[v, .agg #[.int .i64 kd, .int .i64 pc]] H nx (SdK H nx ⟨tot, la, hand, rj, sl⟩ kd pc) := by
  obtain ⟨A, c, B, d, rfl, hc, hd, hA, hB⟩ := h.rd
  exact sStepPuzzle tot A la c hand B rj d sl kd pc H nx hla hc hA hB
end Go.Proofs.YtbhabpenlaklcaaDoor
