/- The draws of puzzles: a puzzle. -/
import Derived.Test.YtbhabpenlaklcaaDoorPD1
import Derived.Test.YtbhabpenlaklcaaDoorQ17
import Derived.Test.YtbhabpenlaklcaaDoorD8
set_option linter.unusedVariables false
set_option linter.unusedSimpArgs false
set_option maxRecDepth 100000
set_option maxHeartbeats 4000000
namespace Go.Proofs.YtbhabpenlaklcaaDoor
open Go Go.RowKit Go.Proofs
theorem OwnP.wide {H : Hp} {lo hi lo' hi' : Nat} {tot : Int} {la : List Int} {hand : Int} {rj : List Int} {sl : Bool} {v : Value} (h : OwnP H lo hi tot la hand rj sl v) (h1 : lo' ≤ lo) (h2 : hi ≤ hi') : OwnP H lo' hi' tot la hand rj sl v := by
  obtain ⟨u, w, e, hu, hw, hd⟩ := h.ex
  exact ⟨u, w, e, OwnR.lo (OwnR.sub hu (Sub.refl _) h2) h1, OwnR.lo (OwnR.sub hw (Sub.refl _) h2) h1, hd⟩
theorem OwnR.stay6 {bC : Nat} {H H' : Hp} {lo hi n k : Nat} {f : Nat → Nat → Int} {ty : TypeId} {v : Value} (h : OwnR H lo hi n k f ty v) (hs : StayB bC H H') (hlo : bC < lo) : OwnR H' lo hi n k f ty v :=
  OwnR.subI (OwnR.keepI h (H' := del H bC) (fun c h1 h2 => by unfold del; rw [if_neg (by omega)])) hs.subD
/-- A puzzle in a cell, its rows beyond lo. -/
def CellZ (H : Hp) (b lo hi : Nat) (p : PzD) : Prop := ∃ A c B d, H b = some (.rw [.int .i64 p.tot, .slice A p.la.length c, .int .i64 p.hand, .slice B p.rj.length d, .bool p.sl] 28) ∧ OwnP H lo hi p.tot p.la p.hand p.rj p.sl (.agg #[.int .i64 p.tot, .slice A p.la.length c, .int .i64 p.hand, .slice B p.rj.length d, .bool p.sl])
theorem CellZ.of {H : Hp} {b lo hi : Nat} {p : PzD} {v : Value} (h : OwnP H lo hi p.tot p.la p.hand p.rj p.sl v) (hb : ∀ cs, v = .agg cs → H b = some (.rw cs.toList 28)) : CellZ H b lo hi p := by
  obtain ⟨A, c, B, d, rfl, _, _, _, _⟩ := h.rd
  exact ⟨A, c, B, d, hb _ rfl, h⟩
theorem CellZ.stay {bC : Nat} {H H' : Hp} {b lo hi : Nat} {p : PzD} (h : CellZ H b lo hi p) (hs : StayB bC H H') (hlo : bC < lo) (hb : b ≠ bC) : CellZ H' b lo hi p := by
  obtain ⟨A, c, B, d, h1, h2⟩ := h
  exact ⟨A, c, B, d, hs _ _ hb h1, h2.stay hs hlo⟩
/-- What drawing a step and making it leaves, in whichever order. -/
structure PzI (H0 : Hp) (n0 : Nat) (H : Hp) (nx bC z0 bX : Nat) (k a : Int) (fr2 : Fr) (H2 : Hp) (nx2 : Nat) : Prop where
  g0 : fr2 0 = .pointer (some ⟨bC, 0, none⟩)
  g2 : fr2 2 = .pointer (some ⟨z0, 0, none⟩)
  g3 : fr2 3 = .pointer (some ⟨bX, 0, none⟩)
  g4 : fr2 4 = .int .i64 k
  ex : ∃ (q : PzD) (t : Bool) (bT : Nat), fr2 5 = .pointer (some ⟨bT, 0, none⟩) ∧ fr2 6 = .bool t ∧ nx ≤ bT ∧ bT < nx2 ∧ CellZ H2 bT nx nx2 q ∧ q.la.length + q.rj.length ≤ 20
  cur : Cur H0 n0 H2 bC a
  stay : StayB bC H H2
  nx : nx ≤ nx2
theorem puzzleReg (H0 : Hp) (n0 bC z0 bX : Nat) (k a : Int) (p : PzD) (lo : Nat) (fr : Fr) (H : Hp) (nx : Nat) (hB : Bd H nx) (hC : Cur H0 n0 H bC a) (ha : a ≤ 4611686018427383000) (hX : CellZ H bX lo nx p) (hXC : bX ≠ bC) (hlo : bC < lo) (hln : p.la.length + p.rj.length ≤ 1048570)
    (f0 : fr 0 = .pointer (some ⟨bC, 0, none⟩)) (f2 : fr 2 = .pointer (some ⟨z0, 0, none⟩)) (f3 : fr 3 = .pointer (some ⟨bX, 0, none⟩)) (f4 : fr 4 = .int .i64 k) :
    V Tryd.prog c_spec_l1Cur_puzzle_r0 (thn (PzI H0 n0 H nx bC z0 bX k (a + 10)) (fun _ _ _ _ => False)) fr H nx := by
  obtain ⟨A, c, B, d, hX, hO⟩ := hX
  have hbC : bC < nx := by
    obtain ⟨A, n, c, at_, seed, h1, _⟩ := hC.ex
    exact hB _ _ h1
  have hn0 := hC.at_
  have hXd : (del H bC) bX = some (.rw [.int .i64 p.tot, .slice A p.la.length c, .int .i64 p.hand, .slice B p.rj.length d, .bool p.sl] 28) := by unfold del; rw [if_neg hXC]; exact hX
  have hbX := hB _ _ hX
  have hBd0 : Bd (del H bC) nx := fun d o e => hB d o (sub_del _ _ _ _ e)
  simp (disch := omega) only [bsW, WOp, WOq, WV, bo, eqN, gdc, gw, bnd, ↓reduceIte, Nat.reduceEqDiff, rsvs, rsv, oneOf, rdN, ne_eq, Nat.reduceAdd, Nat.reduceMul, Nat.reduceLT, reduceCtorEq, Value.cells, setN, Value.oneCell', Nat.reduceLeDiff, undef, fcT, f0, f2, f3, f4, hXd, rd_rw hXd, c_spec_l1Cur_puzzle_r0]
  refine RgE_del bC (fun hBd => ?_)
  simp (disch := omega) only [bsW, WOp, WOq, WV, bo, eqN, gdc, gw, bnd, ↓reduceIte, Nat.reduceEqDiff, rsvs, rsv, oneOf, rdN, ne_eq, Nat.reduceAdd, Nat.reduceMul, Nat.reduceLT, reduceCtorEq, Value.cells, setN, Value.oneCell', Nat.reduceLeDiff, undef, fcT, f0, f2, f3, f4, hXd, rd_rw hXd]
  refine ⟨?_, ?_⟩
  · refine (puzzleStep H0 n0 bC a _ _ _ _ _ _ lo nx H nx hC (by omega) hO (by omega) (Nat.le_refl _) (by omega)).monoC ?_
    rintro v1 H1 nx1 hB1 hx1 ⟨⟨kd, pc, rfl⟩, hC1, hs1, hx1'⟩
    have hO1 := hO.stay hs1 hlo
    have hsd1 := hs1.subD
    simp (disch := omega) only [bsW, WOp, WOq, WV, bo, eqN, gdc, gw, bnd, ↓reduceIte, Nat.reduceEqDiff, rsvs, rsv, oneOf, rdN, ne_eq, Nat.reduceAdd, Nat.reduceMul, Nat.reduceLT, reduceCtorEq, Value.cells, setN, Value.oneCell', Nat.reduceLeDiff, undef, fcT, f0, f2, f3, f4, hXd, rd_rw hXd]
    refine ⟨hsd1, ?_, ?_⟩
    · refine (sStepPuzzleO _ _ _ _ _ _ kd pc lo nx _ _ (by omega) hO1).monoC ?_
      rintro v2 H2 nx2 hB2 hx2 ⟨w2, rfl, hO2, ht2⟩
      obtain ⟨A2, c2, B2, d2, rfl, _, _, _, _⟩ := hO2.rd
      simp (disch := omega) only [bsW, WOp, WOq, WV, bo, eqN, gdc, gw, bnd, ↓reduceIte, Nat.reduceEqDiff, rsvs, rsv, oneOf, rdN, ne_eq, Nat.reduceAdd, Nat.reduceMul, Nat.reduceLT, reduceCtorEq, Value.cells, setN, Value.oneCell', Nat.reduceLeDiff, undef, fcT, f0, f2, f3, f4, hXd, rd_rw hXd]
      (repeat' (first | ((with_reducible refine gif_split (fun hs_ => ?_) (fun hs_ => ?_)) <;> (have hp_ := hs_; (try simp only [hpL, ne_eq] at hp_); (try simp (disch := omega) only [bsW, WOp, WOq, WV, bo, eqN, gdc, gw, bnd, ↓reduceIte, Nat.reduceEqDiff, rsvs, rsv, oneOf, rdN, ne_eq, Nat.reduceAdd, Nat.reduceMul, Nat.reduceLT, reduceCtorEq, Value.cells, setN, Value.oneCell', Nat.reduceLeDiff, undef, fcT, f0, f2, f3, f4, hXd, rd_rw hXd, hs_]))) | ((first | (with_reducible refine newB_i (fun nb_ hb_ => ?_)) | (with_reducible refine RgE_i (fun (hBd_ : Bd _ _) => ?_))); (try simp (disch := omega) only [bsW, WOp, WOq, WV, bo, eqN, gdc, gw, bnd, ↓reduceIte, Nat.reduceEqDiff, rsvs, rsv, oneOf, rdN, ne_eq, Nat.reduceAdd, Nat.reduceMul, Nat.reduceLT, reduceCtorEq, Value.cells, setN, Value.oneCell', Nat.reduceLeDiff, undef, fcT, f0, f2, f3, f4, hXd, rd_rw hXd])) | (with_reducible refine fun (hBd_ : Bd _ _) => ?_) | ((first | (with_reducible refine @And.intro (Sub _ _) _ ?_ ?_) | ((with_reducible refine @And.intro (Sub _ _ ∧ _) _ ?_ ?_); (with_reducible refine @And.intro (Sub _ _) _ ?_ ?_))); exact sbX) | ((with_reducible refine And.intro ?_ ?_); omega) | (with_reducible refine And.intro ?_ ?_)))
      · exact sub_up (nx := nx) (by omega) hBd0 (hsd1.trans ht2)
      · exact ⟨by simp (disch := omega) only [bsW, ↓reduceIte, Nat.reduceEqDiff, ne_eq, reduceCtorEq, fcT, f0, f2, f3, f4, hXd, rd_rw hXd], by simp (disch := omega) only [bsW, ↓reduceIte, Nat.reduceEqDiff, ne_eq, reduceCtorEq, fcT, f0, f2, f3, f4, hXd, rd_rw hXd], by simp (disch := omega) only [bsW, ↓reduceIte, Nat.reduceEqDiff, ne_eq, reduceCtorEq, fcT, f0, f2, f3, f4, hXd, rd_rw hXd], by simp (disch := omega) only [bsW, ↓reduceIte, Nat.reduceEqDiff, ne_eq, reduceCtorEq, fcT, f0, f2, f3, f4, hXd, rd_rw hXd], ⟨sdD ⟨p.tot, p.la, p.hand, p.rj, p.sl⟩ kd pc, sdB ⟨p.tot, p.la, p.hand, p.rj, p.sl⟩ kd pc, nb_, by simp (disch := omega) only [bsW, ↓reduceIte, Nat.reduceEqDiff, ne_eq, reduceCtorEq, fcT, f0, f2, f3, f4, hXd, rd_rw hXd], by simp (disch := omega) only [bsW, ↓reduceIte, Nat.reduceEqDiff, ne_eq, reduceCtorEq, fcT, f0, f2, f3, f4, hXd, rd_rw hXd], by omega, by omega, ⟨A2, c2, B2, d2, upd_same _ _ _, (hO2.keepI (fun q h1 h2 => upd_ne (by omega))).wide (by omega) (by omega)⟩, sdD_len⟩, ((hC1.subs ht2).new (by omega) (by omega)), ((hs1.trans (.s ht2)).new hB (by omega)), by omega⟩
    · refine newB_i (fun nT hT => ?_)
      simp (disch := omega) only [bsW, WOp, WOq, WV, bo, eqN, gdc, gw, bnd, ↓reduceIte, Nat.reduceEqDiff, rsvs, rsv, oneOf, rdN, ne_eq, Nat.reduceAdd, Nat.reduceMul, Nat.reduceLT, reduceCtorEq, Value.cells, setN, Value.oneCell', Nat.reduceLeDiff, undef, fcT, f0, f2, f3, f4, hXd, rd_rw hXd]
      refine ⟨sub_up (nx := nx) (by omega) hBd0 hsd1, ?_⟩
      refine (sStepPuzzleO _ _ _ _ _ _ kd pc lo nx _ _ (by omega) (hO1.keepI (fun q h1 h2 => upd_ne (by omega)))).monoC ?_
      rintro v2 H2 nx2 hB2 hx2 ⟨w2, rfl, hO2, ht2⟩
      obtain ⟨A2, c2, B2, d2, rfl, _, _, _, _⟩ := hO2.rd
      have hT2 := ht2 nT _ (upd_same _ _ _)
      have hC2 := hC1.new (b := nT) (o := .rw [.int .i64 0, .slice none 0 0, .int .i64 0, .slice none 0 0, .bool false] 28) (by omega) (by omega)
      replace hC1 := hC2
      simp (disch := omega) only [bsW, WOp, WOq, WV, bo, eqN, gdc, gw, bnd, ↓reduceIte, Nat.reduceEqDiff, rsvs, rsv, oneOf, rdN, ne_eq, Nat.reduceAdd, Nat.reduceMul, Nat.reduceLT, reduceCtorEq, Value.cells, setN, Value.oneCell', Nat.reduceLeDiff, undef, fcT, hT2, f0, f2, f3, f4]
      exact ⟨by simp (disch := omega) only [bsW, ↓reduceIte, Nat.reduceEqDiff, ne_eq, reduceCtorEq, fcT, hT2, f0, f2, f3, f4], by simp (disch := omega) only [bsW, ↓reduceIte, Nat.reduceEqDiff, ne_eq, reduceCtorEq, fcT, hT2, f0, f2, f3, f4], by simp (disch := omega) only [bsW, ↓reduceIte, Nat.reduceEqDiff, ne_eq, reduceCtorEq, fcT, hT2, f0, f2, f3, f4], by simp (disch := omega) only [bsW, ↓reduceIte, Nat.reduceEqDiff, ne_eq, reduceCtorEq, fcT, hT2, f0, f2, f3, f4], ⟨sdD ⟨p.tot, p.la, p.hand, p.rj, p.sl⟩ kd pc, sdB ⟨p.tot, p.la, p.hand, p.rj, p.sl⟩ kd pc, nT, by simp (disch := omega) only [bsW, ↓reduceIte, Nat.reduceEqDiff, ne_eq, reduceCtorEq, fcT, hT2, f0, f2, f3, f4], by simp (disch := omega) only [bsW, ↓reduceIte, Nat.reduceEqDiff, ne_eq, reduceCtorEq, fcT, hT2, f0, f2, f3, f4], by omega, by omega, ⟨A2, c2, B2, d2, upd_same _ _ _, (hO2.keepI (fun q h1 h2 => upd_ne (by omega))).wide (by omega) (by omega)⟩, sdD_len⟩, ((hC1.subs ht2).new (by omega) (by omega)), (((hs1.new hB (by omega)).trans (.s ht2)).new hB (by omega)), by omega⟩
  · refine newB_i (fun nT hT => ?_)
    simp (disch := omega) only [bsW, WOp, WOq, WV, bo, eqN, gdc, gw, bnd, ↓reduceIte, Nat.reduceEqDiff, rsvs, rsv, oneOf, rdN, ne_eq, Nat.reduceAdd, Nat.reduceMul, Nat.reduceLT, reduceCtorEq, Value.cells, setN, Value.oneCell', Nat.reduceLeDiff, undef, fcT, f0, f2, f3, f4]
    refine ⟨sub_up (nx := nx) (by omega) hBd0 (sub_del _ _), ?_⟩
    refine (puzzleStep H0 n0 bC a _ _ _ _ _ _ lo nx _ _ (hC.new (by omega) (by omega)) (by omega) (hO.keepI (fun q h1 h2 => upd_ne (by omega))) (by omega) (by omega) (by omega)).monoC ?_
    rintro v1 H1 nx1 hB1 hx1 ⟨⟨kd, pc, rfl⟩, hC1, hs1, hx1'⟩
    have hs1' : StayB bC H H1 := ((StayB.s (Sub.refl H)).new hB hT).trans hs1
    have hO1 := hO.stay hs1' hlo
    simp (disch := omega) only [bsW, WOp, WOq, WV, bo, eqN, gdc, gw, bnd, ↓reduceIte, Nat.reduceEqDiff, rsvs, rsv, oneOf, rdN, ne_eq, Nat.reduceAdd, Nat.reduceMul, Nat.reduceLT, reduceCtorEq, Value.cells, setN, Value.oneCell', Nat.reduceLeDiff, undef, fcT, f0, f2, f3, f4]
    refine ⟨hs1'.subD, ?_⟩
    refine (sStepPuzzleO _ _ _ _ _ _ kd pc lo nx _ _ (by omega) hO1).monoC ?_
    rintro v2 H2 nx2 hB2 hx2 ⟨w2, rfl, hO2, ht2⟩
    obtain ⟨A2, c2, B2, d2, rfl, _, _, _, _⟩ := hO2.rd
    have hT2 := ht2 nT _ (hs1 _ _ (by omega) (upd_same _ _ _))
    simp (disch := omega) only [bsW, WOp, WOq, WV, bo, eqN, gdc, gw, bnd, ↓reduceIte, Nat.reduceEqDiff, rsvs, rsv, oneOf, rdN, ne_eq, Nat.reduceAdd, Nat.reduceMul, Nat.reduceLT, reduceCtorEq, Value.cells, setN, Value.oneCell', Nat.reduceLeDiff, undef, fcT, hT2, f0, f2, f3, f4]
    exact ⟨by simp (disch := omega) only [bsW, ↓reduceIte, Nat.reduceEqDiff, ne_eq, reduceCtorEq, fcT, hT2, f0, f2, f3, f4], by simp (disch := omega) only [bsW, ↓reduceIte, Nat.reduceEqDiff, ne_eq, reduceCtorEq, fcT, hT2, f0, f2, f3, f4], by simp (disch := omega) only [bsW, ↓reduceIte, Nat.reduceEqDiff, ne_eq, reduceCtorEq, fcT, hT2, f0, f2, f3, f4], by simp (disch := omega) only [bsW, ↓reduceIte, Nat.reduceEqDiff, ne_eq, reduceCtorEq, fcT, hT2, f0, f2, f3, f4], ⟨sdD ⟨p.tot, p.la, p.hand, p.rj, p.sl⟩ kd pc, sdB ⟨p.tot, p.la, p.hand, p.rj, p.sl⟩ kd pc, nT, by simp (disch := omega) only [bsW, ↓reduceIte, Nat.reduceEqDiff, ne_eq, reduceCtorEq, fcT, hT2, f0, f2, f3, f4], by simp (disch := omega) only [bsW, ↓reduceIte, Nat.reduceEqDiff, ne_eq, reduceCtorEq, fcT, hT2, f0, f2, f3, f4], by omega, by omega, ⟨A2, c2, B2, d2, upd_same _ _ _, (hO2.keepI (fun q h1 h2 => upd_ne (by omega))).wide (by omega) (by omega)⟩, sdD_len⟩, ((hC1.subs ht2).new (by omega) (by omega)), ((hs1'.trans (.s ht2)).new hB (by omega)), by omega⟩
def pzW (nx : Nat) (v : Value) (H' : Hp) (nx' : Nat) : Prop := ∃ p : PzD, OwnP H' nx nx' p.tot p.la p.hand p.rj p.sl v ∧ p.la.length + p.rj.length ≤ 22
theorem puzzle (H0 : Hp) (n0 bC : Nat) (a : Int) (H : Hp) (nx : Nat) (hC : Cur H0 n0 H bC a) (ha : a ≤ 4611686018427380000) :
    AC Tryd.prog 39 #[.pointer (some ⟨bC, 0, none⟩)] H nx (DrawS H0 n0 H nx bC (a + 300) (pzW nx)) := by
  refine AC_of x_spec_l1Cur_puzzle rfl fun hB => ?_
  have hbC : bC < nx := by
    obtain ⟨A, n, c, at_, seed, h1, _⟩ := hC.ex
    exact hB _ _ h1
  have hn0 := hC.at_
  simp (disch := omega) only [bsW, WOp, WOq, WV, bo, eqN, gdc, gw, bnd, ↓reduceIte, Nat.reduceEqDiff, rsvs, rsv, oneOf, rdN, ne_eq, Nat.reduceAdd, Nat.reduceMul, Nat.reduceLT, reduceCtorEq, Value.cells, setN, Value.oneCell', Nat.reduceLeDiff, undef, fcT, c_spec_l1Cur_puzzle]
  (repeat' (first | ((with_reducible refine gif_split (fun hs_ => ?_) (fun hs_ => ?_)) <;> (have hp_ := hs_; (try simp only [hpL, ne_eq] at hp_); (try simp (disch := omega) only [bsW, WOp, WOq, WV, bo, eqN, gdc, gw, bnd, ↓reduceIte, Nat.reduceEqDiff, rsvs, rsv, oneOf, rdN, ne_eq, Nat.reduceAdd, Nat.reduceMul, Nat.reduceLT, reduceCtorEq, Value.cells, setN, Value.oneCell', Nat.reduceLeDiff, undef, fcT, hs_]))) | ((first | (with_reducible refine newB_i (fun nb_ hb_ => ?_)) | (with_reducible refine RgE_i (fun (hBd_ : Bd _ _) => ?_))); (try simp (disch := omega) only [bsW, WOp, WOq, WV, bo, eqN, gdc, gw, bnd, ↓reduceIte, Nat.reduceEqDiff, rsvs, rsv, oneOf, rdN, ne_eq, Nat.reduceAdd, Nat.reduceMul, Nat.reduceLT, reduceCtorEq, Value.cells, setN, Value.oneCell', Nat.reduceLeDiff, undef, fcT])) | (with_reducible refine fun (hBd_ : Bd _ _) => ?_) | ((first | (with_reducible refine @And.intro (Sub _ _) _ ?_ ?_) | ((with_reducible refine @And.intro (Sub _ _ ∧ _) _ ?_ ?_); (with_reducible refine @And.intro (Sub _ _) _ ?_ ?_))); exact sbX) | ((with_reducible refine And.intro ?_ ?_); omega)))
  rename_i z0 hz0
  refine (amongL H0 n0 bC a 1 20 nb_ _ _ _ 3 _ _ ((hC.new (by omega) (by omega)).new (by omega) (by omega)) (by omega) (upd_same _ _ _) (by omega) (by omega) (by simp) (by simp) (by decide)).monoC ?_
  rintro v1 H1 nx1 hB1 hx1 ⟨⟨tot, rfl, ht1, ht2⟩, hC1, hoth1, rfl⟩
  have f0 : H1 z0 = some (.rw [.int .i64 0, .slice none 0 0, .int .i64 0, .slice none 0 0, .bool false] 28) := by rw [hoth1 _ (by omega), upd_ne (by omega), upd_same]
  have hs1 : StayB bC H H1 := ((StayB.new (.s (Sub.refl H)) hB (by omega)).new hB (by omega)).trans (.k hoth1)
  clear hoth1
  (try (simp (disch := omega) only [bsW, WOp, WOq, WV, bo, eqN, gdc, gw, bnd, ↓reduceIte, Nat.reduceEqDiff, rsvs, rsv, oneOf, rdN, ne_eq, Nat.reduceAdd, Nat.reduceMul, Nat.reduceLT, reduceCtorEq, Value.cells, setN, Value.oneCell', Nat.reduceLeDiff, undef, fcT, f0]))
  (repeat' (first | ((with_reducible refine gif_split (fun hs_ => ?_) (fun hs_ => ?_)) <;> (have hp_ := hs_; (try simp only [hpL, ne_eq] at hp_); (try simp (disch := omega) only [bsW, WOp, WOq, WV, bo, eqN, gdc, gw, bnd, ↓reduceIte, Nat.reduceEqDiff, rsvs, rsv, oneOf, rdN, ne_eq, Nat.reduceAdd, Nat.reduceMul, Nat.reduceLT, reduceCtorEq, Value.cells, setN, Value.oneCell', Nat.reduceLeDiff, undef, fcT, f0, hs_]))) | ((first | (with_reducible refine newB_i (fun nb_ hb_ => ?_)) | (with_reducible refine RgE_i (fun (hBd_ : Bd _ _) => ?_))); (try simp (disch := omega) only [bsW, WOp, WOq, WV, bo, eqN, gdc, gw, bnd, ↓reduceIte, Nat.reduceEqDiff, rsvs, rsv, oneOf, rdN, ne_eq, Nat.reduceAdd, Nat.reduceMul, Nat.reduceLT, reduceCtorEq, Value.cells, setN, Value.oneCell', Nat.reduceLeDiff, undef, fcT, f0])) | (with_reducible refine fun (hBd_ : Bd _ _) => ?_) | ((first | (with_reducible refine @And.intro (Sub _ _) _ ?_ ?_) | ((with_reducible refine @And.intro (Sub _ _ ∧ _) _ ?_ ?_); (with_reducible refine @And.intro (Sub _ _) _ ?_ ?_))); exact sbX) | ((with_reducible refine And.intro ?_ ?_); omega)))
  have hbX := hb_
  generalize nb_ = bX at *
  refine (pick1 H0 n0 bC _ 20 _ _ (hC1.new (by omega) (by omega)) (by omega) (by omega)).monoC ?_
  rintro v2 H2 nx2 hB2 hx2 ⟨⟨k0, rfl, hk1, hk2⟩, hC2, hoth2, rfl⟩
  rw [if_neg (by omega)] at hk2
  have g0 : H2 z0 = some (.rw [.int .i64 0, .slice none 0 0, .int .i64 0, .slice none 0 0, .bool false] 28) := by rw [hoth2 _ (by omega), upd_ne (by omega)]; exact f0
  have gX : H2 bX = some (.rw [.int .i64 tot, .slice none 0 0, .int .i64 0, .slice none 0 0, .bool false] 28) := by rw [hoth2 _ (by omega), upd_same]
  have hs2 : StayB bC H H2 := (hs1.new hB (by omega)).trans (.k hoth2)
  clear hoth2
  (try (simp (disch := omega) only [bsW, WOp, WOq, WV, bo, eqN, gdc, gw, bnd, ↓reduceIte, Nat.reduceEqDiff, rsvs, rsv, oneOf, rdN, ne_eq, Nat.reduceAdd, Nat.reduceMul, Nat.reduceLT, reduceCtorEq, Value.cells, setN, Value.oneCell', Nat.reduceLeDiff, undef, fcT]))
  (repeat' (first | ((with_reducible refine gif_split (fun hs_ => ?_) (fun hs_ => ?_)) <;> (have hp_ := hs_; (try simp only [hpL, ne_eq] at hp_); (try simp (disch := omega) only [bsW, WOp, WOq, WV, bo, eqN, gdc, gw, bnd, ↓reduceIte, Nat.reduceEqDiff, rsvs, rsv, oneOf, rdN, ne_eq, Nat.reduceAdd, Nat.reduceMul, Nat.reduceLT, reduceCtorEq, Value.cells, setN, Value.oneCell', Nat.reduceLeDiff, undef, fcT, hs_]))) | ((first | (with_reducible refine newB_i (fun nb_ hb_ => ?_)) | (with_reducible refine RgE_i (fun (hBd_ : Bd _ _) => ?_))); (try simp (disch := omega) only [bsW, WOp, WOq, WV, bo, eqN, gdc, gw, bnd, ↓reduceIte, Nat.reduceEqDiff, rsvs, rsv, oneOf, rdN, ne_eq, Nat.reduceAdd, Nat.reduceMul, Nat.reduceLT, reduceCtorEq, Value.cells, setN, Value.oneCell', Nat.reduceLeDiff, undef, fcT])) | (with_reducible refine fun (hBd_ : Bd _ _) => ?_) | ((first | (with_reducible refine @And.intro (Sub _ _) _ ?_ ?_) | ((with_reducible refine @And.intro (Sub _ _ ∧ _) _ ?_ ?_); (with_reducible refine @And.intro (Sub _ _) _ ?_ ?_))); exact sbX) | ((with_reducible refine And.intro ?_ ?_); omega)))
  refine LpB_rule (fun m fr H' nx' => ∃ (k : Int) (p : PzD), (m : Int) = k + 1 ∧ 0 ≤ k ∧ k ≤ 19 ∧ fr 0 = .pointer (some ⟨bC, 0, none⟩) ∧ fr 2 = .pointer (some ⟨z0, 0, none⟩) ∧ fr 3 = .pointer (some ⟨bX, 0, none⟩) ∧ fr 4 = .int .i64 k ∧
      Cur H0 n0 H' bC (a + 4 + 10 * (19 - k)) ∧ StayB bC H H' ∧ bX < nx' ∧ H' z0 = some (.rw [.int .i64 0, .slice none 0 0, .int .i64 0, .slice none 0 0, .bool false] 28) ∧ CellZ H' bX (bX + 1) nx' p ∧ p.la.length + p.rj.length ≤ 20) ?_ ?_ (Int.toNat (k0 + 1)) ?_
  · rintro m K hK fr H' nx' hB' ⟨k, p, hm, hk0, hk1', f0, f2, f3, f4, hCL, hsL, hxL, g0L, hX, hln⟩
    simp (disch := omega) only [bsW, WOp, WOq, WV, bo, eqN, gdc, gw, bnd, ↓reduceIte, Nat.reduceEqDiff, rsvs, rsv, oneOf, rdN, ne_eq, Nat.reduceAdd, Nat.reduceMul, Nat.reduceLT, reduceCtorEq, Value.cells, setN, Value.oneCell', Nat.reduceLeDiff, undef, fcT, f0, f2, f3, f4]
    refine gif_split (fun b1 => ?_) (fun b1 => ?_)
    · have hlt : 0 < k := by simpa using b1
      simp (disch := omega) only [bsW, WOp, WOq, WV, bo, eqN, gdc, gw, bnd, ↓reduceIte, Nat.reduceEqDiff, rsvs, rsv, oneOf, rdN, ne_eq, Nat.reduceAdd, Nat.reduceMul, Nat.reduceLT, reduceCtorEq, Value.cells, setN, Value.oneCell', Nat.reduceLeDiff, undef, fcT, f0, f2, f3, f4, b1]
      refine V_mono _ (Q := thn (PzI H0 n0 H' nx' bC z0 bX k _) (fun _ _ _ _ => False)) ?_ (puzzleReg H0 n0 bC z0 bX k _ p (bX + 1) _ H' nx' hB' hCL (by omega) hX (by omega) (by omega) (by omega) (by simp (disch := omega) only [bsW, WOp, WOq, WV, bo, eqN, gdc, gw, bnd, ↓reduceIte, Nat.reduceEqDiff, rsvs, rsv, oneOf, rdN, ne_eq, Nat.reduceAdd, Nat.reduceMul, Nat.reduceLT, reduceCtorEq, Value.cells, setN, Value.oneCell', Nat.reduceLeDiff, undef, fcT, f0, f2, f3, f4]) (by simp (disch := omega) only [bsW, WOp, WOq, WV, bo, eqN, gdc, gw, bnd, ↓reduceIte, Nat.reduceEqDiff, rsvs, rsv, oneOf, rdN, ne_eq, Nat.reduceAdd, Nat.reduceMul, Nat.reduceLT, reduceCtorEq, Value.cells, setN, Value.oneCell', Nat.reduceLeDiff, undef, fcT, f0, f2, f3, f4]) (by simp (disch := omega) only [bsW, WOp, WOq, WV, bo, eqN, gdc, gw, bnd, ↓reduceIte, Nat.reduceEqDiff, rsvs, rsv, oneOf, rdN, ne_eq, Nat.reduceAdd, Nat.reduceMul, Nat.reduceLT, reduceCtorEq, Value.cells, setN, Value.oneCell', Nat.reduceLeDiff, undef, fcT, f0, f2, f3, f4]) (by simp (disch := omega) only [bsW, WOp, WOq, WV, bo, eqN, gdc, gw, bnd, ↓reduceIte, Nat.reduceEqDiff, rsvs, rsv, oneOf, rdN, ne_eq, Nat.reduceAdd, Nat.reduceMul, Nat.reduceLT, reduceCtorEq, Value.cells, setN, Value.oneCell', Nat.reduceLeDiff, undef, fcT, f0, f2, f3, f4]))
      rintro ex fr2 H4 nx4 hI4
      cases ex <;> try exact hI4.elim
      obtain ⟨g0', g2, g3, g4, ⟨q, t, bT, g5, g6, hbT1, hbT2, hqT, hqln⟩, hC4, hs4, hx4⟩ := hI4
      have hC4' : Cur H0 n0 H4 bC (a + 4 + 10 * (19 - (k - 1))) := hC4.le (by omega)
      have g04 := hs4 _ _ (by omega) g0L
      obtain ⟨A4, c4, B4, d4, hT4, hOT⟩ := hqT
      have hX4 := hX.stay hs4 (by omega) (by omega)
      cases t
      · simp (disch := omega) only [bsW, WOp, WOq, WV, bo, eqN, gdc, gw, bnd, ↓reduceIte, Nat.reduceEqDiff, rsvs, rsv, oneOf, rdN, ne_eq, Nat.reduceAdd, Nat.reduceMul, Nat.reduceLT, reduceCtorEq, Value.cells, setN, Value.oneCell', Nat.reduceLeDiff, undef, fcT, g0', g2, g3, g4, g5, g6]
        refine hK _ _ _ ?_
        obtain ⟨A9, c9, B9, d9, h9, hO9⟩ := hX4
        exact ⟨k - 1, p, by omega, by omega, by omega, by simp (disch := omega) only [bsW, ↓reduceIte, Nat.reduceEqDiff, ne_eq, reduceCtorEq, fcT, g0', g2, g3, g4, g5, g6], by simp (disch := omega) only [bsW, ↓reduceIte, Nat.reduceEqDiff, ne_eq, reduceCtorEq, fcT, g0', g2, g3, g4, g5, g6], by simp (disch := omega) only [bsW, ↓reduceIte, Nat.reduceEqDiff, ne_eq, reduceCtorEq, fcT, g0', g2, g3, g4, g5, g6], by simp (disch := omega) only [bsW, ↓reduceIte, Nat.reduceEqDiff, ne_eq, reduceCtorEq, fcT, g0', g2, g3, g4, g5, g6], hC4', hsL.trans hs4, by omega, g04, ⟨A9, c9, B9, d9, h9, hO9.wide (Nat.le_refl _) (by omega)⟩, hln⟩
      · obtain ⟨A9, c9, B9, d9, h9, hO9⟩ := hX4
        simp (disch := omega) only [bsW, WOp, WOq, WV, bo, eqN, gdc, gw, bnd, ↓reduceIte, Nat.reduceEqDiff, rsvs, rsv, oneOf, rdN, ne_eq, Nat.reduceAdd, Nat.reduceMul, Nat.reduceLT, reduceCtorEq, Value.cells, setN, Value.oneCell', Nat.reduceLeDiff, undef, fcT, g0', g2, g3, g4, g5, g6, rd_rw hT4, h9]
        refine hK _ _ _ ?_
        exact ⟨k - 1, q, by omega, by omega, by omega, by simp (disch := omega) only [bsW, ↓reduceIte, Nat.reduceEqDiff, ne_eq, reduceCtorEq, fcT, g0', g2, g3, g4, g5, g6, rd_rw hT4, h9], by simp (disch := omega) only [bsW, ↓reduceIte, Nat.reduceEqDiff, ne_eq, reduceCtorEq, fcT, g0', g2, g3, g4, g5, g6, rd_rw hT4, h9], by simp (disch := omega) only [bsW, ↓reduceIte, Nat.reduceEqDiff, ne_eq, reduceCtorEq, fcT, g0', g2, g3, g4, g5, g6, rd_rw hT4, h9], by simp (disch := omega) only [bsW, ↓reduceIte, Nat.reduceEqDiff, ne_eq, reduceCtorEq, fcT, g0', g2, g3, g4, g5, g6, rd_rw hT4, h9], hC4'.new (by omega) (by omega), (hsL.trans hs4).new hB (by omega), by omega, by rw [upd_ne (by omega)]; exact g04, ⟨A4, c4, B4, d4, upd_same _ _ _, (hOT.keepI (fun c h1 h2 => upd_ne (by omega))).wide (by omega) (Nat.le_refl _)⟩, hqln⟩
    · have hk : k = 0 := by
        have : ¬ 0 < k := by simpa using b1
        omega
      subst hk
      simp (disch := omega) only [bsW, WOp, WOq, WV, bo, eqN, gdc, gw, bnd, ↓reduceIte, Nat.reduceEqDiff, rsvs, rsv, oneOf, rdN, ne_eq, Nat.reduceAdd, Nat.reduceMul, Nat.reduceLT, reduceCtorEq, Value.cells, setN, Value.oneCell', Nat.reduceLeDiff, undef, fcT, f0, f2, f3, f4, b1]
      refine (pick1 H0 n0 bC _ 32 _ _ hCL (by omega) (by omega)).monoC ?_
      rintro v5 H5 nx5 hB5 hx5 ⟨⟨e, rfl, he1, he2⟩, hC5, hoth5, rfl⟩
      have hs5 : StayB bC H H5 := hsL.trans (.k hoth5)
      have g05 : H5 z0 = some (.rw [.int .i64 0, .slice none 0 0, .int .i64 0, .slice none 0 0, .bool false] 28) := by rw [hoth5 _ (by omega)]; exact g0L
      obtain ⟨A, c, B, d, hX5, hO5⟩ := hX.stay (.k hoth5) (by omega) (by omega)
      clear hoth5 hX
      have hBd0 : Bd (del H5 bC) nx5 := fun d o e => hB5 d o (sub_del _ _ _ _ e)
      have hXd : (del H5 bC) bX = some (.rw [.int .i64 p.tot, .slice A p.la.length c, .int .i64 p.hand, .slice B p.rj.length d, .bool p.sl] 28) := by unfold del; rw [if_neg (by omega)]; exact hX5
      obtain ⟨u5, w5, e5, hu, hw, hd5⟩ := hO5.ex
      cases e5
      have fin : ∀ (q : PzD) (u w : Value) (HH : Hp) (nn : Nat), OwnL HH (bX + 1) nn q.la 3 u → OwnL HH (bX + 1) nn q.rj 3 w → (∀ b, some b = ownBlk u → some b = ownBlk w → False) → q.la.length + q.rj.length ≤ 22 → Cur H0 n0 HH bC (a + 300) → StayB bC H HH → nx ≤ nn →
          DrawS H0 n0 H nx bC (a + 300) (pzW nx) (.agg #[.int .i64 q.tot, u, .int .i64 q.hand, w, .bool q.sl]) HH nn := fun q u w HH nn h1 h2 h3 h4 h5 h6 h7 =>
        ⟨⟨q, ⟨u, w, rfl, OwnR.lo h1 (by omega), OwnR.lo h2 (by omega), h3⟩, h4⟩, h5, h6, h7⟩
      (try (simp (disch := omega) only [bsW, WOp, WOq, WV, bo, eqN, gdc, gw, bnd, ↓reduceIte, Nat.reduceEqDiff, rsvs, rsv, oneOf, rdN, ne_eq, Nat.reduceAdd, Nat.reduceMul, Nat.reduceLT, reduceCtorEq, Value.cells, setN, Value.oneCell', Nat.reduceLeDiff, undef, fcT, f0, f2, f3, rd_rw hX5, hX5, g05]))
      (repeat' (first | ((with_reducible refine gif_split (fun hs_ => ?_) (fun hs_ => ?_)) <;> (have hp_ := hs_; (try simp only [hpL, ne_eq] at hp_); (try simp (disch := omega) only [bsW, WOp, WOq, WV, bo, eqN, gdc, gw, bnd, ↓reduceIte, Nat.reduceEqDiff, rsvs, rsv, oneOf, rdN, ne_eq, Nat.reduceAdd, Nat.reduceMul, Nat.reduceLT, reduceCtorEq, Value.cells, setN, Value.oneCell', Nat.reduceLeDiff, undef, fcT, f0, f2, f3, rd_rw hX5, hX5, g05, hs_]))) | ((first | (with_reducible refine newB_i (fun nb_ hb_ => ?_))); (try simp (disch := omega) only [bsW, WOp, WOq, WV, bo, eqN, gdc, gw, bnd, ↓reduceIte, Nat.reduceEqDiff, rsvs, rsv, oneOf, rdN, ne_eq, Nat.reduceAdd, Nat.reduceMul, Nat.reduceLT, reduceCtorEq, Value.cells, setN, Value.oneCell', Nat.reduceLeDiff, undef, fcT, f0, f2, f3, rd_rw hX5, hX5, g05])) | (with_reducible refine fun (hBd_ : Bd _ _) => ?_) | ((first | (with_reducible refine @And.intro (Sub _ _) _ ?_ ?_) | ((with_reducible refine @And.intro (Sub _ _ ∧ _) _ ?_ ?_); (with_reducible refine @And.intro (Sub _ _) _ ?_ ?_))); exact sbX) | ((with_reducible refine And.intro ?_ ?_); omega)))
      · refine RgE_del bC (fun hBd => ?_)
        simp (disch := omega) only [bsW, WOp, WOq, WV, bo, eqN, gdc, gw, bnd, ↓reduceIte, Nat.reduceEqDiff, rsvs, rsv, oneOf, rdN, ne_eq, Nat.reduceAdd, Nat.reduceMul, Nat.reduceLT, reduceCtorEq, Value.cells, setN, Value.oneCell', Nat.reduceLeDiff, undef, fcT, f0, f2, f3, rd_rw hXd]
        refine newB_i (fun b1 hb1 => ?_)
        simp (disch := omega) only [bsW, WOp, WOq, WV, bo, eqN, gdc, gw, bnd, ↓reduceIte, Nat.reduceEqDiff, rsvs, rsv, oneOf, rdN, ne_eq, Nat.reduceAdd, Nat.reduceMul, Nat.reduceLT, reduceCtorEq, Value.cells, setN, Value.oneCell', Nat.reduceLeDiff, undef, fcT, f0, f2, f3, rd_rw hXd]
        refine ⟨sub_up (nx := nx5) (by omega) hBd0 (sub_del _ _), ?_⟩
        refine (amongL H0 n0 bC _ 0 21 b1 _ _ _ 3 _ _ (hC5.new (by omega) (by omega)) (by omega) (upd_same _ _ _) (by omega) (by omega) (by simp) (by simp) (by decide)).monoC ?_
        rintro v6 H6 nx6 hB6 hx6 ⟨⟨x, rfl, _, _⟩, hC6, hoth6, rfl⟩
        have hs6 : StayB bC H5 H6 := ((StayB.s (Sub.refl H5)).new hB5 hb1).trans (.k hoth6)
        simp (disch := omega) only [bsW, WOp, WOq, WV, bo, eqN, gdc, gw, bnd, ↓reduceIte, Nat.reduceEqDiff, rsvs, rsv, oneOf, rdN, ne_eq, Nat.reduceAdd, Nat.reduceMul, Nat.reduceLT, reduceCtorEq, Value.cells, setN, Value.oneCell', Nat.reduceLeDiff, undef, fcT, f0, f2, f3, rd_rw hXd]
        refine ⟨hs6.subD, ?_⟩
        refine newB_i (fun b2 hb2 => ?_)
        simp (disch := omega) only [bsW, WOp, WOq, WV, bo, eqN, gdc, gw, bnd, ↓reduceIte, Nat.reduceEqDiff, rsvs, rsv, oneOf, rdN, ne_eq, Nat.reduceAdd, Nat.reduceMul, Nat.reduceLT, reduceCtorEq, Value.cells, setN, Value.oneCell', Nat.reduceLeDiff, undef, fcT, f0, f2, f3, rd_rw hXd]
        try refine ⟨sub_up (nx := nx5) (by omega) hBd0 hs6.subD, ?_⟩
        have ku := OwnR.stay6 hu hs6 (by omega)
        have kw := OwnR.stay6 hw hs6 (by omega)
        have gz := hs6 _ _ (by omega) g05
        have gX6 := hs6 _ _ (by omega) hX5
        refine app_oneL (x := x) (lo := bX + 1) (by simp (disch := omega) only [bsW, WOp, WOq, WV, bo, eqN, gdc, gw, bnd, ↓reduceIte, Nat.reduceEqDiff, rsvs, rsv, oneOf, rdN, ne_eq, Nat.reduceAdd, Nat.reduceMul, Nat.reduceLT, reduceCtorEq, Value.cells, setN, Value.oneCell', Nat.reduceLeDiff, undef, fcT, f0, f2, f3, rd_rw hXd]) (by simp (disch := omega) only [bsW, WOp, WOq, WV, bo, eqN, gdc, gw, bnd, ↓reduceIte, Nat.reduceEqDiff, rsvs, rsv, oneOf, rdN, ne_eq, Nat.reduceAdd, Nat.reduceMul, Nat.reduceLT, reduceCtorEq, Value.cells, setN, Value.oneCell', Nat.reduceLeDiff, undef, fcT, f0, f2, f3, rd_rw hXd]) (by simp (disch := omega) only [bsW, WOp, WOq, WV, bo, eqN, gdc, gw, bnd, ↓reduceIte, Nat.reduceEqDiff, rsvs, rsv, oneOf, rdN, ne_eq, Nat.reduceAdd, Nat.reduceMul, Nat.reduceLT, reduceCtorEq, Value.cells, setN, Value.oneCell', Nat.reduceLeDiff, undef, fcT, f0, f2, f3, rd_rw hXd]) (by simp (disch := omega) only [bsW, WOp, WOq, WV, bo, eqN, gdc, gw, bnd, ↓reduceIte, Nat.reduceEqDiff, rsvs, rsv, oneOf, rdN, ne_eq, Nat.reduceAdd, Nat.reduceMul, Nat.reduceLT, reduceCtorEq, Value.cells, setN, Value.oneCell', Nat.reduceLeDiff, undef, fcT, f0, f2, f3, rd_rw hXd]) (OwnR.sub (OwnR.keepI ku (fun q h1 h2 => upd_ne (by omega))) (Sub.refl _) (by omega)) (upd_same _ _ _) (by omega) (by omega) ?_
        rintro v' b' o nx2 hb' hn2 hown' hO8
        have hbL := OwnR.blk hO8 hown'
        obtain ⟨A8, c8, rfl, _, _⟩ := OwnR.rd hO8
        have hne : ∀ q, some q = ownBlk (.slice B p.rj.length d) → q ≠ b' := fun q hq e => by
          subst e
          rcases hb' with e | e
          · exact hd5 _ e hq
          · have := OwnR.blk kw hq
            omega
        (try (simp (disch := omega) only [bsW, WOp, WOq, WV, bo, eqN, gdc, gw, bnd, ↓reduceIte, Nat.reduceEqDiff, rsvs, rsv, oneOf, rdN, ne_eq, Nat.reduceAdd, Nat.reduceMul, Nat.reduceLT, reduceCtorEq, Value.cells, setN, Value.oneCell', Nat.reduceLeDiff, undef, fcT, f0, f2, f3, gX6, gz]))
        (repeat' (first | ((with_reducible refine gif_split (fun hs_ => ?_) (fun hs_ => ?_)) <;> (have hp_ := hs_; (try simp only [hpL, ne_eq] at hp_); (try simp (disch := omega) only [bsW, WOp, WOq, WV, bo, eqN, gdc, gw, bnd, ↓reduceIte, Nat.reduceEqDiff, rsvs, rsv, oneOf, rdN, ne_eq, Nat.reduceAdd, Nat.reduceMul, Nat.reduceLT, reduceCtorEq, Value.cells, setN, Value.oneCell', Nat.reduceLeDiff, undef, fcT, f0, f2, f3, gX6, gz, hs_]))) | ((first | (with_reducible refine newB_i (fun nb_ hb_ => ?_)) | (with_reducible refine RgE_i (fun (hBd_ : Bd _ _) => ?_))); (try simp (disch := omega) only [bsW, WOp, WOq, WV, bo, eqN, gdc, gw, bnd, ↓reduceIte, Nat.reduceEqDiff, rsvs, rsv, oneOf, rdN, ne_eq, Nat.reduceAdd, Nat.reduceMul, Nat.reduceLT, reduceCtorEq, Value.cells, setN, Value.oneCell', Nat.reduceLeDiff, undef, fcT, f0, f2, f3, gX6, gz])) | (with_reducible refine fun (hBd_ : Bd _ _) => ?_) | ((first | (with_reducible refine @And.intro (Sub _ _) _ ?_ ?_) | ((with_reducible refine @And.intro (Sub _ _ ∧ _) _ ?_ ?_); (with_reducible refine @And.intro (Sub _ _) _ ?_ ?_))); exact sbX) | ((with_reducible refine And.intro ?_ ?_); omega)))
        all_goals try (exfalso; omega)
        refine fin ⟨p.tot, p.la ++ [x], p.hand, p.rj, p.sl⟩ _ _ _ _ ?_ ?_ ?_ ?_ ?_ ?_ ?_
        · exact (OwnR.keepI hO8 (fun q h1 h2 => by rw [upd_ne (by omega), upd_ne (by omega)]))
        · exact (OwnR.sub (OwnR.keep kw (fun q hq => by have := OwnR.blk kw hq; have := hne q hq; rw [upd_ne (by omega), upd_ne (by omega), upd_ne (by omega), upd_ne (by omega)]) (Nat.le_refl _)) (Sub.refl _) (by omega))
        · exact (fun q h1 h2 => hne _ h2 (by rw [← hown'] at h1; cases h1; rfl))
        · exact (by simp only [List.length_append, List.length_singleton]; omega)
        · exact ((((hC6.new (by omega) (by omega)).new (by omega) (by omega)).new (b := bX) (by omega) (by omega)).new (by omega) (by omega) |>.le (by omega))
        · exact (((((hs5.trans hs6).new hB (by omega)).new hB (by omega)).new hB (by omega)).new hB (by omega))
        · exact (by omega)
      · exact fin ⟨p.tot, p.la, p.hand, p.rj, true⟩ _ _ _ _ (OwnR.keepI hu (fun q h1 h2 => by rw [upd_ne (by omega), upd_ne (by omega)])) (OwnR.keepI hw (fun q h1 h2 => by rw [upd_ne (by omega), upd_ne (by omega)])) hd5 (by simp only []; omega) (((hC5.new (b := bX) (by omega) (by omega)).new (by omega) (by omega)).le (by omega)) ((hs5.new hB (by omega)).new hB (by omega)) (by omega)
      · refine RgE_del bC (fun hBd => ?_)
        simp (disch := omega) only [bsW, WOp, WOq, WV, bo, eqN, gdc, gw, bnd, ↓reduceIte, Nat.reduceEqDiff, rsvs, rsv, oneOf, rdN, ne_eq, Nat.reduceAdd, Nat.reduceMul, Nat.reduceLT, reduceCtorEq, Value.cells, setN, Value.oneCell', Nat.reduceLeDiff, undef, fcT, f0, f2, f3, rd_rw hXd]
        refine newB_i (fun b1 hb1 => ?_)
        simp (disch := omega) only [bsW, WOp, WOq, WV, bo, eqN, gdc, gw, bnd, ↓reduceIte, Nat.reduceEqDiff, rsvs, rsv, oneOf, rdN, ne_eq, Nat.reduceAdd, Nat.reduceMul, Nat.reduceLT, reduceCtorEq, Value.cells, setN, Value.oneCell', Nat.reduceLeDiff, undef, fcT, f0, f2, f3, rd_rw hXd]
        refine ⟨sub_up (nx := nx5) (by omega) hBd0 (sub_del _ _), ?_⟩
        refine (amongL H0 n0 bC _ 1 20 b1 _ _ _ 3 _ _ (hC5.new (by omega) (by omega)) (by omega) (upd_same _ _ _) (by omega) (by omega) (by simp) (by simp) (by decide)).monoC ?_
        rintro v6 H6 nx6 hB6 hx6 ⟨⟨x, rfl, _, _⟩, hC6, hoth6, rfl⟩
        have hs6 : StayB bC H5 H6 := ((StayB.s (Sub.refl H5)).new hB5 hb1).trans (.k hoth6)
        simp (disch := omega) only [bsW, WOp, WOq, WV, bo, eqN, gdc, gw, bnd, ↓reduceIte, Nat.reduceEqDiff, rsvs, rsv, oneOf, rdN, ne_eq, Nat.reduceAdd, Nat.reduceMul, Nat.reduceLT, reduceCtorEq, Value.cells, setN, Value.oneCell', Nat.reduceLeDiff, undef, fcT, f0, f2, f3, rd_rw hXd]
        refine ⟨hs6.subD, ?_⟩
        refine newB_i (fun b2 hb2 => ?_)
        simp (disch := omega) only [bsW, WOp, WOq, WV, bo, eqN, gdc, gw, bnd, ↓reduceIte, Nat.reduceEqDiff, rsvs, rsv, oneOf, rdN, ne_eq, Nat.reduceAdd, Nat.reduceMul, Nat.reduceLT, reduceCtorEq, Value.cells, setN, Value.oneCell', Nat.reduceLeDiff, undef, fcT, f0, f2, f3, rd_rw hXd]
        try refine ⟨sub_up (nx := nx5) (by omega) hBd0 hs6.subD, ?_⟩
        have ku := OwnR.stay6 hu hs6 (by omega)
        have kw := OwnR.stay6 hw hs6 (by omega)
        have gz := hs6 _ _ (by omega) g05
        have gX6 := hs6 _ _ (by omega) hX5
        refine app_oneL (x := x) (lo := bX + 1) (by simp (disch := omega) only [bsW, WOp, WOq, WV, bo, eqN, gdc, gw, bnd, ↓reduceIte, Nat.reduceEqDiff, rsvs, rsv, oneOf, rdN, ne_eq, Nat.reduceAdd, Nat.reduceMul, Nat.reduceLT, reduceCtorEq, Value.cells, setN, Value.oneCell', Nat.reduceLeDiff, undef, fcT, f0, f2, f3, rd_rw hXd]) (by simp (disch := omega) only [bsW, WOp, WOq, WV, bo, eqN, gdc, gw, bnd, ↓reduceIte, Nat.reduceEqDiff, rsvs, rsv, oneOf, rdN, ne_eq, Nat.reduceAdd, Nat.reduceMul, Nat.reduceLT, reduceCtorEq, Value.cells, setN, Value.oneCell', Nat.reduceLeDiff, undef, fcT, f0, f2, f3, rd_rw hXd]) (by simp (disch := omega) only [bsW, WOp, WOq, WV, bo, eqN, gdc, gw, bnd, ↓reduceIte, Nat.reduceEqDiff, rsvs, rsv, oneOf, rdN, ne_eq, Nat.reduceAdd, Nat.reduceMul, Nat.reduceLT, reduceCtorEq, Value.cells, setN, Value.oneCell', Nat.reduceLeDiff, undef, fcT, f0, f2, f3, rd_rw hXd]) (by simp (disch := omega) only [bsW, WOp, WOq, WV, bo, eqN, gdc, gw, bnd, ↓reduceIte, Nat.reduceEqDiff, rsvs, rsv, oneOf, rdN, ne_eq, Nat.reduceAdd, Nat.reduceMul, Nat.reduceLT, reduceCtorEq, Value.cells, setN, Value.oneCell', Nat.reduceLeDiff, undef, fcT, f0, f2, f3, rd_rw hXd]) (OwnR.sub (OwnR.keepI kw (fun q h1 h2 => upd_ne (by omega))) (Sub.refl _) (by omega)) (upd_same _ _ _) (by omega) (by omega) ?_
        rintro v' b' o nx2 hb' hn2 hown' hO8
        have hbL := OwnR.blk hO8 hown'
        obtain ⟨A8, c8, rfl, _, _⟩ := OwnR.rd hO8
        have hne : ∀ q, some q = ownBlk (.slice A p.la.length c) → q ≠ b' := fun q hq e => by
          subst e
          rcases hb' with e | e
          · exact hd5 _ hq e
          · have := OwnR.blk ku hq
            omega
        (try (simp (disch := omega) only [bsW, WOp, WOq, WV, bo, eqN, gdc, gw, bnd, ↓reduceIte, Nat.reduceEqDiff, rsvs, rsv, oneOf, rdN, ne_eq, Nat.reduceAdd, Nat.reduceMul, Nat.reduceLT, reduceCtorEq, Value.cells, setN, Value.oneCell', Nat.reduceLeDiff, undef, fcT, f0, f2, f3, gX6, gz]))
        (repeat' (first | ((with_reducible refine gif_split (fun hs_ => ?_) (fun hs_ => ?_)) <;> (have hp_ := hs_; (try simp only [hpL, ne_eq] at hp_); (try simp (disch := omega) only [bsW, WOp, WOq, WV, bo, eqN, gdc, gw, bnd, ↓reduceIte, Nat.reduceEqDiff, rsvs, rsv, oneOf, rdN, ne_eq, Nat.reduceAdd, Nat.reduceMul, Nat.reduceLT, reduceCtorEq, Value.cells, setN, Value.oneCell', Nat.reduceLeDiff, undef, fcT, f0, f2, f3, gX6, gz, hs_]))) | ((first | (with_reducible refine newB_i (fun nb_ hb_ => ?_)) | (with_reducible refine RgE_i (fun (hBd_ : Bd _ _) => ?_))); (try simp (disch := omega) only [bsW, WOp, WOq, WV, bo, eqN, gdc, gw, bnd, ↓reduceIte, Nat.reduceEqDiff, rsvs, rsv, oneOf, rdN, ne_eq, Nat.reduceAdd, Nat.reduceMul, Nat.reduceLT, reduceCtorEq, Value.cells, setN, Value.oneCell', Nat.reduceLeDiff, undef, fcT, f0, f2, f3, gX6, gz])) | (with_reducible refine fun (hBd_ : Bd _ _) => ?_) | ((first | (with_reducible refine @And.intro (Sub _ _) _ ?_ ?_) | ((with_reducible refine @And.intro (Sub _ _ ∧ _) _ ?_ ?_); (with_reducible refine @And.intro (Sub _ _) _ ?_ ?_))); exact sbX) | ((with_reducible refine And.intro ?_ ?_); omega)))
        all_goals try (exfalso; omega)
        refine fin ⟨p.tot, p.la, p.hand, p.rj ++ [x], p.sl⟩ _ _ _ _ ?_ ?_ ?_ ?_ ?_ ?_ ?_
        · exact (OwnR.sub (OwnR.keep ku (fun q hq => by have := OwnR.blk ku hq; have := hne q hq; rw [upd_ne (by omega), upd_ne (by omega), upd_ne (by omega), upd_ne (by omega)]) (Nat.le_refl _)) (Sub.refl _) (by omega))
        · exact (OwnR.keepI hO8 (fun q h1 h2 => by rw [upd_ne (by omega), upd_ne (by omega)]))
        · exact (fun q h1 h2 => hne _ h1 (by rw [← hown'] at h2; cases h2; rfl))
        · exact (by simp only [List.length_append, List.length_singleton]; omega)
        · exact ((((hC6.new (by omega) (by omega)).new (by omega) (by omega)).new (b := bX) (by omega) (by omega)).new (by omega) (by omega) |>.le (by omega))
        · exact (((((hs5.trans hs6).new hB (by omega)).new hB (by omega)).new hB (by omega)).new hB (by omega))
        · exact (by omega)
      · refine (amongL H0 n0 bC _ 0 21 nb_ _ _ _ 3 _ _ (hC5.new (by omega) (by omega)) (by omega) (upd_same _ _ _) (by omega) (by omega) (by simp) (by simp) (by decide)).monoC ?_
        rintro v6 H6 nx6 hB6 hx6 ⟨⟨x, rfl, _, _⟩, hC6, hoth6, rfl⟩
        have hs6 : StayB bC H5 H6 := ((StayB.s (Sub.refl H5)).new hB5 (by omega)).trans (.k hoth6)
        have ku := OwnR.stay6 hu hs6 (by omega)
        have kw := OwnR.stay6 hw hs6 (by omega)
        have gz := hs6 _ _ (by omega) g05
        have gX6 := hs6 _ _ (by omega) hX5
        (try (simp (disch := omega) only [bsW, WOp, WOq, WV, bo, eqN, gdc, gw, bnd, ↓reduceIte, Nat.reduceEqDiff, rsvs, rsv, oneOf, rdN, ne_eq, Nat.reduceAdd, Nat.reduceMul, Nat.reduceLT, reduceCtorEq, Value.cells, setN, Value.oneCell', Nat.reduceLeDiff, undef, fcT, f0, f2, f3, gX6, gz]))
        (repeat' (first | ((with_reducible refine gif_split (fun hs_ => ?_) (fun hs_ => ?_)) <;> (have hp_ := hs_; (try simp only [hpL, ne_eq] at hp_); (try simp (disch := omega) only [bsW, WOp, WOq, WV, bo, eqN, gdc, gw, bnd, ↓reduceIte, Nat.reduceEqDiff, rsvs, rsv, oneOf, rdN, ne_eq, Nat.reduceAdd, Nat.reduceMul, Nat.reduceLT, reduceCtorEq, Value.cells, setN, Value.oneCell', Nat.reduceLeDiff, undef, fcT, f0, f2, f3, gX6, gz, hs_]))) | ((first | (with_reducible refine newB_i (fun nb_ hb_ => ?_)) | (with_reducible refine RgE_i (fun (hBd_ : Bd _ _) => ?_))); (try simp (disch := omega) only [bsW, WOp, WOq, WV, bo, eqN, gdc, gw, bnd, ↓reduceIte, Nat.reduceEqDiff, rsvs, rsv, oneOf, rdN, ne_eq, Nat.reduceAdd, Nat.reduceMul, Nat.reduceLT, reduceCtorEq, Value.cells, setN, Value.oneCell', Nat.reduceLeDiff, undef, fcT, f0, f2, f3, gX6, gz])) | (with_reducible refine fun (hBd_ : Bd _ _) => ?_) | ((first | (with_reducible refine @And.intro (Sub _ _) _ ?_ ?_) | ((with_reducible refine @And.intro (Sub _ _ ∧ _) _ ?_ ?_); (with_reducible refine @And.intro (Sub _ _) _ ?_ ?_))); exact sbX) | ((with_reducible refine And.intro ?_ ?_); omega)))
        all_goals try (exfalso; omega)
        exact fin ⟨x, p.la, p.hand, p.rj, p.sl⟩ _ _ _ _ (OwnR.sub (OwnR.keepI ku (fun q h1 h2 => by rw [upd_ne (by omega), upd_ne (by omega)])) (Sub.refl _) (by omega)) (OwnR.sub (OwnR.keepI kw (fun q h1 h2 => by rw [upd_ne (by omega), upd_ne (by omega)])) (Sub.refl _) (by omega)) hd5 (by simp only []; omega) (((hC6.new (b := bX) (by omega) (by omega)).new (by omega) (by omega)).le (by omega)) (((hs5.trans hs6).new hB (by omega)).new hB (by omega)) (by omega)
      · exact fin p _ _ _ _ (OwnR.keepI hu (fun q h1 h2 => by rw [upd_ne (by omega)])) (OwnR.keepI hw (fun q h1 h2 => by rw [upd_ne (by omega)])) hd5 (by omega) ((hC5.new (by omega) (by omega)).le (by omega)) (hs5.new hB (by omega)) (by omega)
  · rintro fr H' nx' ⟨k, p, hm, _⟩; omega
  · exact ⟨k0, ⟨tot, [], 0, [], false⟩, by omega, by omega, by omega, by simp (disch := omega) only [bsW, ↓reduceIte, Nat.reduceEqDiff, ne_eq, reduceCtorEq, fcT], by simp (disch := omega) only [bsW, ↓reduceIte, Nat.reduceEqDiff, ne_eq, reduceCtorEq, fcT], by simp (disch := omega) only [bsW, ↓reduceIte, Nat.reduceEqDiff, ne_eq, reduceCtorEq, fcT], by simp (disch := omega) only [bsW, ↓reduceIte, Nat.reduceEqDiff, ne_eq, reduceCtorEq, fcT], hC2.le (by omega), hs2, by omega, g0, ⟨none, 0, none, 0, gX, ownP_nil _ _ _ _ _ _⟩, by simp⟩
end Go.Proofs.YtbhabpenlaklcaaDoor
