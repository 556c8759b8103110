/- FnPuzzles: plain facts, comparisons, a step of the loop. -/
import Derived.Test.YtbhabpenlaklcaaPD3
import Derived.Test.YtbhabpenlaklcaaQ7
import Derived.Test.YtbhabpenlaklcaaQ16
import Derived.Test.YtbhabpenlaklcaaD8
set_option linter.unusedVariables false
set_option linter.unusedSimpArgs false
set_option maxRecDepth 100000
set_option maxHeartbeats 4000000
namespace Go.Proofs.Ytbhabpenlaklcaa
open Go Go.RowKit Go.Proofs
theorem vInts (A B : Option Addr) (n c d : Nat) (f : Nat → Nat → Int) (H : Hp) (nx : Nat) (hn : n ≤ 17592186044416) (h : Rd H A n 1 f) (h' : Rd H B n 1 f) :
    PC Try.prog 61 #[.slice A n c, .slice B n d] H nx (.bool true) := by
  refine AC_of x_laws_vInts rfl fun hB => ?_
  simp (disch := omega) only [bsW, WOp, WOq, WV, bo, eqN, gdc, gw, bnd, ↓reduceIte, Nat.reduceEqDiff, rsvs, rsv, oneOf, rdN, ne_eq, Nat.reduceAdd, Nat.reduceMul, Nat.reduceLT, reduceCtorEq, Value.cells, setN, Value.oneCell', Nat.reduceLeDiff, undef, fcT, c_laws_vInts]
  (repeat' (first | ((with_reducible refine gif_split (fun hs_ => ?_) (fun hs_ => ?_)) <;> (have hp_ := hs_; (try simp only [hpL, ne_eq] at hp_); (try simp (disch := omega) only [bsW, WOp, WOq, WV, bo, eqN, gdc, gw, bnd, ↓reduceIte, Nat.reduceEqDiff, rsvs, rsv, oneOf, rdN, ne_eq, Nat.reduceAdd, Nat.reduceMul, Nat.reduceLT, reduceCtorEq, Value.cells, setN, Value.oneCell', Nat.reduceLeDiff, undef, fcT, hs_]))) | ((first | (with_reducible refine newB_i (fun nb_ hb_ => ?_)) | (with_reducible refine RgE_i (fun (hBd_ : Bd _ _) => ?_))); (try simp (disch := omega) only [bsW, WOp, WOq, WV, bo, eqN, gdc, gw, bnd, ↓reduceIte, Nat.reduceEqDiff, rsvs, rsv, oneOf, rdN, ne_eq, Nat.reduceAdd, Nat.reduceMul, Nat.reduceLT, reduceCtorEq, Value.cells, setN, Value.oneCell', Nat.reduceLeDiff, undef, fcT])) | (with_reducible refine fun (hBd_ : Bd _ _) => ?_) | ((first | (with_reducible refine @And.intro (Sub _ _) _ ?_ ?_) | ((with_reducible refine @And.intro (Sub _ _ ∧ _) _ ?_ ?_); (with_reducible refine @And.intro (Sub _ _) _ ?_ ?_))); exact sbX) | ((with_reducible refine And.intro ?_ ?_); omega)))
  all_goals try (exfalso; omega)
  all_goals try (exfalso; simp_all; done)
  refine LpE_rule (fun m fr H' nx' => ∃ k : Nat, m = n - k + 1 ∧ k ≤ n ∧ fr 0 = .slice A n c ∧ fr 1 = .slice B n d ∧ fr 5 = .int .i64 k ∧ Sub H H' ∧ nx ≤ nx') ?_ ?_ (n + 1) ?_
  · rintro m K hK fr H' nx' ⟨k, hm, hk, f0, f1, f5, hs, hx⟩
    simp (disch := omega) only [bsW, WOp, WOq, WV, bo, eqN, gdc, gw, bnd, ↓reduceIte, Nat.reduceEqDiff, rsvs, rsv, oneOf, rdN, ne_eq, Nat.reduceAdd, Nat.reduceMul, Nat.reduceLT, reduceCtorEq, Value.cells, setN, Value.oneCell', Nat.reduceLeDiff, undef, fcT, f0, f1, f5]
    refine gif_split (fun b1 => ?_) (fun b1 => ?_)
    · have hlt : k < n := by simpa using b1
      obtain ⟨b, off, rfl, hc⟩ := h.at_ (by omega)
      obtain ⟨b', off', rfl, hc'⟩ := h'.at_ (by omega)
      have c0 := rd_sub hs (hc k 0 hlt (by omega))
      have d0 := rd_sub hs (hc' k 0 hlt (by omega))
      simp only [Nat.add_zero] at c0 d0
      simp (disch := omega) only [bsW, WOp, WOq, WV, bo, eqN, gdc, gw, bnd, ↓reduceIte, Nat.reduceEqDiff, rsvs, rsv, oneOf, rdN, ne_eq, Nat.reduceAdd, Nat.reduceMul, Nat.reduceLT, reduceCtorEq, Value.cells, setN, Value.oneCell', Nat.reduceLeDiff, undef, fcT, f0, f1, f5, c0, d0, b1]
      (repeat' (first | ((with_reducible refine gif_split (fun hs_ => ?_) (fun hs_ => ?_)) <;> (have hp_ := hs_; (try simp only [hpL, ne_eq] at hp_); (try simp (disch := omega) only [bsW, WOp, WOq, WV, bo, eqN, gdc, gw, bnd, ↓reduceIte, Nat.reduceEqDiff, rsvs, rsv, oneOf, rdN, ne_eq, Nat.reduceAdd, Nat.reduceMul, Nat.reduceLT, reduceCtorEq, Value.cells, setN, Value.oneCell', Nat.reduceLeDiff, undef, fcT, f0, f1, f5, c0, d0, hs_]))) | ((first | (with_reducible refine newB_i (fun nb_ hb_ => ?_)) | (with_reducible refine RgE_i (fun (hBd_ : Bd _ _) => ?_))); (try simp (disch := omega) only [bsW, WOp, WOq, WV, bo, eqN, gdc, gw, bnd, ↓reduceIte, Nat.reduceEqDiff, rsvs, rsv, oneOf, rdN, ne_eq, Nat.reduceAdd, Nat.reduceMul, Nat.reduceLT, reduceCtorEq, Value.cells, setN, Value.oneCell', Nat.reduceLeDiff, undef, fcT, f0, f1, f5, c0, d0])) | (with_reducible refine fun (hBd_ : Bd _ _) => ?_) | ((first | (with_reducible refine @And.intro (Sub _ _) _ ?_ ?_) | ((with_reducible refine @And.intro (Sub _ _ ∧ _) _ ?_ ?_); (with_reducible refine @And.intro (Sub _ _) _ ?_ ?_))); exact sbX) | ((with_reducible refine And.intro ?_ ?_); omega)))
      all_goals try (exfalso; simp_all; done)
      refine hK _ _ _ ?_
      refine ⟨k + 1, by omega, by omega, by simp (disch := omega) only [bsW, ↓reduceIte, Nat.reduceEqDiff, ne_eq, reduceCtorEq, fcT, f0, f1, f5, c0, d0], by simp (disch := omega) only [bsW, ↓reduceIte, Nat.reduceEqDiff, ne_eq, reduceCtorEq, fcT, f0, f1, f5, c0, d0], by simp (disch := omega) only [bsW, ↓reduceIte, Nat.reduceEqDiff, ne_eq, reduceCtorEq, fcT, f0, f1, f5, c0, d0, Int.natCast_add, Int.natCast_one], hs, by omega⟩
    · simp (disch := omega) only [bsW, WOp, WOq, WV, bo, eqN, gdc, gw, bnd, ↓reduceIte, Nat.reduceEqDiff, rsvs, rsv, oneOf, rdN, ne_eq, Nat.reduceAdd, Nat.reduceMul, Nat.reduceLT, reduceCtorEq, Value.cells, setN, Value.oneCell', Nat.reduceLeDiff, undef, fcT, f0, f1, f5, b1]
      exact Is_i hs
  · rintro fr H' nx' ⟨k, hm, _⟩; omega
  · exact ⟨0, by omega, by omega, by simp (disch := omega) only [bsW, ↓reduceIte, Nat.reduceEqDiff, ne_eq, reduceCtorEq, fcT], by simp (disch := omega) only [bsW, ↓reduceIte, Nat.reduceEqDiff, ne_eq, reduceCtorEq, fcT], by simp (disch := omega) only [bsW, ↓reduceIte, Nat.reduceEqDiff, ne_eq, reduceCtorEq, fcT, Int.natCast_zero], Sub.refl _, by omega⟩
theorem vPuzzleO (v w : Value) (tot : Int) (la : List Int) (hand : Int) (rj : List Int) (sl : Bool) (lo hi lo2 hi2 : Nat) (H : Hp) (nx : Nat) (hn : la.length ≤ 1048576) (hm : rj.length ≤ 1048576)
    (h : OwnP H lo hi tot la hand rj sl v) (h' : OwnP H lo2 hi2 tot la hand rj sl w) : PC Try.prog 40 #[v, w] H nx (.bool true) := by
  obtain ⟨A, c, B, d, rfl, hc, hd, hA, hB'⟩ := h.rd
  obtain ⟨A2, c2, B2, d2, rfl, hc2, hd2, hA2, hB2⟩ := h'.rd
  refine AC_of x_laws_vPuzzle rfl fun hB => ?_
  simp (disch := omega) only [bsW, WOp, WOq, WV, bo, eqN, gdc, gw, bnd, ↓reduceIte, Nat.reduceEqDiff, rsvs, rsv, oneOf, rdN, ne_eq, Nat.reduceAdd, Nat.reduceMul, Nat.reduceLT, reduceCtorEq, Value.cells, setN, Value.oneCell', Nat.reduceLeDiff, undef, fcT, beq_self_eq_true, c_laws_vPuzzle]
  (repeat' (first | ((with_reducible refine gif_split (fun hs_ => ?_) (fun hs_ => ?_)) <;> (have hp_ := hs_; (try simp only [hpL, ne_eq] at hp_); (try simp (disch := omega) only [bsW, WOp, WOq, WV, bo, eqN, gdc, gw, bnd, ↓reduceIte, Nat.reduceEqDiff, rsvs, rsv, oneOf, rdN, ne_eq, Nat.reduceAdd, Nat.reduceMul, Nat.reduceLT, reduceCtorEq, Value.cells, setN, Value.oneCell', Nat.reduceLeDiff, undef, fcT, beq_self_eq_true, hs_]))) | ((first | (with_reducible refine newB_i (fun nb_ hb_ => ?_)) | ((with_reducible show QC _ _ _ _ _ _); (first | (refine QC_i (vInts A A2 la.length c c2 (rowL la) _ _ (by omega) (Rd.sub hA (by (repeat (first | assumption | exact Sub.refl _ | (refine sub_up (nx := nx) ?_ hB ?_; omega))))) (Rd.sub hA2 (by (repeat (first | assumption | exact Sub.refl _ | (refine sub_up (nx := nx) ?_ hB ?_; omega)))))) ?_) | (refine QC_i (vInts B B2 rj.length d d2 (rowL rj) _ _ (by omega) (Rd.sub hB' (by (repeat (first | assumption | exact Sub.refl _ | (refine sub_up (nx := nx) ?_ hB ?_; omega))))) (Rd.sub hB2 (by (repeat (first | assumption | exact Sub.refl _ | (refine sub_up (nx := nx) ?_ hB ?_; omega)))))) ?_))) | ((with_reducible show AC _ _ _ _ _ _); (first | (refine PC.ac (vInts A A2 la.length c c2 (rowL la) _ _ (by omega) (Rd.sub hA (by (repeat (first | assumption | exact Sub.refl _ | (refine sub_up (nx := nx) ?_ hB ?_; omega))))) (Rd.sub hA2 (by (repeat (first | assumption | exact Sub.refl _ | (refine sub_up (nx := nx) ?_ hB ?_; omega)))))) ?_) | (refine PC.ac (vInts B B2 rj.length d d2 (rowL rj) _ _ (by omega) (Rd.sub hB' (by (repeat (first | assumption | exact Sub.refl _ | (refine sub_up (nx := nx) ?_ hB ?_; omega))))) (Rd.sub hB2 (by (repeat (first | assumption | exact Sub.refl _ | (refine sub_up (nx := nx) ?_ hB ?_; omega)))))) ?_))) | (with_reducible refine RgE_i (fun (hBd_ : Bd _ _) => ?_))); (try simp (disch := omega) only [bsW, WOp, WOq, WV, bo, eqN, gdc, gw, bnd, ↓reduceIte, Nat.reduceEqDiff, rsvs, rsv, oneOf, rdN, ne_eq, Nat.reduceAdd, Nat.reduceMul, Nat.reduceLT, reduceCtorEq, Value.cells, setN, Value.oneCell', Nat.reduceLeDiff, undef, fcT, beq_self_eq_true])) | (with_reducible refine fun (hBd_ : Bd _ _) => ?_) | ((first | (with_reducible refine @And.intro (Sub _ _) _ ?_ ?_) | ((with_reducible refine @And.intro (Sub _ _ ∧ _) _ ?_ ?_); (with_reducible refine @And.intro (Sub _ _) _ ?_ ?_))); exact sbX) | ((with_reducible refine And.intro ?_ ?_); omega)))
  all_goals try (exfalso; simp_all; done)
  all_goals exact Is_e (by simp) (by (repeat (first | assumption | exact Sub.refl _ | (refine sub_up (nx := nx) ?_ hB ?_; omega))))
theorem runD_len {p : PzD} {f : Nat → Nat → Int} {n : Nat} : (runD p f n).la.length + (runD p f n).rj.length ≤ 20 := by
  unfold runD
  split
  · rename_i h
    have h1 : pzB p.tot p.la p.hand p.rj p.sl = true := by
      unfold runB at h
      simp only [Bool.and_eq_true] at h
      exact h.1
    have := PzOk.len (runP_ok (pzB_iff.1 h1) f n)
    omega
  · simp [PzD.zero]
theorem stP_tot (p : PzD) (kd pc : Int) : (stP p kd pc).tot = p.tot := by
  unfold stP
  repeat' split
  all_goals rfl
/-- All pieces, counted. -/
theorem pz_count {q : PzD} (h : q.ok) : ((pwL q.tot q.la q.hand q.rj q.sl).length : Int) + q.la.length + q.rj.length + (if 0 < q.hand then 1 else 0) = q.tot ∧ (pwL q.tot q.la q.hand q.rj q.sl).length ≤ 20 ∧ q.tot ≤ 20 ∧ q.la.length + q.rj.length ≤ 20 := by
  have h1 := waitL_len h
  rw [pcs_len] at h1
  have h2 : pwL q.tot q.la q.hand q.rj q.sl = waitL q.tot q.la q.hand q.rj := by
    unfold pwL
    rw [if_pos (pzB_yes h), waitK_waitL]
  have h3 := h.t1
  have h4 := h.t2
  have h6 := PzOk.len h
  have h5 : q.hand ≠ 0 → 0 < q.hand := fun h0 => by
    have := h.rg q.hand (by unfold pcs; simp [h0])
    omega
  rw [h2]
  by_cases h0 : q.hand = 0
  · rw [if_pos h0] at h1
    rw [if_neg (by omega)]
    omega
  · rw [if_neg h0] at h1
    rw [if_pos (h5 h0)]
    omega
structure FpI (A S : Value) (b14 b20 : Nat) (r k i : Int) (q : PzD) (kd pc : Int) (H' : Hp) (nx' : Nat) (fr2 : Fr) (H2 : Hp) (nx2 : Nat) : Prop where
  g0 : fr2 0 = A
  g13 : fr2 13 = S
  g14 : fr2 14 = .pointer (some ⟨b14, 0, none⟩)
  g15 : fr2 15 = .int .i64 r
  g20 : fr2 20 = .pointer (some ⟨b20, 0, none⟩)
  g21 : fr2 21 = .int .i64 k
  g22 : fr2 22 = .int .i64 i
  g24 : fr2 24 = .bool (sdB q kd pc)
  ex : ∃ bT A5 c5 B5 d5, fr2 23 = .pointer (some ⟨bT, 0, none⟩) ∧ nx' ≤ bT ∧ bT < nx2 ∧ H2 bT = some (.rw [.int .i64 (sdD q kd pc).tot, .slice A5 (sdD q kd pc).la.length c5, .int .i64 (sdD q kd pc).hand, .slice B5 (sdD q kd pc).rj.length d5, .bool (sdD q kd pc).sl] 24) ∧
    OwnP H2 nx' nx2 (sdD q kd pc).tot (sdD q kd pc).la (sdD q kd pc).hand (sdD q kd pc).rj (sdD q kd pc).sl (.agg #[.int .i64 (sdD q kd pc).tot, .slice A5 (sdD q kd pc).la.length c5, .int .i64 (sdD q kd pc).hand, .slice B5 (sdD q kd pc).rj.length d5, .bool (sdD q kd pc).sl])
  s : Sub H' H2
  nx : nx' ≤ nx2
theorem fpReg (Av : Value) (bS oS n e b14 b20 : Nat) (r k : Int) (i : Nat) (q : PzD) (kd pc : Int) (lo hi : Nat) (A2 : Option Addr) (c2 : Nat) (B2 : Option Addr) (d2 : Nat) (fr : Fr) (H' : Hp) (nx' : Nat) (hB' : Bd H' nx')
    (f0 : fr 0 = Av) (f13 : fr 13 = .slice (some ⟨bS, oS, none⟩) n e) (f14 : fr 14 = .pointer (some ⟨b14, 0, none⟩)) (f15 : fr 15 = .int .i64 r) (f20 : fr 20 = .pointer (some ⟨b20, 0, none⟩)) (f21 : fr 21 = .int .i64 k) (f22 : fr 22 = .int .i64 i) (hlt : i < n)
    (s0 : rd H' bS (oS + i * 2) = some (.int .i64 kd)) (s1 : rd H' bS (oS + i * 2 + 1) = some (.int .i64 pc)) (z1 : H' b20 = some (.rw [.int .i64 q.tot, .slice A2 q.la.length c2, .int .i64 q.hand, .slice B2 q.rj.length d2, .bool q.sl] 24)) (hO : OwnP H' lo hi q.tot q.la q.hand q.rj q.sl (.agg #[.int .i64 q.tot, .slice A2 q.la.length c2, .int .i64 q.hand, .slice B2 q.rj.length d2, .bool q.sl])) (hl : q.la.length + q.rj.length ≤ 1048576) (hhi : hi ≤ nx') :
    V Try.prog c_laws_FnPuzzles_r0 (thn (FpI Av (.slice (some ⟨bS, oS, none⟩) n e) b14 b20 r k i q kd pc H' nx') (fun _ _ _ _ => False)) fr H' nx' := by
  have hbz := hB' _ _ z1
  simp (disch := omega) only [bsW, WOp, WOq, WV, bo, eqN, gdc, gw, bnd, ↓reduceIte, Nat.reduceEqDiff, rsvs, rsv, oneOf, rdN, ne_eq, Nat.reduceAdd, Nat.reduceMul, Nat.reduceLT, reduceCtorEq, Value.cells, setN, Value.oneCell', Nat.reduceLeDiff, undef, fcT, f0, f13, f14, f15, f20, f21, f22, s0, s1, z1, rd_rw z1, Int.toNat_natCast, c_laws_FnPuzzles_r0]
  (repeat' (first | ((with_reducible refine gif_split (fun hs_ => ?_) (fun hs_ => ?_)) <;> (have hp_ := hs_; (try simp only [hpL, ne_eq] at hp_); (try simp (disch := omega) only [bsW, WOp, WOq, WV, bo, eqN, gdc, gw, bnd, ↓reduceIte, Nat.reduceEqDiff, rsvs, rsv, oneOf, rdN, ne_eq, Nat.reduceAdd, Nat.reduceMul, Nat.reduceLT, reduceCtorEq, Value.cells, setN, Value.oneCell', Nat.reduceLeDiff, undef, fcT, f0, f13, f14, f15, f20, f21, f22, s0, s1, z1, rd_rw z1, Int.toNat_natCast, hs_]))) | ((first | (with_reducible refine newB_i (fun nb_ hb_ => ?_)) | (with_reducible refine RgE_i (fun (hBd_ : Bd _ _) => ?_))); (try simp (disch := omega) only [bsW, WOp, WOq, WV, bo, eqN, gdc, gw, bnd, ↓reduceIte, Nat.reduceEqDiff, rsvs, rsv, oneOf, rdN, ne_eq, Nat.reduceAdd, Nat.reduceMul, Nat.reduceLT, reduceCtorEq, Value.cells, setN, Value.oneCell', Nat.reduceLeDiff, undef, fcT, f0, f13, f14, f15, f20, f21, f22, s0, s1, z1, rd_rw z1, Int.toNat_natCast])) | (with_reducible refine fun (hBd_ : Bd _ _) => ?_) | ((first | (with_reducible refine @And.intro (Sub _ _) _ ?_ ?_) | ((with_reducible refine @And.intro (Sub _ _ ∧ _) _ ?_ ?_); (with_reducible refine @And.intro (Sub _ _) _ ?_ ?_))); exact sbX) | ((with_reducible refine And.intro ?_ ?_); omega)))
  all_goals try (exfalso; omega)
  refine And.intro ?_ ?_
  (repeat' (first | ((with_reducible refine gif_split (fun hs_ => ?_) (fun hs_ => ?_)) <;> (have hp_ := hs_; (try simp only [hpL, ne_eq] at hp_); (try simp (disch := omega) only [bsW, WOp, WOq, WV, bo, eqN, gdc, gw, bnd, ↓reduceIte, Nat.reduceEqDiff, rsvs, rsv, oneOf, rdN, ne_eq, Nat.reduceAdd, Nat.reduceMul, Nat.reduceLT, reduceCtorEq, Value.cells, setN, Value.oneCell', Nat.reduceLeDiff, undef, fcT, f0, f13, f14, f15, f20, f21, f22, s0, s1, z1, rd_rw z1, Int.toNat_natCast, hs_]))) | ((first | (with_reducible refine newB_i (fun nb_ hb_ => ?_)) | (with_reducible refine RgE_i (fun (hBd_ : Bd _ _) => ?_))); (try simp (disch := omega) only [bsW, WOp, WOq, WV, bo, eqN, gdc, gw, bnd, ↓reduceIte, Nat.reduceEqDiff, rsvs, rsv, oneOf, rdN, ne_eq, Nat.reduceAdd, Nat.reduceMul, Nat.reduceLT, reduceCtorEq, Value.cells, setN, Value.oneCell', Nat.reduceLeDiff, undef, fcT, f0, f13, f14, f15, f20, f21, f22, s0, s1, z1, rd_rw z1, Int.toNat_natCast])) | (with_reducible refine fun (hBd_ : Bd _ _) => ?_) | ((first | (with_reducible refine @And.intro (Sub _ _) _ ?_ ?_) | ((with_reducible refine @And.intro (Sub _ _ ∧ _) _ ?_ ?_); (with_reducible refine @And.intro (Sub _ _) _ ?_ ?_))); exact sbX) | ((with_reducible refine And.intro ?_ ?_); omega)))
  all_goals try (exfalso; omega)
  all_goals
    refine (StepPuzzleO _ _ _ _ _ _ kd pc lo hi _ _ hl (hO.subI (by first | exact Sub.refl _ | exact sub_up (nx := nx') (by omega) hB' (Sub.refl _)))).monoC ?_
    rintro v3 H3 nx3 hB3 hx3 ⟨w3, rfl, hO3, ht3⟩
    have hs' : Sub H' H3 := Sub.trans (by first | exact Sub.refl _ | exact sub_up (nx := nx') (by omega) hB' (Sub.refl _)) ht3
    first
    | have zT := ht3 nb_ _ (upd_same _ _ _)
    | have zT := True.intro
    obtain ⟨A5, c5, B5, d5, rfl, _, _, _, _⟩ := hO3.rd
    simp (disch := omega) only [bsW, WOp, WOq, WV, bo, eqN, gdc, gw, bnd, ↓reduceIte, Nat.reduceEqDiff, rsvs, rsv, oneOf, rdN, ne_eq, Nat.reduceAdd, Nat.reduceMul, Nat.reduceLT, reduceCtorEq, Value.cells, setN, Value.oneCell', Nat.reduceLeDiff, undef, fcT, f0, f13, f14, f15, f20, f21, f22, zT]
    (repeat' (first | ((with_reducible refine gif_split (fun hs_ => ?_) (fun hs_ => ?_)) <;> (have hp_ := hs_; (try simp only [hpL, ne_eq] at hp_); (try simp (disch := omega) only [bsW, WOp, WOq, WV, bo, eqN, gdc, gw, bnd, ↓reduceIte, Nat.reduceEqDiff, rsvs, rsv, oneOf, rdN, ne_eq, Nat.reduceAdd, Nat.reduceMul, Nat.reduceLT, reduceCtorEq, Value.cells, setN, Value.oneCell', Nat.reduceLeDiff, undef, fcT, f0, f13, f14, f15, f20, f21, f22, zT, hs_]))) | ((first | (with_reducible refine newB_i (fun nb_ hb_ => ?_)) | (with_reducible refine RgE_i (fun (hBd_ : Bd _ _) => ?_))); (try simp (disch := omega) only [bsW, WOp, WOq, WV, bo, eqN, gdc, gw, bnd, ↓reduceIte, Nat.reduceEqDiff, rsvs, rsv, oneOf, rdN, ne_eq, Nat.reduceAdd, Nat.reduceMul, Nat.reduceLT, reduceCtorEq, Value.cells, setN, Value.oneCell', Nat.reduceLeDiff, undef, fcT, f0, f13, f14, f15, f20, f21, f22, zT])) | (with_reducible refine fun (hBd_ : Bd _ _) => ?_) | ((first | (with_reducible refine @And.intro (Sub _ _) _ ?_ ?_) | ((with_reducible refine @And.intro (Sub _ _ ∧ _) _ ?_ ?_); (with_reducible refine @And.intro (Sub _ _) _ ?_ ?_))); exact sbX) | ((with_reducible refine And.intro ?_ ?_); omega) | (with_reducible refine And.intro ?_ ?_)))
    all_goals try (exact sub_up (nx := nx') (by omega) hB' hs')
    all_goals
      exact ⟨by simp (disch := omega) only [bsW, ↓reduceIte, Nat.reduceEqDiff, ne_eq, reduceCtorEq, fcT, f0, f13, f14, f15, f20, f21, f22, zT], by simp (disch := omega) only [bsW, ↓reduceIte, Nat.reduceEqDiff, ne_eq, reduceCtorEq, fcT, f0, f13, f14, f15, f20, f21, f22, zT], by simp (disch := omega) only [bsW, ↓reduceIte, Nat.reduceEqDiff, ne_eq, reduceCtorEq, fcT, f0, f13, f14, f15, f20, f21, f22, zT], by simp (disch := omega) only [bsW, ↓reduceIte, Nat.reduceEqDiff, ne_eq, reduceCtorEq, fcT, f0, f13, f14, f15, f20, f21, f22, zT], by simp (disch := omega) only [bsW, ↓reduceIte, Nat.reduceEqDiff, ne_eq, reduceCtorEq, fcT, f0, f13, f14, f15, f20, f21, f22, zT], by simp (disch := omega) only [bsW, ↓reduceIte, Nat.reduceEqDiff, ne_eq, reduceCtorEq, fcT, f0, f13, f14, f15, f20, f21, f22, zT], by simp (disch := omega) only [bsW, ↓reduceIte, Nat.reduceEqDiff, ne_eq, reduceCtorEq, fcT, f0, f13, f14, f15, f20, f21, f22, zT], by simp (disch := omega) only [bsW, ↓reduceIte, Nat.reduceEqDiff, ne_eq, reduceCtorEq, fcT, f0, f13, f14, f15, f20, f21, f22, zT], ⟨_, A5, c5, B5, d5, by simp (disch := omega) only [bsW, ↓reduceIte, Nat.reduceEqDiff, ne_eq, reduceCtorEq, fcT, f0, f13, f14, f15, f20, f21, f22, zT], by omega, by omega, upd_same _ _ _, (hO3.keepI (fun c h1 h2 => by rw [upd_ne (by omega)])).wide (by omega) (by omega)⟩, sub_up (nx := nx') (by omega) hB' hs', by omega⟩
end Go.Proofs.Ytbhabpenlaklcaa
