/- Marks of exhibits. -/
import Derived.Test.YtmmbolempcpcjaaS23
import Derived.Test.YtmmbolempcpcjaaP23b
set_option linter.unusedVariables false
set_option linter.unusedSimpArgs false
set_option maxRecDepth 100000
set_option maxHeartbeats 1000000
namespace Go.Proofs.Ytmmbolempcpcjaa
open Go Go.RowKit Go.Proofs

theorem markIntS (v : Value) (n : Nat) (f : Nat → Nat → Int) (t : Int) (lo : Nat) (H : Hp) (nx : Nat) (hn : n ≤ 1048576) (ht : 0 ≤ t ∧ t ≤ 1099511627776) (ho : OwnR H lo nx n 1 f 3 v) :
    AC Try.prog 43 #[v, .int .i64 t] H nx (Marked H lo n 1 t 3 v) := by
  rcases ho.ex with ⟨rfl, rfl⟩ | ⟨b, cap, sp, rfl, hb1, hb2, hb3, hb4⟩
  · refine AC_of x_laws_markIntS rfl fun hB => ?_
    simp (disch := omega) only [bsW, WOp, WOq, WV, bo, gdc, gw, bnd, ↓reduceIte, Nat.reduceEqDiff, rsvs, rsv, oneOf, rdN, ne_eq, Nat.reduceAdd, Nat.reduceMul, Nat.reduceLT, reduceCtorEq, Value.cells, setN, Value.oneCell', Nat.reduceLeDiff, undef, fcT, c_laws_markIntS]
    refine LpE_rule (fun m fr H' nx' => m = 1 ∧ fr 0 = .slice none 0 0 ∧ fr 1 = .int .i64 t ∧ fr 5 = .int .i64 0 ∧ H' = H ∧ nx' = nx) ?_ ?_ 1 ?_
    · rintro m K hK fr H' nx' ⟨hm, f0, f1, f5, rfl, rfl⟩
      simp (disch := omega) only [bsW, WOp, WOq, WV, bo, gdc, gw, bnd, ↓reduceIte, Nat.reduceEqDiff, rsvs, rsv, oneOf, rdN, ne_eq, Nat.reduceAdd, Nat.reduceMul, Nat.reduceLT, reduceCtorEq, Value.cells, setN, Value.oneCell', Nat.reduceLeDiff, undef, fcT, f0, f1, f5]
      (repeat' (first | ((refine gif_split (fun hs_ => ?_) (fun hs_ => ?_)) <;> (have hp_ := hs_; (try simp only [decide_eq_true_eq, decide_eq_false_iff_not, beq_iff_eq, bne_iff_ne, beq_eq_false_iff_ne, Bool.not_eq_true, Bool.and_eq_true, Bool.or_eq_true, Bool.and_eq_false_iff, Bool.or_eq_false_iff, bne_eq_false_iff_eq, ne_eq] at hp_); (try simp (disch := omega) only [bsW, WOp, WOq, WV, bo, gdc, gw, bnd, ↓reduceIte, Nat.reduceEqDiff, rsvs, rsv, oneOf, rdN, ne_eq, Nat.reduceAdd, Nat.reduceMul, Nat.reduceLT, reduceCtorEq, Value.cells, setN, Value.oneCell', Nat.reduceLeDiff, undef, fcT, f0, f1, f5, hs_]))) | ((refine newB_i (fun nb_ hb_ => ?_)); (try simp (disch := omega) only [bsW, WOp, WOq, WV, bo, gdc, gw, bnd, ↓reduceIte, Nat.reduceEqDiff, rsvs, rsv, oneOf, rdN, ne_eq, Nat.reduceAdd, Nat.reduceMul, Nat.reduceLT, reduceCtorEq, Value.cells, setN, Value.oneCell', Nat.reduceLeDiff, undef, fcT, f0, f1, f5])) | (refine fun (hBd_ : Bd _ _) => ?_) | (refine And.intro (Sub.refl _) ?_) | (refine And.intro (sub_new (by assumption) (by assumption)) ?_) | (refine And.intro (And.intro (Sub.refl _) ?_) ?_) | (refine And.intro ?_ ?_; omega)))
      · exfalso; omega
      · exact ⟨vi (by omega), .nil, fun c _ => rfl⟩
    · rintro fr H' nx' ⟨hm, _⟩; omega
    · exact ⟨rfl, by simp (disch := omega) only [bsW, WOp, WOq, WV, bo, gdc, gw, bnd, ↓reduceIte, Nat.reduceEqDiff, rsvs, rsv, oneOf, rdN, ne_eq, Nat.reduceAdd, Nat.reduceMul, Nat.reduceLT, reduceCtorEq, Value.cells, setN, Value.oneCell', Nat.reduceLeDiff, undef, fcT], by simp (disch := omega) only [bsW, WOp, WOq, WV, bo, gdc, gw, bnd, ↓reduceIte, Nat.reduceEqDiff, rsvs, rsv, oneOf, rdN, ne_eq, Nat.reduceAdd, Nat.reduceMul, Nat.reduceLT, reduceCtorEq, Value.cells, setN, Value.oneCell', Nat.reduceLeDiff, undef, fcT], by simp (disch := omega) only [bsW, WOp, WOq, WV, bo, gdc, gw, bnd, ↓reduceIte, Nat.reduceEqDiff, rsvs, rsv, oneOf, rdN, ne_eq, Nat.reduceAdd, Nat.reduceMul, Nat.reduceLT, reduceCtorEq, Value.cells, setN, Value.oneCell', Nat.reduceLeDiff, undef, fcT], rfl, rfl⟩
  · refine AC_of x_laws_markIntS rfl fun hB => ?_
    simp (disch := omega) only [bsW, WOp, WOq, WV, bo, gdc, gw, bnd, ↓reduceIte, Nat.reduceEqDiff, rsvs, rsv, oneOf, rdN, ne_eq, Nat.reduceAdd, Nat.reduceMul, Nat.reduceLT, reduceCtorEq, Value.cells, setN, Value.oneCell', Nat.reduceLeDiff, undef, fcT, c_laws_markIntS]
    refine LpE_rule (fun m fr H' nx' => ∃ k : Nat, m = n - k + 1 ∧ k ≤ n ∧ fr 0 = .slice (some ⟨b, 0, none⟩) n cap ∧ fr 1 = .int .i64 (t + k * 1) ∧ fr 5 = .int .i64 k ∧ nx ≤ nx' ∧ (∀ c, c ≠ b → H' c = H c) ∧
      H' b = some (.rw (flat n 1 (fun i j => if i < k then mks t 1 i j else f i j) ++ sp) 3)) ?_ ?_ (n + 1) ?_
    · rintro m K hK fr H' nx' ⟨k, hm, hk, f0, f1, f5, hx, hoth, hb⟩
      simp (disch := omega) only [bsW, WOp, WOq, WV, bo, gdc, gw, bnd, ↓reduceIte, Nat.reduceEqDiff, rsvs, rsv, oneOf, rdN, ne_eq, Nat.reduceAdd, Nat.reduceMul, Nat.reduceLT, reduceCtorEq, Value.cells, setN, Value.oneCell', Nat.reduceLeDiff, undef, fcT, f0, f1, f5]
      refine gif_split (fun b1 => ?_) (fun b1 => ?_)
      · have hlt : k < n := by simpa using b1
        simp (disch := omega) only [bsW, WOp, WOq, WV, bo, gdc, gw, bnd, ↓reduceIte, Nat.reduceEqDiff, rsvs, rsv, oneOf, rdN, ne_eq, Nat.reduceAdd, Nat.reduceMul, Nat.reduceLT, reduceCtorEq, Value.cells, setN, Value.oneCell', Nat.reduceLeDiff, undef, fcT, f0, f1, f5, hb, List.length_append, flat_length, List.length_set, b1]
        (repeat' (first | ((refine gif_split (fun hs_ => ?_) (fun hs_ => ?_)) <;> (have hp_ := hs_; (try simp only [decide_eq_true_eq, decide_eq_false_iff_not, beq_iff_eq, bne_iff_ne, beq_eq_false_iff_ne, Bool.not_eq_true, Bool.and_eq_true, Bool.or_eq_true, Bool.and_eq_false_iff, Bool.or_eq_false_iff, bne_eq_false_iff_eq, ne_eq] at hp_); (try simp (disch := omega) only [bsW, WOp, WOq, WV, bo, gdc, gw, bnd, ↓reduceIte, Nat.reduceEqDiff, rsvs, rsv, oneOf, rdN, ne_eq, Nat.reduceAdd, Nat.reduceMul, Nat.reduceLT, reduceCtorEq, Value.cells, setN, Value.oneCell', Nat.reduceLeDiff, undef, fcT, f0, f1, f5, hb, List.length_append, flat_length, List.length_set, hs_]))) | ((refine newB_i (fun nb_ hb_ => ?_)); (try simp (disch := omega) only [bsW, WOp, WOq, WV, bo, gdc, gw, bnd, ↓reduceIte, Nat.reduceEqDiff, rsvs, rsv, oneOf, rdN, ne_eq, Nat.reduceAdd, Nat.reduceMul, Nat.reduceLT, reduceCtorEq, Value.cells, setN, Value.oneCell', Nat.reduceLeDiff, undef, fcT, f0, f1, f5, hb, List.length_append, flat_length, List.length_set])) | (refine fun (hBd_ : Bd _ _) => ?_) | (refine And.intro (Sub.refl _) ?_) | (refine And.intro (sub_new (by assumption) (by assumption)) ?_) | (refine And.intro (And.intro (Sub.refl _) ?_) ?_) | (refine And.intro ?_ ?_; omega)))
        refine hK _ _ _ ?_
        refine ⟨k + 1, by omega, by omega, by simp (disch := omega) only [bsW, WOp, WOq, WV, bo, gdc, gw, bnd, ↓reduceIte, Nat.reduceEqDiff, rsvs, rsv, oneOf, rdN, ne_eq, Nat.reduceAdd, Nat.reduceMul, Nat.reduceLT, reduceCtorEq, Value.cells, setN, Value.oneCell', Nat.reduceLeDiff, undef, fcT, f0, f1, f5, hb, List.length_append, flat_length, List.length_set], ?_, by simp (disch := omega) only [bsW, WOp, WOq, WV, bo, gdc, gw, bnd, ↓reduceIte, Nat.reduceEqDiff, rsvs, rsv, oneOf, rdN, ne_eq, Nat.reduceAdd, Nat.reduceMul, Nat.reduceLT, reduceCtorEq, Value.cells, setN, Value.oneCell', Nat.reduceLeDiff, undef, fcT, f0, f1, f5, hb, List.length_append, flat_length, List.length_set, Int.natCast_add, Int.natCast_one], by omega, fun c hc => ?_, ?_⟩
        · simp (disch := omega) only [bsW, WOp, WOq, WV, bo, gdc, gw, bnd, ↓reduceIte, Nat.reduceEqDiff, rsvs, rsv, oneOf, rdN, ne_eq, Nat.reduceAdd, Nat.reduceMul, Nat.reduceLT, reduceCtorEq, Value.cells, setN, Value.oneCell', Nat.reduceLeDiff, undef, fcT, f0, f1, f5, hb, List.length_append, flat_length, List.length_set]
          exact vi (by omega)
        · rw [upd_ne hc]; exact hoth c hc
        rw [upd_same]
        (try simp only [setN, Nat.add_zero])
        rw [flat_set0_sp hlt (by omega)]
        congr 3
        refine flat_congr fun i j hi hj => ?_
        have hj' : j = 0 := by omega
        by_cases hik : i = k
        · subst hik
          rcases hj' with rfl <;> simp [set2, mks] <;> omega
        · have e1 : (i < k + 1) = (i < k) := by simp; omega
          simp [set2, hik, e1]
      · simp (disch := omega) only [bsW, WOp, WOq, WV, bo, gdc, gw, bnd, ↓reduceIte, Nat.reduceEqDiff, rsvs, rsv, oneOf, rdN, ne_eq, Nat.reduceAdd, Nat.reduceMul, Nat.reduceLT, reduceCtorEq, Value.cells, setN, Value.oneCell', Nat.reduceLeDiff, undef, fcT, f0, f1, f5, b1]
        have hkn : k = n := by simp at b1; omega
        subst hkn
        refine ⟨vi (by omega), ⟨.inr ⟨b, cap, sp, rfl, hb1, by omega, ?_, hb4⟩⟩, fun c hc => hoth c (fun e => hc (by rw [e]; rfl))⟩
        rw [hb]
        congr 3
        exact flat_congr fun i j hi hj => by rw [if_pos hi]
    · rintro fr H' nx' ⟨k, hm, _⟩; omega
    · refine ⟨0, by omega, by omega, by simp (disch := omega) only [bsW, WOp, WOq, WV, bo, gdc, gw, bnd, ↓reduceIte, Nat.reduceEqDiff, rsvs, rsv, oneOf, rdN, ne_eq, Nat.reduceAdd, Nat.reduceMul, Nat.reduceLT, reduceCtorEq, Value.cells, setN, Value.oneCell', Nat.reduceLeDiff, undef, fcT], ?_, by simp (disch := omega) only [bsW, WOp, WOq, WV, bo, gdc, gw, bnd, ↓reduceIte, Nat.reduceEqDiff, rsvs, rsv, oneOf, rdN, ne_eq, Nat.reduceAdd, Nat.reduceMul, Nat.reduceLT, reduceCtorEq, Value.cells, setN, Value.oneCell', Nat.reduceLeDiff, undef, fcT, Int.natCast_zero], by omega, fun c _ => rfl, ?_⟩
      · simp (disch := omega) only [bsW, WOp, WOq, WV, bo, gdc, gw, bnd, ↓reduceIte, Nat.reduceEqDiff, rsvs, rsv, oneOf, rdN, ne_eq, Nat.reduceAdd, Nat.reduceMul, Nat.reduceLT, reduceCtorEq, Value.cells, setN, Value.oneCell', Nat.reduceLeDiff, undef, fcT]
        exact vi (by omega)
      · rw [hb3]; congr 3

theorem heldIntS (A : Option Addr) (n c : Nat) (t : Int) (H : Hp) (nx : Nat) (hn : n ≤ 1048576) (ht : 0 ≤ t ∧ t ≤ 1099511627776) (h : Rd H A n 1 (mks t 1)) :
    PC Try.prog 44 #[.slice A n c, .int .i64 t] H nx (.int .i64 (t + n * 1)) := by
  refine AC_of x_laws_heldIntS rfl fun hB => ?_
  simp (disch := omega) only [bsW, WOp, WOq, WV, bo, gdc, gw, bnd, ↓reduceIte, Nat.reduceEqDiff, rsvs, rsv, oneOf, rdN, ne_eq, Nat.reduceAdd, Nat.reduceMul, Nat.reduceLT, reduceCtorEq, Value.cells, setN, Value.oneCell', Nat.reduceLeDiff, undef, fcT, c_laws_heldIntS]
  refine LpE_rule (fun m fr H' nx' => ∃ k : Nat, m = n - k + 1 ∧ k ≤ n ∧ fr 0 = .slice A n c ∧ fr 1 = .int .i64 (t + k * 1) ∧ fr 5 = .int .i64 k ∧ nx ≤ nx' ∧ Sub H H') ?_ ?_ (n + 1) ?_
  · rintro m K hK fr H' nx' ⟨k, hm, hk, f0, f1, f5, hx, hs⟩
    simp (disch := omega) only [bsW, WOp, WOq, WV, bo, gdc, gw, bnd, ↓reduceIte, Nat.reduceEqDiff, rsvs, rsv, oneOf, rdN, ne_eq, Nat.reduceAdd, Nat.reduceMul, Nat.reduceLT, reduceCtorEq, Value.cells, setN, Value.oneCell', Nat.reduceLeDiff, undef, fcT, f0, f1, f5]
    refine gif_split (fun b1 => ?_) (fun b1 => ?_)
    · have hlt : k < n := by simpa using b1
      obtain ⟨b, off, rfl, hc⟩ := h.at_ (by omega)
      have c0 : rd H' b (off + k * 1 + 0) = some (.int .i64 (t + k * 1 + 0)) := by rw [rd_sub hs (hc k 0 hlt (by omega))]; exact congrArg some (vi (by unfold mks; omega))
      simp only [Nat.add_zero, Int.natCast_zero, Int.add_zero] at c0
      simp (disch := omega) only [bsW, WOp, WOq, WV, bo, gdc, gw, bnd, ↓reduceIte, Nat.reduceEqDiff, rsvs, rsv, oneOf, rdN, ne_eq, Nat.reduceAdd, Nat.reduceMul, Nat.reduceLT, reduceCtorEq, Value.cells, setN, Value.oneCell', Nat.reduceLeDiff, undef, fcT, f0, f1, f5, c0, b1]
      (repeat' (first | ((refine gif_split (fun hs_ => ?_) (fun hs_ => ?_)) <;> (have hp_ := hs_; (try simp only [decide_eq_true_eq, decide_eq_false_iff_not, beq_iff_eq, bne_iff_ne, beq_eq_false_iff_ne, Bool.not_eq_true, Bool.and_eq_true, Bool.or_eq_true, Bool.and_eq_false_iff, Bool.or_eq_false_iff, bne_eq_false_iff_eq, ne_eq] at hp_); (try simp (disch := omega) only [bsW, WOp, WOq, WV, bo, gdc, gw, bnd, ↓reduceIte, Nat.reduceEqDiff, rsvs, rsv, oneOf, rdN, ne_eq, Nat.reduceAdd, Nat.reduceMul, Nat.reduceLT, reduceCtorEq, Value.cells, setN, Value.oneCell', Nat.reduceLeDiff, undef, fcT, f0, f1, f5, c0, hs_]))) | ((refine newB_i (fun nb_ hb_ => ?_)); (try simp (disch := omega) only [bsW, WOp, WOq, WV, bo, gdc, gw, bnd, ↓reduceIte, Nat.reduceEqDiff, rsvs, rsv, oneOf, rdN, ne_eq, Nat.reduceAdd, Nat.reduceMul, Nat.reduceLT, reduceCtorEq, Value.cells, setN, Value.oneCell', Nat.reduceLeDiff, undef, fcT, f0, f1, f5, c0])) | (refine fun (hBd_ : Bd _ _) => ?_) | (refine And.intro (Sub.refl _) ?_) | (refine And.intro (sub_new (by assumption) (by assumption)) ?_) | (refine And.intro (And.intro (Sub.refl _) ?_) ?_) | (refine And.intro ?_ ?_; omega)))
      all_goals first
        | (exfalso; omega)
        | (refine hK _ _ _ ?_
           refine ⟨k + 1, by omega, by omega, by simp (disch := omega) only [bsW, WOp, WOq, WV, bo, gdc, gw, bnd, ↓reduceIte, Nat.reduceEqDiff, rsvs, rsv, oneOf, rdN, ne_eq, Nat.reduceAdd, Nat.reduceMul, Nat.reduceLT, reduceCtorEq, Value.cells, setN, Value.oneCell', Nat.reduceLeDiff, undef, fcT, f0, f1, f5, c0], (by simp (disch := omega) only [bsW, WOp, WOq, WV, bo, gdc, gw, bnd, ↓reduceIte, Nat.reduceEqDiff, rsvs, rsv, oneOf, rdN, ne_eq, Nat.reduceAdd, Nat.reduceMul, Nat.reduceLT, reduceCtorEq, Value.cells, setN, Value.oneCell', Nat.reduceLeDiff, undef, fcT, f0, f1, f5, c0]; exact vi (by omega)), by simp (disch := omega) only [bsW, WOp, WOq, WV, bo, gdc, gw, bnd, ↓reduceIte, Nat.reduceEqDiff, rsvs, rsv, oneOf, rdN, ne_eq, Nat.reduceAdd, Nat.reduceMul, Nat.reduceLT, reduceCtorEq, Value.cells, setN, Value.oneCell', Nat.reduceLeDiff, undef, fcT, f0, f1, f5, c0, Int.natCast_add, Int.natCast_one], by omega, hs⟩)
    · simp (disch := omega) only [bsW, WOp, WOq, WV, bo, gdc, gw, bnd, ↓reduceIte, Nat.reduceEqDiff, rsvs, rsv, oneOf, rdN, ne_eq, Nat.reduceAdd, Nat.reduceMul, Nat.reduceLT, reduceCtorEq, Value.cells, setN, Value.oneCell', Nat.reduceLeDiff, undef, fcT, f0, f1, f5, b1]
      have hkn : k = n := by simp at b1; omega
      subst hkn
      exact Is_e (vi (by omega)) hs
  · rintro fr H' nx' ⟨k, hm, _⟩; omega
  · refine ⟨0, by omega, by omega, by simp (disch := omega) only [bsW, WOp, WOq, WV, bo, gdc, gw, bnd, ↓reduceIte, Nat.reduceEqDiff, rsvs, rsv, oneOf, rdN, ne_eq, Nat.reduceAdd, Nat.reduceMul, Nat.reduceLT, reduceCtorEq, Value.cells, setN, Value.oneCell', Nat.reduceLeDiff, undef, fcT], (by simp (disch := omega) only [bsW, WOp, WOq, WV, bo, gdc, gw, bnd, ↓reduceIte, Nat.reduceEqDiff, rsvs, rsv, oneOf, rdN, ne_eq, Nat.reduceAdd, Nat.reduceMul, Nat.reduceLT, reduceCtorEq, Value.cells, setN, Value.oneCell', Nat.reduceLeDiff, undef, fcT]; exact vi (by omega)), by simp (disch := omega) only [bsW, WOp, WOq, WV, bo, gdc, gw, bnd, ↓reduceIte, Nat.reduceEqDiff, rsvs, rsv, oneOf, rdN, ne_eq, Nat.reduceAdd, Nat.reduceMul, Nat.reduceLT, reduceCtorEq, Value.cells, setN, Value.oneCell', Nat.reduceLeDiff, undef, fcT, Int.natCast_zero], by omega, Sub.refl _⟩

theorem heldIntO (v : Value) (n : Nat) (t : Int) (lo nx' : Nat) (H : Hp) (nx : Nat) (hn : n ≤ 1048576) (ht : 0 ≤ t ∧ t ≤ 1099511627776) (h : OwnR H lo nx' n 1 (mks t 1) 3 v) :
    PC Try.prog 44 #[v, .int .i64 t] H nx (.int .i64 (t + n * 1)) := by
  obtain ⟨A, c, rfl, _, hR⟩ := h.rd
  exact heldIntS A n c t H nx hn ht hR
theorem eqIntO (v w : Value) (n : Nat) (f : Nat → Nat → Int) (lo nx' lo2 nx2 ty2 : Nat) (H : Hp) (nx : Nat) (hn : n ≤ 1048576) (h : OwnR H lo nx' n 1 f 3 v) (h2 : OwnR H lo2 nx2 n 1 f ty2 w) :
    PC Try.prog 42 #[v, w] H nx (.bool true) := by
  obtain ⟨A, c, rfl, _, hR⟩ := h.rd
  obtain ⟨A2, c2, rfl, _, hR2⟩ := h2.rd
  exact eqIntS A A2 n c c2 f H nx (by omega) hR hR2

theorem markIntI (v : Value) (n : Nat) (f : Nat → Nat → Int) (t : Int) (lo hi : Nat) (H : Hp) (nx : Nat) (hn : n ≤ 1048576) (ht : 0 ≤ t ∧ t ≤ 1099511627776) (ho : OwnR H lo hi n 1 f 3 v) (hhi : hi ≤ nx) :
    AC Try.prog 43 #[v, .int .i64 t] H nx (MarkI (fun H' => OwnR H' lo hi n 1 (mks t 1) 3 v) H lo hi nx (.int .i64 (t + n * 1))) :=
  (markIntS v n f t lo H nx hn ht (ho.sub (Sub.refl _) hhi)).mono2 fun r H' nx' hx h => markI_of ho hhi h
theorem Marked.ownI {H : Hp} {lo hi n k : Nat} {f : Nat → Nat → Int} {t : Int} {ty : TypeId} {v r : Value} {H' : Hp} {nx' : Nat} (ho : OwnR H lo hi n k f ty v) (h : Marked H lo n k t ty v r H' nx') : OwnR H' lo hi n k (mks t k) ty v := by
  rcases h.own.ex with ⟨rfl, rfl⟩ | ⟨b, cap, sp, rfl, h1, h2, h3⟩
  · exact .nil
  · have := ho.blk (show some b = ownBlk (.slice (some ⟨b, 0, none⟩) n cap) from rfl)
    exact ⟨.inr ⟨b, cap, sp, rfl, h1, this.2, h3⟩⟩
theorem u8w (k : Nat) : IntKind.u8.wrap (48 + ((k % 10 : Nat) : Int)) = 48 + ((k % 10 : Nat) : Int) := by
  have h : k % 10 < 10 := Nat.mod_lt _ (by omega)
  generalize k % 10 = r at *
  have h2 : r = 0 ∨ r = 1 ∨ r = 2 ∨ r = 3 ∨ r = 4 ∨ r = 5 ∨ r = 6 ∨ r = 7 ∨ r = 8 ∨ r = 9 := by omega
  rcases h2 with rfl | rfl | rfl | rfl | rfl | rfl | rfl | rfl | rfl | rfl <;> rfl
theorem tmod10 (k : Nat) : (k : Int).tmod 10 = ((k % 10 : Nat) : Int) := by rw [Int.tmod_eq_emod_of_nonneg (by omega)]; omega
theorem tdiv10 (k : Nat) : (k : Int).tdiv 10 = ((k / 10 : Nat) : Int) := by rw [Int.tdiv_eq_ediv_of_nonneg (by omega)]; omega
theorem i64max : IntKind.i64.max = 9223372036854775807 := rfl
theorem markText (k : Nat) (H : Hp) (nx : Nat) (hk : k ≤ 1099511627776) : PC Try.prog 70 #[.int .i64 k] H nx (.string (mkT k)) := by
  refine AC_of x_laws_markText rfl fun hB => ?_
  rcases Nat.eq_zero_or_pos k with rfl | h0
  · simp (disch := omega) only [bsW, WOp, WOq, WV, bo, gdc, gw, bnd, ↓reduceIte, Nat.reduceEqDiff, rsvs, rsv, oneOf, rdN, ne_eq, Nat.reduceAdd, Nat.reduceMul, Nat.reduceLT, reduceCtorEq, Value.cells, setN, Value.oneCell', Nat.reduceLeDiff, undef, fcT, c_laws_markText]
    (repeat' (first | ((refine gif_split (fun hs_ => ?_) (fun hs_ => ?_)) <;> (have hp_ := hs_; (try simp only [decide_eq_true_eq, decide_eq_false_iff_not, beq_iff_eq, bne_iff_ne, beq_eq_false_iff_ne, Bool.not_eq_true, Bool.and_eq_true, Bool.or_eq_true, Bool.and_eq_false_iff, Bool.or_eq_false_iff, bne_eq_false_iff_eq, ne_eq] at hp_); (try simp (disch := omega) only [bsW, WOp, WOq, WV, bo, gdc, gw, bnd, ↓reduceIte, Nat.reduceEqDiff, rsvs, rsv, oneOf, rdN, ne_eq, Nat.reduceAdd, Nat.reduceMul, Nat.reduceLT, reduceCtorEq, Value.cells, setN, Value.oneCell', Nat.reduceLeDiff, undef, fcT, hs_]))) | ((refine newB_i (fun nb_ hb_ => ?_)); (try simp (disch := omega) only [bsW, WOp, WOq, WV, bo, gdc, gw, bnd, ↓reduceIte, Nat.reduceEqDiff, rsvs, rsv, oneOf, rdN, ne_eq, Nat.reduceAdd, Nat.reduceMul, Nat.reduceLT, reduceCtorEq, Value.cells, setN, Value.oneCell', Nat.reduceLeDiff, undef, fcT])) | (refine fun (hBd_ : Bd _ _) => ?_) | (refine And.intro (Sub.refl _) ?_) | (refine And.intro (sub_new (by assumption) (by assumption)) ?_) | (refine And.intro (And.intro (Sub.refl _) ?_) ?_) | (refine And.intro ?_ ?_; omega)))
    all_goals try (exfalso; omega)
    exact Is_e rfl (Sub.refl _)
  · simp (disch := omega) only [bsW, WOp, WOq, WV, bo, gdc, gw, bnd, ↓reduceIte, Nat.reduceEqDiff, rsvs, rsv, oneOf, rdN, ne_eq, Nat.reduceAdd, Nat.reduceMul, Nat.reduceLT, reduceCtorEq, Value.cells, setN, Value.oneCell', Nat.reduceLeDiff, undef, fcT, c_laws_markText]
    (repeat' (first | ((refine gif_split (fun hs_ => ?_) (fun hs_ => ?_)) <;> (have hp_ := hs_; (try simp only [decide_eq_true_eq, decide_eq_false_iff_not, beq_iff_eq, bne_iff_ne, beq_eq_false_iff_ne, Bool.not_eq_true, Bool.and_eq_true, Bool.or_eq_true, Bool.and_eq_false_iff, Bool.or_eq_false_iff, bne_eq_false_iff_eq, ne_eq] at hp_); (try simp (disch := omega) only [bsW, WOp, WOq, WV, bo, gdc, gw, bnd, ↓reduceIte, Nat.reduceEqDiff, rsvs, rsv, oneOf, rdN, ne_eq, Nat.reduceAdd, Nat.reduceMul, Nat.reduceLT, reduceCtorEq, Value.cells, setN, Value.oneCell', Nat.reduceLeDiff, undef, fcT, hs_]))) | ((refine newB_i (fun nb_ hb_ => ?_)); (try simp (disch := omega) only [bsW, WOp, WOq, WV, bo, gdc, gw, bnd, ↓reduceIte, Nat.reduceEqDiff, rsvs, rsv, oneOf, rdN, ne_eq, Nat.reduceAdd, Nat.reduceMul, Nat.reduceLT, reduceCtorEq, Value.cells, setN, Value.oneCell', Nat.reduceLeDiff, undef, fcT])) | (refine fun (hBd_ : Bd _ _) => ?_) | (refine And.intro (Sub.refl _) ?_) | (refine And.intro (sub_new (by assumption) (by assumption)) ?_) | (refine And.intro (And.intro (Sub.refl _) ?_) ?_) | (refine And.intro ?_ ?_; omega)))
    all_goals try (exfalso; omega)
    refine LpB_rule (fun mm fr H' nx' => ∃ (j : Nat) (out : ByteArray), j + 1 ≤ mm ∧ fr 0 = .int .i64 j ∧ fr 3 = .string out ∧ out.size + j ≤ k ∧ dgT j j out = dgT k k ⟨#[]⟩ ∧ Sub H H' ∧ nx ≤ nx') ?_ ?_ (k + 1) ?_
    · rintro mm K hK fr H' nx' hB' ⟨j, out, hmm, f0, f3, hsz, hd, hs, hx⟩
      simp (disch := omega) only [bsW, WOp, WOq, WV, bo, gdc, gw, bnd, ↓reduceIte, Nat.reduceEqDiff, rsvs, rsv, oneOf, rdN, ne_eq, Nat.reduceAdd, Nat.reduceMul, Nat.reduceLT, reduceCtorEq, Value.cells, setN, Value.oneCell', Nat.reduceLeDiff, undef, fcT, f0, f3]
      refine gif_split (fun b1 => ?_) (fun b1 => ?_)
      · have hj : 0 < j := by simp at b1; omega
        have hlt : j / 10 < j := Nat.div_lt_self hj (by omega)
        simp (disch := omega) only [bsW, WOp, WOq, WV, bo, gdc, gw, bnd, ↓reduceIte, Nat.reduceEqDiff, rsvs, rsv, oneOf, rdN, ne_eq, Nat.reduceAdd, Nat.reduceMul, Nat.reduceLT, reduceCtorEq, Value.cells, setN, Value.oneCell', Nat.reduceLeDiff, undef, fcT, f0, f3, tmod10, tdiv10, u8w, u8s_nil, u8s_cons, rd_upd_same, rdB_rw, b1]
        (repeat' (first | ((refine gif_split (fun hs_ => ?_) (fun hs_ => ?_)) <;> (have hp_ := hs_; (try simp only [decide_eq_true_eq, decide_eq_false_iff_not, beq_iff_eq, bne_iff_ne, beq_eq_false_iff_ne, Bool.not_eq_true, Bool.and_eq_true, Bool.or_eq_true, Bool.and_eq_false_iff, Bool.or_eq_false_iff, bne_eq_false_iff_eq, ne_eq] at hp_); (try simp (disch := omega) only [bsW, WOp, WOq, WV, bo, gdc, gw, bnd, ↓reduceIte, Nat.reduceEqDiff, rsvs, rsv, oneOf, rdN, ne_eq, Nat.reduceAdd, Nat.reduceMul, Nat.reduceLT, reduceCtorEq, Value.cells, setN, Value.oneCell', Nat.reduceLeDiff, undef, fcT, f0, f3, tmod10, tdiv10, u8w, u8s_nil, u8s_cons, rd_upd_same, rdB_rw, hs_]))) | ((refine newB_i (fun nb_ hb_ => ?_)); (try simp (disch := omega) only [bsW, WOp, WOq, WV, bo, gdc, gw, bnd, ↓reduceIte, Nat.reduceEqDiff, rsvs, rsv, oneOf, rdN, ne_eq, Nat.reduceAdd, Nat.reduceMul, Nat.reduceLT, reduceCtorEq, Value.cells, setN, Value.oneCell', Nat.reduceLeDiff, undef, fcT, f0, f3, tmod10, tdiv10, u8w, u8s_nil, u8s_cons, rd_upd_same, rdB_rw])) | (refine fun (hBd_ : Bd _ _) => ?_) | (refine And.intro (Sub.refl _) ?_) | (refine And.intro (sub_new (by assumption) (by assumption)) ?_) | (refine And.intro (And.intro (Sub.refl _) ?_) ?_) | (refine And.intro ?_ ?_; omega)))
        all_goals try (exfalso; omega)
        have hs1 := strOf1 (48 + ((j % 10 : Nat) : Int))
        refine ⟨by rw [hs1, i64max]; omega, ?_⟩
        (try (simp (disch := omega) only [bsW, WOp, WOq, WV, bo, gdc, gw, bnd, ↓reduceIte, Nat.reduceEqDiff, rsvs, rsv, oneOf, rdN, ne_eq, Nat.reduceAdd, Nat.reduceMul, Nat.reduceLT, reduceCtorEq, Value.cells, setN, Value.oneCell', Nat.reduceLeDiff, undef, fcT, f0, f3, tmod10, tdiv10, u8w, u8s_nil, u8s_cons, rd_upd_same, rdB_rw]))
        (repeat' (first | ((refine gif_split (fun hs_ => ?_) (fun hs_ => ?_)) <;> (have hp_ := hs_; (try simp only [decide_eq_true_eq, decide_eq_false_iff_not, beq_iff_eq, bne_iff_ne, beq_eq_false_iff_ne, Bool.not_eq_true, Bool.and_eq_true, Bool.or_eq_true, Bool.and_eq_false_iff, Bool.or_eq_false_iff, bne_eq_false_iff_eq, ne_eq] at hp_); (try simp (disch := omega) only [bsW, WOp, WOq, WV, bo, gdc, gw, bnd, ↓reduceIte, Nat.reduceEqDiff, rsvs, rsv, oneOf, rdN, ne_eq, Nat.reduceAdd, Nat.reduceMul, Nat.reduceLT, reduceCtorEq, Value.cells, setN, Value.oneCell', Nat.reduceLeDiff, undef, fcT, f0, f3, tmod10, tdiv10, u8w, u8s_nil, u8s_cons, rd_upd_same, rdB_rw, hs_]))) | ((refine newB_i (fun nb_ hb_ => ?_)); (try simp (disch := omega) only [bsW, WOp, WOq, WV, bo, gdc, gw, bnd, ↓reduceIte, Nat.reduceEqDiff, rsvs, rsv, oneOf, rdN, ne_eq, Nat.reduceAdd, Nat.reduceMul, Nat.reduceLT, reduceCtorEq, Value.cells, setN, Value.oneCell', Nat.reduceLeDiff, undef, fcT, f0, f3, tmod10, tdiv10, u8w, u8s_nil, u8s_cons, rd_upd_same, rdB_rw])) | (refine fun (hBd_ : Bd _ _) => ?_) | (refine And.intro (Sub.refl _) ?_) | (refine And.intro (sub_new (by assumption) (by assumption)) ?_) | (refine And.intro (And.intro (Sub.refl _) ?_) ?_) | (refine And.intro ?_ ?_; omega)))
        all_goals try (exfalso; omega)
        refine hK _ _ _ ?_
        refine ⟨j / 10, strOf [48 + ((j % 10 : Nat) : Int)] ++ out, by omega, by simp (disch := omega) only [bsW, WOp, WOq, WV, bo, gdc, gw, bnd, ↓reduceIte, Nat.reduceEqDiff, rsvs, rsv, oneOf, rdN, ne_eq, Nat.reduceAdd, Nat.reduceMul, Nat.reduceLT, reduceCtorEq, Value.cells, setN, Value.oneCell', Nat.reduceLeDiff, undef, fcT, f0, f3, tmod10, tdiv10, u8w, u8s_nil, u8s_cons, rd_upd_same, rdB_rw], by simp (disch := omega) only [bsW, WOp, WOq, WV, bo, gdc, gw, bnd, ↓reduceIte, Nat.reduceEqDiff, rsvs, rsv, oneOf, rdN, ne_eq, Nat.reduceAdd, Nat.reduceMul, Nat.reduceLT, reduceCtorEq, Value.cells, setN, Value.oneCell', Nat.reduceLeDiff, undef, fcT, f0, f3, tmod10, tdiv10, u8w, u8s_nil, u8s_cons, rd_upd_same, rdB_rw], by rw [ByteArray.size_append, hs1]; omega, ?_, by (repeat (first | assumption | exact Sub.refl _ | (refine sub_up (nx := nx) ?_ hB ?_; omega))), by omega⟩
        rw [← hd]
        obtain ⟨j', rfl⟩ : ∃ j', j = j' + 1 := ⟨j - 1, by omega⟩
        rw [dgT_step j' (j' + 1) out (by omega)]
        exact (dgT_more j' _ _ (by omega)).symm
      · have hj : j = 0 := by simp at b1; omega
        subst hj
        simp (disch := omega) only [bsW, WOp, WOq, WV, bo, gdc, gw, bnd, ↓reduceIte, Nat.reduceEqDiff, rsvs, rsv, oneOf, rdN, ne_eq, Nat.reduceAdd, Nat.reduceMul, Nat.reduceLT, reduceCtorEq, Value.cells, setN, Value.oneCell', Nat.reduceLeDiff, undef, fcT, f0, f3, b1]
        refine ⟨by rw [i64max]; show ((1 + out.size : Nat) : Int) ≤ _; omega, ?_⟩
        (try (simp (disch := omega) only [bsW, WOp, WOq, WV, bo, gdc, gw, bnd, ↓reduceIte, Nat.reduceEqDiff, rsvs, rsv, oneOf, rdN, ne_eq, Nat.reduceAdd, Nat.reduceMul, Nat.reduceLT, reduceCtorEq, Value.cells, setN, Value.oneCell', Nat.reduceLeDiff, undef, fcT, f0, f3]))
        refine Is_e (congrArg Value.string ?_) hs
        unfold mkT
        rw [if_neg (by omega), ← hd]
        rfl
    · rintro fr H' nx' ⟨j, out, hmm, _⟩; omega
    · exact ⟨k, _, by omega, by simp (disch := omega) only [bsW, WOp, WOq, WV, bo, gdc, gw, bnd, ↓reduceIte, Nat.reduceEqDiff, rsvs, rsv, oneOf, rdN, ne_eq, Nat.reduceAdd, Nat.reduceMul, Nat.reduceLT, reduceCtorEq, Value.cells, setN, Value.oneCell', Nat.reduceLeDiff, undef, fcT], by simp (disch := omega) only [bsW, WOp, WOq, WV, bo, gdc, gw, bnd, ↓reduceIte, Nat.reduceEqDiff, rsvs, rsv, oneOf, rdN, ne_eq, Nat.reduceAdd, Nat.reduceMul, Nat.reduceLT, reduceCtorEq, Value.cells, setN, Value.oneCell', Nat.reduceLeDiff, undef, fcT], by show 0 + k ≤ k; omega, rfl, Sub.refl _, by omega⟩
end Go.Proofs.Ytmmbolempcpcjaa
