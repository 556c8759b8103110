/- Puzzles: the pieces that wait. -/
import Derived.Test.YtbhabpenlaklcaaDoorQ1
set_option linter.unusedVariables false
set_option linter.unusedSimpArgs false
set_option maxRecDepth 100000
set_option maxHeartbeats 1000000
namespace Go.Proofs.YtbhabpenlaklcaaDoor
open Go Go.RowKit Go.Proofs

def waitK (la : List Int) (hand : Int) (rj : List Int) (k : Nat) : List Int := (upto k).filter fun x => decide (x ≠ hand ∧ x ∉ la ∧ x ∉ rj)
theorem waitK_succ (la : List Int) (hand : Int) (rj : List Int) (k : Nat) : waitK la hand rj (k + 1) = if ((k : Int) + 1 ≠ hand ∧ (k : Int) + 1 ∉ la ∧ (k : Int) + 1 ∉ rj) then waitK la hand rj k ++ [(k : Int) + 1] else waitK la hand rj k := by
  unfold waitK
  simp only [upto, List.filter_append]
  by_cases h : ((k : Int) + 1 ≠ hand ∧ (k : Int) + 1 ∉ la ∧ (k : Int) + 1 ∉ rj)
  · rw [if_pos h]; simp [h]
  · rw [if_neg h]; simp [h]
theorem waitK_len (la : List Int) (hand : Int) (rj : List Int) : ∀ k, (waitK la hand rj k).length ≤ k
  | 0 => by simp [waitK, upto]
  | k + 1 => by
    have := waitK_len la hand rj k
    rw [waitK_succ]
    split <;> simp <;> omega

theorem waiting (b : Nat) (tot : Int) (A : Option Addr) (la : List Int) (c : Nat) (hand : Int) (B : Option Addr) (rj : List Int) (d : Nat) (sl : Bool) (H : Hp) (nx : Nat) (hla : la.length ≤ 1048576) (hrj : rj.length ≤ 1048576) (htt : tot ≤ 1048576) (c0 : rd H b 0 = some (.int .i64 tot)) (c1 : rd H b 1 = some (.slice A la.length c)) (c2 : rd H b 2 = some (.int .i64 hand)) (c3 : rd H b 3 = some (.slice B rj.length d)) (hA : RdL H A la) (hRB : RdL H B rj) :
    AC Tryd.prog 34 #[.pointer (some ⟨b, 0, none⟩)] H nx (NewL H nx (waitK la hand rj tot.toNat) 3) := by
  refine AC_of x_impl_Puzzle_waiting rfl fun hB => ?_
  simp (disch := omega) only [bsW, WOp, WOq, WV, bo, eqN, gdc, gw, bnd, ↓reduceIte, Nat.reduceEqDiff, rsvs, rsv, oneOf, rdN, ne_eq, Nat.reduceAdd, Nat.reduceMul, Nat.reduceLT, reduceCtorEq, Value.cells, setN, Value.oneCell', Nat.reduceLeDiff, undef, fcT, c_impl_Puzzle_waiting]
  refine LpB_rule (fun mm fr H' nx' => ∃ (k : Nat) (w : Value), mm = tot.toNat - k + 1 ∧ k ≤ tot.toNat ∧ fr 0 = .pointer (some ⟨b, 0, none⟩) ∧ fr 3 = w ∧ fr 4 = .int .i64 (k + 1) ∧ OwnL H' nx nx' (waitK la hand rj k) 3 w ∧ Sub H H' ∧ nx ≤ nx') ?_ ?_ (tot.toNat + 1) ?_
  · rintro mm K hK fr H' nx' hB' ⟨k, w, hmm, hk, f0, f3, f4, hO, hs, hx⟩
    have hwl := waitK_len la hand rj k
    have c0 := rd_sub hs c0
    have c1 := rd_sub hs c1
    have c2 := rd_sub hs c2
    have c3 := rd_sub hs c3
    simp (disch := omega) only [bsW, WOp, WOq, WV, bo, eqN, gdc, gw, bnd, ↓reduceIte, Nat.reduceEqDiff, rsvs, rsv, oneOf, rdN, ne_eq, Nat.reduceAdd, Nat.reduceMul, Nat.reduceLT, reduceCtorEq, Value.cells, setN, Value.oneCell', Nat.reduceLeDiff, undef, fcT, f0, f3, f4, c0]
    refine gif_split (fun b1 => ?_) (fun b1 => ?_)
    · have hlt : (k : Int) + 1 ≤ tot := by simpa using b1
      have hr := waitK_succ la hand rj k
      cases d1 : ((k : Int) + 1 != hand) <;> cases d2 : decide ((k : Int) + 1 ∈ la) <;> cases d3 : decide ((k : Int) + 1 ∈ rj)
      all_goals
        simp (disch := omega) only [bsW, WOp, WOq, WV, bo, eqN, gdc, gw, bnd, ↓reduceIte, Nat.reduceEqDiff, rsvs, rsv, oneOf, rdN, ne_eq, Nat.reduceAdd, Nat.reduceMul, Nat.reduceLT, reduceCtorEq, Value.cells, setN, Value.oneCell', Nat.reduceLeDiff, undef, fcT, f0, f3, f4, c0, c1, c2, c3, d1, d2, d3, Bool.not_true, Bool.not_false, b1]
        (repeat' (first | ((with_reducible refine gif_split (fun hs_ => ?_) (fun hs_ => ?_)) <;> (have hp_ := hs_; (try simp only [hpL, ne_eq] at hp_); (try simp (disch := omega) only [bsW, WOp, WOq, WV, bo, eqN, gdc, gw, bnd, ↓reduceIte, Nat.reduceEqDiff, rsvs, rsv, oneOf, rdN, ne_eq, Nat.reduceAdd, Nat.reduceMul, Nat.reduceLT, reduceCtorEq, Value.cells, setN, Value.oneCell', Nat.reduceLeDiff, undef, fcT, f0, f3, f4, c0, c1, c2, c3, d1, d2, d3, Bool.not_true, Bool.not_false, hs_]))) | ((first | (with_reducible refine newB_i (fun nb_ hb_ => ?_)) | ((with_reducible show QC _ _ _ _ _ _); (first | (refine QC_i (hasI A la la.length c _ _ _ rfl hla (hA.sub (by (repeat (first | assumption | exact Sub.refl _ | (refine sub_up (nx := nx) ?_ hB ?_; omega)))))) ?_) | (refine QC_i (hasI B rj rj.length d _ _ _ rfl hrj (hRB.sub (by (repeat (first | assumption | exact Sub.refl _ | (refine sub_up (nx := nx) ?_ hB ?_; omega)))))) ?_))) | ((with_reducible show AC _ _ _ _ _ _); (first | (refine PC.ac (hasI A la la.length c _ _ _ rfl hla (hA.sub (by (repeat (first | assumption | exact Sub.refl _ | (refine sub_up (nx := nx) ?_ hB ?_; omega)))))) ?_) | (refine PC.ac (hasI B rj rj.length d _ _ _ rfl hrj (hRB.sub (by (repeat (first | assumption | exact Sub.refl _ | (refine sub_up (nx := nx) ?_ hB ?_; omega)))))) ?_))) | (with_reducible refine RgE_i (fun (hBd_ : Bd _ _) => ?_))); (try simp (disch := omega) only [bsW, WOp, WOq, WV, bo, eqN, gdc, gw, bnd, ↓reduceIte, Nat.reduceEqDiff, rsvs, rsv, oneOf, rdN, ne_eq, Nat.reduceAdd, Nat.reduceMul, Nat.reduceLT, reduceCtorEq, Value.cells, setN, Value.oneCell', Nat.reduceLeDiff, undef, fcT, f0, f3, f4, c0, c1, c2, c3, d1, d2, d3, Bool.not_true, Bool.not_false])) | (with_reducible refine fun (hBd_ : Bd _ _) => ?_) | ((first | (with_reducible refine @And.intro (Sub _ _) _ ?_ ?_) | ((with_reducible refine @And.intro (Sub _ _ ∧ _) _ ?_ ?_); (with_reducible refine @And.intro (Sub _ _) _ ?_ ?_))); exact sbX) | ((with_reducible refine And.intro ?_ ?_); omega)))
        all_goals try (exfalso; omega)
        first
        | (rw [if_neg (by simp_all)] at hr
           refine hK _ _ _ ?_
           exact ⟨k + 1, w, by omega, by omega, by simp (disch := omega) only [bsW, ↓reduceIte, Nat.reduceEqDiff, ne_eq, reduceCtorEq, fcT, f0, f3, f4, c0, c1, c2, c3, d1, d2, d3, Bool.not_true, Bool.not_false], by simp (disch := omega) only [bsW, ↓reduceIte, Nat.reduceEqDiff, ne_eq, reduceCtorEq, fcT, f0, f3, f4, c0, c1, c2, c3, d1, d2, d3, Bool.not_true, Bool.not_false], by simp (disch := omega) only [bsW, ↓reduceIte, Nat.reduceEqDiff, ne_eq, reduceCtorEq, fcT, f0, f3, f4, c0, c1, c2, c3, d1, d2, d3, Bool.not_true, Bool.not_false, Int.natCast_add, Int.natCast_one], by rw [hr]; exact hO, hs, by omega⟩)
        | (rw [if_pos (by simp_all)] at hr
           refine app_oneL (x := (k : Int) + 1) (by simp (disch := omega) only [bsW, WOp, WOq, WV, bo, eqN, gdc, gw, bnd, ↓reduceIte, Nat.reduceEqDiff, rsvs, rsv, oneOf, rdN, ne_eq, Nat.reduceAdd, Nat.reduceMul, Nat.reduceLT, reduceCtorEq, Value.cells, setN, Value.oneCell', Nat.reduceLeDiff, undef, fcT, f0, f3, f4, c0, c1, c2, c3, d1, d2, d3, Bool.not_true, Bool.not_false]) (by simp (disch := omega) only [bsW, WOp, WOq, WV, bo, eqN, gdc, gw, bnd, ↓reduceIte, Nat.reduceEqDiff, rsvs, rsv, oneOf, rdN, ne_eq, Nat.reduceAdd, Nat.reduceMul, Nat.reduceLT, reduceCtorEq, Value.cells, setN, Value.oneCell', Nat.reduceLeDiff, undef, fcT, f0, f3, f4, c0, c1, c2, c3, d1, d2, d3, Bool.not_true, Bool.not_false]) (by simp (disch := omega) only [bsW, WOp, WOq, WV, bo, eqN, gdc, gw, bnd, ↓reduceIte, Nat.reduceEqDiff, rsvs, rsv, oneOf, rdN, ne_eq, Nat.reduceAdd, Nat.reduceMul, Nat.reduceLT, reduceCtorEq, Value.cells, setN, Value.oneCell', Nat.reduceLeDiff, undef, fcT, f0, f3, f4, c0, c1, c2, c3, d1, d2, d3, Bool.not_true, Bool.not_false]) (by simp (disch := omega) only [bsW, WOp, WOq, WV, bo, eqN, gdc, gw, bnd, ↓reduceIte, Nat.reduceEqDiff, rsvs, rsv, oneOf, rdN, ne_eq, Nat.reduceAdd, Nat.reduceMul, Nat.reduceLT, reduceCtorEq, Value.cells, setN, Value.oneCell', Nat.reduceLeDiff, undef, fcT, f0, f3, f4, c0, c1, c2, c3, d1, d2, d3, Bool.not_true, Bool.not_false]) (OwnR.new hO (by omega)) (upd_same _ _ _) (by omega) (by omega) ?_
           rintro v' b' o nx2 hb' hn2 hown' hO2
           have hlo : nx ≤ b' := by
             rcases hb' with e | e
             · exact (OwnR.blk hO e).1
             · omega
           simp (disch := omega) only [bsW, WOp, WOq, WV, bo, eqN, gdc, gw, bnd, ↓reduceIte, Nat.reduceEqDiff, rsvs, rsv, oneOf, rdN, ne_eq, Nat.reduceAdd, Nat.reduceMul, Nat.reduceLT, reduceCtorEq, Value.cells, setN, Value.oneCell', Nat.reduceLeDiff, undef, fcT, f0, f3, f4, c0, c1, c2, c3, d1, d2, d3, Bool.not_true, Bool.not_false]
           refine hK _ _ _ ?_
           exact ⟨k + 1, v', by omega, by omega, by simp (disch := omega) only [bsW, ↓reduceIte, Nat.reduceEqDiff, ne_eq, reduceCtorEq, fcT, f0, f3, f4, c0, c1, c2, c3, d1, d2, d3, Bool.not_true, Bool.not_false], by simp (disch := omega) only [bsW, ↓reduceIte, Nat.reduceEqDiff, ne_eq, reduceCtorEq, fcT, f0, f3, f4, c0, c1, c2, c3, d1, d2, d3, Bool.not_true, Bool.not_false], by simp (disch := omega) only [bsW, ↓reduceIte, Nat.reduceEqDiff, ne_eq, reduceCtorEq, fcT, f0, f3, f4, c0, c1, c2, c3, d1, d2, d3, Bool.not_true, Bool.not_false, Int.natCast_add, Int.natCast_one], by rw [hr]; exact hO2, sub_up (nx := nx) hlo hB (sub_up (nx := nx) (by omega) hB hs), by omega⟩)
    · have hkn : k = tot.toNat := by simp at b1; omega
      subst hkn
      simp (disch := omega) only [bsW, WOp, WOq, WV, bo, eqN, gdc, gw, bnd, ↓reduceIte, Nat.reduceEqDiff, rsvs, rsv, oneOf, rdN, ne_eq, Nat.reduceAdd, Nat.reduceMul, Nat.reduceLT, reduceCtorEq, Value.cells, setN, Value.oneCell', Nat.reduceLeDiff, undef, fcT, f0, f3, f4, c0, b1]
      exact ⟨hO, hs⟩
  · rintro fr H' nx' ⟨k, w, hmm, _⟩; omega
  · exact ⟨0, _, by omega, by omega, by simp (disch := omega) only [bsW, ↓reduceIte, Nat.reduceEqDiff, ne_eq, reduceCtorEq, fcT], by simp (disch := omega) only [bsW, ↓reduceIte, Nat.reduceEqDiff, ne_eq, reduceCtorEq, fcT], by simp (disch := omega) only [bsW, ↓reduceIte, Nat.reduceEqDiff, ne_eq, reduceCtorEq, fcT, Int.natCast_zero, Int.zero_add], .nil, Sub.refl _, by omega⟩

theorem l21Waiting (tot : Int) (A : Option Addr) (la : List Int) (c : Nat) (hand : Int) (B : Option Addr) (rj : List Int) (d : Nat) (sl : Bool) (H : Hp) (nx : Nat) (hla : la.length ≤ 1048576) (hrj : rj.length ≤ 1048576) (htt : tot ≤ 1048576) (hA : RdL H A la) (hRB : RdL H B rj) :
    AC Tryd.prog 35 #[.agg #[.int .i64 tot, .slice A la.length c, .int .i64 hand, .slice B rj.length d, .bool sl]] H nx (NewL H nx (waitK la hand rj tot.toNat) 3) := by
  refine AC_of x_spec_l21Waiting rfl fun hB => ?_
  simp (disch := omega) only [bsW, WOp, WOq, WV, bo, eqN, gdc, gw, bnd, ↓reduceIte, Nat.reduceEqDiff, rsvs, rsv, oneOf, rdN, ne_eq, Nat.reduceAdd, Nat.reduceMul, Nat.reduceLT, reduceCtorEq, Value.cells, setN, Value.oneCell', Nat.reduceLeDiff, undef, fcT, c_spec_l21Waiting]
  refine newB_i (fun nb_ hb_ => ?_)
  simp (disch := omega) only [bsW, WOp, WOq, WV, bo, eqN, gdc, gw, bnd, ↓reduceIte, Nat.reduceEqDiff, rsvs, rsv, oneOf, rdN, ne_eq, Nat.reduceAdd, Nat.reduceMul, Nat.reduceLT, reduceCtorEq, Value.cells, setN, Value.oneCell', Nat.reduceLeDiff, undef, fcT]
  have hs0 : Sub H (upd H nb_ (.rw [.int .i64 tot, .slice A la.length c, .int .i64 hand, .slice B rj.length d, .bool sl] 28)) := sub_up (nx := nx) (by omega) hB (Sub.refl _)
  have hBA : Bd (upd H nb_ (.rw [.int .i64 tot, .slice A la.length c, .int .i64 hand, .slice B rj.length d, .bool sl] 28)) (nb_ + 1) := Bd.up hB (by omega)
  have c0 : rd (upd H nb_ (.rw [.int .i64 tot, .slice A la.length c, .int .i64 hand, .slice B rj.length d, .bool sl] 28)) nb_ 0 = some (.int .i64 tot) := by rw [rd_upd_same]; rfl
  have c1 : rd (upd H nb_ (.rw [.int .i64 tot, .slice A la.length c, .int .i64 hand, .slice B rj.length d, .bool sl] 28)) nb_ 1 = some (.slice A la.length c) := by rw [rd_upd_same]; rfl
  have c2 : rd (upd H nb_ (.rw [.int .i64 tot, .slice A la.length c, .int .i64 hand, .slice B rj.length d, .bool sl] 28)) nb_ 2 = some (.int .i64 hand) := by rw [rd_upd_same]; rfl
  have c3 : rd (upd H nb_ (.rw [.int .i64 tot, .slice A la.length c, .int .i64 hand, .slice B rj.length d, .bool sl] 28)) nb_ 3 = some (.slice B rj.length d) := by rw [rd_upd_same]; rfl
  have c4 : rd (upd H nb_ (.rw [.int .i64 tot, .slice A la.length c, .int .i64 hand, .slice B rj.length d, .bool sl] 28)) nb_ 4 = some (.bool sl) := by rw [rd_upd_same]; rfl
  replace hA := hA.sub hs0
  replace hRB := hRB.sub hs0
  have hbA := hb_
  generalize (upd H nb_ (.rw [.int .i64 tot, .slice A la.length c, .int .i64 hand, .slice B rj.length d, .bool sl] 28)) = H0 at *
  generalize nb_ = bA at *
  refine newB_i (fun nb_ hb2_ => ?_)
  simp (disch := omega) only [bsW, WOp, WOq, WV, bo, eqN, gdc, gw, bnd, ↓reduceIte, Nat.reduceEqDiff, rsvs, rsv, oneOf, rdN, ne_eq, Nat.reduceAdd, Nat.reduceMul, Nat.reduceLT, reduceCtorEq, Value.cells, setN, Value.oneCell', Nat.reduceLeDiff, undef, fcT]
  refine LpB_rule (fun mm fr H' nx' => ∃ (k : Nat) (w : Value), mm = tot.toNat - k + 1 ∧ k ≤ tot.toNat ∧ fr 1 = .pointer (some ⟨bA, 0, none⟩) ∧ fr 3 = w ∧ fr 4 = .int .i64 (k + 1) ∧ OwnL H' (bA + 1) nx' (waitK la hand rj k) 3 w ∧ Sub H0 H' ∧ (bA + 1) ≤ nx') ?_ ?_ (tot.toNat + 1) ?_
  · rintro mm K hK fr H' nx' hB' ⟨k, w, hmm, hk, f0, f3, f4, hO, hs, hx⟩
    have hwl := waitK_len la hand rj k
    have c0 := rd_sub hs c0
    have c1 := rd_sub hs c1
    have c2 := rd_sub hs c2
    have c3 := rd_sub hs c3
    simp (disch := omega) only [bsW, WOp, WOq, WV, bo, eqN, gdc, gw, bnd, ↓reduceIte, Nat.reduceEqDiff, rsvs, rsv, oneOf, rdN, ne_eq, Nat.reduceAdd, Nat.reduceMul, Nat.reduceLT, reduceCtorEq, Value.cells, setN, Value.oneCell', Nat.reduceLeDiff, undef, fcT, f0, f3, f4, c0]
    refine gif_split (fun b1 => ?_) (fun b1 => ?_)
    · have hlt : (k : Int) + 1 ≤ tot := by simpa using b1
      have hr := waitK_succ la hand rj k
      cases d1 : ((k : Int) + 1 != hand) <;> cases d2 : decide ((k : Int) + 1 ∈ la) <;> cases d3 : decide ((k : Int) + 1 ∈ rj)
      all_goals
        simp (disch := omega) only [bsW, WOp, WOq, WV, bo, eqN, gdc, gw, bnd, ↓reduceIte, Nat.reduceEqDiff, rsvs, rsv, oneOf, rdN, ne_eq, Nat.reduceAdd, Nat.reduceMul, Nat.reduceLT, reduceCtorEq, Value.cells, setN, Value.oneCell', Nat.reduceLeDiff, undef, fcT, f0, f3, f4, c0, c1, c2, c3, d1, d2, d3, Bool.not_true, Bool.not_false, b1]
        (repeat' (first | ((with_reducible refine gif_split (fun hs_ => ?_) (fun hs_ => ?_)) <;> (have hp_ := hs_; (try simp only [hpL, ne_eq] at hp_); (try simp (disch := omega) only [bsW, WOp, WOq, WV, bo, eqN, gdc, gw, bnd, ↓reduceIte, Nat.reduceEqDiff, rsvs, rsv, oneOf, rdN, ne_eq, Nat.reduceAdd, Nat.reduceMul, Nat.reduceLT, reduceCtorEq, Value.cells, setN, Value.oneCell', Nat.reduceLeDiff, undef, fcT, f0, f3, f4, c0, c1, c2, c3, d1, d2, d3, Bool.not_true, Bool.not_false, hs_]))) | ((first | (with_reducible refine newB_i (fun nb_ hb_ => ?_)) | ((with_reducible show QC _ _ _ _ _ _); (first | (refine QC_i (l1Has A la la.length c _ _ _ rfl hla (hA.sub (by (repeat (first | assumption | exact Sub.refl _ | (refine sub_up (nx := nx) ?_ hB ?_; omega)))))) ?_) | (refine QC_i (l1Has B rj rj.length d _ _ _ rfl hrj (hRB.sub (by (repeat (first | assumption | exact Sub.refl _ | (refine sub_up (nx := nx) ?_ hB ?_; omega)))))) ?_))) | ((with_reducible show AC _ _ _ _ _ _); (first | (refine PC.ac (l1Has A la la.length c _ _ _ rfl hla (hA.sub (by (repeat (first | assumption | exact Sub.refl _ | (refine sub_up (nx := nx) ?_ hB ?_; omega)))))) ?_) | (refine PC.ac (l1Has B rj rj.length d _ _ _ rfl hrj (hRB.sub (by (repeat (first | assumption | exact Sub.refl _ | (refine sub_up (nx := nx) ?_ hB ?_; omega)))))) ?_))) | (with_reducible refine RgE_i (fun (hBd_ : Bd _ _) => ?_))); (try simp (disch := omega) only [bsW, WOp, WOq, WV, bo, eqN, gdc, gw, bnd, ↓reduceIte, Nat.reduceEqDiff, rsvs, rsv, oneOf, rdN, ne_eq, Nat.reduceAdd, Nat.reduceMul, Nat.reduceLT, reduceCtorEq, Value.cells, setN, Value.oneCell', Nat.reduceLeDiff, undef, fcT, f0, f3, f4, c0, c1, c2, c3, d1, d2, d3, Bool.not_true, Bool.not_false])) | (with_reducible refine fun (hBd_ : Bd _ _) => ?_) | ((first | (with_reducible refine @And.intro (Sub _ _) _ ?_ ?_) | ((with_reducible refine @And.intro (Sub _ _ ∧ _) _ ?_ ?_); (with_reducible refine @And.intro (Sub _ _) _ ?_ ?_))); exact sbX) | ((with_reducible refine And.intro ?_ ?_); omega)))
        all_goals try (exfalso; omega)
        first
        | (rw [if_neg (by simp_all)] at hr
           refine hK _ _ _ ?_
           exact ⟨k + 1, w, by omega, by omega, by simp (disch := omega) only [bsW, ↓reduceIte, Nat.reduceEqDiff, ne_eq, reduceCtorEq, fcT, f0, f3, f4, c0, c1, c2, c3, d1, d2, d3, Bool.not_true, Bool.not_false], by simp (disch := omega) only [bsW, ↓reduceIte, Nat.reduceEqDiff, ne_eq, reduceCtorEq, fcT, f0, f3, f4, c0, c1, c2, c3, d1, d2, d3, Bool.not_true, Bool.not_false], by simp (disch := omega) only [bsW, ↓reduceIte, Nat.reduceEqDiff, ne_eq, reduceCtorEq, fcT, f0, f3, f4, c0, c1, c2, c3, d1, d2, d3, Bool.not_true, Bool.not_false, Int.natCast_add, Int.natCast_one], by rw [hr]; exact hO, hs, by omega⟩)
        | (rw [if_pos (by simp_all)] at hr
           refine app_oneL (x := (k : Int) + 1) (by simp (disch := omega) only [bsW, WOp, WOq, WV, bo, eqN, gdc, gw, bnd, ↓reduceIte, Nat.reduceEqDiff, rsvs, rsv, oneOf, rdN, ne_eq, Nat.reduceAdd, Nat.reduceMul, Nat.reduceLT, reduceCtorEq, Value.cells, setN, Value.oneCell', Nat.reduceLeDiff, undef, fcT, f0, f3, f4, c0, c1, c2, c3, d1, d2, d3, Bool.not_true, Bool.not_false]) (by simp (disch := omega) only [bsW, WOp, WOq, WV, bo, eqN, gdc, gw, bnd, ↓reduceIte, Nat.reduceEqDiff, rsvs, rsv, oneOf, rdN, ne_eq, Nat.reduceAdd, Nat.reduceMul, Nat.reduceLT, reduceCtorEq, Value.cells, setN, Value.oneCell', Nat.reduceLeDiff, undef, fcT, f0, f3, f4, c0, c1, c2, c3, d1, d2, d3, Bool.not_true, Bool.not_false]) (by simp (disch := omega) only [bsW, WOp, WOq, WV, bo, eqN, gdc, gw, bnd, ↓reduceIte, Nat.reduceEqDiff, rsvs, rsv, oneOf, rdN, ne_eq, Nat.reduceAdd, Nat.reduceMul, Nat.reduceLT, reduceCtorEq, Value.cells, setN, Value.oneCell', Nat.reduceLeDiff, undef, fcT, f0, f3, f4, c0, c1, c2, c3, d1, d2, d3, Bool.not_true, Bool.not_false]) (by simp (disch := omega) only [bsW, WOp, WOq, WV, bo, eqN, gdc, gw, bnd, ↓reduceIte, Nat.reduceEqDiff, rsvs, rsv, oneOf, rdN, ne_eq, Nat.reduceAdd, Nat.reduceMul, Nat.reduceLT, reduceCtorEq, Value.cells, setN, Value.oneCell', Nat.reduceLeDiff, undef, fcT, f0, f3, f4, c0, c1, c2, c3, d1, d2, d3, Bool.not_true, Bool.not_false]) (OwnR.new hO (by omega)) (upd_same _ _ _) (by omega) (by omega) ?_
           rintro v' b' o nx2 hb' hn2 hown' hO2
           have hlo : (bA + 1) ≤ b' := by
             rcases hb' with e | e
             · exact (OwnR.blk hO e).1
             · omega
           simp (disch := omega) only [bsW, WOp, WOq, WV, bo, eqN, gdc, gw, bnd, ↓reduceIte, Nat.reduceEqDiff, rsvs, rsv, oneOf, rdN, ne_eq, Nat.reduceAdd, Nat.reduceMul, Nat.reduceLT, reduceCtorEq, Value.cells, setN, Value.oneCell', Nat.reduceLeDiff, undef, fcT, f0, f3, f4, c0, c1, c2, c3, d1, d2, d3, Bool.not_true, Bool.not_false]
           refine hK _ _ _ ?_
           exact ⟨k + 1, v', by omega, by omega, by simp (disch := omega) only [bsW, ↓reduceIte, Nat.reduceEqDiff, ne_eq, reduceCtorEq, fcT, f0, f3, f4, c0, c1, c2, c3, d1, d2, d3, Bool.not_true, Bool.not_false], by simp (disch := omega) only [bsW, ↓reduceIte, Nat.reduceEqDiff, ne_eq, reduceCtorEq, fcT, f0, f3, f4, c0, c1, c2, c3, d1, d2, d3, Bool.not_true, Bool.not_false], by simp (disch := omega) only [bsW, ↓reduceIte, Nat.reduceEqDiff, ne_eq, reduceCtorEq, fcT, f0, f3, f4, c0, c1, c2, c3, d1, d2, d3, Bool.not_true, Bool.not_false, Int.natCast_add, Int.natCast_one], by rw [hr]; exact hO2, sub_up (nx := (bA + 1)) hlo hBA (sub_up (nx := (bA + 1)) (by omega) hBA hs), by omega⟩)
    · have hkn : k = tot.toNat := by simp at b1; omega
      subst hkn
      simp (disch := omega) only [bsW, WOp, WOq, WV, bo, eqN, gdc, gw, bnd, ↓reduceIte, Nat.reduceEqDiff, rsvs, rsv, oneOf, rdN, ne_eq, Nat.reduceAdd, Nat.reduceMul, Nat.reduceLT, reduceCtorEq, Value.cells, setN, Value.oneCell', Nat.reduceLeDiff, undef, fcT, f0, f3, f4, c0, b1]
      exact ⟨OwnR.lo hO (by omega), hs0.trans hs⟩
  · rintro fr H' nx' ⟨k, w, hmm, _⟩; omega
  · exact ⟨0, _, by omega, by omega, by simp (disch := omega) only [bsW, ↓reduceIte, Nat.reduceEqDiff, ne_eq, reduceCtorEq, fcT], by simp (disch := omega) only [bsW, ↓reduceIte, Nat.reduceEqDiff, ne_eq, reduceCtorEq, fcT], by simp (disch := omega) only [bsW, ↓reduceIte, Nat.reduceEqDiff, ne_eq, reduceCtorEq, fcT, Int.natCast_zero, Int.zero_add], .empty (by omega) (by omega) (upd_same _ _ _), sub_up (nx := bA + 1) (by omega) hBA (Sub.refl _), by omega⟩

theorem waitK_waitL (la : List Int) (hand : Int) (rj : List Int) (tot : Int) : waitK la hand rj tot.toNat = waitL tot la hand rj := rfl
end Go.Proofs.YtbhabpenlaklcaaDoor
