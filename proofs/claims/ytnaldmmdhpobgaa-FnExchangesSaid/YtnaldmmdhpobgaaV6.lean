/- The reference's IsExchange. -/
import Derived.Test.YtnaldmmdhpobgaaV5
import Derived.Test.YtnaldmmdhpobgaaP20c
set_option linter.unusedVariables false
set_option linter.unusedSimpArgs false
set_option maxRecDepth 100000
set_option maxHeartbeats 1000000
namespace Go.Proofs.Ytnaldmmdhpobgaa
open Go Go.RowKit Go.Proofs

theorem l20Apart (A B : Option Addr) (a l : List Int) (n m c d : Nat) (H : Hp) (nx : Nat) (ha : a.length = n) (hl : l.length = m) (hn : n ≤ 9223372036854775807) (hm : m ≤ 9223372036854775807) (h : RdL H A a) (h2 : RdL H B l) :
    PC Try.prog 60 #[.slice A n c, .slice B m d] H nx (.bool (aptB a l)) := by
  subst ha hl
  refine AC_of x_spec_l20Apart rfl fun hB => ?_
  simp (disch := omega) only [bsW, WOp, WOq, WV, bo, gdc, gw, bnd, ↓reduceIte, Nat.reduceEqDiff, rsvs, rsv, oneOf, rdN, ne_eq, Nat.reduceAdd, Nat.reduceMul, Nat.reduceLT, reduceCtorEq, Value.cells, setN, Value.oneCell', Nat.reduceLeDiff, undef, fcT, c_spec_l20Apart]
  refine LpB_rule (fun mm fr H' nx' => ∃ k : Nat, mm = a.length - k + 1 ∧ k ≤ a.length ∧ fr 0 = .slice A a.length c ∧ fr 1 = .slice B l.length d ∧ fr 5 = .int .i64 k ∧ Sub H H' ∧ nx ≤ nx' ∧ ∀ i, i < k → a.getD i 0 ∉ l) ?_ ?_ (a.length + 1) ?_
  · rintro mm K hK fr H' nx' hB' ⟨k, hmm, hk, f0, f1, f5, hs, hx, hall⟩
    simp (disch := omega) only [bsW, WOp, WOq, WV, bo, gdc, gw, bnd, ↓reduceIte, Nat.reduceEqDiff, rsvs, rsv, oneOf, rdN, ne_eq, Nat.reduceAdd, Nat.reduceMul, Nat.reduceLT, reduceCtorEq, Value.cells, setN, Value.oneCell', Nat.reduceLeDiff, undef, fcT, f0, f1, f5]
    refine gif_split (fun b1 => ?_) (fun b1 => ?_)
    · have hlt : k < a.length := by simpa using b1
      obtain ⟨b, off, rfl, c0⟩ := (h.sub hs).at_ hlt
      simp (disch := omega) only [bsW, WOp, WOq, WV, bo, gdc, gw, bnd, ↓reduceIte, Nat.reduceEqDiff, rsvs, rsv, oneOf, rdN, ne_eq, Nat.reduceAdd, Nat.reduceMul, Nat.reduceLT, reduceCtorEq, Value.cells, setN, Value.oneCell', Nat.reduceLeDiff, undef, fcT, f0, f1, f5, c0, Nat.mul_one, b1]
      (repeat' (first | ((with_reducible refine gif_split (fun hs_ => ?_) (fun hs_ => ?_)) <;> (have hp_ := hs_; (try simp only [hpL, ne_eq] at hp_); (try simp (disch := omega) only [bsW, WOp, WOq, WV, bo, gdc, gw, bnd, ↓reduceIte, Nat.reduceEqDiff, rsvs, rsv, oneOf, rdN, ne_eq, Nat.reduceAdd, Nat.reduceMul, Nat.reduceLT, reduceCtorEq, Value.cells, setN, Value.oneCell', Nat.reduceLeDiff, undef, fcT, f0, f1, f5, c0, Nat.mul_one, hs_]))) | ((first | (with_reducible refine newB_i (fun nb_ hb_ => ?_)) | ((with_reducible show QC _ _ _ _ _ _); (first | (refine QC_i (l1Has _ l _ _ _ _ _ rfl hm (h2.sub hs)) ?_))) | ((with_reducible show AC _ _ _ _ _ _); (first | (refine PC.ac (l1Has _ l _ _ _ _ _ rfl hm (h2.sub hs)) ?_))) | (with_reducible refine RgE_i (fun (hBd_ : Bd _ _) => ?_))); (try simp (disch := omega) only [bsW, WOp, WOq, WV, bo, gdc, gw, bnd, ↓reduceIte, Nat.reduceEqDiff, rsvs, rsv, oneOf, rdN, ne_eq, Nat.reduceAdd, Nat.reduceMul, Nat.reduceLT, reduceCtorEq, Value.cells, setN, Value.oneCell', Nat.reduceLeDiff, undef, fcT, f0, f1, f5, c0, Nat.mul_one])) | (with_reducible refine fun (hBd_ : Bd _ _) => ?_) | ((first | (with_reducible refine @And.intro (Sub _ _) _ ?_ ?_) | ((with_reducible refine @And.intro (Sub _ _ ∧ _) _ ?_ ?_); (with_reducible refine @And.intro (Sub _ _) _ ?_ ?_))); exact sbX) | ((with_reducible refine And.intro ?_ ?_); omega)))
      all_goals try (exfalso; omega)
      all_goals first
        | (refine Is_e (congrArg Value.bool ?_) hs
           refine (decide_eq_false (fun hh => ?_)).symm
           have hx := hh _ (getD_mem hlt)
           first
           | exact hx (by assumption)
           | (simp_all; done))
        | (refine hK _ _ _ ?_
           refine ⟨k + 1, by omega, by omega, by simp (disch := omega) only [bsW, ↓reduceIte, Nat.reduceEqDiff, ne_eq, reduceCtorEq, fcT, f0, f1, f5, c0, Nat.mul_one], by simp (disch := omega) only [bsW, ↓reduceIte, Nat.reduceEqDiff, ne_eq, reduceCtorEq, fcT, f0, f1, f5, c0, Nat.mul_one], by simp (disch := omega) only [bsW, ↓reduceIte, Nat.reduceEqDiff, ne_eq, reduceCtorEq, fcT, f0, f1, f5, c0, Nat.mul_one, Int.natCast_add, Int.natCast_one], by (repeat (first | assumption | exact Sub.refl _ | (refine sub_up (nx := nx) ?_ hB ?_; omega))), by omega, ?_⟩
           intro i hi
           rcases Nat.lt_succ_iff_lt_or_eq.1 hi with hi | rfl
           · exact hall i hi
           · first
             | assumption
             | (simp_all; done))
    · have hkn : k = a.length := by simp at b1; omega
      subst hkn
      simp (disch := omega) only [bsW, WOp, WOq, WV, bo, gdc, gw, bnd, ↓reduceIte, Nat.reduceEqDiff, rsvs, rsv, oneOf, rdN, ne_eq, Nat.reduceAdd, Nat.reduceMul, Nat.reduceLT, reduceCtorEq, Value.cells, setN, Value.oneCell', Nat.reduceLeDiff, undef, fcT, f0, f1, f5, b1]
      refine Is_e (congrArg Value.bool ?_) hs
      refine (decide_eq_true (fun x hx => ?_)).symm
      obtain ⟨i, hi, rfl⟩ := mem_getD hx
      exact hall i hi
  · rintro fr H' nx' ⟨k, hmm, _⟩; omega
  · exact ⟨0, by omega, by omega, by simp (disch := omega) only [bsW, ↓reduceIte, Nat.reduceEqDiff, ne_eq, reduceCtorEq, fcT], by simp (disch := omega) only [bsW, ↓reduceIte, Nat.reduceEqDiff, ne_eq, reduceCtorEq, fcT], by simp (disch := omega) only [bsW, ↓reduceIte, Nat.reduceEqDiff, ne_eq, reduceCtorEq, fcT, Int.natCast_zero, Int.natCast_one], Sub.refl _, by omega, by intro i hi; omega⟩

noncomputable def vExch (N : Int) (m : Nat) (f : Nat → Nat → Int) (ls : List (List Int)) : Value :=
  if wssB N m f = true then .tuple #[.bool (exB N m f ls), .bool true] else .tuple #[.bool false, .bool false]
/-- A row's first one, and the one's before it. -/
theorem ex_head {N : Int} {m : Nat} {f : Nat → Nat → Int} {H : Hp} {Q : Option Addr} {l : List Int} (hc : crOk N m f l.length (rowL l)) (h : RdL H Q l) : ∃ b off, Q = some ⟨b, off, none⟩ ∧ rd H b off = some (.int .i64 (l.getD 0 0)) := by
  obtain ⟨b, off, e, z⟩ := h.at_ (k := 0) (by have := hc.1.2.1; omega)
  exact ⟨b, off, e, by rwa [Nat.add_zero] at z⟩
theorem sIsExchange (N : Int) (Aw A : Option Addr) (m cw c : Nat) (f : Nat → Nat → Int) (ls : List (List Int)) (H : Hp) (nx : Nat) (hN : -9223372036854775808 ≤ N ∧ N ≤ 9223372036854775807) (hm : m ≤ 9223372036854775807) (hn : ls.length ≤ 9223372036854775807) (hr : ∀ i, i < ls.length → (rowOf ls i).length ≤ 9223372036854775807) (hw : Rd H Aw m 3 f) (h : RdLL H A ls) :
    PC Try.prog 32 #[.int .i64 N, .slice Aw m cw, .slice A ls.length c] H nx (vExch N m f ls) := by
  unfold vExch
  by_cases hok : wssOk N m f
  case neg =>
    have e := wssB_no hok
    rw [if_neg (by rw [e]; simp)]
    refine AC_of x_spec_IsExchange rfl fun hB => ?_
    simp (disch := omega) only [bsW, WOp, WOq, WV, bo, gdc, gw, bnd, ↓reduceIte, Nat.reduceEqDiff, rsvs, rsv, oneOf, rdN, ne_eq, Nat.reduceAdd, Nat.reduceMul, Nat.reduceLT, reduceCtorEq, Value.cells, setN, Value.oneCell', Nat.reduceLeDiff, undef, fcT, e, c_spec_IsExchange]
    (repeat' (first | ((with_reducible refine gif_split (fun hs_ => ?_) (fun hs_ => ?_)) <;> (have hp_ := hs_; (try simp only [hpL, ne_eq] at hp_); (try simp (disch := omega) only [bsW, WOp, WOq, WV, bo, gdc, gw, bnd, ↓reduceIte, Nat.reduceEqDiff, rsvs, rsv, oneOf, rdN, ne_eq, Nat.reduceAdd, Nat.reduceMul, Nat.reduceLT, reduceCtorEq, Value.cells, setN, Value.oneCell', Nat.reduceLeDiff, undef, fcT, e, hs_]))) | ((first | (with_reducible refine newB_i (fun nb_ hb_ => ?_)) | ((with_reducible show QC _ _ _ _ _ _); (first | (refine QC_i (l20Good N _ _ _ f _ _ (by omega) hN hw) ?_))) | ((with_reducible show AC _ _ _ _ _ _); (first | (refine PC.ac (l20Good N _ _ _ f _ _ (by omega) hN hw) ?_))) | (with_reducible refine RgE_i (fun (hBd_ : Bd _ _) => ?_))); (try simp (disch := omega) only [bsW, WOp, WOq, WV, bo, gdc, gw, bnd, ↓reduceIte, Nat.reduceEqDiff, rsvs, rsv, oneOf, rdN, ne_eq, Nat.reduceAdd, Nat.reduceMul, Nat.reduceLT, reduceCtorEq, Value.cells, setN, Value.oneCell', Nat.reduceLeDiff, undef, fcT, e])) | (with_reducible refine fun (hBd_ : Bd _ _) => ?_) | ((first | (with_reducible refine @And.intro (Sub _ _) _ ?_ ?_) | ((with_reducible refine @And.intro (Sub _ _ ∧ _) _ ?_ ?_); (with_reducible refine @And.intro (Sub _ _) _ ?_ ?_))); exact sbX) | ((with_reducible refine And.intro ?_ ?_); omega)))
    all_goals try (exfalso; omega)
    exact Is_i (by (repeat (first | assumption | exact Sub.refl _ | (refine sub_up (nx := nx) ?_ hB ?_; omega))))
  have e := wssB_iff.2 hok
  have hN8 := hok.1
  rw [if_pos e]
  refine AC_of x_spec_IsExchange rfl fun hB => ?_
  simp (disch := omega) only [bsW, WOp, WOq, WV, bo, gdc, gw, bnd, ↓reduceIte, Nat.reduceEqDiff, rsvs, rsv, oneOf, rdN, ne_eq, Nat.reduceAdd, Nat.reduceMul, Nat.reduceLT, reduceCtorEq, Value.cells, setN, Value.oneCell', Nat.reduceLeDiff, undef, fcT, e, c_spec_IsExchange]
  (repeat' (first | ((with_reducible refine gif_split (fun hs_ => ?_) (fun hs_ => ?_)) <;> (have hp_ := hs_; (try simp only [hpL, ne_eq] at hp_); (try simp (disch := omega) only [bsW, WOp, WOq, WV, bo, gdc, gw, bnd, ↓reduceIte, Nat.reduceEqDiff, rsvs, rsv, oneOf, rdN, ne_eq, Nat.reduceAdd, Nat.reduceMul, Nat.reduceLT, reduceCtorEq, Value.cells, setN, Value.oneCell', Nat.reduceLeDiff, undef, fcT, e, hs_]))) | ((first | (with_reducible refine newB_i (fun nb_ hb_ => ?_)) | ((with_reducible show QC _ _ _ _ _ _); (first | (refine QC_i (l20Good N _ _ _ f _ _ (by omega) hN hw) ?_))) | ((with_reducible show AC _ _ _ _ _ _); (first | (refine PC.ac (l20Good N _ _ _ f _ _ (by omega) hN hw) ?_))) | (with_reducible refine RgE_i (fun (hBd_ : Bd _ _) => ?_))); (try simp (disch := omega) only [bsW, WOp, WOq, WV, bo, gdc, gw, bnd, ↓reduceIte, Nat.reduceEqDiff, rsvs, rsv, oneOf, rdN, ne_eq, Nat.reduceAdd, Nat.reduceMul, Nat.reduceLT, reduceCtorEq, Value.cells, setN, Value.oneCell', Nat.reduceLeDiff, undef, fcT, e])) | (with_reducible refine fun (hBd_ : Bd _ _) => ?_) | ((first | (with_reducible refine @And.intro (Sub _ _) _ ?_ ?_) | ((with_reducible refine @And.intro (Sub _ _ ∧ _) _ ?_ ?_); (with_reducible refine @And.intro (Sub _ _) _ ?_ ?_))); exact sbX) | ((with_reducible refine And.intro ?_ ?_); omega)))
  refine LpB_rule (fun mm fr H' nx' => ∃ k : Nat, mm = ls.length - k + 1 ∧ k ≤ ls.length ∧ fr 0 = .int .i64 N ∧ fr 1 = .slice Aw m cw ∧ fr 2 = .slice A ls.length c ∧ fr 8 = .int .i64 k ∧ Sub H H' ∧ nx ≤ nx' ∧ ∀ i, i < k → exAt N m f ls i) ?_ ?_ (ls.length + 1) ?_
  · rintro mm K hK fr H' nx' hB' ⟨k, hmm, hk, f0, f1, f2, f8, hs, hx, hall⟩
    have hfew := ex_few hall
    by_cases hlt : k < ls.length
    · obtain ⟨b, off, Q, d, rfl, c0, hd, hRk⟩ := (h.sub hs).at_ hlt
      have hrk := hr k hlt
      by_cases hck : crOk N m f (rowOf ls k).length (rowL (rowOf ls k))
      case neg =>
        have hz := sumV_no hck
        simp (disch := omega) only [bsW, WOp, WOq, WV, bo, gdc, gw, bnd, ↓reduceIte, Nat.reduceEqDiff, rsvs, rsv, oneOf, rdN, ne_eq, Nat.reduceAdd, Nat.reduceMul, Nat.reduceLT, reduceCtorEq, Value.cells, setN, Value.oneCell', Nat.reduceLeDiff, undef, fcT, f0, f1, f2, f8, c0, Nat.mul_one, hz, beq_self_eq_true]
        (repeat' (first | ((with_reducible refine gif_split (fun hs_ => ?_) (fun hs_ => ?_)) <;> (have hp_ := hs_; (try simp only [hpL, ne_eq] at hp_); (try simp (disch := omega) only [bsW, WOp, WOq, WV, bo, gdc, gw, bnd, ↓reduceIte, Nat.reduceEqDiff, rsvs, rsv, oneOf, rdN, ne_eq, Nat.reduceAdd, Nat.reduceMul, Nat.reduceLT, reduceCtorEq, Value.cells, setN, Value.oneCell', Nat.reduceLeDiff, undef, fcT, f0, f1, f2, f8, c0, Nat.mul_one, hz, beq_self_eq_true, hs_]))) | ((first | (with_reducible refine newB_i (fun nb_ hb_ => ?_)) | ((with_reducible show QC _ _ _ _ _ _); (first | (refine QC_i (l20Sum N _ _ _ _ _ _ _ _ _ _ hok (hw.sub hs) rfl hrk hRk) ?_))) | ((with_reducible show AC _ _ _ _ _ _); (first | (refine PC.ac (l20Sum N _ _ _ _ _ _ _ _ _ _ hok (hw.sub hs) rfl hrk hRk) ?_))) | (with_reducible refine RgE_i (fun (hBd_ : Bd _ _) => ?_))); (try simp (disch := omega) only [bsW, WOp, WOq, WV, bo, gdc, gw, bnd, ↓reduceIte, Nat.reduceEqDiff, rsvs, rsv, oneOf, rdN, ne_eq, Nat.reduceAdd, Nat.reduceMul, Nat.reduceLT, reduceCtorEq, Value.cells, setN, Value.oneCell', Nat.reduceLeDiff, undef, fcT, f0, f1, f2, f8, c0, Nat.mul_one, hz, beq_self_eq_true])) | (with_reducible refine fun (hBd_ : Bd _ _) => ?_) | ((first | (with_reducible refine @And.intro (Sub _ _) _ ?_ ?_) | ((with_reducible refine @And.intro (Sub _ _ ∧ _) _ ?_ ?_); (with_reducible refine @And.intro (Sub _ _) _ ?_ ?_))); exact sbX) | ((with_reducible refine And.intro ?_ ?_); omega)))
        all_goals try (exfalso; omega)
        all_goals try (exfalso; omega)
        exact Is_e (by rw [exB_no hlt (fun hh => hck hh.1)]) hs
      have hz : (sumV N m f (rowOf ls k).length (rowL (rowOf ls k)) == 0) = false := by
        rw [beq_eq_false_iff_ne]
        exact fun h0 => (sumV_nz hok).1 h0 hck
      have hcp : crOk N m f (rowOf ls (k - 1)).length (rowL (rowOf ls (k - 1))) := by
        rcases Nat.eq_zero_or_pos k with e0 | e0
        · rw [e0] at hck ⊢; exact hck
        · exact (hall (k - 1) (by omega)).1
      have hl0 := hck.1.2.1
      have hl1 := hcp.1.2.1
      obtain ⟨b', off', P1, d1, e', p0, hd1, hRp⟩ := (h.sub hs).at_ (show k - 1 < ls.length by omega)
      cases e'
      obtain ⟨bq, oq, rfl, z0⟩ := ex_head hck hRk
      obtain ⟨bp, op, rfl, z1⟩ := ex_head hcp hRp
      simp (disch := omega) only [bsW, WOp, WOq, WV, bo, gdc, gw, bnd, ↓reduceIte, Nat.reduceEqDiff, rsvs, rsv, oneOf, rdN, ne_eq, Nat.reduceAdd, Nat.reduceMul, Nat.reduceLT, reduceCtorEq, Value.cells, setN, Value.oneCell', Nat.reduceLeDiff, undef, fcT, f0, f1, f2, f8, c0, p0, z0, z1, Nat.mul_one, hz, toNat_pred]
      (repeat' (first | ((with_reducible refine gif_split (fun hs_ => ?_) (fun hs_ => ?_)) <;> (have hp_ := hs_; (try simp only [hpL, ne_eq] at hp_); (try simp (disch := omega) only [bsW, WOp, WOq, WV, bo, gdc, gw, bnd, ↓reduceIte, Nat.reduceEqDiff, rsvs, rsv, oneOf, rdN, ne_eq, Nat.reduceAdd, Nat.reduceMul, Nat.reduceLT, reduceCtorEq, Value.cells, setN, Value.oneCell', Nat.reduceLeDiff, undef, fcT, f0, f1, f2, f8, c0, p0, z0, z1, Nat.mul_one, hz, toNat_pred, hs_]))) | ((first | (with_reducible refine newB_i (fun nb_ hb_ => ?_)) | ((with_reducible show QC _ _ _ _ _ _); (first | (refine QC_i (l20Sum N _ _ _ _ _ _ _ _ _ _ hok (hw.sub hs) rfl hrk hRk) ?_))) | ((with_reducible show AC _ _ _ _ _ _); (first | (refine PC.ac (l20Sum N _ _ _ _ _ _ _ _ _ _ hok (hw.sub hs) rfl hrk hRk) ?_))) | (with_reducible refine RgE_i (fun (hBd_ : Bd _ _) => ?_))); (try simp (disch := omega) only [bsW, WOp, WOq, WV, bo, gdc, gw, bnd, ↓reduceIte, Nat.reduceEqDiff, rsvs, rsv, oneOf, rdN, ne_eq, Nat.reduceAdd, Nat.reduceMul, Nat.reduceLT, reduceCtorEq, Value.cells, setN, Value.oneCell', Nat.reduceLeDiff, undef, fcT, f0, f1, f2, f8, c0, p0, z0, z1, Nat.mul_one, hz, toNat_pred])) | (with_reducible refine fun (hBd_ : Bd _ _) => ?_) | ((first | (with_reducible refine @And.intro (Sub _ _) _ ?_ ?_) | ((with_reducible refine @And.intro (Sub _ _ ∧ _) _ ?_ ?_); (with_reducible refine @And.intro (Sub _ _) _ ?_ ?_))); exact sbX) | ((with_reducible refine And.intro ?_ ?_); omega)))
      all_goals try (exfalso; omega)
      all_goals try (exfalso; omega)
      all_goals try (refine Is_e (congrArg (fun x => Value.tuple #[.bool x, .bool true]) (exB_no hlt (fun hh => ?_)).symm) hs; have := hh.2.1 (by omega); omega)
      all_goals
        have hasc : 0 < k → (rowOf ls (k - 1)).getD 0 0 < (rowOf ls k).getD 0 0 := fun h0 => by omega
        refine LpB_rule (fun m2 fr H2 nx2 => ∃ j : Nat, m2 = k - j + 1 ∧ j ≤ k ∧ fr 0 = .int .i64 N ∧ fr 1 = .slice Aw m cw ∧ fr 2 = .slice (some ⟨b, off, none⟩) ls.length c ∧ fr 8 = .int .i64 k ∧ fr 9 = .int .i64 j ∧ Sub H H2 ∧ nx ≤ nx2 ∧ ∀ i, i < j → ∀ x ∈ rowOf ls i, x ∉ rowOf ls k) ?_ ?_ (k + 1) ?_
        · rintro m2 K2 hK2 fr H2 nx2 hB2 ⟨j, hm2, hj, f0, f1, f2, f8, f9, hs2, hx2, hap⟩
          by_cases hjk : j < k
          · obtain ⟨b', off', P2, d2, e', q0, hd2, hRj⟩ := (h.sub hs2).at_ (show j < ls.length by omega)
            cases e'
            obtain ⟨b', off', P3, d3, e', q1, hd3, hRk2⟩ := (h.sub hs2).at_ hlt
            cases e'
            have hrj := hr j (by omega)
            simp (disch := omega) only [bsW, WOp, WOq, WV, bo, gdc, gw, bnd, ↓reduceIte, Nat.reduceEqDiff, rsvs, rsv, oneOf, rdN, ne_eq, Nat.reduceAdd, Nat.reduceMul, Nat.reduceLT, reduceCtorEq, Value.cells, setN, Value.oneCell', Nat.reduceLeDiff, undef, fcT, f0, f1, f2, f8, f9, q0, q1, Nat.mul_one]
            (repeat' (first | ((with_reducible refine gif_split (fun hs_ => ?_) (fun hs_ => ?_)) <;> (have hp_ := hs_; (try simp only [hpL, ne_eq] at hp_); (try simp (disch := omega) only [bsW, WOp, WOq, WV, bo, gdc, gw, bnd, ↓reduceIte, Nat.reduceEqDiff, rsvs, rsv, oneOf, rdN, ne_eq, Nat.reduceAdd, Nat.reduceMul, Nat.reduceLT, reduceCtorEq, Value.cells, setN, Value.oneCell', Nat.reduceLeDiff, undef, fcT, f0, f1, f2, f8, f9, q0, q1, Nat.mul_one, hs_]))) | ((first | (with_reducible refine newB_i (fun nb_ hb_ => ?_)) | ((with_reducible show QC _ _ _ _ _ _); (first | (refine QC_i (l20Apart _ _ _ _ _ _ _ _ _ _ rfl rfl hrj hrk hRj hRk2) ?_))) | ((with_reducible show AC _ _ _ _ _ _); (first | (refine PC.ac (l20Apart _ _ _ _ _ _ _ _ _ _ rfl rfl hrj hrk hRj hRk2) ?_))) | (with_reducible refine RgE_i (fun (hBd_ : Bd _ _) => ?_))); (try simp (disch := omega) only [bsW, WOp, WOq, WV, bo, gdc, gw, bnd, ↓reduceIte, Nat.reduceEqDiff, rsvs, rsv, oneOf, rdN, ne_eq, Nat.reduceAdd, Nat.reduceMul, Nat.reduceLT, reduceCtorEq, Value.cells, setN, Value.oneCell', Nat.reduceLeDiff, undef, fcT, f0, f1, f2, f8, f9, q0, q1, Nat.mul_one])) | (with_reducible refine fun (hBd_ : Bd _ _) => ?_) | ((first | (with_reducible refine @And.intro (Sub _ _) _ ?_ ?_) | ((with_reducible refine @And.intro (Sub _ _ ∧ _) _ ?_ ?_); (with_reducible refine @And.intro (Sub _ _) _ ?_ ?_))); exact sbX) | ((with_reducible refine And.intro ?_ ?_); omega)))
            all_goals try (exfalso; omega)
            all_goals try (exfalso; omega)
            all_goals first
              | (refine Is_e (congrArg (fun x => Value.tuple #[.bool x, .bool true]) (exB_no hlt (fun hh => ?_)).symm) hs2
                 have h9 := hh.2.2 j hjk
                 have h8 : aptB (rowOf ls j) (rowOf ls k) = false := by first | assumption | (simp_all; done)
                 exact absurd h9 (of_decide_eq_false h8))
              | (refine hK2 _ _ _ ?_
                 refine ⟨j + 1, by omega, by omega, by simp (disch := omega) only [bsW, ↓reduceIte, Nat.reduceEqDiff, ne_eq, reduceCtorEq, fcT, f0, f1, f2, f8, f9, q0, q1, Nat.mul_one], by simp (disch := omega) only [bsW, ↓reduceIte, Nat.reduceEqDiff, ne_eq, reduceCtorEq, fcT, f0, f1, f2, f8, f9, q0, q1, Nat.mul_one], by simp (disch := omega) only [bsW, ↓reduceIte, Nat.reduceEqDiff, ne_eq, reduceCtorEq, fcT, f0, f1, f2, f8, f9, q0, q1, Nat.mul_one], by simp (disch := omega) only [bsW, ↓reduceIte, Nat.reduceEqDiff, ne_eq, reduceCtorEq, fcT, f0, f1, f2, f8, f9, q0, q1, Nat.mul_one], by simp (disch := omega) only [bsW, ↓reduceIte, Nat.reduceEqDiff, ne_eq, reduceCtorEq, fcT, f0, f1, f2, f8, f9, q0, q1, Nat.mul_one, Int.natCast_add, Int.natCast_one], hs2, hx2, ?_⟩
                 intro i hi
                 rcases Nat.lt_succ_iff_lt_or_eq.1 hi with hi | rfl
                 · exact hap i hi
                 · have h8 : aptB (rowOf ls i) (rowOf ls k) = true := by first | assumption | (simp_all; done)
                   exact of_decide_eq_true h8)
          · simp (disch := omega) only [bsW, WOp, WOq, WV, bo, gdc, gw, bnd, ↓reduceIte, Nat.reduceEqDiff, rsvs, rsv, oneOf, rdN, ne_eq, Nat.reduceAdd, Nat.reduceMul, Nat.reduceLT, reduceCtorEq, Value.cells, setN, Value.oneCell', Nat.reduceLeDiff, undef, fcT, f0, f1, f2, f8, f9]
            (repeat' (first | ((with_reducible refine gif_split (fun hs_ => ?_) (fun hs_ => ?_)) <;> (have hp_ := hs_; (try simp only [hpL, ne_eq] at hp_); (try simp (disch := omega) only [bsW, WOp, WOq, WV, bo, gdc, gw, bnd, ↓reduceIte, Nat.reduceEqDiff, rsvs, rsv, oneOf, rdN, ne_eq, Nat.reduceAdd, Nat.reduceMul, Nat.reduceLT, reduceCtorEq, Value.cells, setN, Value.oneCell', Nat.reduceLeDiff, undef, fcT, f0, f1, f2, f8, f9, hs_]))) | ((first | (with_reducible refine newB_i (fun nb_ hb_ => ?_)) | (with_reducible refine RgE_i (fun (hBd_ : Bd _ _) => ?_))); (try simp (disch := omega) only [bsW, WOp, WOq, WV, bo, gdc, gw, bnd, ↓reduceIte, Nat.reduceEqDiff, rsvs, rsv, oneOf, rdN, ne_eq, Nat.reduceAdd, Nat.reduceMul, Nat.reduceLT, reduceCtorEq, Value.cells, setN, Value.oneCell', Nat.reduceLeDiff, undef, fcT, f0, f1, f2, f8, f9])) | (with_reducible refine fun (hBd_ : Bd _ _) => ?_) | ((first | (with_reducible refine @And.intro (Sub _ _) _ ?_ ?_) | ((with_reducible refine @And.intro (Sub _ _ ∧ _) _ ?_ ?_); (with_reducible refine @And.intro (Sub _ _) _ ?_ ?_))); exact sbX) | ((with_reducible refine And.intro ?_ ?_); omega)))
            all_goals try (exfalso; omega)
            all_goals try (exfalso; omega)
            refine hK _ _ _ ?_
            refine ⟨k + 1, by omega, by omega, by simp (disch := omega) only [bsW, ↓reduceIte, Nat.reduceEqDiff, ne_eq, reduceCtorEq, fcT, f0, f1, f2, f8, f9], by simp (disch := omega) only [bsW, ↓reduceIte, Nat.reduceEqDiff, ne_eq, reduceCtorEq, fcT, f0, f1, f2, f8, f9], by simp (disch := omega) only [bsW, ↓reduceIte, Nat.reduceEqDiff, ne_eq, reduceCtorEq, fcT, f0, f1, f2, f8, f9], by simp (disch := omega) only [bsW, ↓reduceIte, Nat.reduceEqDiff, ne_eq, reduceCtorEq, fcT, f0, f1, f2, f8, f9, Int.natCast_add, Int.natCast_one], hs2, hx2, ?_⟩
            intro i hi
            rcases Nat.lt_succ_iff_lt_or_eq.1 hi with hi | rfl
            · exact hall i hi
            · exact ⟨hck, hasc, fun q hq => hap q (by omega)⟩
        · rintro fr H2 nx2 ⟨j, hm2, _⟩; omega
        · exact ⟨0, by omega, by omega, by simp (disch := omega) only [bsW, ↓reduceIte, Nat.reduceEqDiff, ne_eq, reduceCtorEq, fcT, f0, f1, f2, f8], by simp (disch := omega) only [bsW, ↓reduceIte, Nat.reduceEqDiff, ne_eq, reduceCtorEq, fcT, f0, f1, f2, f8], by simp (disch := omega) only [bsW, ↓reduceIte, Nat.reduceEqDiff, ne_eq, reduceCtorEq, fcT, f0, f1, f2, f8], by simp (disch := omega) only [bsW, ↓reduceIte, Nat.reduceEqDiff, ne_eq, reduceCtorEq, fcT, f0, f1, f2, f8], by simp (disch := omega) only [bsW, ↓reduceIte, Nat.reduceEqDiff, ne_eq, reduceCtorEq, fcT, f0, f1, f2, f8, Int.natCast_zero], hs, by omega, by intro i hi; omega⟩
    · have hkn : k = ls.length := by omega
      subst hkn
      simp (disch := omega) only [bsW, WOp, WOq, WV, bo, gdc, gw, bnd, ↓reduceIte, Nat.reduceEqDiff, rsvs, rsv, oneOf, rdN, ne_eq, Nat.reduceAdd, Nat.reduceMul, Nat.reduceLT, reduceCtorEq, Value.cells, setN, Value.oneCell', Nat.reduceLeDiff, undef, fcT, f0, f1, f2, f8]
      (repeat' (first | ((with_reducible refine gif_split (fun hs_ => ?_) (fun hs_ => ?_)) <;> (have hp_ := hs_; (try simp only [hpL, ne_eq] at hp_); (try simp (disch := omega) only [bsW, WOp, WOq, WV, bo, gdc, gw, bnd, ↓reduceIte, Nat.reduceEqDiff, rsvs, rsv, oneOf, rdN, ne_eq, Nat.reduceAdd, Nat.reduceMul, Nat.reduceLT, reduceCtorEq, Value.cells, setN, Value.oneCell', Nat.reduceLeDiff, undef, fcT, f0, f1, f2, f8, hs_]))) | ((first | (with_reducible refine newB_i (fun nb_ hb_ => ?_)) | (with_reducible refine RgE_i (fun (hBd_ : Bd _ _) => ?_))); (try simp (disch := omega) only [bsW, WOp, WOq, WV, bo, gdc, gw, bnd, ↓reduceIte, Nat.reduceEqDiff, rsvs, rsv, oneOf, rdN, ne_eq, Nat.reduceAdd, Nat.reduceMul, Nat.reduceLT, reduceCtorEq, Value.cells, setN, Value.oneCell', Nat.reduceLeDiff, undef, fcT, f0, f1, f2, f8])) | (with_reducible refine fun (hBd_ : Bd _ _) => ?_) | ((first | (with_reducible refine @And.intro (Sub _ _) _ ?_ ?_) | ((with_reducible refine @And.intro (Sub _ _ ∧ _) _ ?_ ?_); (with_reducible refine @And.intro (Sub _ _) _ ?_ ?_))); exact sbX) | ((with_reducible refine And.intro ?_ ?_); omega)))
      all_goals try (exfalso; omega)
      all_goals try (exfalso; omega)
      refine Is_e ?_ hs
      rw [exB_yes hall, decide_eq_true (show (ls.length : Int) ≤ N by omega)]
  · rintro fr H' nx' ⟨k, hmm, _⟩; omega
  · exact ⟨0, by omega, by omega, by simp (disch := omega) only [bsW, ↓reduceIte, Nat.reduceEqDiff, ne_eq, reduceCtorEq, fcT], by simp (disch := omega) only [bsW, ↓reduceIte, Nat.reduceEqDiff, ne_eq, reduceCtorEq, fcT], by simp (disch := omega) only [bsW, ↓reduceIte, Nat.reduceEqDiff, ne_eq, reduceCtorEq, fcT], by simp (disch := omega) only [bsW, ↓reduceIte, Nat.reduceEqDiff, ne_eq, reduceCtorEq, fcT, Int.natCast_zero], by (repeat (first | assumption | exact Sub.refl _ | (refine sub_up (nx := nx) ?_ hB ?_; omega))), by omega, by intro i hi; omega⟩
end Go.Proofs.Ytnaldmmdhpobgaa
