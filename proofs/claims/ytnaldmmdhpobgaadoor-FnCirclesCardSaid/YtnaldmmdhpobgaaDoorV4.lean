/- People in a ring. -/
import Derived.Test.YtnaldmmdhpobgaaDoorV3
set_option linter.unusedVariables false
set_option linter.unusedSimpArgs false
set_option maxRecDepth 100000
set_option maxHeartbeats 1000000
namespace Go.Proofs.YtnaldmmdhpobgaaDoor
open Go Go.RowKit Go.Proofs

theorem take_ne {l : List Int} {x : Int} {k : Nat} (hk : k ≤ l.length) : x ∉ l.take k ↔ ∀ j, j < k → l.getD j 0 ≠ x := by
  constructor
  · intro h j hj e
    refine h ?_
    rw [List.mem_take_iff_getElem]
    refine ⟨j, by omega, ?_⟩
    rw [← e, List.getD_eq_getElem?_getD, List.getElem?_eq_getElem (by omega)]
    rfl
  · intro h hm
    rw [List.mem_take_iff_getElem] at hm
    obtain ⟨j, hj, e⟩ := hm
    refine h j (by omega) ?_
    rw [← e, List.getD_eq_getElem?_getD, List.getElem?_eq_getElem (by omega)]
    rfl
theorem rg_end {N : Int} {l : List Int} {k : Nat} (hall : ∀ i, i < k → rgAt N (rowL l) i) (hk : k = l.length ∨ (N < k ∧ k ≤ l.length)) : inR (l.length : Int) 2 N = rgB N l.length (rowL l) := by
  rw [Bool.eq_iff_iff, rgB_iff, inR_true]
  constructor
  · intro h
    have : k = l.length := by omega
    subst this
    exact ⟨hall, by omega, h.2⟩
  · rintro ⟨_, h1, h2⟩
    omega
theorem arePeople (N : Int) (A : Option Addr) (l : List Int) (n c : Nat) (H : Hp) (nx : Nat) (hN : 1 ≤ N ∧ N ≤ 8) (hl : l.length = n) (hn : n ≤ 9223372036854775807) (hc' : n ≤ c) (h : RdL H A l) :
    PC Tryd.prog 32 #[.int .i64 N, .slice A n c] H nx (.bool (rgB N l.length (rowL l))) := by
  subst hl
  refine AC_of x_impl_arePeople rfl fun hB => ?_
  simp (disch := omega) only [bsW, WOp, WOq, WV, bo, eqN, gdc, gw, bnd, ↓reduceIte, Nat.reduceEqDiff, rsvs, rsv, oneOf, rdN, ne_eq, Nat.reduceAdd, Nat.reduceMul, Nat.reduceLT, reduceCtorEq, Value.cells, setN, Value.oneCell', Nat.reduceLeDiff, undef, fcT, c_impl_arePeople]
  refine LpB_rule (fun mm fr H' nx' => ∃ k : Nat, mm = l.length - k + 1 ∧ k ≤ l.length ∧ fr 0 = .int .i64 N ∧ fr 1 = .slice A l.length c ∧ fr 7 = .slice A l.length c ∧ fr 8 = .int .i64 l.length ∧ fr 9 = .int .i64 k ∧ Sub H H' ∧ nx ≤ nx' ∧ ∀ i, i < k → (l.getD 0 0 ≤ l.getD i 0 ∧ l.getD i 0 ≤ N - 1) ∧ ∀ j, j < i → l.getD j 0 ≠ l.getD i 0) ?_ ?_ (l.length + 1) ?_
  · rintro mm K hK fr H' nx' hB' ⟨k, hmm, hk, f0, f1, f7, f8, f9, hs, hx, hall⟩
    simp (disch := omega) only [bsW, WOp, WOq, WV, bo, eqN, gdc, gw, bnd, ↓reduceIte, Nat.reduceEqDiff, rsvs, rsv, oneOf, rdN, ne_eq, Nat.reduceAdd, Nat.reduceMul, Nat.reduceLT, reduceCtorEq, Value.cells, setN, Value.oneCell', Nat.reduceLeDiff, undef, fcT, f0, f1, f7, f8, f9]
    refine gif_split (fun b1 => ?_) (fun b1 => ?_)
    · have hlt : k < l.length := by simpa using b1
      obtain ⟨b, off, rfl, c0⟩ := (h.sub hs).at_ hlt
      obtain ⟨b', off', e', z0⟩ := (h.sub hs).at_ (show 0 < l.length by omega)
      cases e'
      simp only [Nat.add_zero] at z0
      have ht := RdL.take (h.sub hs) (Nat.le_of_lt hlt)
      simp (disch := omega) only [bsW, WOp, WOq, WV, bo, eqN, gdc, gw, bnd, ↓reduceIte, Nat.reduceEqDiff, rsvs, rsv, oneOf, rdN, ne_eq, Nat.reduceAdd, Nat.reduceMul, Nat.reduceLT, reduceCtorEq, Value.cells, setN, Value.oneCell', Nat.reduceLeDiff, undef, fcT, f0, f1, f7, f8, f9, c0, z0, Nat.mul_one, b1]
      (repeat' (first | ((with_reducible refine gif_split (fun hs_ => ?_) (fun hs_ => ?_)) <;> (have hp_ := hs_; (try simp only [hpL, ne_eq] at hp_); (try simp (disch := omega) only [bsW, WOp, WOq, WV, bo, eqN, gdc, gw, bnd, ↓reduceIte, Nat.reduceEqDiff, rsvs, rsv, oneOf, rdN, ne_eq, Nat.reduceAdd, Nat.reduceMul, Nat.reduceLT, reduceCtorEq, Value.cells, setN, Value.oneCell', Nat.reduceLeDiff, undef, fcT, f0, f1, f7, f8, f9, c0, z0, Nat.mul_one, hs_]))) | ((first | (with_reducible refine newB_i (fun nb_ hb_ => ?_)) | ((with_reducible show QC _ _ _ _ _ _); (first | (refine QC_i (inRange _ _ _ _ _) ?_) | (refine QC_i (hasI _ (l.take k) _ _ _ _ _ (by simp; omega) (by omega) ht) ?_))) | ((with_reducible show AC _ _ _ _ _ _); (first | (refine PC.ac (inRange _ _ _ _ _) ?_) | (refine PC.ac (hasI _ (l.take k) _ _ _ _ _ (by simp; omega) (by omega) ht) ?_))) | (with_reducible refine RgE_i (fun (hBd_ : Bd _ _) => ?_))); (try simp (disch := omega) only [bsW, WOp, WOq, WV, bo, eqN, gdc, gw, bnd, ↓reduceIte, Nat.reduceEqDiff, rsvs, rsv, oneOf, rdN, ne_eq, Nat.reduceAdd, Nat.reduceMul, Nat.reduceLT, reduceCtorEq, Value.cells, setN, Value.oneCell', Nat.reduceLeDiff, undef, fcT, f0, f1, f7, f8, f9, c0, z0, Nat.mul_one])) | (with_reducible refine fun (hBd_ : Bd _ _) => ?_) | ((first | (with_reducible refine @And.intro (Sub _ _) _ ?_ ?_) | ((with_reducible refine @And.intro (Sub _ _ ∧ _) _ ?_ ?_); (with_reducible refine @And.intro (Sub _ _) _ ?_ ?_))); exact sbX) | ((with_reducible refine And.intro ?_ ?_); omega)))
      all_goals try (exfalso; omega)
      all_goals first
        | (refine Is_e (congrArg Value.bool (rgB_no fun hr => ?_).symm) hs
           have hr := hr.1 k hlt
           obtain ⟨r1, r2, r3, r4⟩ := hr
           simp only [rowL] at r1 r2 r3 r4
           first
           | (have := inR_false.1 (by assumption); omega)
           | (have hm : l.getD k 0 ∈ l.take k := by simp_all
              exact absurd hm ((take_ne (by omega)).2 r4)))
        | (refine hK _ _ _ ?_
           refine ⟨k + 1, by omega, by omega, by simp (disch := omega) only [bsW, ↓reduceIte, Nat.reduceEqDiff, ne_eq, reduceCtorEq, fcT, f0, f1, f7, f8, f9, c0, z0, Nat.mul_one], by simp (disch := omega) only [bsW, ↓reduceIte, Nat.reduceEqDiff, ne_eq, reduceCtorEq, fcT, f0, f1, f7, f8, f9, c0, z0, Nat.mul_one], by simp (disch := omega) only [bsW, ↓reduceIte, Nat.reduceEqDiff, ne_eq, reduceCtorEq, fcT, f0, f1, f7, f8, f9, c0, z0, Nat.mul_one], by simp (disch := omega) only [bsW, ↓reduceIte, Nat.reduceEqDiff, ne_eq, reduceCtorEq, fcT, f0, f1, f7, f8, f9, c0, z0, Nat.mul_one], by simp (disch := omega) only [bsW, ↓reduceIte, Nat.reduceEqDiff, ne_eq, reduceCtorEq, fcT, f0, f1, f7, f8, f9, c0, z0, Nat.mul_one, Int.natCast_add, Int.natCast_one], by (repeat (first | assumption | exact Sub.refl _ | (refine sub_up (nx := nx) ?_ hB ?_; omega))), by omega, ?_⟩
           intro i hi
           rcases Nat.lt_succ_iff_lt_or_eq.1 hi with hi | rfl
           · exact hall i hi
           · refine ⟨?_, ?_⟩
             · have := inR_true.1 (by assumption)
               omega
             · exact (take_ne (by omega)).1 (by simp_all))
    · have hkn : k = l.length := by simp at b1; omega
      subst hkn
      have hend : 2 ≤ l.length → 0 ≤ l.getD 0 0 → ∀ i, i < l.length → rgAt N (rowL l) i := fun h2 h0 i hi => by
        have := hall i hi
        exact ⟨by simp only [rowL]; omega, by simp only [rowL]; omega, by simp only [rowL]; omega, this.2⟩
      rcases Nat.eq_zero_or_pos l.length with e0 | hpos
      · simp (disch := omega) only [bsW, WOp, WOq, WV, bo, eqN, gdc, gw, bnd, ↓reduceIte, Nat.reduceEqDiff, rsvs, rsv, oneOf, rdN, ne_eq, Nat.reduceAdd, Nat.reduceMul, Nat.reduceLT, reduceCtorEq, Value.cells, setN, Value.oneCell', Nat.reduceLeDiff, undef, fcT, f0, f1, f7, f8, f9, b1]
        (repeat' (first | ((with_reducible refine gif_split (fun hs_ => ?_) (fun hs_ => ?_)) <;> (have hp_ := hs_; (try simp only [hpL, ne_eq] at hp_); (try simp (disch := omega) only [bsW, WOp, WOq, WV, bo, eqN, gdc, gw, bnd, ↓reduceIte, Nat.reduceEqDiff, rsvs, rsv, oneOf, rdN, ne_eq, Nat.reduceAdd, Nat.reduceMul, Nat.reduceLT, reduceCtorEq, Value.cells, setN, Value.oneCell', Nat.reduceLeDiff, undef, fcT, f0, f1, f7, f8, f9, hs_]))) | ((first | (with_reducible refine newB_i (fun nb_ hb_ => ?_)) | ((with_reducible show QC _ _ _ _ _ _); (first | (refine QC_i (inRange _ _ _ _ _) ?_))) | ((with_reducible show AC _ _ _ _ _ _); (first | (refine PC.ac (inRange _ _ _ _ _) ?_))) | (with_reducible refine RgE_i (fun (hBd_ : Bd _ _) => ?_))); (try simp (disch := omega) only [bsW, WOp, WOq, WV, bo, eqN, gdc, gw, bnd, ↓reduceIte, Nat.reduceEqDiff, rsvs, rsv, oneOf, rdN, ne_eq, Nat.reduceAdd, Nat.reduceMul, Nat.reduceLT, reduceCtorEq, Value.cells, setN, Value.oneCell', Nat.reduceLeDiff, undef, fcT, f0, f1, f7, f8, f9])) | (with_reducible refine fun (hBd_ : Bd _ _) => ?_) | ((first | (with_reducible refine @And.intro (Sub _ _) _ ?_ ?_) | ((with_reducible refine @And.intro (Sub _ _ ∧ _) _ ?_ ?_); (with_reducible refine @And.intro (Sub _ _) _ ?_ ?_))); exact sbX) | ((with_reducible refine And.intro ?_ ?_); omega)))
        all_goals try (exfalso; omega)
        all_goals first
        | (have := inR_true.1 (by assumption); exfalso; omega)
        | (refine Is_e (congrArg Value.bool (rgB_no fun hr => ?_).symm) hs
           have := hr.2
           omega)
      · obtain ⟨b', off', rfl, z0⟩ := (h.sub hs).at_ hpos
        simp only [Nat.add_zero] at z0
        simp (disch := omega) only [bsW, WOp, WOq, WV, bo, eqN, gdc, gw, bnd, ↓reduceIte, Nat.reduceEqDiff, rsvs, rsv, oneOf, rdN, ne_eq, Nat.reduceAdd, Nat.reduceMul, Nat.reduceLT, reduceCtorEq, Value.cells, setN, Value.oneCell', Nat.reduceLeDiff, undef, fcT, f0, f1, f7, f8, f9, z0, b1]
        (repeat' (first | ((with_reducible refine gif_split (fun hs_ => ?_) (fun hs_ => ?_)) <;> (have hp_ := hs_; (try simp only [hpL, ne_eq] at hp_); (try simp (disch := omega) only [bsW, WOp, WOq, WV, bo, eqN, gdc, gw, bnd, ↓reduceIte, Nat.reduceEqDiff, rsvs, rsv, oneOf, rdN, ne_eq, Nat.reduceAdd, Nat.reduceMul, Nat.reduceLT, reduceCtorEq, Value.cells, setN, Value.oneCell', Nat.reduceLeDiff, undef, fcT, f0, f1, f7, f8, f9, z0, hs_]))) | ((first | (with_reducible refine newB_i (fun nb_ hb_ => ?_)) | ((with_reducible show QC _ _ _ _ _ _); (first | (refine QC_i (inRange _ _ _ _ _) ?_))) | ((with_reducible show AC _ _ _ _ _ _); (first | (refine PC.ac (inRange _ _ _ _ _) ?_))) | (with_reducible refine RgE_i (fun (hBd_ : Bd _ _) => ?_))); (try simp (disch := omega) only [bsW, WOp, WOq, WV, bo, eqN, gdc, gw, bnd, ↓reduceIte, Nat.reduceEqDiff, rsvs, rsv, oneOf, rdN, ne_eq, Nat.reduceAdd, Nat.reduceMul, Nat.reduceLT, reduceCtorEq, Value.cells, setN, Value.oneCell', Nat.reduceLeDiff, undef, fcT, f0, f1, f7, f8, f9, z0])) | (with_reducible refine fun (hBd_ : Bd _ _) => ?_) | ((first | (with_reducible refine @And.intro (Sub _ _) _ ?_ ?_) | ((with_reducible refine @And.intro (Sub _ _ ∧ _) _ ?_ ?_); (with_reducible refine @And.intro (Sub _ _) _ ?_ ?_))); exact sbX) | ((with_reducible refine And.intro ?_ ?_); omega)))
        all_goals try (exfalso; omega)
        all_goals first
        | (refine Is_e (congrArg Value.bool (rgB_no fun hr => ?_).symm) hs
           have := hr.2
           have := inR_false.1 (by assumption)
           omega)
        | (have hin := inR_true.1 (by assumption)
           refine Is_e (congrArg Value.bool ?_) hs
           rw [Bool.eq_iff_iff, rgB_iff]
           simp only [decide_eq_true_eq, Bool.false_eq_true, false_iff]
           constructor
           · intro h0
             exact ⟨hend (by omega) h0, by omega, by omega⟩
           · intro hr
             exact (hr.1 0 hpos).1)
  · rintro fr H' nx' ⟨k, hmm, _⟩; omega
  · exact ⟨0, by omega, by omega, by simp (disch := omega) only [bsW, ↓reduceIte, Nat.reduceEqDiff, ne_eq, reduceCtorEq, fcT], by simp (disch := omega) only [bsW, ↓reduceIte, Nat.reduceEqDiff, ne_eq, reduceCtorEq, fcT], by simp (disch := omega) only [bsW, ↓reduceIte, Nat.reduceEqDiff, ne_eq, reduceCtorEq, fcT], by simp (disch := omega) only [bsW, ↓reduceIte, Nat.reduceEqDiff, ne_eq, reduceCtorEq, fcT], by simp (disch := omega) only [bsW, ↓reduceIte, Nat.reduceEqDiff, ne_eq, reduceCtorEq, fcT, Int.natCast_zero, Int.natCast_one], Sub.refl _, by omega, by intro i hi; omega⟩

theorem l20Ring (N : Int) (A : Option Addr) (l : List Int) (n c : Nat) (H : Hp) (nx : Nat) (hN : 1 ≤ N ∧ N ≤ 8) (hl : l.length = n) (hn : n ≤ 9223372036854775807) (h : RdL H A l) :
    PC Tryd.prog 30 #[.int .i64 N, .slice A n c] H nx (.bool (rgB N l.length (rowL l))) := by
  subst hl
  refine AC_of x_spec_l20Ring rfl fun hB => ?_
  simp (disch := omega) only [bsW, WOp, WOq, WV, bo, eqN, gdc, gw, bnd, ↓reduceIte, Nat.reduceEqDiff, rsvs, rsv, oneOf, rdN, ne_eq, Nat.reduceAdd, Nat.reduceMul, Nat.reduceLT, reduceCtorEq, Value.cells, setN, Value.oneCell', Nat.reduceLeDiff, undef, fcT, c_spec_l20Ring]
  refine LpB_rule (fun mm fr H' nx' => ∃ k : Nat, mm = l.length - k + 1 ∧ k ≤ l.length ∧ fr 0 = .int .i64 N ∧ fr 1 = .slice A l.length c ∧ fr 5 = .int .i64 k ∧ Sub H H' ∧ nx ≤ nx' ∧ ∀ i, i < k → rgAt N (rowL l) i) ?_ ?_ (l.length + 1) ?_
  · rintro mm K hK fr H' nx' hB' ⟨k, hmm, hk, f0, f1, f5, hs, hx, hall⟩
    by_cases hlt : k < l.length ∧ (k : Int) ≤ N
    · obtain ⟨hlt, hkN⟩ := hlt
      obtain ⟨b, off, rfl, c0⟩ := (h.sub hs).at_ hlt
      obtain ⟨b', off', e', z0⟩ := (h.sub hs).at_ (show 0 < l.length by omega)
      cases e'
      simp only [Nat.add_zero] at z0
      simp (disch := omega) only [bsW, WOp, WOq, WV, bo, eqN, gdc, gw, bnd, ↓reduceIte, Nat.reduceEqDiff, rsvs, rsv, oneOf, rdN, ne_eq, Nat.reduceAdd, Nat.reduceMul, Nat.reduceLT, reduceCtorEq, Value.cells, setN, Value.oneCell', Nat.reduceLeDiff, undef, fcT, f0, f1, f5, c0, z0, Nat.mul_one]
      (repeat' (first | ((with_reducible refine gif_split (fun hs_ => ?_) (fun hs_ => ?_)) <;> (have hp_ := hs_; (try simp only [hpL, ne_eq] at hp_); (try simp (disch := omega) only [bsW, WOp, WOq, WV, bo, eqN, gdc, gw, bnd, ↓reduceIte, Nat.reduceEqDiff, rsvs, rsv, oneOf, rdN, ne_eq, Nat.reduceAdd, Nat.reduceMul, Nat.reduceLT, reduceCtorEq, Value.cells, setN, Value.oneCell', Nat.reduceLeDiff, undef, fcT, f0, f1, f5, c0, z0, Nat.mul_one, hs_]))) | ((first | (with_reducible refine newB_i (fun nb_ hb_ => ?_)) | ((with_reducible show QC _ _ _ _ _ _); (first | (refine QC_i (l20Person _ _ _ _) ?_))) | ((with_reducible show AC _ _ _ _ _ _); (first | (refine PC.ac (l20Person _ _ _ _) ?_))) | (with_reducible refine RgE_i (fun (hBd_ : Bd _ _) => ?_))); (try simp (disch := omega) only [bsW, WOp, WOq, WV, bo, eqN, gdc, gw, bnd, ↓reduceIte, Nat.reduceEqDiff, rsvs, rsv, oneOf, rdN, ne_eq, Nat.reduceAdd, Nat.reduceMul, Nat.reduceLT, reduceCtorEq, Value.cells, setN, Value.oneCell', Nat.reduceLeDiff, undef, fcT, f0, f1, f5, c0, z0, Nat.mul_one])) | (with_reducible refine fun (hBd_ : Bd _ _) => ?_) | ((first | (with_reducible refine @And.intro (Sub _ _) _ ?_ ?_) | ((with_reducible refine @And.intro (Sub _ _ ∧ _) _ ?_ ?_); (with_reducible refine @And.intro (Sub _ _) _ ?_ ?_))); exact sbX) | ((with_reducible refine And.intro ?_ ?_); omega)))
      all_goals try (exfalso; omega)
      all_goals try (refine Is_e (congrArg Value.bool (rgB_no fun hr => ?_).symm) hs; have hr := hr.1 k hlt; obtain ⟨r1, r2, r3, r4⟩ := hr; simp only [rowL] at r1 r2 r3 r4; first | omega | (have := inR_false.1 (by assumption); omega))
      all_goals try (exfalso; omega)
      have hin := inR_true.1 (show inR (l.getD k 0) 0 (N - 1) = true by assumption)
      refine LpB_rule (fun m2 fr H2 nx2 => ∃ j : Nat, m2 = k - j + 1 ∧ j ≤ k ∧ fr 0 = .int .i64 N ∧ fr 1 = .slice (some ⟨b, off, none⟩) l.length c ∧ fr 5 = .int .i64 k ∧ fr 6 = .int .i64 j ∧ Sub H H2 ∧ nx ≤ nx2 ∧ ∀ i, i < j → l.getD i 0 ≠ l.getD k 0) ?_ ?_ (k + 1) ?_
      · rintro m2 K2 hK2 fr H2 nx2 hB2 ⟨j, hm2, hj, f0, f1, f5, f6, hs2, hx2, hne⟩
        have c0 : rd H2 b (off + k) = some (.int .i64 (l.getD k 0)) := by
          obtain ⟨b', off', e', c0⟩ := (h.sub hs2).at_ hlt
          cases e'
          exact c0
        by_cases hjk : j < k
        · have d0 : rd H2 b (off + j) = some (.int .i64 (l.getD j 0)) := by
            obtain ⟨b', off', e', c0⟩ := (h.sub hs2).at_ (show j < l.length by omega)
            cases e'
            exact c0
          simp (disch := omega) only [bsW, WOp, WOq, WV, bo, eqN, gdc, gw, bnd, ↓reduceIte, Nat.reduceEqDiff, rsvs, rsv, oneOf, rdN, ne_eq, Nat.reduceAdd, Nat.reduceMul, Nat.reduceLT, reduceCtorEq, Value.cells, setN, Value.oneCell', Nat.reduceLeDiff, undef, fcT, f0, f1, f5, f6, c0, d0, Nat.mul_one]
          (repeat' (first | ((with_reducible refine gif_split (fun hs_ => ?_) (fun hs_ => ?_)) <;> (have hp_ := hs_; (try simp only [hpL, ne_eq] at hp_); (try simp (disch := omega) only [bsW, WOp, WOq, WV, bo, eqN, gdc, gw, bnd, ↓reduceIte, Nat.reduceEqDiff, rsvs, rsv, oneOf, rdN, ne_eq, Nat.reduceAdd, Nat.reduceMul, Nat.reduceLT, reduceCtorEq, Value.cells, setN, Value.oneCell', Nat.reduceLeDiff, undef, fcT, f0, f1, f5, f6, c0, d0, Nat.mul_one, hs_]))) | ((first | (with_reducible refine newB_i (fun nb_ hb_ => ?_)) | (with_reducible refine RgE_i (fun (hBd_ : Bd _ _) => ?_))); (try simp (disch := omega) only [bsW, WOp, WOq, WV, bo, eqN, gdc, gw, bnd, ↓reduceIte, Nat.reduceEqDiff, rsvs, rsv, oneOf, rdN, ne_eq, Nat.reduceAdd, Nat.reduceMul, Nat.reduceLT, reduceCtorEq, Value.cells, setN, Value.oneCell', Nat.reduceLeDiff, undef, fcT, f0, f1, f5, f6, c0, d0, Nat.mul_one])) | (with_reducible refine fun (hBd_ : Bd _ _) => ?_) | ((first | (with_reducible refine @And.intro (Sub _ _) _ ?_ ?_) | ((with_reducible refine @And.intro (Sub _ _ ∧ _) _ ?_ ?_); (with_reducible refine @And.intro (Sub _ _) _ ?_ ?_))); exact sbX) | ((with_reducible refine And.intro ?_ ?_); omega)))
          all_goals try (exfalso; omega)
          all_goals try (exfalso; omega)
          · refine Is_e (congrArg Value.bool (rgB_no fun hr => ?_).symm) hs2
            obtain ⟨r1, r2, r3, r4⟩ := hr.1 k hlt
            exact r4 j hjk (by simp only [rowL]; omega)
          · refine hK2 _ _ _ ?_
            refine ⟨j + 1, by omega, by omega, by simp (disch := omega) only [bsW, ↓reduceIte, Nat.reduceEqDiff, ne_eq, reduceCtorEq, fcT, f0, f1, f5, f6, c0, d0, Nat.mul_one], by simp (disch := omega) only [bsW, ↓reduceIte, Nat.reduceEqDiff, ne_eq, reduceCtorEq, fcT, f0, f1, f5, f6, c0, d0, Nat.mul_one], by simp (disch := omega) only [bsW, ↓reduceIte, Nat.reduceEqDiff, ne_eq, reduceCtorEq, fcT, f0, f1, f5, f6, c0, d0, Nat.mul_one], by simp (disch := omega) only [bsW, ↓reduceIte, Nat.reduceEqDiff, ne_eq, reduceCtorEq, fcT, f0, f1, f5, f6, c0, d0, Nat.mul_one, Int.natCast_add, Int.natCast_one], hs2, hx2, ?_⟩
            intro i hi
            rcases Nat.lt_succ_iff_lt_or_eq.1 hi with hi | rfl
            · exact hne i hi
            · omega
        · simp (disch := omega) only [bsW, WOp, WOq, WV, bo, eqN, gdc, gw, bnd, ↓reduceIte, Nat.reduceEqDiff, rsvs, rsv, oneOf, rdN, ne_eq, Nat.reduceAdd, Nat.reduceMul, Nat.reduceLT, reduceCtorEq, Value.cells, setN, Value.oneCell', Nat.reduceLeDiff, undef, fcT, f0, f1, f5, f6]
          (repeat' (first | ((with_reducible refine gif_split (fun hs_ => ?_) (fun hs_ => ?_)) <;> (have hp_ := hs_; (try simp only [hpL, ne_eq] at hp_); (try simp (disch := omega) only [bsW, WOp, WOq, WV, bo, eqN, gdc, gw, bnd, ↓reduceIte, Nat.reduceEqDiff, rsvs, rsv, oneOf, rdN, ne_eq, Nat.reduceAdd, Nat.reduceMul, Nat.reduceLT, reduceCtorEq, Value.cells, setN, Value.oneCell', Nat.reduceLeDiff, undef, fcT, f0, f1, f5, f6, hs_]))) | ((first | (with_reducible refine newB_i (fun nb_ hb_ => ?_)) | (with_reducible refine RgE_i (fun (hBd_ : Bd _ _) => ?_))); (try simp (disch := omega) only [bsW, WOp, WOq, WV, bo, eqN, gdc, gw, bnd, ↓reduceIte, Nat.reduceEqDiff, rsvs, rsv, oneOf, rdN, ne_eq, Nat.reduceAdd, Nat.reduceMul, Nat.reduceLT, reduceCtorEq, Value.cells, setN, Value.oneCell', Nat.reduceLeDiff, undef, fcT, f0, f1, f5, f6])) | (with_reducible refine fun (hBd_ : Bd _ _) => ?_) | ((first | (with_reducible refine @And.intro (Sub _ _) _ ?_ ?_) | ((with_reducible refine @And.intro (Sub _ _ ∧ _) _ ?_ ?_); (with_reducible refine @And.intro (Sub _ _) _ ?_ ?_))); exact sbX) | ((with_reducible refine And.intro ?_ ?_); omega)))
          all_goals try (exfalso; omega)
          all_goals try (exfalso; omega)
          refine hK _ _ _ ?_
          refine ⟨k + 1, by omega, by omega, by simp (disch := omega) only [bsW, ↓reduceIte, Nat.reduceEqDiff, ne_eq, reduceCtorEq, fcT, f0, f1, f5, f6], by simp (disch := omega) only [bsW, ↓reduceIte, Nat.reduceEqDiff, ne_eq, reduceCtorEq, fcT, f0, f1, f5, f6], by simp (disch := omega) only [bsW, ↓reduceIte, Nat.reduceEqDiff, ne_eq, reduceCtorEq, fcT, f0, f1, f5, f6, Int.natCast_add, Int.natCast_one], hs2, hx2, ?_⟩
          intro i hi
          rcases Nat.lt_succ_iff_lt_or_eq.1 hi with hi | rfl
          · exact hall i hi
          · exact ⟨by simp only [rowL]; omega, by simp only [rowL]; omega, by simp only [rowL]; omega, fun q hq => hne q (by omega)⟩
      · rintro fr H2 nx2 ⟨j, hm2, _⟩; omega
      · exact ⟨0, by omega, by omega, by simp (disch := omega) only [bsW, ↓reduceIte, Nat.reduceEqDiff, ne_eq, reduceCtorEq, fcT, f0, f1, f5], by simp (disch := omega) only [bsW, ↓reduceIte, Nat.reduceEqDiff, ne_eq, reduceCtorEq, fcT, f0, f1, f5], by simp (disch := omega) only [bsW, ↓reduceIte, Nat.reduceEqDiff, ne_eq, reduceCtorEq, fcT, f0, f1, f5], by simp (disch := omega) only [bsW, ↓reduceIte, Nat.reduceEqDiff, ne_eq, reduceCtorEq, fcT, f0, f1, f5, Int.natCast_zero], hs, by omega, by intro i hi; omega⟩
    · simp (disch := omega) only [bsW, WOp, WOq, WV, bo, eqN, gdc, gw, bnd, ↓reduceIte, Nat.reduceEqDiff, rsvs, rsv, oneOf, rdN, ne_eq, Nat.reduceAdd, Nat.reduceMul, Nat.reduceLT, reduceCtorEq, Value.cells, setN, Value.oneCell', Nat.reduceLeDiff, undef, fcT, f0, f1, f5]
      (repeat' (first | ((with_reducible refine gif_split (fun hs_ => ?_) (fun hs_ => ?_)) <;> (have hp_ := hs_; (try simp only [hpL, ne_eq] at hp_); (try simp (disch := omega) only [bsW, WOp, WOq, WV, bo, eqN, gdc, gw, bnd, ↓reduceIte, Nat.reduceEqDiff, rsvs, rsv, oneOf, rdN, ne_eq, Nat.reduceAdd, Nat.reduceMul, Nat.reduceLT, reduceCtorEq, Value.cells, setN, Value.oneCell', Nat.reduceLeDiff, undef, fcT, f0, f1, f5, hs_]))) | ((first | (with_reducible refine newB_i (fun nb_ hb_ => ?_)) | ((with_reducible show QC _ _ _ _ _ _); (first | (refine QC_i (l1In _ _ _ _ _) ?_))) | ((with_reducible show AC _ _ _ _ _ _); (first | (refine PC.ac (l1In _ _ _ _ _) ?_))) | (with_reducible refine RgE_i (fun (hBd_ : Bd _ _) => ?_))); (try simp (disch := omega) only [bsW, WOp, WOq, WV, bo, eqN, gdc, gw, bnd, ↓reduceIte, Nat.reduceEqDiff, rsvs, rsv, oneOf, rdN, ne_eq, Nat.reduceAdd, Nat.reduceMul, Nat.reduceLT, reduceCtorEq, Value.cells, setN, Value.oneCell', Nat.reduceLeDiff, undef, fcT, f0, f1, f5])) | (with_reducible refine fun (hBd_ : Bd _ _) => ?_) | ((first | (with_reducible refine @And.intro (Sub _ _) _ ?_ ?_) | ((with_reducible refine @And.intro (Sub _ _ ∧ _) _ ?_ ?_); (with_reducible refine @And.intro (Sub _ _) _ ?_ ?_))); exact sbX) | ((with_reducible refine And.intro ?_ ?_); omega)))
      all_goals try (exfalso; omega)
      all_goals try (exfalso; omega)
      all_goals exact Is_e (congrArg Value.bool (rg_end hall (by omega))) hs
  · rintro fr H' nx' ⟨k, hmm, _⟩; omega
  · exact ⟨0, by omega, by omega, by simp (disch := omega) only [bsW, ↓reduceIte, Nat.reduceEqDiff, ne_eq, reduceCtorEq, fcT], by simp (disch := omega) only [bsW, ↓reduceIte, Nat.reduceEqDiff, ne_eq, reduceCtorEq, fcT], by simp (disch := omega) only [bsW, ↓reduceIte, Nat.reduceEqDiff, ne_eq, reduceCtorEq, fcT, Int.natCast_zero], Sub.refl _, by omega, by intro i hi; omega⟩
end Go.Proofs.YtnaldmmdhpobgaaDoor
