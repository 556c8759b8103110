/- The program's IsExchange. -/
import Derived.Test.YtnaldmmdhpobgaaV6
set_option linter.unusedVariables false
set_option linter.unusedSimpArgs false
set_option maxRecDepth 100000
set_option maxHeartbeats 1000000
namespace Go.Proofs.Ytnaldmmdhpobgaa
open Go Go.RowKit Go.Proofs

theorem seen_step {ls : List (List Int)} {k j : Nat} (hj : j < (rowOf ls k).length) (h0 : 0 ≤ (rowOf ls k).getD j 0) (n : Nat) :
    blR n (fun q => if q = ((rowOf ls k).getD j 0).toNat then true else (seenB ls k q || ((rowOf ls k).take j).contains (q : Int))) = blR n (fun q => seenB ls k q || ((rowOf ls k).take (j + 1)).contains (q : Int)) := by
  refine blR_congr fun p hp => ?_
  rw [take_snoc _ _ hj]
  generalize (rowOf ls k).getD j 0 = x at *
  by_cases e : p = x.toNat
  · rw [if_pos e]
    have e2 : (p : Int) = x := by omega
    rw [e2]
    simp
  · rw [if_neg e]
    have e2 : ¬ (p : Int) = x := by omega
    simp [e2]
theorem IsExchange (N : Int) (Aw A : Option Addr) (m cw c : Nat) (f : Nat → Nat → Int) (ls : List (List Int)) (H : Hp) (nx : Nat) (hN : -9223372036854775808 ≤ N ∧ N ≤ 9223372036854775807) (hm : m ≤ 9223372036854775807) (hn : ls.length ≤ 9223372036854775807) (hr : ∀ i, i < ls.length → (rowOf ls i).length ≤ 9223372036854775807) (hw : Rd H Aw m 3 f) (h : RdLL H A ls) :
    PC Try.prog 34 #[.int .i64 N, .slice Aw m cw, .slice A ls.length c] H nx (vExch N m f ls) := by
  unfold vExch
  by_cases hok : wssOk N m f
  case neg =>
    have e := wssB_no hok
    rw [if_neg (by rw [e]; simp)]
    refine AC_of x_impl_IsExchange rfl fun hB => ?_
    simp (disch := omega) only [bsW, WOp, WOq, WV, bo, gdc, gw, bnd, ↓reduceIte, Nat.reduceEqDiff, rsvs, rsv, oneOf, rdN, ne_eq, Nat.reduceAdd, Nat.reduceMul, Nat.reduceLT, reduceCtorEq, Value.cells, setN, Value.oneCell', Nat.reduceLeDiff, undef, fcT, e, c_impl_IsExchange]
    (repeat' (first | ((with_reducible refine gif_split (fun hs_ => ?_) (fun hs_ => ?_)) <;> (have hp_ := hs_; (try simp only [hpL, ne_eq] at hp_); (try simp (disch := omega) only [bsW, WOp, WOq, WV, bo, gdc, gw, bnd, ↓reduceIte, Nat.reduceEqDiff, rsvs, rsv, oneOf, rdN, ne_eq, Nat.reduceAdd, Nat.reduceMul, Nat.reduceLT, reduceCtorEq, Value.cells, setN, Value.oneCell', Nat.reduceLeDiff, undef, fcT, e, hs_]))) | ((first | (with_reducible refine newB_i (fun nb_ hb_ => ?_)) | ((with_reducible show QC _ _ _ _ _ _); (first | (refine QC_i (areWishes N _ _ _ f _ _ (by omega) hN hw) ?_))) | ((with_reducible show AC _ _ _ _ _ _); (first | (refine PC.ac (areWishes N _ _ _ f _ _ (by omega) hN hw) ?_))) | (with_reducible refine RgE_i (fun (hBd_ : Bd _ _) => ?_))); (try simp (disch := omega) only [bsW, WOp, WOq, WV, bo, gdc, gw, bnd, ↓reduceIte, Nat.reduceEqDiff, rsvs, rsv, oneOf, rdN, ne_eq, Nat.reduceAdd, Nat.reduceMul, Nat.reduceLT, reduceCtorEq, Value.cells, setN, Value.oneCell', Nat.reduceLeDiff, undef, fcT, e])) | (with_reducible refine fun (hBd_ : Bd _ _) => ?_) | ((first | (with_reducible refine @And.intro (Sub _ _) _ ?_ ?_) | ((with_reducible refine @And.intro (Sub _ _ ∧ _) _ ?_ ?_); (with_reducible refine @And.intro (Sub _ _) _ ?_ ?_))); exact sbX) | ((with_reducible refine And.intro ?_ ?_); omega)))
    all_goals try (exfalso; omega)
    exact Is_i (by (repeat (first | assumption | exact Sub.refl _ | (refine sub_up (nx := nx) ?_ hB ?_; omega))))
  have e := wssB_iff.2 hok
  have hN8 := hok.1
  rw [if_pos e]
  refine AC_of x_impl_IsExchange rfl fun hB => ?_
  simp (disch := omega) only [bsW, WOp, WOq, WV, bo, gdc, gw, bnd, ↓reduceIte, Nat.reduceEqDiff, rsvs, rsv, oneOf, rdN, ne_eq, Nat.reduceAdd, Nat.reduceMul, Nat.reduceLT, reduceCtorEq, Value.cells, setN, Value.oneCell', Nat.reduceLeDiff, undef, fcT, e, c_impl_IsExchange]
  (repeat' (first | ((with_reducible refine gif_split (fun hs_ => ?_) (fun hs_ => ?_)) <;> (have hp_ := hs_; (try simp only [hpL, ne_eq] at hp_); (try simp (disch := omega) only [bsW, WOp, WOq, WV, bo, gdc, gw, bnd, ↓reduceIte, Nat.reduceEqDiff, rsvs, rsv, oneOf, rdN, ne_eq, Nat.reduceAdd, Nat.reduceMul, Nat.reduceLT, reduceCtorEq, Value.cells, setN, Value.oneCell', Nat.reduceLeDiff, undef, fcT, e, hs_]))) | ((first | (with_reducible refine newB_i (fun nb_ hb_ => ?_)) | ((with_reducible show QC _ _ _ _ _ _); (first | (refine QC_i (areWishes N _ _ _ f _ _ (by omega) hN hw) ?_))) | ((with_reducible show AC _ _ _ _ _ _); (first | (refine PC.ac (areWishes N _ _ _ f _ _ (by omega) hN hw) ?_))) | (with_reducible refine RgE_i (fun (hBd_ : Bd _ _) => ?_))); (try simp (disch := omega) only [bsW, WOp, WOq, WV, bo, gdc, gw, bnd, ↓reduceIte, Nat.reduceEqDiff, rsvs, rsv, oneOf, rdN, ne_eq, Nat.reduceAdd, Nat.reduceMul, Nat.reduceLT, reduceCtorEq, Value.cells, setN, Value.oneCell', Nat.reduceLeDiff, undef, fcT, e])) | (with_reducible refine fun (hBd_ : Bd _ _) => ?_) | ((first | (with_reducible refine @And.intro (Sub _ _) _ ?_ ?_) | ((with_reducible refine @And.intro (Sub _ _ ∧ _) _ ?_ ?_); (with_reducible refine @And.intro (Sub _ _) _ ?_ ?_))); exact sbX) | ((with_reducible refine And.intro ?_ ?_); omega)))
  have hnb := hb_
  generalize nb_ = nb at *
  refine LpB_rule (fun mm fr H' nx' => ∃ k : Nat, mm = ls.length - k + 1 ∧ k ≤ ls.length ∧ fr 0 = .int .i64 N ∧ fr 1 = .slice Aw m cw ∧ fr 2 = .slice A ls.length c ∧ fr 8 = .slice (some ⟨nb, 0, none⟩) N.toNat N.toNat ∧ fr 19 = .slice A ls.length c ∧ fr 20 = .int .i64 ls.length ∧ fr 21 = .int .i64 k ∧ Sub H H' ∧ nb + 1 ≤ nx' ∧ H' nb = some (.rw (blR N.toNat (seenB ls k)) 4) ∧ ∀ i, i < k → exAt N m f ls i) ?_ ?_ (ls.length + 1) ?_
  · rintro mm K hK fr H' nx' hB' ⟨k, hmm, hk, f0, f1, f2, f8, f19, f20, f21, hs, hx, hb, hall⟩
    by_cases hlt : k < ls.length
    · obtain ⟨b, off, Q, d, rfl, c0, hd, hRk⟩ := (h.sub hs).at_ hlt
      have hrk := hr k hlt
      have hd1 : decide ((k : Int) < (ls.length : Int)) = true := decide_eq_true (by omega)
      by_cases hck : crOk N m f (rowOf ls k).length (rowL (rowOf ls k))
      case neg =>
        have hz := crB_no hck
        simp (disch := omega) only [bsW, WOp, WOq, WV, bo, gdc, gw, bnd, ↓reduceIte, Nat.reduceEqDiff, rsvs, rsv, oneOf, rdN, ne_eq, Nat.reduceAdd, Nat.reduceMul, Nat.reduceLT, reduceCtorEq, Value.cells, setN, Value.oneCell', Nat.reduceLeDiff, undef, fcT, f0, f1, f2, f8, f19, f20, f21, c0, Nat.mul_one, hz, hd1]
        (repeat' (first | ((with_reducible refine gif_split (fun hs_ => ?_) (fun hs_ => ?_)) <;> (have hp_ := hs_; (try simp only [hpL, ne_eq] at hp_); (try simp (disch := omega) only [bsW, WOp, WOq, WV, bo, gdc, gw, bnd, ↓reduceIte, Nat.reduceEqDiff, rsvs, rsv, oneOf, rdN, ne_eq, Nat.reduceAdd, Nat.reduceMul, Nat.reduceLT, reduceCtorEq, Value.cells, setN, Value.oneCell', Nat.reduceLeDiff, undef, fcT, f0, f1, f2, f8, f19, f20, f21, c0, Nat.mul_one, hz, hd1, hs_]))) | ((first | (with_reducible refine newB_i (fun nb_ hb_ => ?_)) | ((with_reducible show QC _ _ _ _ _ _); (first | (refine QC_i (isCircle N _ _ _ _ _ _ _ _ _ _ hN8 hm (hw.sub hs) rfl hrk hd hRk) ?_))) | ((with_reducible show AC _ _ _ _ _ _); (first | (refine PC.ac (isCircle N _ _ _ _ _ _ _ _ _ _ hN8 hm (hw.sub hs) rfl hrk hd hRk) ?_))) | (with_reducible refine RgE_i (fun (hBd_ : Bd _ _) => ?_))); (try simp (disch := omega) only [bsW, WOp, WOq, WV, bo, gdc, gw, bnd, ↓reduceIte, Nat.reduceEqDiff, rsvs, rsv, oneOf, rdN, ne_eq, Nat.reduceAdd, Nat.reduceMul, Nat.reduceLT, reduceCtorEq, Value.cells, setN, Value.oneCell', Nat.reduceLeDiff, undef, fcT, f0, f1, f2, f8, f19, f20, f21, c0, Nat.mul_one, hz, hd1])) | (with_reducible refine fun (hBd_ : Bd _ _) => ?_) | ((first | (with_reducible refine @And.intro (Sub _ _) _ ?_ ?_) | ((with_reducible refine @And.intro (Sub _ _ ∧ _) _ ?_ ?_); (with_reducible refine @And.intro (Sub _ _) _ ?_ ?_))); exact sbX) | ((with_reducible refine And.intro ?_ ?_); omega)))
        all_goals try (exfalso; omega)
        all_goals try (exfalso; omega)
        exact Is_e (by rw [exB_no hlt (fun hh => hck hh.1)]) hs
      have hz := crB_yes hck
      have hcp : crOk N m f (rowOf ls (k - 1)).length (rowL (rowOf ls (k - 1))) := by
        rcases Nat.eq_zero_or_pos k with e0 | e0
        · rw [e0] at hck ⊢; exact hck
        · exact (hall (k - 1) (by omega)).1
      have hl0 := hck.1.2.1
      have hl1 := hcp.1.2.1
      obtain ⟨b', off', P1, d1, e', p0, hdp, hRp⟩ := (h.sub hs).at_ (show k - 1 < ls.length by omega)
      cases e'
      obtain ⟨bq, oq, rfl, z0⟩ := ex_head hck hRk
      obtain ⟨bp, op, rfl, z1⟩ := ex_head hcp hRp
      simp (disch := omega) only [bsW, WOp, WOq, WV, bo, gdc, gw, bnd, ↓reduceIte, Nat.reduceEqDiff, rsvs, rsv, oneOf, rdN, ne_eq, Nat.reduceAdd, Nat.reduceMul, Nat.reduceLT, reduceCtorEq, Value.cells, setN, Value.oneCell', Nat.reduceLeDiff, undef, fcT, f0, f1, f2, f8, f19, f20, f21, c0, p0, z0, z1, Nat.mul_one, hz, toNat_pred, hd1]
      (repeat' (first | ((with_reducible refine gif_split (fun hs_ => ?_) (fun hs_ => ?_)) <;> (have hp_ := hs_; (try simp only [hpL, ne_eq] at hp_); (try simp (disch := omega) only [bsW, WOp, WOq, WV, bo, gdc, gw, bnd, ↓reduceIte, Nat.reduceEqDiff, rsvs, rsv, oneOf, rdN, ne_eq, Nat.reduceAdd, Nat.reduceMul, Nat.reduceLT, reduceCtorEq, Value.cells, setN, Value.oneCell', Nat.reduceLeDiff, undef, fcT, f0, f1, f2, f8, f19, f20, f21, c0, p0, z0, z1, Nat.mul_one, hz, toNat_pred, hd1, hs_]))) | ((first | (with_reducible refine newB_i (fun nb_ hb_ => ?_)) | ((with_reducible show QC _ _ _ _ _ _); (first | (refine QC_i (isCircle N _ _ _ _ _ _ _ _ _ _ hN8 hm (hw.sub hs) rfl hrk hd hRk) ?_))) | ((with_reducible show AC _ _ _ _ _ _); (first | (refine PC.ac (isCircle N _ _ _ _ _ _ _ _ _ _ hN8 hm (hw.sub hs) rfl hrk hd hRk) ?_))) | (with_reducible refine RgE_i (fun (hBd_ : Bd _ _) => ?_))); (try simp (disch := omega) only [bsW, WOp, WOq, WV, bo, gdc, gw, bnd, ↓reduceIte, Nat.reduceEqDiff, rsvs, rsv, oneOf, rdN, ne_eq, Nat.reduceAdd, Nat.reduceMul, Nat.reduceLT, reduceCtorEq, Value.cells, setN, Value.oneCell', Nat.reduceLeDiff, undef, fcT, f0, f1, f2, f8, f19, f20, f21, c0, p0, z0, z1, Nat.mul_one, hz, toNat_pred, hd1])) | (with_reducible refine fun (hBd_ : Bd _ _) => ?_) | ((first | (with_reducible refine @And.intro (Sub _ _) _ ?_ ?_) | ((with_reducible refine @And.intro (Sub _ _ ∧ _) _ ?_ ?_); (with_reducible refine @And.intro (Sub _ _) _ ?_ ?_))); exact sbX) | ((with_reducible refine And.intro ?_ ?_); omega)))
      all_goals try (exfalso; omega)
      all_goals try (exfalso; omega)
      all_goals try (refine Is_e (congrArg (fun x => Value.tuple #[.bool x, .bool true]) (exB_no hlt (fun hh => ?_)).symm) hs; have := hh.2.1 (by omega); omega)
      all_goals
        have hasc : 0 < k → (rowOf ls (k - 1)).getD 0 0 < (rowOf ls k).getD 0 0 := fun h0 => by omega
        refine LpB_rule (fun m2 fr H2 nx2 => ∃ j : Nat, m2 = (rowOf ls k).length - j + 1 ∧ j ≤ (rowOf ls k).length ∧ fr 0 = .int .i64 N ∧ fr 1 = .slice Aw m cw ∧ fr 2 = .slice (some ⟨b, off, none⟩) ls.length c ∧ fr 8 = .slice (some ⟨nb, 0, none⟩) N.toNat N.toNat ∧ fr 19 = .slice (some ⟨b, off, none⟩) ls.length c ∧ fr 20 = .int .i64 ls.length ∧ fr 21 = .int .i64 k ∧ fr 48 = .slice (some ⟨bq, oq, none⟩) (rowOf ls k).length d ∧ fr 49 = .int .i64 (rowOf ls k).length ∧ fr 50 = .int .i64 j ∧ Sub H H2 ∧ nb + 1 ≤ nx2 ∧
          H2 nb = some (.rw (blR N.toNat (fun q => seenB ls k q || ((rowOf ls k).take j).contains (q : Int))) 4) ∧ ∀ i, i < j → ∀ q, q < k → (rowOf ls k).getD i 0 ∉ rowOf ls q) ?_ ?_ ((rowOf ls k).length + 1) ?_
        · rintro m2 K2 hK2 fr H2 nx2 hB2 ⟨j, hm2, hj, f0, f1, f2, f8, f19, f20, f21, f48, f49, f50, hs2, hx2, hb2, hap⟩
          by_cases hjk : j < (rowOf ls k).length
          · obtain ⟨b', off', P3, d3, e', q1, hd3, hRk2⟩ := (h.sub hs2).at_ hlt
            cases e'
            have c1 : rd H2 bq (oq + j) = some (.int .i64 ((rowOf ls k).getD j 0)) := by
              have hc0 := rd_sub hs2 (show rd H b (off + k) = some (.slice (some ⟨bq, oq, none⟩) (rowOf ls k).length d) by
                obtain ⟨b', off', P4, d4, e', q4, _, _⟩ := h.at_ hlt
                cases e'
                have := rd_sub hs q4
                rw [c0] at this
                rw [q4, this])
              rw [q1] at hc0
              cases hc0
              obtain ⟨b9, o9, e9, c9⟩ := hRk2.at_ hjk
              cases e9
              exact c9
            have hp := hck.1.1 j hjk
            obtain ⟨r1, r2, r3, r4⟩ := hp
            simp only [rowL] at r1 r2 r3 r4
            have hpl : ((rowOf ls k).getD j 0).toNat < N.toNat := by omega
            obtain ⟨g2, hg2⟩ : ∃ g2, g2 = (seenB ls k ((rowOf ls k).getD j 0).toNat || ((rowOf ls k).take j).contains ((((rowOf ls k).getD j 0).toNat : Nat) : Int)) := ⟨_, rfl⟩
            have s0 : rd H2 nb ((rowOf ls k).getD j 0).toNat = some (.bool g2) := by
              rw [rd_rw hb2, blR_get hpl, hg2]
            have hcast : ((((rowOf ls k).getD j 0).toNat : Nat) : Int) = (rowOf ls k).getD j 0 := by omega
            have hd0 : decide ((j : Int) < ((rowOf ls k).length : Int)) = true := decide_eq_true (by omega)
            simp (disch := omega) only [bsW, WOp, WOq, WV, bo, gdc, gw, bnd, ↓reduceIte, Nat.reduceEqDiff, rsvs, rsv, oneOf, rdN, ne_eq, Nat.reduceAdd, Nat.reduceMul, Nat.reduceLT, reduceCtorEq, Value.cells, setN, Value.oneCell', Nat.reduceLeDiff, undef, fcT, f0, f1, f2, f8, f19, f20, f21, f48, f49, f50, c1, s0, hb2, blR_length, Nat.mul_one, hd0]
            (repeat' (first | ((with_reducible refine gif_split (fun hs_ => ?_) (fun hs_ => ?_)) <;> (have hp_ := hs_; (try simp only [hpL, ne_eq] at hp_); (try simp (disch := omega) only [bsW, WOp, WOq, WV, bo, gdc, gw, bnd, ↓reduceIte, Nat.reduceEqDiff, rsvs, rsv, oneOf, rdN, ne_eq, Nat.reduceAdd, Nat.reduceMul, Nat.reduceLT, reduceCtorEq, Value.cells, setN, Value.oneCell', Nat.reduceLeDiff, undef, fcT, f0, f1, f2, f8, f19, f20, f21, f48, f49, f50, c1, s0, hb2, blR_length, Nat.mul_one, hd0, hs_]))) | ((first | (with_reducible refine newB_i (fun nb_ hb_ => ?_)) | (with_reducible refine RgE_i (fun (hBd_ : Bd _ _) => ?_))); (try simp (disch := omega) only [bsW, WOp, WOq, WV, bo, gdc, gw, bnd, ↓reduceIte, Nat.reduceEqDiff, rsvs, rsv, oneOf, rdN, ne_eq, Nat.reduceAdd, Nat.reduceMul, Nat.reduceLT, reduceCtorEq, Value.cells, setN, Value.oneCell', Nat.reduceLeDiff, undef, fcT, f0, f1, f2, f8, f19, f20, f21, f48, f49, f50, c1, s0, hb2, blR_length, Nat.mul_one, hd0])) | (with_reducible refine fun (hBd_ : Bd _ _) => ?_) | ((first | (with_reducible refine @And.intro (Sub _ _) _ ?_ ?_) | ((with_reducible refine @And.intro (Sub _ _ ∧ _) _ ?_ ?_); (with_reducible refine @And.intro (Sub _ _) _ ?_ ?_))); exact sbX) | ((with_reducible refine And.intro ?_ ?_); omega)))
            all_goals try (exfalso; omega)
            all_goals try (exfalso; omega)
            all_goals first
              | (refine Is_e (congrArg (fun x => Value.tuple #[.bool x, .bool true]) (exB_no hlt (fun hh => ?_)).symm) hs2
                 have h8 : g2 = true := by assumption
                 rw [hg2, hcast, Bool.or_eq_true] at h8
                 rcases h8 with h8 | h8
                 · obtain ⟨i, hi, hm9⟩ := seenB_true.1 h8
                   rw [hcast] at hm9
                   exact hh.2.2 i hi _ hm9 (getD_mem hjk)
                 · rw [List.contains_eq_mem, decide_eq_true_iff] at h8
                   exact (take_ne (by omega)).2 (fun i hi => r4 i hi) h8)
              | (have h8 : g2 = false := by assumption
                 rw [hg2, hcast, Bool.or_eq_false_iff] at h8
                 refine hK2 _ _ _ ?_
                 refine ⟨j + 1, by omega, by omega, by simp (disch := omega) only [bsW, ↓reduceIte, Nat.reduceEqDiff, ne_eq, reduceCtorEq, fcT, f0, f1, f2, f8, f19, f20, f21, f48, f49, f50, c1, s0, hb2, blR_length, Nat.mul_one, hd0], by simp (disch := omega) only [bsW, ↓reduceIte, Nat.reduceEqDiff, ne_eq, reduceCtorEq, fcT, f0, f1, f2, f8, f19, f20, f21, f48, f49, f50, c1, s0, hb2, blR_length, Nat.mul_one, hd0], by simp (disch := omega) only [bsW, ↓reduceIte, Nat.reduceEqDiff, ne_eq, reduceCtorEq, fcT, f0, f1, f2, f8, f19, f20, f21, f48, f49, f50, c1, s0, hb2, blR_length, Nat.mul_one, hd0], by simp (disch := omega) only [bsW, ↓reduceIte, Nat.reduceEqDiff, ne_eq, reduceCtorEq, fcT, f0, f1, f2, f8, f19, f20, f21, f48, f49, f50, c1, s0, hb2, blR_length, Nat.mul_one, hd0], by simp (disch := omega) only [bsW, ↓reduceIte, Nat.reduceEqDiff, ne_eq, reduceCtorEq, fcT, f0, f1, f2, f8, f19, f20, f21, f48, f49, f50, c1, s0, hb2, blR_length, Nat.mul_one, hd0], by simp (disch := omega) only [bsW, ↓reduceIte, Nat.reduceEqDiff, ne_eq, reduceCtorEq, fcT, f0, f1, f2, f8, f19, f20, f21, f48, f49, f50, c1, s0, hb2, blR_length, Nat.mul_one, hd0], by simp (disch := omega) only [bsW, ↓reduceIte, Nat.reduceEqDiff, ne_eq, reduceCtorEq, fcT, f0, f1, f2, f8, f19, f20, f21, f48, f49, f50, c1, s0, hb2, blR_length, Nat.mul_one, hd0], by simp (disch := omega) only [bsW, ↓reduceIte, Nat.reduceEqDiff, ne_eq, reduceCtorEq, fcT, f0, f1, f2, f8, f19, f20, f21, f48, f49, f50, c1, s0, hb2, blR_length, Nat.mul_one, hd0], by simp (disch := omega) only [bsW, ↓reduceIte, Nat.reduceEqDiff, ne_eq, reduceCtorEq, fcT, f0, f1, f2, f8, f19, f20, f21, f48, f49, f50, c1, s0, hb2, blR_length, Nat.mul_one, hd0], by simp (disch := omega) only [bsW, ↓reduceIte, Nat.reduceEqDiff, ne_eq, reduceCtorEq, fcT, f0, f1, f2, f8, f19, f20, f21, f48, f49, f50, c1, s0, hb2, blR_length, Nat.mul_one, hd0, Int.natCast_add, Int.natCast_one], sub_upd_old hs2 (none_of_bd hB hnb), by omega, ?_, ?_⟩
                 · rw [upd_same, ← seen_step hjk (by omega), ← blR_set hpl]
                   (try simp only [setN, Nat.add_zero])
                 · intro i hi
                   rcases Nat.lt_succ_iff_lt_or_eq.1 hi with hi | rfl
                   · exact hap i hi
                   · intro q hq hm9
                     have : seenB ls k ((rowOf ls k).getD i 0).toNat = true := seenB_true.2 ⟨q, hq, by rw [hcast]; exact hm9⟩
                     rw [h8.1] at this
                     cases this)
          · have hd0 : decide ((j : Int) < ((rowOf ls k).length : Int)) = false := decide_eq_false (by omega)
            simp (disch := omega) only [bsW, WOp, WOq, WV, bo, gdc, gw, bnd, ↓reduceIte, Nat.reduceEqDiff, rsvs, rsv, oneOf, rdN, ne_eq, Nat.reduceAdd, Nat.reduceMul, Nat.reduceLT, reduceCtorEq, Value.cells, setN, Value.oneCell', Nat.reduceLeDiff, undef, fcT, f0, f1, f2, f8, f19, f20, f21, f48, f49, f50, hd0]
            (repeat' (first | ((with_reducible refine gif_split (fun hs_ => ?_) (fun hs_ => ?_)) <;> (have hp_ := hs_; (try simp only [hpL, ne_eq] at hp_); (try simp (disch := omega) only [bsW, WOp, WOq, WV, bo, gdc, gw, bnd, ↓reduceIte, Nat.reduceEqDiff, rsvs, rsv, oneOf, rdN, ne_eq, Nat.reduceAdd, Nat.reduceMul, Nat.reduceLT, reduceCtorEq, Value.cells, setN, Value.oneCell', Nat.reduceLeDiff, undef, fcT, f0, f1, f2, f8, f19, f20, f21, f48, f49, f50, hd0, hs_]))) | ((first | (with_reducible refine newB_i (fun nb_ hb_ => ?_)) | (with_reducible refine RgE_i (fun (hBd_ : Bd _ _) => ?_))); (try simp (disch := omega) only [bsW, WOp, WOq, WV, bo, gdc, gw, bnd, ↓reduceIte, Nat.reduceEqDiff, rsvs, rsv, oneOf, rdN, ne_eq, Nat.reduceAdd, Nat.reduceMul, Nat.reduceLT, reduceCtorEq, Value.cells, setN, Value.oneCell', Nat.reduceLeDiff, undef, fcT, f0, f1, f2, f8, f19, f20, f21, f48, f49, f50, hd0])) | (with_reducible refine fun (hBd_ : Bd _ _) => ?_) | ((first | (with_reducible refine @And.intro (Sub _ _) _ ?_ ?_) | ((with_reducible refine @And.intro (Sub _ _ ∧ _) _ ?_ ?_); (with_reducible refine @And.intro (Sub _ _) _ ?_ ?_))); exact sbX) | ((with_reducible refine And.intro ?_ ?_); omega)))
            have hjl : j = (rowOf ls k).length := by omega
            subst hjl
            refine hK _ _ _ ?_
            refine ⟨k + 1, by omega, by omega, by simp (disch := omega) only [bsW, ↓reduceIte, Nat.reduceEqDiff, ne_eq, reduceCtorEq, fcT, f0, f1, f2, f8, f19, f20, f21, f48, f49, f50, hd0], by simp (disch := omega) only [bsW, ↓reduceIte, Nat.reduceEqDiff, ne_eq, reduceCtorEq, fcT, f0, f1, f2, f8, f19, f20, f21, f48, f49, f50, hd0], by simp (disch := omega) only [bsW, ↓reduceIte, Nat.reduceEqDiff, ne_eq, reduceCtorEq, fcT, f0, f1, f2, f8, f19, f20, f21, f48, f49, f50, hd0], by simp (disch := omega) only [bsW, ↓reduceIte, Nat.reduceEqDiff, ne_eq, reduceCtorEq, fcT, f0, f1, f2, f8, f19, f20, f21, f48, f49, f50, hd0], by simp (disch := omega) only [bsW, ↓reduceIte, Nat.reduceEqDiff, ne_eq, reduceCtorEq, fcT, f0, f1, f2, f8, f19, f20, f21, f48, f49, f50, hd0], by simp (disch := omega) only [bsW, ↓reduceIte, Nat.reduceEqDiff, ne_eq, reduceCtorEq, fcT, f0, f1, f2, f8, f19, f20, f21, f48, f49, f50, hd0], by simp (disch := omega) only [bsW, ↓reduceIte, Nat.reduceEqDiff, ne_eq, reduceCtorEq, fcT, f0, f1, f2, f8, f19, f20, f21, f48, f49, f50, hd0, Int.natCast_add, Int.natCast_one], hs2, by omega, ?_, ?_⟩
            · rw [hb2, List.take_length]
              exact congrArg (fun x => some (Blk.rw x 4)) (blR_congr fun p hp => seenB_succ.symm)
            · intro i hi
              rcases Nat.lt_succ_iff_lt_or_eq.1 hi with hi | rfl
              · exact hall i hi
              · refine ⟨hck, hasc, fun q hq x hx hx2 => ?_⟩
                obtain ⟨i2, hi2, rfl⟩ := mem_getD hx2
                exact hap i2 hi2 q hq hx
        · rintro fr H2 nx2 ⟨j, hm2, _⟩; omega
        · refine ⟨0, by omega, by omega, by simp (disch := omega) only [bsW, ↓reduceIte, Nat.reduceEqDiff, ne_eq, reduceCtorEq, fcT, f0, f1, f2, f8, f19, f20, f21], by simp (disch := omega) only [bsW, ↓reduceIte, Nat.reduceEqDiff, ne_eq, reduceCtorEq, fcT, f0, f1, f2, f8, f19, f20, f21], by simp (disch := omega) only [bsW, ↓reduceIte, Nat.reduceEqDiff, ne_eq, reduceCtorEq, fcT, f0, f1, f2, f8, f19, f20, f21], by simp (disch := omega) only [bsW, ↓reduceIte, Nat.reduceEqDiff, ne_eq, reduceCtorEq, fcT, f0, f1, f2, f8, f19, f20, f21], by simp (disch := omega) only [bsW, ↓reduceIte, Nat.reduceEqDiff, ne_eq, reduceCtorEq, fcT, f0, f1, f2, f8, f19, f20, f21], by simp (disch := omega) only [bsW, ↓reduceIte, Nat.reduceEqDiff, ne_eq, reduceCtorEq, fcT, f0, f1, f2, f8, f19, f20, f21], by simp (disch := omega) only [bsW, ↓reduceIte, Nat.reduceEqDiff, ne_eq, reduceCtorEq, fcT, f0, f1, f2, f8, f19, f20, f21], by simp (disch := omega) only [bsW, ↓reduceIte, Nat.reduceEqDiff, ne_eq, reduceCtorEq, fcT, f0, f1, f2, f8, f19, f20, f21], by simp (disch := omega) only [bsW, ↓reduceIte, Nat.reduceEqDiff, ne_eq, reduceCtorEq, fcT, f0, f1, f2, f8, f19, f20, f21], by simp (disch := omega) only [bsW, ↓reduceIte, Nat.reduceEqDiff, ne_eq, reduceCtorEq, fcT, f0, f1, f2, f8, f19, f20, f21, Int.natCast_zero], hs, by omega, ?_, by intro i hi; omega⟩
          rw [hb]
          exact congrArg (fun x => some (Blk.rw x 4)) (blR_congr fun p hp => by simp)
    · have hkn : k = ls.length := by omega
      subst hkn
      have hd1 : decide ((ls.length : Int) < (ls.length : Int)) = false := decide_eq_false (by omega)
      simp (disch := omega) only [bsW, WOp, WOq, WV, bo, gdc, gw, bnd, ↓reduceIte, Nat.reduceEqDiff, rsvs, rsv, oneOf, rdN, ne_eq, Nat.reduceAdd, Nat.reduceMul, Nat.reduceLT, reduceCtorEq, Value.cells, setN, Value.oneCell', Nat.reduceLeDiff, undef, fcT, f0, f1, f2, f8, f19, f20, f21, hd1]
      (repeat' (first | ((with_reducible refine gif_split (fun hs_ => ?_) (fun hs_ => ?_)) <;> (have hp_ := hs_; (try simp only [hpL, ne_eq] at hp_); (try simp (disch := omega) only [bsW, WOp, WOq, WV, bo, gdc, gw, bnd, ↓reduceIte, Nat.reduceEqDiff, rsvs, rsv, oneOf, rdN, ne_eq, Nat.reduceAdd, Nat.reduceMul, Nat.reduceLT, reduceCtorEq, Value.cells, setN, Value.oneCell', Nat.reduceLeDiff, undef, fcT, f0, f1, f2, f8, f19, f20, f21, hd1, hs_]))) | ((first | (with_reducible refine newB_i (fun nb_ hb_ => ?_)) | (with_reducible refine RgE_i (fun (hBd_ : Bd _ _) => ?_))); (try simp (disch := omega) only [bsW, WOp, WOq, WV, bo, gdc, gw, bnd, ↓reduceIte, Nat.reduceEqDiff, rsvs, rsv, oneOf, rdN, ne_eq, Nat.reduceAdd, Nat.reduceMul, Nat.reduceLT, reduceCtorEq, Value.cells, setN, Value.oneCell', Nat.reduceLeDiff, undef, fcT, f0, f1, f2, f8, f19, f20, f21, hd1])) | (with_reducible refine fun (hBd_ : Bd _ _) => ?_) | ((first | (with_reducible refine @And.intro (Sub _ _) _ ?_ ?_) | ((with_reducible refine @And.intro (Sub _ _ ∧ _) _ ?_ ?_); (with_reducible refine @And.intro (Sub _ _) _ ?_ ?_))); exact sbX) | ((with_reducible refine And.intro ?_ ?_); omega)))
      all_goals try (exfalso; omega)
      all_goals try (exfalso; omega)
      refine Is_e ?_ hs
      rw [exB_yes hall]
  · rintro fr H' nx' ⟨k, hmm, _⟩; omega
  · refine ⟨0, by omega, by omega, by simp (disch := omega) only [bsW, ↓reduceIte, Nat.reduceEqDiff, ne_eq, reduceCtorEq, fcT], by simp (disch := omega) only [bsW, ↓reduceIte, Nat.reduceEqDiff, ne_eq, reduceCtorEq, fcT], by simp (disch := omega) only [bsW, ↓reduceIte, Nat.reduceEqDiff, ne_eq, reduceCtorEq, fcT], by simp (disch := omega) only [bsW, ↓reduceIte, Nat.reduceEqDiff, ne_eq, reduceCtorEq, fcT], by simp (disch := omega) only [bsW, ↓reduceIte, Nat.reduceEqDiff, ne_eq, reduceCtorEq, fcT], by simp (disch := omega) only [bsW, ↓reduceIte, Nat.reduceEqDiff, ne_eq, reduceCtorEq, fcT], by simp (disch := omega) only [bsW, ↓reduceIte, Nat.reduceEqDiff, ne_eq, reduceCtorEq, fcT, Int.natCast_zero], by (repeat (first | assumption | exact Sub.refl _ | (refine sub_up (nx := nx) ?_ hB ?_; omega))), by omega, ?_, by intro i hi; omega⟩
    rw [upd_same, Nat.mul_one, blR_zero]
    exact congrArg (fun x => some (Blk.rw x 4)) (blR_congr fun p hp => by simp [seenB])
end Go.Proofs.Ytnaldmmdhpobgaa
