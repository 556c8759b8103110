/- The helpers of the laws at exhibits. -/
import Derived.Test.YtmmbolempcpcjaaT
import Derived.Test.YtmmbolempcpcjaaD4
import Derived.Test.YtmmbolempcpcjaaP23
import Derived.Test.YtmmbolempcpcjaaE2
set_option linter.unusedVariables false
set_option linter.unusedSimpArgs false
set_option maxRecDepth 100000
set_option maxHeartbeats 1000000
namespace Go.Proofs.Ytmmbolempcpcjaa
open Go Go.RowKit Go.Proofs

theorem eqIntS (A B : Option Addr) (n c d : Nat) (f : Nat → Nat → Int) (H : Hp) (nx : Nat) (hn : n ≤ 17592186044416) (h : Rd H A n 1 f) (h' : Rd H B n 1 f) :
    PC Try.prog 42 #[.slice A n c, .slice B n d] H nx (.bool true) := by
  refine AC_of x_laws_eqIntS rfl fun hB => ?_
  simp (disch := omega) only [bsW, WOp, WOq, WV, bo, gdc, gw, bnd, ↓reduceIte, Nat.reduceEqDiff, rsvs, rsv, oneOf, rdN, ne_eq, Nat.reduceAdd, Nat.reduceMul, Nat.reduceLT, reduceCtorEq, Value.cells, setN, Value.oneCell', Nat.reduceLeDiff, undef, fcT, c_laws_eqIntS]
  (repeat' (first | ((refine gif_split (fun hs_ => ?_) (fun hs_ => ?_)) <;> (have hp_ := hs_; (try simp only [decide_eq_true_eq, decide_eq_false_iff_not, beq_iff_eq, bne_iff_ne, beq_eq_false_iff_ne, Bool.not_eq_true, Bool.and_eq_true, Bool.or_eq_true, Bool.and_eq_false_iff, Bool.or_eq_false_iff, bne_eq_false_iff_eq, ne_eq] at hp_); (try simp (disch := omega) only [bsW, WOp, WOq, WV, bo, gdc, gw, bnd, ↓reduceIte, Nat.reduceEqDiff, rsvs, rsv, oneOf, rdN, ne_eq, Nat.reduceAdd, Nat.reduceMul, Nat.reduceLT, reduceCtorEq, Value.cells, setN, Value.oneCell', Nat.reduceLeDiff, undef, fcT, hs_]))) | ((refine newB_i (fun nb_ hb_ => ?_)); (try simp (disch := omega) only [bsW, WOp, WOq, WV, bo, gdc, gw, bnd, ↓reduceIte, Nat.reduceEqDiff, rsvs, rsv, oneOf, rdN, ne_eq, Nat.reduceAdd, Nat.reduceMul, Nat.reduceLT, reduceCtorEq, Value.cells, setN, Value.oneCell', Nat.reduceLeDiff, undef, fcT])) | (refine fun (hBd_ : Bd _ _) => ?_) | (refine And.intro (Sub.refl _) ?_) | (refine And.intro (sub_new (by assumption) (by assumption)) ?_) | (refine And.intro (And.intro (Sub.refl _) ?_) ?_) | (refine And.intro ?_ ?_; omega)))
  all_goals try (exfalso; omega)
  all_goals try (exfalso; simp_all; done)
  refine LpE_rule (fun m fr H' nx' => ∃ k : Nat, m = n - k + 1 ∧ k ≤ n ∧ fr 0 = .slice A n c ∧ fr 1 = .slice B n d ∧ fr 5 = .int .i64 k ∧ Sub H H' ∧ nx ≤ nx') ?_ ?_ (n + 1) ?_
  · rintro m K hK fr H' nx' ⟨k, hm, hk, f0, f1, f5, hs, hx⟩
    simp (disch := omega) only [bsW, WOp, WOq, WV, bo, gdc, gw, bnd, ↓reduceIte, Nat.reduceEqDiff, rsvs, rsv, oneOf, rdN, ne_eq, Nat.reduceAdd, Nat.reduceMul, Nat.reduceLT, reduceCtorEq, Value.cells, setN, Value.oneCell', Nat.reduceLeDiff, undef, fcT, f0, f1, f5]
    refine gif_split (fun b1 => ?_) (fun b1 => ?_)
    · have hlt : k < n := by simpa using b1
      obtain ⟨b, off, rfl, hc⟩ := h.at_ (by omega)
      obtain ⟨b', off', rfl, hc'⟩ := h'.at_ (by omega)
      have c0 := rd_sub hs (hc k 0 hlt (by omega))
      have d0 := rd_sub hs (hc' k 0 hlt (by omega))
      simp only [Nat.add_zero] at c0 d0
      simp (disch := omega) only [bsW, WOp, WOq, WV, bo, gdc, gw, bnd, ↓reduceIte, Nat.reduceEqDiff, rsvs, rsv, oneOf, rdN, ne_eq, Nat.reduceAdd, Nat.reduceMul, Nat.reduceLT, reduceCtorEq, Value.cells, setN, Value.oneCell', Nat.reduceLeDiff, undef, fcT, f0, f1, f5, c0, d0, b1]
      (repeat' (first | ((refine gif_split (fun hs_ => ?_) (fun hs_ => ?_)) <;> (have hp_ := hs_; (try simp only [decide_eq_true_eq, decide_eq_false_iff_not, beq_iff_eq, bne_iff_ne, beq_eq_false_iff_ne, Bool.not_eq_true, Bool.and_eq_true, Bool.or_eq_true, Bool.and_eq_false_iff, Bool.or_eq_false_iff, bne_eq_false_iff_eq, ne_eq] at hp_); (try simp (disch := omega) only [bsW, WOp, WOq, WV, bo, gdc, gw, bnd, ↓reduceIte, Nat.reduceEqDiff, rsvs, rsv, oneOf, rdN, ne_eq, Nat.reduceAdd, Nat.reduceMul, Nat.reduceLT, reduceCtorEq, Value.cells, setN, Value.oneCell', Nat.reduceLeDiff, undef, fcT, f0, f1, f5, c0, d0, hs_]))) | ((refine newB_i (fun nb_ hb_ => ?_)); (try simp (disch := omega) only [bsW, WOp, WOq, WV, bo, gdc, gw, bnd, ↓reduceIte, Nat.reduceEqDiff, rsvs, rsv, oneOf, rdN, ne_eq, Nat.reduceAdd, Nat.reduceMul, Nat.reduceLT, reduceCtorEq, Value.cells, setN, Value.oneCell', Nat.reduceLeDiff, undef, fcT, f0, f1, f5, c0, d0])) | (refine fun (hBd_ : Bd _ _) => ?_) | (refine And.intro (Sub.refl _) ?_) | (refine And.intro (sub_new (by assumption) (by assumption)) ?_) | (refine And.intro (And.intro (Sub.refl _) ?_) ?_) | (refine And.intro ?_ ?_; omega)))
      all_goals try (exfalso; simp_all; done)
      refine hK _ _ _ ?_
      refine ⟨k + 1, by omega, by omega, by simp (disch := omega) only [bsW, WOp, WOq, WV, bo, gdc, gw, bnd, ↓reduceIte, Nat.reduceEqDiff, rsvs, rsv, oneOf, rdN, ne_eq, Nat.reduceAdd, Nat.reduceMul, Nat.reduceLT, reduceCtorEq, Value.cells, setN, Value.oneCell', Nat.reduceLeDiff, undef, fcT, f0, f1, f5, c0, d0], by simp (disch := omega) only [bsW, WOp, WOq, WV, bo, gdc, gw, bnd, ↓reduceIte, Nat.reduceEqDiff, rsvs, rsv, oneOf, rdN, ne_eq, Nat.reduceAdd, Nat.reduceMul, Nat.reduceLT, reduceCtorEq, Value.cells, setN, Value.oneCell', Nat.reduceLeDiff, undef, fcT, f0, f1, f5, c0, d0], by simp (disch := omega) only [bsW, WOp, WOq, WV, bo, gdc, gw, bnd, ↓reduceIte, Nat.reduceEqDiff, rsvs, rsv, oneOf, rdN, ne_eq, Nat.reduceAdd, Nat.reduceMul, Nat.reduceLT, reduceCtorEq, Value.cells, setN, Value.oneCell', Nat.reduceLeDiff, undef, fcT, f0, f1, f5, c0, d0, Int.natCast_add, Int.natCast_one], hs, by omega⟩
    · simp (disch := omega) only [bsW, WOp, WOq, WV, bo, gdc, gw, bnd, ↓reduceIte, Nat.reduceEqDiff, rsvs, rsv, oneOf, rdN, ne_eq, Nat.reduceAdd, Nat.reduceMul, Nat.reduceLT, reduceCtorEq, Value.cells, setN, Value.oneCell', Nat.reduceLeDiff, undef, fcT, f0, f1, f5, b1]
      exact Is_i hs
  · rintro fr H' nx' ⟨k, hm, _⟩; omega
  · exact ⟨0, by omega, by omega, by simp (disch := omega) only [bsW, WOp, WOq, WV, bo, gdc, gw, bnd, ↓reduceIte, Nat.reduceEqDiff, rsvs, rsv, oneOf, rdN, ne_eq, Nat.reduceAdd, Nat.reduceMul, Nat.reduceLT, reduceCtorEq, Value.cells, setN, Value.oneCell', Nat.reduceLeDiff, undef, fcT], by simp (disch := omega) only [bsW, WOp, WOq, WV, bo, gdc, gw, bnd, ↓reduceIte, Nat.reduceEqDiff, rsvs, rsv, oneOf, rdN, ne_eq, Nat.reduceAdd, Nat.reduceMul, Nat.reduceLT, reduceCtorEq, Value.cells, setN, Value.oneCell', Nat.reduceLeDiff, undef, fcT], by simp (disch := omega) only [bsW, WOp, WOq, WV, bo, gdc, gw, bnd, ↓reduceIte, Nat.reduceEqDiff, rsvs, rsv, oneOf, rdN, ne_eq, Nat.reduceAdd, Nat.reduceMul, Nat.reduceLT, reduceCtorEq, Value.cells, setN, Value.oneCell', Nat.reduceLeDiff, undef, fcT, Int.natCast_zero], Sub.refl _, by omega⟩

theorem toIntS (A : Option Addr) (n c : Nat) (f : Nat → Nat → Int) (H : Hp) (nx : Nat) (hn : n ≤ 1048576) (h : Rd H A n 1 f) :
    AC Try.prog 53 #[.slice A n c] H nx (NewS H nx n 1 f 3) := by
  refine AC_of x_laws_toIntS rfl fun hB => ?_
  simp (disch := omega) only [bsW, WOp, WOq, WV, bo, gdc, gw, bnd, ↓reduceIte, Nat.reduceEqDiff, rsvs, rsv, oneOf, rdN, ne_eq, Nat.reduceAdd, Nat.reduceMul, Nat.reduceLT, reduceCtorEq, Value.cells, setN, Value.oneCell', Nat.reduceLeDiff, undef, fcT, c_laws_toIntS]
  refine ⟨by omega, newB_i fun nb hnb => ?_⟩
  rw [mkRow_flat #[.int .i64 0] n 1 (by omega) rfl]
  simp (disch := omega) only [bsW, WOp, WOq, WV, bo, gdc, gw, bnd, ↓reduceIte, Nat.reduceEqDiff, rsvs, rsv, oneOf, rdN, ne_eq, Nat.reduceAdd, Nat.reduceMul, Nat.reduceLT, reduceCtorEq, Value.cells, setN, Value.oneCell', Nat.reduceLeDiff, undef, fcT]
  refine LpE_rule (fun m fr H' nx' => ∃ k : Nat, m = n - k + 1 ∧ k ≤ n ∧ fr 0 = .slice A n c ∧ fr 3 = .slice (some ⟨nb, 0, none⟩) n n ∧ fr 4 = .int .i64 k ∧ Sub H H' ∧ nb + 1 ≤ nx' ∧
    H' nb = some (.rw (flat n 1 (fun a b => if a < k then f a b else 0)) 3)) ?_ ?_ (n + 1) ?_
  · rintro m K hK fr H' nx' ⟨k, hm, hk, f0, f3, f4, hs, hx, hb⟩
    simp (disch := omega) only [bsW, WOp, WOq, WV, bo, gdc, gw, bnd, ↓reduceIte, Nat.reduceEqDiff, rsvs, rsv, oneOf, rdN, ne_eq, Nat.reduceAdd, Nat.reduceMul, Nat.reduceLT, reduceCtorEq, Value.cells, setN, Value.oneCell', Nat.reduceLeDiff, undef, fcT, f0, f3, f4]
    refine gif_split (fun b1 => ?_) (fun b1 => ?_)
    · have hlt : k < n := by simpa using b1
      obtain ⟨b, off, rfl, hc⟩ := h.at_ (by omega)
      have c0 := rd_sub hs (hc k 0 hlt (by omega))
      simp only [Nat.add_zero] at c0
      simp (disch := omega) only [bsW, WOp, WOq, WV, bo, gdc, gw, bnd, ↓reduceIte, Nat.reduceEqDiff, rsvs, rsv, oneOf, rdN, ne_eq, Nat.reduceAdd, Nat.reduceMul, Nat.reduceLT, reduceCtorEq, Value.cells, setN, Value.oneCell', Nat.reduceLeDiff, undef, fcT, f0, f3, f4, c0, hb, flat_length, b1]
      (repeat' (first | ((refine gif_split (fun hs_ => ?_) (fun hs_ => ?_)) <;> (have hp_ := hs_; (try simp only [decide_eq_true_eq, decide_eq_false_iff_not, beq_iff_eq, bne_iff_ne, beq_eq_false_iff_ne, Bool.not_eq_true, Bool.and_eq_true, Bool.or_eq_true, Bool.and_eq_false_iff, Bool.or_eq_false_iff, bne_eq_false_iff_eq, ne_eq] at hp_); (try simp (disch := omega) only [bsW, WOp, WOq, WV, bo, gdc, gw, bnd, ↓reduceIte, Nat.reduceEqDiff, rsvs, rsv, oneOf, rdN, ne_eq, Nat.reduceAdd, Nat.reduceMul, Nat.reduceLT, reduceCtorEq, Value.cells, setN, Value.oneCell', Nat.reduceLeDiff, undef, fcT, f0, f3, f4, c0, hb, flat_length, hs_]))) | ((refine newB_i (fun nb_ hb_ => ?_)); (try simp (disch := omega) only [bsW, WOp, WOq, WV, bo, gdc, gw, bnd, ↓reduceIte, Nat.reduceEqDiff, rsvs, rsv, oneOf, rdN, ne_eq, Nat.reduceAdd, Nat.reduceMul, Nat.reduceLT, reduceCtorEq, Value.cells, setN, Value.oneCell', Nat.reduceLeDiff, undef, fcT, f0, f3, f4, c0, hb, flat_length])) | (refine fun (hBd_ : Bd _ _) => ?_) | (refine And.intro (Sub.refl _) ?_) | (refine And.intro (sub_new (by assumption) (by assumption)) ?_) | (refine And.intro (And.intro (Sub.refl _) ?_) ?_) | (refine And.intro ?_ ?_; omega)))
      refine hK _ _ _ ?_
      refine ⟨k + 1, by omega, by omega, by simp (disch := omega) only [bsW, WOp, WOq, WV, bo, gdc, gw, bnd, ↓reduceIte, Nat.reduceEqDiff, rsvs, rsv, oneOf, rdN, ne_eq, Nat.reduceAdd, Nat.reduceMul, Nat.reduceLT, reduceCtorEq, Value.cells, setN, Value.oneCell', Nat.reduceLeDiff, undef, fcT, f0, f3, f4, c0, hb, flat_length], by simp (disch := omega) only [bsW, WOp, WOq, WV, bo, gdc, gw, bnd, ↓reduceIte, Nat.reduceEqDiff, rsvs, rsv, oneOf, rdN, ne_eq, Nat.reduceAdd, Nat.reduceMul, Nat.reduceLT, reduceCtorEq, Value.cells, setN, Value.oneCell', Nat.reduceLeDiff, undef, fcT, f0, f3, f4, c0, hb, flat_length], by simp (disch := omega) only [bsW, WOp, WOq, WV, bo, gdc, gw, bnd, ↓reduceIte, Nat.reduceEqDiff, rsvs, rsv, oneOf, rdN, ne_eq, Nat.reduceAdd, Nat.reduceMul, Nat.reduceLT, reduceCtorEq, Value.cells, setN, Value.oneCell', Nat.reduceLeDiff, undef, fcT, f0, f3, f4, c0, hb, flat_length, Int.natCast_add, Int.natCast_one], sub_upd_old hs (none_of_bd hB hnb), by omega, ?_⟩
      rw [upd_same]
      (try simp only [setN, Nat.add_zero])
      rw [flat_set0 hlt (by omega)]
      congr 2
      refine flat_congr fun i j hi hj => ?_
      have hj' : j = 0 := by omega
      by_cases hik : i = k
      · subst hik
        rcases hj' with rfl <;> simp
      · have e1 : (i < k + 1) = (i < k) := by simp; omega
        simp [hik, e1]
    · simp (disch := omega) only [bsW, WOp, WOq, WV, bo, gdc, gw, bnd, ↓reduceIte, Nat.reduceEqDiff, rsvs, rsv, oneOf, rdN, ne_eq, Nat.reduceAdd, Nat.reduceMul, Nat.reduceLT, reduceCtorEq, Value.cells, setN, Value.oneCell', Nat.reduceLeDiff, undef, fcT, f0, f3, f4, b1]
      have hkn : k = n := by simp at b1; omega
      subst hkn
      refine ⟨⟨nb, rfl, hnb, hx, ?_⟩, hs⟩
      rw [hb]
      congr 2
      exact flat_congr fun i j hi hj => by rw [if_pos hi]
  · rintro fr H' nx' ⟨k, hm, _⟩; omega
  · refine ⟨0, by omega, by omega, by simp (disch := omega) only [bsW, WOp, WOq, WV, bo, gdc, gw, bnd, ↓reduceIte, Nat.reduceEqDiff, rsvs, rsv, oneOf, rdN, ne_eq, Nat.reduceAdd, Nat.reduceMul, Nat.reduceLT, reduceCtorEq, Value.cells, setN, Value.oneCell', Nat.reduceLeDiff, undef, fcT], by simp (disch := omega) only [bsW, WOp, WOq, WV, bo, gdc, gw, bnd, ↓reduceIte, Nat.reduceEqDiff, rsvs, rsv, oneOf, rdN, ne_eq, Nat.reduceAdd, Nat.reduceMul, Nat.reduceLT, reduceCtorEq, Value.cells, setN, Value.oneCell', Nat.reduceLeDiff, undef, fcT], by simp (disch := omega) only [bsW, WOp, WOq, WV, bo, gdc, gw, bnd, ↓reduceIte, Nat.reduceEqDiff, rsvs, rsv, oneOf, rdN, ne_eq, Nat.reduceAdd, Nat.reduceMul, Nat.reduceLT, reduceCtorEq, Value.cells, setN, Value.oneCell', Nat.reduceLeDiff, undef, fcT, Int.natCast_zero], ?_, by omega, ?_⟩
    · exact sub_upd_old (Sub.refl _) (none_of_bd hB hnb)
    · rw [upd_same]; congr 2

theorem szIntS (A : Option Addr) (n c : Nat) (left : Int) (H : Hp) (nx : Nat) (hn : n ≤ 9223372036854775807) (hl : -1 ≤ left ∧ left ≤ 1048576) :
    PC Try.prog 49 #[.slice A n c, .int .i64 left] H nx (.int .i64 (if left - n < 0 then -1 else left - n)) := by
  refine AC_of x_laws_szIntS rfl fun hB => ?_
  simp (disch := omega) only [bsW, WOp, WOq, WV, bo, gdc, gw, bnd, ↓reduceIte, Nat.reduceEqDiff, rsvs, rsv, oneOf, rdN, ne_eq, Nat.reduceAdd, Nat.reduceMul, Nat.reduceLT, reduceCtorEq, Value.cells, setN, Value.oneCell', Nat.reduceLeDiff, undef, fcT, c_laws_szIntS]
  (repeat' (first | ((refine gif_split (fun hs_ => ?_) (fun hs_ => ?_)) <;> (have hp_ := hs_; (try simp only [decide_eq_true_eq, decide_eq_false_iff_not, beq_iff_eq, bne_iff_ne, beq_eq_false_iff_ne, Bool.not_eq_true, Bool.and_eq_true, Bool.or_eq_true, Bool.and_eq_false_iff, Bool.or_eq_false_iff, bne_eq_false_iff_eq, ne_eq] at hp_); (try simp (disch := omega) only [bsW, WOp, WOq, WV, bo, gdc, gw, bnd, ↓reduceIte, Nat.reduceEqDiff, rsvs, rsv, oneOf, rdN, ne_eq, Nat.reduceAdd, Nat.reduceMul, Nat.reduceLT, reduceCtorEq, Value.cells, setN, Value.oneCell', Nat.reduceLeDiff, undef, fcT, hs_]))) | ((refine newB_i (fun nb_ hb_ => ?_)); (try simp (disch := omega) only [bsW, WOp, WOq, WV, bo, gdc, gw, bnd, ↓reduceIte, Nat.reduceEqDiff, rsvs, rsv, oneOf, rdN, ne_eq, Nat.reduceAdd, Nat.reduceMul, Nat.reduceLT, reduceCtorEq, Value.cells, setN, Value.oneCell', Nat.reduceLeDiff, undef, fcT])) | (refine fun (hBd_ : Bd _ _) => ?_) | (refine And.intro (Sub.refl _) ?_) | (refine And.intro (sub_new (by assumption) (by assumption)) ?_) | (refine And.intro (And.intro (Sub.refl _) ?_) ?_) | (refine And.intro ?_ ?_; omega)))
  · exact Is_e (by rw [if_pos (by omega)]) (Sub.refl H)
  · exact Is_e (by rw [if_neg (by omega)]) (Sub.refl H)
def szV (left : Int) (t m : Nat) : Int := if left - t < 0 then -1 else if left - t - m < 0 then -1 else left - t - m
theorem szV_ok {t m : Nat} (h : ¬ szV 1048576 t m < 0) : m ≤ 1048576 := by
  unfold szV at h
  revert h
  (repeat' split) <;> omega
def szG (s : Shw) : Nat → Nat → Int → Int
  | 0, _, l => l
  | r + 1, i, l => if szV l (s.title i).size (s.m i) < 0 then -1 else szG s r (i + 1) (szV l (s.title i).size (s.m i))
def szS (n : Nat) (s : Shw) (left : Int) : Int := if left - n < 0 then -1 else szG s n 0 (left - n)
theorem szG_ok {s : Shw} : ∀ (r i : Nat) (l : Int), 0 ≤ l → l ≤ 1048576 → ¬ szG s r i l < 0 → ∀ j, i ≤ j → j < i + r → s.m j ≤ 1048576
  | 0, i, l, _, _, _, j, h1, h2 => by omega
  | r + 1, i, l, h0, hl, h, j, h1, h2 => by
    simp only [szG] at h
    split at h
    · omega
    · rename_i hv
      have hle : szV l (s.title i).size (s.m i) ≤ l ∧ (s.m i : Int) ≤ l := by
        revert hv
        unfold szV
        (repeat' split) <;> omega
      rcases Nat.eq_or_lt_of_le h1 with rfl | h1
      · omega
      · exact szG_ok r (i + 1) _ (by omega) (by omega) h j h1 (by omega)
theorem szS_ok {n : Nat} {s : Shw} (h : ¬ szS n s 1048576 < 0) : n ≤ 1048576 ∧ ∀ i, i < n → s.m i ≤ 1048576 := by
  unfold szS at h
  split at h
  · omega
  · rename_i h1
    exact ⟨by omega, fun i hi => szG_ok n 0 _ (by omega) (by omega) h i (by omega) (by omega)⟩
theorem szShowFrame (id : Int) (t : ByteArray) (fr : Int) (B : Option Addr) (m d : Nat) (left : Int) (H : Hp) (nx : Nat) (hn : m ≤ 9223372036854775807) (ht : t.size ≤ 9223372036854775807) (hl : 0 ≤ left ∧ left ≤ 1048576) :
    PC Try.prog 19 #[.agg #[.int .i64 id, .string t, .int .i64 fr, .slice B m d], .int .i64 left] H nx (.int .i64 (szV left t.size m)) := by
  refine AC_of x_laws_szShowFrame rfl fun hB => ?_
  simp (disch := omega) only [bsW, WOp, WOq, WV, bo, gdc, gw, bnd, ↓reduceIte, Nat.reduceEqDiff, rsvs, rsv, oneOf, rdN, ne_eq, Nat.reduceAdd, Nat.reduceMul, Nat.reduceLT, reduceCtorEq, Value.cells, setN, Value.oneCell', Nat.reduceLeDiff, undef, fcT, c_laws_szShowFrame]
  (repeat' (first | ((refine gif_split (fun hs_ => ?_) (fun hs_ => ?_)) <;> (have hp_ := hs_; (try simp only [decide_eq_true_eq, decide_eq_false_iff_not, beq_iff_eq, bne_iff_ne, beq_eq_false_iff_ne, Bool.not_eq_true, Bool.and_eq_true, Bool.or_eq_true, Bool.and_eq_false_iff, Bool.or_eq_false_iff, bne_eq_false_iff_eq, ne_eq] at hp_); (try simp (disch := omega) only [bsW, WOp, WOq, WV, bo, gdc, gw, bnd, ↓reduceIte, Nat.reduceEqDiff, rsvs, rsv, oneOf, rdN, ne_eq, Nat.reduceAdd, Nat.reduceMul, Nat.reduceLT, reduceCtorEq, Value.cells, setN, Value.oneCell', Nat.reduceLeDiff, undef, fcT, hs_]))) | ((refine newB_i (fun nb_ hb_ => ?_)); (try simp (disch := omega) only [bsW, WOp, WOq, WV, bo, gdc, gw, bnd, ↓reduceIte, Nat.reduceEqDiff, rsvs, rsv, oneOf, rdN, ne_eq, Nat.reduceAdd, Nat.reduceMul, Nat.reduceLT, reduceCtorEq, Value.cells, setN, Value.oneCell', Nat.reduceLeDiff, undef, fcT])) | ((first | (refine QC_i (szIntS _ _ _ _ _ _ hn (by omega)) ?_) | (refine PC.ac (szIntS _ _ _ _ _ _ hn (by omega)) ?_)); (try simp (disch := omega) only [bsW, WOp, WOq, WV, bo, gdc, gw, bnd, ↓reduceIte, Nat.reduceEqDiff, rsvs, rsv, oneOf, rdN, ne_eq, Nat.reduceAdd, Nat.reduceMul, Nat.reduceLT, reduceCtorEq, Value.cells, setN, Value.oneCell', Nat.reduceLeDiff, undef, fcT])) | (refine fun (hBd_ : Bd _ _) => ?_) | (refine And.intro (Sub.refl _) ?_) | (refine And.intro (sub_new (by assumption) (by assumption)) ?_) | (refine And.intro (And.intro (Sub.refl _) ?_) ?_) | (refine And.intro ?_ ?_; omega)))
  all_goals
    refine Is_e (vi ?_) ?_
    · unfold szV
      first
      | rw [if_pos (by omega)]
      | (rw [if_neg (by omega)]
         first
         | rw [if_pos (by omega)]
         | (rw [if_neg (by omega)]
            revert hp_
            split <;> omega)
         | (revert hp_
            (repeat' split) <;> omega))
    · (repeat (first | assumption | exact Sub.refl _ | (refine sub_up (nx := nx) ?_ hB ?_; omega)))
theorem szShowFrameS (A : Option Addr) (n c : Nat) (s : Shw) (H : Hp) (nx : Nat) (hn : n ≤ 17592186044416) (h : RdS H A n s) (hw : szOk n s) :
    PC Try.prog 14 #[.slice A n c, .int .i64 1048576] H nx (.int .i64 (szS n s 1048576)) := by
  refine AC_of x_laws_szShowFrameS rfl fun hB => ?_
  simp (disch := omega) only [bsW, WOp, WOq, WV, bo, gdc, gw, bnd, ↓reduceIte, Nat.reduceEqDiff, rsvs, rsv, oneOf, rdN, ne_eq, Nat.reduceAdd, Nat.reduceMul, Nat.reduceLT, reduceCtorEq, Value.cells, setN, Value.oneCell', Nat.reduceLeDiff, undef, fcT, c_laws_szShowFrameS]
  (repeat' (first | ((refine gif_split (fun hs_ => ?_) (fun hs_ => ?_)) <;> (have hp_ := hs_; (try simp only [decide_eq_true_eq, decide_eq_false_iff_not, beq_iff_eq, bne_iff_ne, beq_eq_false_iff_ne, Bool.not_eq_true, Bool.and_eq_true, Bool.or_eq_true, Bool.and_eq_false_iff, Bool.or_eq_false_iff, bne_eq_false_iff_eq, ne_eq] at hp_); (try simp (disch := omega) only [bsW, WOp, WOq, WV, bo, gdc, gw, bnd, ↓reduceIte, Nat.reduceEqDiff, rsvs, rsv, oneOf, rdN, ne_eq, Nat.reduceAdd, Nat.reduceMul, Nat.reduceLT, reduceCtorEq, Value.cells, setN, Value.oneCell', Nat.reduceLeDiff, undef, fcT, hs_]))) | ((refine newB_i (fun nb_ hb_ => ?_)); (try simp (disch := omega) only [bsW, WOp, WOq, WV, bo, gdc, gw, bnd, ↓reduceIte, Nat.reduceEqDiff, rsvs, rsv, oneOf, rdN, ne_eq, Nat.reduceAdd, Nat.reduceMul, Nat.reduceLT, reduceCtorEq, Value.cells, setN, Value.oneCell', Nat.reduceLeDiff, undef, fcT])) | (refine fun (hBd_ : Bd _ _) => ?_) | (refine And.intro (Sub.refl _) ?_) | (refine And.intro (sub_new (by assumption) (by assumption)) ?_) | (refine And.intro (And.intro (Sub.refl _) ?_) ?_) | (refine And.intro ?_ ?_; omega)))
  all_goals try (exfalso; omega)
  · exact Is_e (vi (by unfold szS; rw [if_pos (by omega)])) (Sub.refl H)
  refine LpE_rule (fun m fr H' nx' => ∃ (k : Nat) (l : Int), m = n - k + 1 ∧ k ≤ n ∧ fr 0 = .slice A n c ∧ fr 1 = .int .i64 l ∧ fr 5 = .int .i64 k ∧ 0 ≤ l ∧ l ≤ 1048576 ∧ szG s (n - k) k l = szS n s 1048576 ∧ Sub H H' ∧ nx ≤ nx') ?_ ?_ (n + 1) ?_
  · rintro m K hK fr H' nx' ⟨k, l, hm, hk, f0, f1, f5, hl0, hl1, hg, hs, hx⟩
    simp (disch := omega) only [bsW, WOp, WOq, WV, bo, gdc, gw, bnd, ↓reduceIte, Nat.reduceEqDiff, rsvs, rsv, oneOf, rdN, ne_eq, Nat.reduceAdd, Nat.reduceMul, Nat.reduceLT, reduceCtorEq, Value.cells, setN, Value.oneCell', Nat.reduceLeDiff, undef, fcT, f0, f1, f5]
    refine gif_split (fun b1 => ?_) (fun b1 => ?_)
    · have hlt : k < n := by simpa using b1
      obtain ⟨b, off, B, d, rfl, c0, c1, c2, c3, hd, hR⟩ := (h.sub hs).at_ hlt
      obtain ⟨hw1, hw2⟩ := hw k hlt
      have hg2 : szG s (n - k) k l = if szV l (s.title k).size (s.m k) < 0 then -1 else szG s (n - (k + 1)) (k + 1) (szV l (s.title k).size (s.m k)) := by
        rw [show n - k = (n - (k + 1)) + 1 by omega]; rfl
      have hle : szV l (s.title k).size (s.m k) ≤ l := by unfold szV; (repeat' split) <;> omega
      simp (disch := omega) only [bsW, WOp, WOq, WV, bo, gdc, gw, bnd, ↓reduceIte, Nat.reduceEqDiff, rsvs, rsv, oneOf, rdN, ne_eq, Nat.reduceAdd, Nat.reduceMul, Nat.reduceLT, reduceCtorEq, Value.cells, setN, Value.oneCell', Nat.reduceLeDiff, undef, fcT, f0, f1, f5, c0, c1, c2, c3, b1]
      (repeat' (first | ((refine gif_split (fun hs_ => ?_) (fun hs_ => ?_)) <;> (have hp_ := hs_; (try simp only [decide_eq_true_eq, decide_eq_false_iff_not, beq_iff_eq, bne_iff_ne, beq_eq_false_iff_ne, Bool.not_eq_true, Bool.and_eq_true, Bool.or_eq_true, Bool.and_eq_false_iff, Bool.or_eq_false_iff, bne_eq_false_iff_eq, ne_eq] at hp_); (try simp (disch := omega) only [bsW, WOp, WOq, WV, bo, gdc, gw, bnd, ↓reduceIte, Nat.reduceEqDiff, rsvs, rsv, oneOf, rdN, ne_eq, Nat.reduceAdd, Nat.reduceMul, Nat.reduceLT, reduceCtorEq, Value.cells, setN, Value.oneCell', Nat.reduceLeDiff, undef, fcT, f0, f1, f5, c0, c1, c2, c3, hs_]))) | ((refine newB_i (fun nb_ hb_ => ?_)); (try simp (disch := omega) only [bsW, WOp, WOq, WV, bo, gdc, gw, bnd, ↓reduceIte, Nat.reduceEqDiff, rsvs, rsv, oneOf, rdN, ne_eq, Nat.reduceAdd, Nat.reduceMul, Nat.reduceLT, reduceCtorEq, Value.cells, setN, Value.oneCell', Nat.reduceLeDiff, undef, fcT, f0, f1, f5, c0, c1, c2, c3])) | ((first | (refine QC_i (szShowFrame _ _ _ _ _ _ _ _ _ hw2 hw1 (by omega)) ?_) | (refine PC.ac (szShowFrame _ _ _ _ _ _ _ _ _ hw2 hw1 (by omega)) ?_)); (try simp (disch := omega) only [bsW, WOp, WOq, WV, bo, gdc, gw, bnd, ↓reduceIte, Nat.reduceEqDiff, rsvs, rsv, oneOf, rdN, ne_eq, Nat.reduceAdd, Nat.reduceMul, Nat.reduceLT, reduceCtorEq, Value.cells, setN, Value.oneCell', Nat.reduceLeDiff, undef, fcT, f0, f1, f5, c0, c1, c2, c3])) | (refine fun (hBd_ : Bd _ _) => ?_) | (refine And.intro (Sub.refl _) ?_) | (refine And.intro (sub_new (by assumption) (by assumption)) ?_) | (refine And.intro (And.intro (Sub.refl _) ?_) ?_) | (refine And.intro ?_ ?_; omega)))
      all_goals try (exfalso; omega)
      · rw [if_pos hp_] at hg2
        exact Is_e (vi (by omega)) hs
      · rw [if_neg hp_] at hg2
        refine hK _ _ _ ?_
        exact ⟨k + 1, szV l (s.title k).size (s.m k), by omega, by omega, by simp (disch := omega) only [bsW, WOp, WOq, WV, bo, gdc, gw, bnd, ↓reduceIte, Nat.reduceEqDiff, rsvs, rsv, oneOf, rdN, ne_eq, Nat.reduceAdd, Nat.reduceMul, Nat.reduceLT, reduceCtorEq, Value.cells, setN, Value.oneCell', Nat.reduceLeDiff, undef, fcT, f0, f1, f5, c0, c1, c2, c3], by simp (disch := omega) only [bsW, WOp, WOq, WV, bo, gdc, gw, bnd, ↓reduceIte, Nat.reduceEqDiff, rsvs, rsv, oneOf, rdN, ne_eq, Nat.reduceAdd, Nat.reduceMul, Nat.reduceLT, reduceCtorEq, Value.cells, setN, Value.oneCell', Nat.reduceLeDiff, undef, fcT, f0, f1, f5, c0, c1, c2, c3], by simp (disch := omega) only [bsW, WOp, WOq, WV, bo, gdc, gw, bnd, ↓reduceIte, Nat.reduceEqDiff, rsvs, rsv, oneOf, rdN, ne_eq, Nat.reduceAdd, Nat.reduceMul, Nat.reduceLT, reduceCtorEq, Value.cells, setN, Value.oneCell', Nat.reduceLeDiff, undef, fcT, f0, f1, f5, c0, c1, c2, c3, Int.natCast_add, Int.natCast_one], by omega, by omega, by rw [← hg2]; exact hg, hs, by omega⟩
    · have hkn : k = n := by simp at b1; omega
      subst hkn
      simp (disch := omega) only [bsW, WOp, WOq, WV, bo, gdc, gw, bnd, ↓reduceIte, Nat.reduceEqDiff, rsvs, rsv, oneOf, rdN, ne_eq, Nat.reduceAdd, Nat.reduceMul, Nat.reduceLT, reduceCtorEq, Value.cells, setN, Value.oneCell', Nat.reduceLeDiff, undef, fcT, f0, f1, f5, b1]
      refine Is_e (vi ?_) hs
      rw [← hg, Nat.sub_self]
      rfl
  · rintro fr H' nx' ⟨k, l, hm, _⟩; omega
  · exact ⟨0, 1048576 - n, by omega, by omega, by simp (disch := omega) only [bsW, WOp, WOq, WV, bo, gdc, gw, bnd, ↓reduceIte, Nat.reduceEqDiff, rsvs, rsv, oneOf, rdN, ne_eq, Nat.reduceAdd, Nat.reduceMul, Nat.reduceLT, reduceCtorEq, Value.cells, setN, Value.oneCell', Nat.reduceLeDiff, undef, fcT], by simp (disch := omega) only [bsW, WOp, WOq, WV, bo, gdc, gw, bnd, ↓reduceIte, Nat.reduceEqDiff, rsvs, rsv, oneOf, rdN, ne_eq, Nat.reduceAdd, Nat.reduceMul, Nat.reduceLT, reduceCtorEq, Value.cells, setN, Value.oneCell', Nat.reduceLeDiff, undef, fcT], by simp (disch := omega) only [bsW, WOp, WOq, WV, bo, gdc, gw, bnd, ↓reduceIte, Nat.reduceEqDiff, rsvs, rsv, oneOf, rdN, ne_eq, Nat.reduceAdd, Nat.reduceMul, Nat.reduceLT, reduceCtorEq, Value.cells, setN, Value.oneCell', Nat.reduceLeDiff, undef, fcT, Int.natCast_zero], by omega, by omega, by unfold szS; rw [if_neg (by omega)]; rfl, Sub.refl _, by omega⟩

/-- An exhibit's copy. -/
structure New1 (H : Hp) (nx : Nat) (id : Int) (t : ByteArray) (fr : Int) (m : Nat) (mk : Nat → Int) (v : Value) (H' : Hp) (nx' : Nat) : Prop where
  ex : ∃ q, v = .agg #[.int .i64 id, .string t, .int .i64 fr, .slice (some ⟨q, 0, none⟩) m m] ∧ nx ≤ q ∧ q < nx' ∧ H' q = some (.rw (flat m 1 (fun i _ => mk i)) 3)
  s : Sub H H'
theorem toShowFrame (id : Int) (t : ByteArray) (fr : Int) (B : Option Addr) (m d : Nat) (mk : Nat → Int) (H : Hp) (nx : Nat) (hm : m ≤ 1048576) (h : Rd H B m 1 (fun i _ => mk i)) :
    AC Try.prog 21 #[.agg #[.int .i64 id, .string t, .int .i64 fr, .slice B m d]] H nx (New1 H nx id t fr m mk) := by
  refine AC_of x_laws_toShowFrame rfl fun hB => ?_
  simp (disch := omega) only [bsW, WOp, WOq, WV, bo, gdc, gw, bnd, ↓reduceIte, Nat.reduceEqDiff, rsvs, rsv, oneOf, rdN, ne_eq, Nat.reduceAdd, Nat.reduceMul, Nat.reduceLT, reduceCtorEq, Value.cells, setN, Value.oneCell', Nat.reduceLeDiff, undef, fcT, c_laws_toShowFrame]
  (repeat' (first | ((refine gif_split (fun hs_ => ?_) (fun hs_ => ?_)) <;> (have hp_ := hs_; (try simp only [decide_eq_true_eq, decide_eq_false_iff_not, beq_iff_eq, bne_iff_ne, beq_eq_false_iff_ne, Bool.not_eq_true, Bool.and_eq_true, Bool.or_eq_true, Bool.and_eq_false_iff, Bool.or_eq_false_iff, bne_eq_false_iff_eq, ne_eq] at hp_); (try simp (disch := omega) only [bsW, WOp, WOq, WV, bo, gdc, gw, bnd, ↓reduceIte, Nat.reduceEqDiff, rsvs, rsv, oneOf, rdN, ne_eq, Nat.reduceAdd, Nat.reduceMul, Nat.reduceLT, reduceCtorEq, Value.cells, setN, Value.oneCell', Nat.reduceLeDiff, undef, fcT, hs_]))) | ((refine newB_i (fun nb_ hb_ => ?_)); (try simp (disch := omega) only [bsW, WOp, WOq, WV, bo, gdc, gw, bnd, ↓reduceIte, Nat.reduceEqDiff, rsvs, rsv, oneOf, rdN, ne_eq, Nat.reduceAdd, Nat.reduceMul, Nat.reduceLT, reduceCtorEq, Value.cells, setN, Value.oneCell', Nat.reduceLeDiff, undef, fcT])) | (refine fun (hBd_ : Bd _ _) => ?_) | (refine And.intro (Sub.refl _) ?_) | (refine And.intro (sub_new (by assumption) (by assumption)) ?_) | (refine And.intro (And.intro (Sub.refl _) ?_) ?_) | (refine And.intro ?_ ?_; omega)))
  all_goals try (exfalso; omega)
  refine (toIntS _ _ _ (fun i _ => mk i) _ _ hm (h.sub (by (repeat (first | assumption | exact Sub.refl _ | (refine sub_up (nx := nx) ?_ hB ?_; omega)))))).mono2 ?_
  rintro v1 H1 nx1 hx1 ⟨⟨q, rfl, hq1, hq2, hq3⟩, ht1⟩
  rename_i nb1 hnb1 nb2 hnb2
  have e2 := ht1 nb2 _ (by rw [upd_ne (by omega)]; exact upd_same _ _ _)
  have e3 := ht1 nb_ _ (upd_same _ _ _)
  have hs1 : Sub H H1 := Sub.trans (by (repeat (first | assumption | exact Sub.refl _ | (refine sub_up (nx := nx) ?_ hB ?_; omega)))) ht1
  have hne : nb2 ≠ nb_ := by omega
  have hne2 : nb_ ≠ nb2 := by omega
  have hne3 : q ≠ nb2 := by omega
  have hne4 : q ≠ nb_ := by omega
  simp (disch := omega) only [bsW, WOp, WOq, WV, bo, gdc, gw, bnd, ↓reduceIte, Nat.reduceEqDiff, rsvs, rsv, oneOf, rdN, ne_eq, Nat.reduceAdd, Nat.reduceMul, Nat.reduceLT, reduceCtorEq, Value.cells, setN, Value.oneCell', Nat.reduceLeDiff, undef, fcT, e2, e3]
  refine ⟨⟨q, rfl, by omega, by omega, by simp (disch := omega) only [bsW, WOp, WOq, WV, bo, gdc, gw, bnd, ↓reduceIte, Nat.reduceEqDiff, rsvs, rsv, oneOf, rdN, ne_eq, Nat.reduceAdd, Nat.reduceMul, Nat.reduceLT, reduceCtorEq, Value.cells, setN, Value.oneCell', Nat.reduceLeDiff, undef, fcT, e2, e3]; exact hq3⟩, by (repeat (first | assumption | exact Sub.refl _ | (refine sub_up (nx := nx) ?_ hB ?_; omega)))⟩

theorem eqShowFrame (id : Int) (t : ByteArray) (fr : Int) (A B : Option Addr) (m c d : Nat) (f : Nat → Nat → Int) (H : Hp) (nx : Nat) (hm : m ≤ 17592186044416) (h : Rd H A m 1 f) (h' : Rd H B m 1 f) :
    PC Try.prog 23 #[.agg #[.int .i64 id, .string t, .int .i64 fr, .slice A m c], .agg #[.int .i64 id, .string t, .int .i64 fr, .slice B m d]] H nx (.bool true) := by
  refine AC_of x_laws_eqShowFrame rfl fun hB => ?_
  simp (disch := omega) only [bsW, WOp, WOq, WV, bo, gdc, gw, bnd, ↓reduceIte, Nat.reduceEqDiff, rsvs, rsv, oneOf, rdN, ne_eq, Nat.reduceAdd, Nat.reduceMul, Nat.reduceLT, reduceCtorEq, Value.cells, setN, Value.oneCell', Nat.reduceLeDiff, undef, fcT, bne_self_eq_false, beq_self_eq_true, c_laws_eqShowFrame]
  (repeat' (first | ((refine gif_split (fun hs_ => ?_) (fun hs_ => ?_)) <;> (have hp_ := hs_; (try simp only [decide_eq_true_eq, decide_eq_false_iff_not, beq_iff_eq, bne_iff_ne, beq_eq_false_iff_ne, Bool.not_eq_true, Bool.and_eq_true, Bool.or_eq_true, Bool.and_eq_false_iff, Bool.or_eq_false_iff, bne_eq_false_iff_eq, ne_eq] at hp_); (try simp (disch := omega) only [bsW, WOp, WOq, WV, bo, gdc, gw, bnd, ↓reduceIte, Nat.reduceEqDiff, rsvs, rsv, oneOf, rdN, ne_eq, Nat.reduceAdd, Nat.reduceMul, Nat.reduceLT, reduceCtorEq, Value.cells, setN, Value.oneCell', Nat.reduceLeDiff, undef, fcT, bne_self_eq_false, beq_self_eq_true, hs_]))) | ((refine newB_i (fun nb_ hb_ => ?_)); (try simp (disch := omega) only [bsW, WOp, WOq, WV, bo, gdc, gw, bnd, ↓reduceIte, Nat.reduceEqDiff, rsvs, rsv, oneOf, rdN, ne_eq, Nat.reduceAdd, Nat.reduceMul, Nat.reduceLT, reduceCtorEq, Value.cells, setN, Value.oneCell', Nat.reduceLeDiff, undef, fcT, bne_self_eq_false, beq_self_eq_true])) | ((first | (refine QC_i (eqIntS _ _ _ _ _ f _ _ hm (h.sub (by (repeat (first | assumption | exact Sub.refl _ | (refine sub_up (nx := nx) ?_ hB ?_; omega))))) (h'.sub (by (repeat (first | assumption | exact Sub.refl _ | (refine sub_up (nx := nx) ?_ hB ?_; omega)))))) ?_) | (refine PC.ac (eqIntS _ _ _ _ _ f _ _ hm (h.sub (by (repeat (first | assumption | exact Sub.refl _ | (refine sub_up (nx := nx) ?_ hB ?_; omega))))) (h'.sub (by (repeat (first | assumption | exact Sub.refl _ | (refine sub_up (nx := nx) ?_ hB ?_; omega)))))) ?_)); (try simp (disch := omega) only [bsW, WOp, WOq, WV, bo, gdc, gw, bnd, ↓reduceIte, Nat.reduceEqDiff, rsvs, rsv, oneOf, rdN, ne_eq, Nat.reduceAdd, Nat.reduceMul, Nat.reduceLT, reduceCtorEq, Value.cells, setN, Value.oneCell', Nat.reduceLeDiff, undef, fcT, bne_self_eq_false, beq_self_eq_true])) | (refine fun (hBd_ : Bd _ _) => ?_) | (refine And.intro (Sub.refl _) ?_) | (refine And.intro (sub_new (by assumption) (by assumption)) ?_) | (refine And.intro (And.intro (Sub.refl _) ?_) ?_) | (refine And.intro ?_ ?_; omega)))
  all_goals try (exfalso; simp_all; done)
  refine Is_e rfl ?_
  (repeat (first | assumption | exact Sub.refl _ | (refine sub_up (nx := nx) ?_ hB ?_; omega)))
theorem eqShowFrameS (A B : Option Addr) (n c d : Nat) (s : Shw) (H : Hp) (nx : Nat) (hn : n ≤ 17592186044416) (hm : ∀ i, i < n → s.m i ≤ 17592186044416) (h : RdS H A n s) (h' : RdS H B n s) :
    PC Try.prog 18 #[.slice A n c, .slice B n d] H nx (.bool true) := by
  refine AC_of x_laws_eqShowFrameS rfl fun hB => ?_
  simp (disch := omega) only [bsW, WOp, WOq, WV, bo, gdc, gw, bnd, ↓reduceIte, Nat.reduceEqDiff, rsvs, rsv, oneOf, rdN, ne_eq, Nat.reduceAdd, Nat.reduceMul, Nat.reduceLT, reduceCtorEq, Value.cells, setN, Value.oneCell', Nat.reduceLeDiff, undef, fcT, c_laws_eqShowFrameS]
  (repeat' (first | ((refine gif_split (fun hs_ => ?_) (fun hs_ => ?_)) <;> (have hp_ := hs_; (try simp only [decide_eq_true_eq, decide_eq_false_iff_not, beq_iff_eq, bne_iff_ne, beq_eq_false_iff_ne, Bool.not_eq_true, Bool.and_eq_true, Bool.or_eq_true, Bool.and_eq_false_iff, Bool.or_eq_false_iff, bne_eq_false_iff_eq, ne_eq] at hp_); (try simp (disch := omega) only [bsW, WOp, WOq, WV, bo, gdc, gw, bnd, ↓reduceIte, Nat.reduceEqDiff, rsvs, rsv, oneOf, rdN, ne_eq, Nat.reduceAdd, Nat.reduceMul, Nat.reduceLT, reduceCtorEq, Value.cells, setN, Value.oneCell', Nat.reduceLeDiff, undef, fcT, hs_]))) | ((refine newB_i (fun nb_ hb_ => ?_)); (try simp (disch := omega) only [bsW, WOp, WOq, WV, bo, gdc, gw, bnd, ↓reduceIte, Nat.reduceEqDiff, rsvs, rsv, oneOf, rdN, ne_eq, Nat.reduceAdd, Nat.reduceMul, Nat.reduceLT, reduceCtorEq, Value.cells, setN, Value.oneCell', Nat.reduceLeDiff, undef, fcT])) | (refine fun (hBd_ : Bd _ _) => ?_) | (refine And.intro (Sub.refl _) ?_) | (refine And.intro (sub_new (by assumption) (by assumption)) ?_) | (refine And.intro (And.intro (Sub.refl _) ?_) ?_) | (refine And.intro ?_ ?_; omega)))
  all_goals try (exfalso; simp_all; done)
  refine LpE_rule (fun m fr H' nx' => ∃ k : Nat, m = n - k + 1 ∧ k ≤ n ∧ fr 0 = .slice A n c ∧ fr 1 = .slice B n d ∧ fr 5 = .int .i64 k ∧ Sub H H' ∧ nx ≤ nx') ?_ ?_ (n + 1) ?_
  · rintro m K hK fr H' nx' ⟨k, hm', hk, f0, f1, f5, hs, hx⟩
    simp (disch := omega) only [bsW, WOp, WOq, WV, bo, gdc, gw, bnd, ↓reduceIte, Nat.reduceEqDiff, rsvs, rsv, oneOf, rdN, ne_eq, Nat.reduceAdd, Nat.reduceMul, Nat.reduceLT, reduceCtorEq, Value.cells, setN, Value.oneCell', Nat.reduceLeDiff, undef, fcT, f0, f1, f5]
    refine gif_split (fun b1 => ?_) (fun b1 => ?_)
    · have hlt : k < n := by simpa using b1
      obtain ⟨b, off, P1, d1, rfl, c0, c1, c2, c3, hd, hR⟩ := (h.sub hs).at_ hlt
      obtain ⟨b', off', P2, d2, rfl, e0, e1, e2, e3, hd2, hR2⟩ := (h'.sub hs).at_ hlt
      simp (disch := omega) only [bsW, WOp, WOq, WV, bo, gdc, gw, bnd, ↓reduceIte, Nat.reduceEqDiff, rsvs, rsv, oneOf, rdN, ne_eq, Nat.reduceAdd, Nat.reduceMul, Nat.reduceLT, reduceCtorEq, Value.cells, setN, Value.oneCell', Nat.reduceLeDiff, undef, fcT, f0, f1, f5, c0, c1, c2, c3, e0, e1, e2, e3, b1]
      (repeat' (first | ((refine gif_split (fun hs_ => ?_) (fun hs_ => ?_)) <;> (have hp_ := hs_; (try simp only [decide_eq_true_eq, decide_eq_false_iff_not, beq_iff_eq, bne_iff_ne, beq_eq_false_iff_ne, Bool.not_eq_true, Bool.and_eq_true, Bool.or_eq_true, Bool.and_eq_false_iff, Bool.or_eq_false_iff, bne_eq_false_iff_eq, ne_eq] at hp_); (try simp (disch := omega) only [bsW, WOp, WOq, WV, bo, gdc, gw, bnd, ↓reduceIte, Nat.reduceEqDiff, rsvs, rsv, oneOf, rdN, ne_eq, Nat.reduceAdd, Nat.reduceMul, Nat.reduceLT, reduceCtorEq, Value.cells, setN, Value.oneCell', Nat.reduceLeDiff, undef, fcT, f0, f1, f5, c0, c1, c2, c3, e0, e1, e2, e3, hs_]))) | ((refine newB_i (fun nb_ hb_ => ?_)); (try simp (disch := omega) only [bsW, WOp, WOq, WV, bo, gdc, gw, bnd, ↓reduceIte, Nat.reduceEqDiff, rsvs, rsv, oneOf, rdN, ne_eq, Nat.reduceAdd, Nat.reduceMul, Nat.reduceLT, reduceCtorEq, Value.cells, setN, Value.oneCell', Nat.reduceLeDiff, undef, fcT, f0, f1, f5, c0, c1, c2, c3, e0, e1, e2, e3])) | ((first | (refine QC_i (eqShowFrame _ _ _ _ _ _ _ _ _ _ _ (hm k hlt) hR hR2) ?_) | (refine PC.ac (eqShowFrame _ _ _ _ _ _ _ _ _ _ _ (hm k hlt) hR hR2) ?_)); (try simp (disch := omega) only [bsW, WOp, WOq, WV, bo, gdc, gw, bnd, ↓reduceIte, Nat.reduceEqDiff, rsvs, rsv, oneOf, rdN, ne_eq, Nat.reduceAdd, Nat.reduceMul, Nat.reduceLT, reduceCtorEq, Value.cells, setN, Value.oneCell', Nat.reduceLeDiff, undef, fcT, f0, f1, f5, c0, c1, c2, c3, e0, e1, e2, e3])) | (refine fun (hBd_ : Bd _ _) => ?_) | (refine And.intro (Sub.refl _) ?_) | (refine And.intro (sub_new (by assumption) (by assumption)) ?_) | (refine And.intro (And.intro (Sub.refl _) ?_) ?_) | (refine And.intro ?_ ?_; omega)))
      refine hK _ _ _ ?_
      refine ⟨k + 1, by omega, by omega, by simp (disch := omega) only [bsW, WOp, WOq, WV, bo, gdc, gw, bnd, ↓reduceIte, Nat.reduceEqDiff, rsvs, rsv, oneOf, rdN, ne_eq, Nat.reduceAdd, Nat.reduceMul, Nat.reduceLT, reduceCtorEq, Value.cells, setN, Value.oneCell', Nat.reduceLeDiff, undef, fcT, f0, f1, f5, c0, c1, c2, c3, e0, e1, e2, e3], by simp (disch := omega) only [bsW, WOp, WOq, WV, bo, gdc, gw, bnd, ↓reduceIte, Nat.reduceEqDiff, rsvs, rsv, oneOf, rdN, ne_eq, Nat.reduceAdd, Nat.reduceMul, Nat.reduceLT, reduceCtorEq, Value.cells, setN, Value.oneCell', Nat.reduceLeDiff, undef, fcT, f0, f1, f5, c0, c1, c2, c3, e0, e1, e2, e3], by simp (disch := omega) only [bsW, WOp, WOq, WV, bo, gdc, gw, bnd, ↓reduceIte, Nat.reduceEqDiff, rsvs, rsv, oneOf, rdN, ne_eq, Nat.reduceAdd, Nat.reduceMul, Nat.reduceLT, reduceCtorEq, Value.cells, setN, Value.oneCell', Nat.reduceLeDiff, undef, fcT, f0, f1, f5, c0, c1, c2, c3, e0, e1, e2, e3, Int.natCast_add, Int.natCast_one], hs, by omega⟩
    · simp (disch := omega) only [bsW, WOp, WOq, WV, bo, gdc, gw, bnd, ↓reduceIte, Nat.reduceEqDiff, rsvs, rsv, oneOf, rdN, ne_eq, Nat.reduceAdd, Nat.reduceMul, Nat.reduceLT, reduceCtorEq, Value.cells, setN, Value.oneCell', Nat.reduceLeDiff, undef, fcT, f0, f1, f5, b1]
      exact Is_i hs
  · rintro fr H' nx' ⟨k, hm', _⟩; omega
  · exact ⟨0, by omega, by omega, by simp (disch := omega) only [bsW, WOp, WOq, WV, bo, gdc, gw, bnd, ↓reduceIte, Nat.reduceEqDiff, rsvs, rsv, oneOf, rdN, ne_eq, Nat.reduceAdd, Nat.reduceMul, Nat.reduceLT, reduceCtorEq, Value.cells, setN, Value.oneCell', Nat.reduceLeDiff, undef, fcT], by simp (disch := omega) only [bsW, WOp, WOq, WV, bo, gdc, gw, bnd, ↓reduceIte, Nat.reduceEqDiff, rsvs, rsv, oneOf, rdN, ne_eq, Nat.reduceAdd, Nat.reduceMul, Nat.reduceLT, reduceCtorEq, Value.cells, setN, Value.oneCell', Nat.reduceLeDiff, undef, fcT], by simp (disch := omega) only [bsW, WOp, WOq, WV, bo, gdc, gw, bnd, ↓reduceIte, Nat.reduceEqDiff, rsvs, rsv, oneOf, rdN, ne_eq, Nat.reduceAdd, Nat.reduceMul, Nat.reduceLT, reduceCtorEq, Value.cells, setN, Value.oneCell', Nat.reduceLeDiff, undef, fcT, Int.natCast_zero], Sub.refl _, by omega⟩
/-- The exhibits' copies. -/
structure NewSh (H : Hp) (n : Nat) (s : Shw) (v : Value) (H' : Hp) (nx' : Nat) : Prop where
  ex : ∃ q, v = .slice (some ⟨q, 0, none⟩) n n ∧ RdS H' (some ⟨q, 0, none⟩) n s
  s : Sub H H'
theorem toShowFrameS (A : Option Addr) (n c : Nat) (s : Shw) (H : Hp) (nx : Nat) (hn : n ≤ 1048576) (hm : ∀ i, i < n → s.m i ≤ 1048576) (h : RdS H A n s) :
    AC Try.prog 16 #[.slice A n c] H nx (NewSh H n s) := by
  refine AC_of x_laws_toShowFrameS rfl fun hB => ?_
  simp (disch := omega) only [bsW, WOp, WOq, WV, bo, gdc, gw, bnd, ↓reduceIte, Nat.reduceEqDiff, rsvs, rsv, oneOf, rdN, ne_eq, Nat.reduceAdd, Nat.reduceMul, Nat.reduceLT, reduceCtorEq, Value.cells, setN, Value.oneCell', Nat.reduceLeDiff, undef, fcT, c_laws_toShowFrameS]
  refine ⟨by omega, newB_i fun nb hnb => ?_⟩
  rw [mkRow_flatV _ n 4 (by omega) rfl]
  simp (disch := omega) only [bsW, WOp, WOq, WV, bo, gdc, gw, bnd, ↓reduceIte, Nat.reduceEqDiff, rsvs, rsv, oneOf, rdN, ne_eq, Nat.reduceAdd, Nat.reduceMul, Nat.reduceLT, reduceCtorEq, Value.cells, setN, Value.oneCell', Nat.reduceLeDiff, undef, fcT]
  refine LpE_rule (fun m fr H' nx' => ∃ (k : Nat) (B : Nat → Option Addr) (g : Nat → Nat → Value), m = n - k + 1 ∧ k ≤ n ∧ fr 0 = .slice A n c ∧ fr 3 = .slice (some ⟨nb, 0, none⟩) n n ∧ fr 4 = .int .i64 k ∧ Sub H H' ∧ nb + 1 ≤ nx' ∧
    H' nb = some (.rw (flatV n 4 g) 35) ∧ (∀ i j, i < k → j < 4 → g i j = s.cells B s.m i j) ∧ (∀ i, i < k → ∃ q, B i = some ⟨q, 0, none⟩ ∧ q ≠ nb ∧ H' q = some (.rw (flat (s.m i) 1 (fun r _ => s.mks i r)) 3))) ?_ ?_ (n + 1) ?_
  · rintro m K hK fr H' nx' ⟨k, B, g, hm', hk, f0, f3, f4, hs, hx, hb, hg, hB2⟩
    simp (disch := omega) only [bsW, WOp, WOq, WV, bo, gdc, gw, bnd, ↓reduceIte, Nat.reduceEqDiff, rsvs, rsv, oneOf, rdN, ne_eq, Nat.reduceAdd, Nat.reduceMul, Nat.reduceLT, reduceCtorEq, Value.cells, setN, Value.oneCell', Nat.reduceLeDiff, undef, fcT, f0, f3, f4]
    refine gif_split (fun b1 => ?_) (fun b1 => ?_)
    · have hlt : k < n := by simpa using b1
      obtain ⟨b, off, P1, d1, rfl, c0, c1, c2, c3, hd, hR⟩ := (h.sub hs).at_ hlt
      simp (disch := omega) only [bsW, WOp, WOq, WV, bo, gdc, gw, bnd, ↓reduceIte, Nat.reduceEqDiff, rsvs, rsv, oneOf, rdN, ne_eq, Nat.reduceAdd, Nat.reduceMul, Nat.reduceLT, reduceCtorEq, Value.cells, setN, Value.oneCell', Nat.reduceLeDiff, undef, fcT, f0, f3, f4, c0, c1, c2, c3, b1]
      (repeat' (first | ((refine gif_split (fun hs_ => ?_) (fun hs_ => ?_)) <;> (have hp_ := hs_; (try simp only [decide_eq_true_eq, decide_eq_false_iff_not, beq_iff_eq, bne_iff_ne, beq_eq_false_iff_ne, Bool.not_eq_true, Bool.and_eq_true, Bool.or_eq_true, Bool.and_eq_false_iff, Bool.or_eq_false_iff, bne_eq_false_iff_eq, ne_eq] at hp_); (try simp (disch := omega) only [bsW, WOp, WOq, WV, bo, gdc, gw, bnd, ↓reduceIte, Nat.reduceEqDiff, rsvs, rsv, oneOf, rdN, ne_eq, Nat.reduceAdd, Nat.reduceMul, Nat.reduceLT, reduceCtorEq, Value.cells, setN, Value.oneCell', Nat.reduceLeDiff, undef, fcT, f0, f3, f4, c0, c1, c2, c3, hs_]))) | ((refine newB_i (fun nb_ hb_ => ?_)); (try simp (disch := omega) only [bsW, WOp, WOq, WV, bo, gdc, gw, bnd, ↓reduceIte, Nat.reduceEqDiff, rsvs, rsv, oneOf, rdN, ne_eq, Nat.reduceAdd, Nat.reduceMul, Nat.reduceLT, reduceCtorEq, Value.cells, setN, Value.oneCell', Nat.reduceLeDiff, undef, fcT, f0, f3, f4, c0, c1, c2, c3])) | (refine fun (hBd_ : Bd _ _) => ?_) | (refine And.intro (Sub.refl _) ?_) | (refine And.intro (sub_new (by assumption) (by assumption)) ?_) | (refine And.intro (And.intro (Sub.refl _) ?_) ?_) | (refine And.intro ?_ ?_; omega)))
      all_goals try (exfalso; omega)
      refine (toShowFrame (s.id k) (s.title k) (s.fr k) P1 (s.m k) d1 (s.mks k) _ _ (hm k hlt) hR).mono2 ?_
      rintro v1 H1 nx1 hx1 ⟨⟨q, rfl, hq1, hq2, hq3⟩, ht1⟩
      have hb1 := ht1 _ _ hb
      simp (disch := omega) only [bsW, WOp, WOq, WV, bo, gdc, gw, bnd, ↓reduceIte, Nat.reduceEqDiff, rsvs, rsv, oneOf, rdN, ne_eq, Nat.reduceAdd, Nat.reduceMul, Nat.reduceLT, reduceCtorEq, Value.cells, setN, Value.oneCell', Nat.reduceLeDiff, undef, fcT, f0, f3, f4, hb1, flatV_length]
      (repeat' (first | ((refine gif_split (fun hs_ => ?_) (fun hs_ => ?_)) <;> (have hp_ := hs_; (try simp only [decide_eq_true_eq, decide_eq_false_iff_not, beq_iff_eq, bne_iff_ne, beq_eq_false_iff_ne, Bool.not_eq_true, Bool.and_eq_true, Bool.or_eq_true, Bool.and_eq_false_iff, Bool.or_eq_false_iff, bne_eq_false_iff_eq, ne_eq] at hp_); (try simp (disch := omega) only [bsW, WOp, WOq, WV, bo, gdc, gw, bnd, ↓reduceIte, Nat.reduceEqDiff, rsvs, rsv, oneOf, rdN, ne_eq, Nat.reduceAdd, Nat.reduceMul, Nat.reduceLT, reduceCtorEq, Value.cells, setN, Value.oneCell', Nat.reduceLeDiff, undef, fcT, f0, f3, f4, hb1, flatV_length, hs_]))) | ((refine newB_i (fun nb_ hb_ => ?_)); (try simp (disch := omega) only [bsW, WOp, WOq, WV, bo, gdc, gw, bnd, ↓reduceIte, Nat.reduceEqDiff, rsvs, rsv, oneOf, rdN, ne_eq, Nat.reduceAdd, Nat.reduceMul, Nat.reduceLT, reduceCtorEq, Value.cells, setN, Value.oneCell', Nat.reduceLeDiff, undef, fcT, f0, f3, f4, hb1, flatV_length])) | (refine fun (hBd_ : Bd _ _) => ?_) | (refine And.intro (Sub.refl _) ?_) | (refine And.intro (sub_new (by assumption) (by assumption)) ?_) | (refine And.intro (And.intro (Sub.refl _) ?_) ?_) | (refine And.intro ?_ ?_; omega)))
      all_goals try (exfalso; omega)
      refine hK _ _ _ ?_
      refine ⟨k + 1, fun i => if i = k then some ⟨q, 0, none⟩ else B i, setV (setV (setV (setV g k 0 (.int .i64 (s.id k))) k 1 (.string (s.title k))) k 2 (.int .i64 (s.fr k))) k 3 (.slice (some ⟨q, 0, none⟩) (s.m k) (s.m k)), by omega, by omega, by simp (disch := omega) only [bsW, WOp, WOq, WV, bo, gdc, gw, bnd, ↓reduceIte, Nat.reduceEqDiff, rsvs, rsv, oneOf, rdN, ne_eq, Nat.reduceAdd, Nat.reduceMul, Nat.reduceLT, reduceCtorEq, Value.cells, setN, Value.oneCell', Nat.reduceLeDiff, undef, fcT, f0, f3, f4, hb1, flatV_length], by simp (disch := omega) only [bsW, WOp, WOq, WV, bo, gdc, gw, bnd, ↓reduceIte, Nat.reduceEqDiff, rsvs, rsv, oneOf, rdN, ne_eq, Nat.reduceAdd, Nat.reduceMul, Nat.reduceLT, reduceCtorEq, Value.cells, setN, Value.oneCell', Nat.reduceLeDiff, undef, fcT, f0, f3, f4, hb1, flatV_length], by simp (disch := omega) only [bsW, WOp, WOq, WV, bo, gdc, gw, bnd, ↓reduceIte, Nat.reduceEqDiff, rsvs, rsv, oneOf, rdN, ne_eq, Nat.reduceAdd, Nat.reduceMul, Nat.reduceLT, reduceCtorEq, Value.cells, setN, Value.oneCell', Nat.reduceLeDiff, undef, fcT, f0, f3, f4, hb1, flatV_length, Int.natCast_add, Int.natCast_one], sub_upd_old (hs.trans ht1) (none_of_bd hB hnb), by omega, ?_, fun i j hi hj => ?_, fun i hi => ?_⟩
      · rw [upd_same]
        have e : ∀ (f : Nat → Nat → Value), flatV n 4 f = flatV n 4 f ++ [] := fun f => (List.append_nil _).symm
        (try simp only [setN, Nat.add_zero])
        rw [e g, flatV_set0 hlt (by omega), flatV_set hlt (by omega), flatV_set hlt (by omega), flatV_set hlt (by omega), List.append_nil]
      · by_cases hik : i = k
        · subst hik
          match j, hj with
          | 0, _ => simp [setV, Shw.cells]
          | 1, _ => simp [setV, Shw.cells]
          | 2, _ => simp [setV, Shw.cells]
          | 3, _ => simp [setV, Shw.cells]
        · have := hg i j (by omega) hj
          match j, hj with
          | 0, _ => simpa [setV, Shw.cells, hik] using this
          | 1, _ => simpa [setV, Shw.cells, hik] using this
          | 2, _ => simpa [setV, Shw.cells, hik] using this
          | 3, _ => simpa [setV, Shw.cells, hik] using this
      · by_cases hik : i = k
        · subst hik
          exact ⟨q, by simp, by omega, by rw [upd_ne (by omega)]; exact hq3⟩
        · obtain ⟨q2, e1, e2, e3⟩ := hB2 i (by omega)
          exact ⟨q2, by simp [hik, e1], e2, by rw [upd_ne e2]; exact ht1 _ _ e3⟩
    · simp (disch := omega) only [bsW, WOp, WOq, WV, bo, gdc, gw, bnd, ↓reduceIte, Nat.reduceEqDiff, rsvs, rsv, oneOf, rdN, ne_eq, Nat.reduceAdd, Nat.reduceMul, Nat.reduceLT, reduceCtorEq, Value.cells, setN, Value.oneCell', Nat.reduceLeDiff, undef, fcT, f0, f3, f4, b1]
      have hkn : k = n := by simp at b1; omega
      subst hkn
      refine ⟨⟨nb, rfl, ⟨B, s.m, ?_, fun i hi => ?_⟩⟩, hs⟩
      · have : RdV H' (some ⟨nb, 0, none⟩) k 4 g := RdV.rw_ (sp := []) (by rw [List.append_nil]; exact hb)
        exact ⟨fun h0 => by
          obtain ⟨b, off, e, hc⟩ := this.at_ h0
          exact ⟨b, off, e, fun i j hi hj => by rw [← hg i j hi hj]; exact hc i j hi hj⟩⟩
      · obtain ⟨q2, e1, e2, e3⟩ := hB2 i hi
        rw [e1]
        exact ⟨Nat.le_refl _, Rd.of e3⟩
  · rintro fr H' nx' ⟨k, B, g, hm', _⟩; omega
  · refine ⟨0, fun _ => none, _, by omega, by omega, by simp (disch := omega) only [bsW, WOp, WOq, WV, bo, gdc, gw, bnd, ↓reduceIte, Nat.reduceEqDiff, rsvs, rsv, oneOf, rdN, ne_eq, Nat.reduceAdd, Nat.reduceMul, Nat.reduceLT, reduceCtorEq, Value.cells, setN, Value.oneCell', Nat.reduceLeDiff, undef, fcT], by simp (disch := omega) only [bsW, WOp, WOq, WV, bo, gdc, gw, bnd, ↓reduceIte, Nat.reduceEqDiff, rsvs, rsv, oneOf, rdN, ne_eq, Nat.reduceAdd, Nat.reduceMul, Nat.reduceLT, reduceCtorEq, Value.cells, setN, Value.oneCell', Nat.reduceLeDiff, undef, fcT], by simp (disch := omega) only [bsW, WOp, WOq, WV, bo, gdc, gw, bnd, ↓reduceIte, Nat.reduceEqDiff, rsvs, rsv, oneOf, rdN, ne_eq, Nat.reduceAdd, Nat.reduceMul, Nat.reduceLT, reduceCtorEq, Value.cells, setN, Value.oneCell', Nat.reduceLeDiff, undef, fcT, Int.natCast_zero], ?_, by omega, upd_same _ _ _, fun i j hi => by omega, fun i hi => by omega⟩
    exact sub_upd_old (Sub.refl _) (none_of_bd hB hnb)
end Go.Proofs.Ytmmbolempcpcjaa
