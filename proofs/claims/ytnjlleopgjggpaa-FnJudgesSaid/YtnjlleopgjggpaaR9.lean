/- The strictest judge. -/
import Derived.Test.YtnjlleopgjggpaaR5
set_option linter.unusedVariables false
set_option linter.unusedSimpArgs false
set_option maxRecDepth 100000
set_option maxHeartbeats 1000000
namespace Go.Proofs.Ytnjlleopgjggpaa
open Go Go.RowKit Go.Proofs

theorem idxI (A : Option Addr) (n c : Nat) (mk : Nat → Int) (x : Int) (H : Hp) (nx : Nat) (hn : n ≤ 1048576) (h : Rd H A n 1 (fun q _ => mk q)) :
    PC Try.prog 39 #[.slice A n c, .int .i64 x] H nx (.int .i64 (idxOf (fun j => mk j == x) n)) := by
  refine AC_of x_slices_Index_int rfl fun hB => ?_
  simp (disch := omega) only [bsW, WOp, WOq, WV, bo, eqN, gdc, gw, bnd, ↓reduceIte, Nat.reduceEqDiff, rsvs, rsv, oneOf, rdN, ne_eq, Nat.reduceAdd, Nat.reduceMul, Nat.reduceLT, reduceCtorEq, Value.cells, setN, Value.oneCell', Nat.reduceLeDiff, undef, fcT, c_slices_Index_int]
  refine LpE_rule (fun m fr H' nx' => ∃ k : Nat, m = n - k + 1 ∧ k ≤ n ∧ fr 0 = .slice A n c ∧ fr 1 = .int .i64 x ∧ fr 7 = .int .i64 n ∧ fr 8 = .int .i64 k ∧ Sub H H' ∧ nx ≤ nx' ∧ ∀ i, i < k → (mk i == x) = false) ?_ ?_ (n + 1) ?_
  · rintro m K hK fr H' nx' ⟨k, hm, hk, f0, f1, f7, f8, hs, hx, hall⟩
    simp (disch := omega) only [bsW, WOp, WOq, WV, bo, eqN, gdc, gw, bnd, ↓reduceIte, Nat.reduceEqDiff, rsvs, rsv, oneOf, rdN, ne_eq, Nat.reduceAdd, Nat.reduceMul, Nat.reduceLT, reduceCtorEq, Value.cells, setN, Value.oneCell', Nat.reduceLeDiff, undef, fcT, f0, f1, f7, f8]
    refine gif_split (fun b1 => ?_) (fun b1 => ?_)
    · have hlt : k < n := by simpa using b1
      obtain ⟨b, off, rfl, hc⟩ := h.at_ (by omega)
      have c0 := rd_sub hs (hc k 0 hlt (by omega))
      simp only [Nat.add_zero, Nat.mul_one] at c0
      simp (disch := omega) only [bsW, WOp, WOq, WV, bo, eqN, gdc, gw, bnd, ↓reduceIte, Nat.reduceEqDiff, rsvs, rsv, oneOf, rdN, ne_eq, Nat.reduceAdd, Nat.reduceMul, Nat.reduceLT, reduceCtorEq, Value.cells, setN, Value.oneCell', Nat.reduceLeDiff, undef, fcT, f0, f1, f7, f8, c0, Nat.mul_one, b1]
      (repeat' (first | ((with_reducible refine gif_split (fun hs_ => ?_) (fun hs_ => ?_)) <;> (have hp_ := hs_; (try simp only [hpL, ne_eq] at hp_); (try simp (disch := omega) only [bsW, WOp, WOq, WV, bo, eqN, gdc, gw, bnd, ↓reduceIte, Nat.reduceEqDiff, rsvs, rsv, oneOf, rdN, ne_eq, Nat.reduceAdd, Nat.reduceMul, Nat.reduceLT, reduceCtorEq, Value.cells, setN, Value.oneCell', Nat.reduceLeDiff, undef, fcT, f0, f1, f7, f8, c0, Nat.mul_one, hs_]))) | ((first | (with_reducible refine newB_i (fun nb_ hb_ => ?_)) | (with_reducible refine RgE_i (fun (hBd_ : Bd _ _) => ?_))); (try simp (disch := omega) only [bsW, WOp, WOq, WV, bo, eqN, gdc, gw, bnd, ↓reduceIte, Nat.reduceEqDiff, rsvs, rsv, oneOf, rdN, ne_eq, Nat.reduceAdd, Nat.reduceMul, Nat.reduceLT, reduceCtorEq, Value.cells, setN, Value.oneCell', Nat.reduceLeDiff, undef, fcT, f0, f1, f7, f8, c0, Nat.mul_one])) | (with_reducible refine fun (hBd_ : Bd _ _) => ?_) | ((first | (with_reducible refine @And.intro (Sub _ _) _ ?_ ?_) | ((with_reducible refine @And.intro (Sub _ _ ∧ _) _ ?_ ?_); (with_reducible refine @And.intro (Sub _ _) _ ?_ ?_))); exact sbX) | ((with_reducible refine And.intro ?_ ?_); omega)))
      · refine Is_e ?_ hs
        rw [idxOf_hit hlt (by simp; omega) hall]
      · refine hK _ _ _ ?_
        refine ⟨k + 1, by omega, by omega, by simp (disch := omega) only [bsW, ↓reduceIte, Nat.reduceEqDiff, ne_eq, reduceCtorEq, fcT, f0, f1, f7, f8, c0, Nat.mul_one], by simp (disch := omega) only [bsW, ↓reduceIte, Nat.reduceEqDiff, ne_eq, reduceCtorEq, fcT, f0, f1, f7, f8, c0, Nat.mul_one], by simp (disch := omega) only [bsW, ↓reduceIte, Nat.reduceEqDiff, ne_eq, reduceCtorEq, fcT, f0, f1, f7, f8, c0, Nat.mul_one], by simp (disch := omega) only [bsW, ↓reduceIte, Nat.reduceEqDiff, ne_eq, reduceCtorEq, fcT, f0, f1, f7, f8, c0, Nat.mul_one, Int.natCast_add, Int.natCast_one], hs, by omega, ?_⟩
        intro i hi
        rcases Nat.lt_succ_iff_lt_or_eq.1 hi with hi | rfl
        · exact hall i hi
        · simp; omega
    · simp (disch := omega) only [bsW, WOp, WOq, WV, bo, eqN, gdc, gw, bnd, ↓reduceIte, Nat.reduceEqDiff, rsvs, rsv, oneOf, rdN, ne_eq, Nat.reduceAdd, Nat.reduceMul, Nat.reduceLT, reduceCtorEq, Value.cells, setN, Value.oneCell', Nat.reduceLeDiff, undef, fcT, f0, f1, f7, f8, b1]
      have hkn : k = n := by simp at b1; omega
      subst hkn
      refine Is_e ?_ hs
      rw [idxOf_none hall]
  · rintro fr H' nx' ⟨k, hm, _⟩; omega
  · exact ⟨0, by omega, by omega, by simp (disch := omega) only [bsW, ↓reduceIte, Nat.reduceEqDiff, ne_eq, reduceCtorEq, fcT], by simp (disch := omega) only [bsW, ↓reduceIte, Nat.reduceEqDiff, ne_eq, reduceCtorEq, fcT], by simp (disch := omega) only [bsW, ↓reduceIte, Nat.reduceEqDiff, ne_eq, reduceCtorEq, fcT], by simp (disch := omega) only [bsW, ↓reduceIte, Nat.reduceEqDiff, ne_eq, reduceCtorEq, fcT, Int.natCast_zero], Sub.refl _, by omega, by intro i hi; omega⟩
def colS (s : Shw) (j : Nat) : Nat → Int
  | 0 => 0
  | k + 1 => colS s j k + s.mks k j
theorem colS_bd {n : Nat} {s : Shw} (h : exsB n s = true) {j : Nat} (hj : j < s.m 0) : ∀ k, k ≤ n → 0 ≤ colS s j k ∧ colS s j k ≤ 100 * k
  | 0, _ => by simp [colS]
  | k + 1, hk => by
    have h1 := colS_bd h hj k (by omega)
    obtain ⟨_, _, _, _, hok, hm⟩ := exs_at h (show k < n by omega)
    have h2 := hok j (by omega)
    simp only [colS]
    omega
theorem mnV_le {T : Nat → Int} {i : Nat} : ∀ k, i < k → mnV T k ≤ T i
  | 0, h => by omega
  | k + 1, h => by
    have e : mnV T (k + 1) = if T k < mnV T k then T k else mnV T k := rfl
    rw [e]
    rcases Nat.lt_succ_iff_lt_or_eq.1 h with h | rfl
    · have := mnV_le (T := T) k h
      split <;> omega
    · split <;> omega
def stI (T : Nat → Int) (k : Nat) (w best : Int) : Prop := (k = 0 ∧ best = 1001 ∧ w = 0) ∨ (0 < k ∧ best = mnV T k ∧ ∃ wn : Nat, w = wn ∧ wn < k ∧ best = T wn ∧ ∀ i, i < wn → T i ≠ best)
theorem stI_yes {T : Nat → Int} {k : Nat} {w best : Int} (h : stI T k w best) (hlt : T k < best) : stI T (k + 1) k (T k) := by
  right
  refine ⟨by omega, ?_, k, rfl, by omega, rfl, fun i hi => ?_⟩
  · rcases h with ⟨rfl, _, _⟩ | ⟨_, e, _⟩
    · simp [mnV]
    · have e2 : mnV T (k + 1) = if T k < mnV T k then T k else mnV T k := rfl
      rw [e2, if_pos (by omega)]
  · rcases h with ⟨rfl, _, _⟩ | ⟨_, e, _⟩
    · omega
    · have := mnV_le (T := T) k hi; omega
theorem stI_no {T : Nat → Int} {k : Nat} {w best : Int} (h : stI T k w best) (hlt : ¬ T k < best) (h1 : T k ≤ 1000) : stI T (k + 1) w best := by
  rcases h with ⟨rfl, e, _⟩ | ⟨h0, e, wn, e1, h2, e3, h4⟩
  · omega
  · right
    have e2 : mnV T (k + 1) = if T k < mnV T k then T k else mnV T k := rfl
    exact ⟨by omega, by rw [e2, if_neg (by omega)]; exact e, wn, e1, by omega, e3, h4⟩
theorem stI_end {T : Nat → Int} {k : Nat} {w best : Int} (h : stI T k w best) (hk : 0 < k) : best = mnV T k ∧ w = idxOf (fun j => T j == mnV T k) k := by
  rcases h with ⟨rfl, _, _⟩ | ⟨h0, e, wn, e1, h2, e3, h4⟩
  · omega
  · refine ⟨e, ?_⟩
    rw [idxOf_hit (p := fun j => T j == mnV T k) h2 (by simp; omega) (fun i hi => by have := h4 i hi; simp; omega)]
    exact e1
noncomputable def vStrict (n : Nat) (s : Shw) : Value :=
  if exsB n s = true ∧ n ≠ 0 then .tuple #[.int .i64 (idxOf (fun j => colS s j n == mnV (fun j => colS s j n) (s.m 0)) (s.m 0)), .int .i64 (mnV (fun j => colS s j n) (s.m 0)), .bool true] else .tuple #[.int .i64 0, .int .i64 0, .bool false]

theorem sStrictJudge (A : Option Addr) (n c : Nat) (s : Shw) (H : Hp) (nx : Nat) (hn : n ≤ 17592186044416) (h : RdS H A n s) (hw : szOk n s) :
    PC Try.prog 11 #[.slice A n c] H nx (vStrict n s) := by
  refine AC_of x_spec_StrictJudge rfl fun hB => ?_
  by_cases hg : exsB n s = true
  · simp (disch := omega) only [bsW, WOp, WOq, WV, bo, eqN, gdc, gw, bnd, ↓reduceIte, Nat.reduceEqDiff, rsvs, rsv, oneOf, rdN, ne_eq, Nat.reduceAdd, Nat.reduceMul, Nat.reduceLT, reduceCtorEq, Value.cells, setN, Value.oneCell', Nat.reduceLeDiff, undef, fcT, hg, c_spec_StrictJudge]
    (repeat' (first | ((with_reducible refine gif_split (fun hs_ => ?_) (fun hs_ => ?_)) <;> (have hp_ := hs_; (try simp only [hpL, ne_eq] at hp_); (try simp (disch := omega) only [bsW, WOp, WOq, WV, bo, eqN, gdc, gw, bnd, ↓reduceIte, Nat.reduceEqDiff, rsvs, rsv, oneOf, rdN, ne_eq, Nat.reduceAdd, Nat.reduceMul, Nat.reduceLT, reduceCtorEq, Value.cells, setN, Value.oneCell', Nat.reduceLeDiff, undef, fcT, hg, hs_]))) | ((first | (with_reducible refine newB_i (fun nb_ hb_ => ?_)) | ((with_reducible show QC _ _ _ _ _ _); (first | (refine QC_i (l23Good A n c s _ _ hn h hw) ?_))) | ((with_reducible show AC _ _ _ _ _ _); (first | (refine PC.ac (l23Good A n c s _ _ hn h hw) ?_))) | (with_reducible refine RgE_i (fun (hBd_ : Bd _ _) => ?_))); (try simp (disch := omega) only [bsW, WOp, WOq, WV, bo, eqN, gdc, gw, bnd, ↓reduceIte, Nat.reduceEqDiff, rsvs, rsv, oneOf, rdN, ne_eq, Nat.reduceAdd, Nat.reduceMul, Nat.reduceLT, reduceCtorEq, Value.cells, setN, Value.oneCell', Nat.reduceLeDiff, undef, fcT, hg])) | (with_reducible refine fun (hBd_ : Bd _ _) => ?_) | ((first | (with_reducible refine @And.intro (Sub _ _) _ ?_ ?_) | ((with_reducible refine @And.intro (Sub _ _ ∧ _) _ ?_ ?_); (with_reducible refine @And.intro (Sub _ _) _ ?_ ?_))); exact sbX) | ((with_reducible refine And.intro ?_ ?_); omega)))
    all_goals try (exfalso; omega)
    · exact Is_e (by rw [vStrict, if_neg (by omega)]) (Sub.refl H)
    have hn0 : 0 < n := by omega
    have hn10 : n ≤ 10 := (exsB_iff.1 hg).2
    obtain ⟨_, _, hm3, hm7, _, _⟩ := exs_at hg hn0
    obtain ⟨B, d, q1, q2⟩ := h.ex
    obtain ⟨b, off, rfl, hc⟩ := q1.at_ (by omega)
    have z3 : rd H b (off + 3) = some (.slice (B 0) (s.m 0) (d 0)) := by have e := hc 0 3 (by omega) (by omega); rw [Nat.zero_mul, Nat.add_zero] at e; exact e
    refine LpE_rule (fun mm fr H' nx' => ∃ (k : Nat) (w best : Int), mm = s.m 0 - k + 1 ∧ k ≤ s.m 0 ∧ fr 0 = .slice (some ⟨b, off, none⟩) n c ∧ fr 5 = .int .i64 w ∧ fr 6 = .int .i64 best ∧ fr 7 = .int .i64 k ∧ Sub H H' ∧ nx ≤ nx' ∧ stI (fun j => colS s j n) k w best) ?_ ?_ (s.m 0 + 1) ?_
    · rintro mm K hK fr H' nx' ⟨k, w, best, hmm, hk, f0, f5, f6, f7, hs, hx, hst⟩
      have z3' := rd_sub hs z3
      simp (disch := omega) only [bsW, WOp, WOq, WV, bo, eqN, gdc, gw, bnd, ↓reduceIte, Nat.reduceEqDiff, rsvs, rsv, oneOf, rdN, ne_eq, Nat.reduceAdd, Nat.reduceMul, Nat.reduceLT, reduceCtorEq, Value.cells, setN, Value.oneCell', Nat.reduceLeDiff, undef, fcT, f0, f5, f6, f7, z3', Int.toNat_zero, Nat.zero_mul, Nat.add_zero]
      refine ⟨by omega, ?_⟩
      refine gif_split (fun b1 => ?_) (fun b1 => ?_)
      · have hlt : k < s.m 0 := by simpa using b1
        simp (disch := omega) only [bsW, WOp, WOq, WV, bo, eqN, gdc, gw, bnd, ↓reduceIte, Nat.reduceEqDiff, rsvs, rsv, oneOf, rdN, ne_eq, Nat.reduceAdd, Nat.reduceMul, Nat.reduceLT, reduceCtorEq, Value.cells, setN, Value.oneCell', Nat.reduceLeDiff, undef, fcT, f0, f5, f6, f7, z3', Int.toNat_zero, Nat.zero_mul, Nat.add_zero, b1]
        refine LpE_rule (fun mm2 fr H2 nx2 => ∃ i : Nat, mm2 = n - i + 1 ∧ i ≤ n ∧ fr 0 = .slice (some ⟨b, off, none⟩) n c ∧ fr 5 = .int .i64 w ∧ fr 6 = .int .i64 best ∧ fr 7 = .int .i64 k ∧ fr 8 = .int .i64 (colS s k i) ∧ fr 9 = .int .i64 i ∧ Sub H H2 ∧ nx ≤ nx2) ?_ ?_ (n + 1) ?_
        · rintro mm2 K2 hK2 fr H2 nx2 ⟨i, hmm2, hi, g0, g5, g6, g7, g8, g9, hs2, hx2⟩
          simp (disch := omega) only [bsW, WOp, WOq, WV, bo, eqN, gdc, gw, bnd, ↓reduceIte, Nat.reduceEqDiff, rsvs, rsv, oneOf, rdN, ne_eq, Nat.reduceAdd, Nat.reduceMul, Nat.reduceLT, reduceCtorEq, Value.cells, setN, Value.oneCell', Nat.reduceLeDiff, undef, fcT, g0, g5, g6, g7, g8, g9]
          refine gif_split (fun b2 => ?_) (fun b2 => ?_)
          · have hil : i < n := by simpa using b2
            obtain ⟨_, _, _, _, hok, hme⟩ := exs_at hg hil
            have hbd := colS_bd hg hlt i (by omega)
            have hmk := hok k (by omega)
            have c3 : rd H2 b (off + i * 4 + 3) = some (.slice (B i) (s.m i) (d i)) := rd_sub hs2 (hc i 3 hil (by omega))
            obtain ⟨b', off', hBi, hc'⟩ := (q2 i hil).2.at_ (by omega)
            rw [hBi] at c3
            have cm := rd_sub hs2 (hc' k 0 (by omega) (by omega))
            simp only [Nat.add_zero, Nat.mul_one] at cm
            simp (disch := omega) only [bsW, WOp, WOq, WV, bo, eqN, gdc, gw, bnd, ↓reduceIte, Nat.reduceEqDiff, rsvs, rsv, oneOf, rdN, ne_eq, Nat.reduceAdd, Nat.reduceMul, Nat.reduceLT, reduceCtorEq, Value.cells, setN, Value.oneCell', Nat.reduceLeDiff, undef, fcT, g0, g5, g6, g7, g8, g9, c3, cm, Nat.mul_one, b2]
            (repeat' (first | ((with_reducible refine gif_split (fun hs_ => ?_) (fun hs_ => ?_)) <;> (have hp_ := hs_; (try simp only [hpL, ne_eq] at hp_); (try simp (disch := omega) only [bsW, WOp, WOq, WV, bo, eqN, gdc, gw, bnd, ↓reduceIte, Nat.reduceEqDiff, rsvs, rsv, oneOf, rdN, ne_eq, Nat.reduceAdd, Nat.reduceMul, Nat.reduceLT, reduceCtorEq, Value.cells, setN, Value.oneCell', Nat.reduceLeDiff, undef, fcT, g0, g5, g6, g7, g8, g9, c3, cm, Nat.mul_one, hs_]))) | ((first | (with_reducible refine newB_i (fun nb_ hb_ => ?_)) | (with_reducible refine RgE_i (fun (hBd_ : Bd _ _) => ?_))); (try simp (disch := omega) only [bsW, WOp, WOq, WV, bo, eqN, gdc, gw, bnd, ↓reduceIte, Nat.reduceEqDiff, rsvs, rsv, oneOf, rdN, ne_eq, Nat.reduceAdd, Nat.reduceMul, Nat.reduceLT, reduceCtorEq, Value.cells, setN, Value.oneCell', Nat.reduceLeDiff, undef, fcT, g0, g5, g6, g7, g8, g9, c3, cm, Nat.mul_one])) | (with_reducible refine fun (hBd_ : Bd _ _) => ?_) | ((first | (with_reducible refine @And.intro (Sub _ _) _ ?_ ?_) | ((with_reducible refine @And.intro (Sub _ _ ∧ _) _ ?_ ?_); (with_reducible refine @And.intro (Sub _ _) _ ?_ ?_))); exact sbX) | ((with_reducible refine And.intro ?_ ?_); omega)))
            all_goals try (exfalso; omega)
            refine hK2 _ _ _ ?_
            exact ⟨i + 1, by omega, by omega, by simp (disch := omega) only [bsW, ↓reduceIte, Nat.reduceEqDiff, ne_eq, reduceCtorEq, fcT, g0, g5, g6, g7, g8, g9, c3, cm, Nat.mul_one], by simp (disch := omega) only [bsW, ↓reduceIte, Nat.reduceEqDiff, ne_eq, reduceCtorEq, fcT, g0, g5, g6, g7, g8, g9, c3, cm, Nat.mul_one], by simp (disch := omega) only [bsW, ↓reduceIte, Nat.reduceEqDiff, ne_eq, reduceCtorEq, fcT, g0, g5, g6, g7, g8, g9, c3, cm, Nat.mul_one], by simp (disch := omega) only [bsW, ↓reduceIte, Nat.reduceEqDiff, ne_eq, reduceCtorEq, fcT, g0, g5, g6, g7, g8, g9, c3, cm, Nat.mul_one], by simp (disch := omega) only [bsW, ↓reduceIte, Nat.reduceEqDiff, ne_eq, reduceCtorEq, fcT, g0, g5, g6, g7, g8, g9, c3, cm, Nat.mul_one]; exact vi rfl, by simp (disch := omega) only [bsW, ↓reduceIte, Nat.reduceEqDiff, ne_eq, reduceCtorEq, fcT, g0, g5, g6, g7, g8, g9, c3, cm, Nat.mul_one, Int.natCast_add, Int.natCast_one], hs2, by omega⟩
          · have hin : i = n := by simp at b2; omega
            subst hin
            have hbd := colS_bd hg hlt i (by omega)
            simp (disch := omega) only [bsW, WOp, WOq, WV, bo, eqN, gdc, gw, bnd, ↓reduceIte, Nat.reduceEqDiff, rsvs, rsv, oneOf, rdN, ne_eq, Nat.reduceAdd, Nat.reduceMul, Nat.reduceLT, reduceCtorEq, Value.cells, setN, Value.oneCell', Nat.reduceLeDiff, undef, fcT, g0, g5, g6, g7, g8, g9, b2]
            (repeat' (first | ((with_reducible refine gif_split (fun hs_ => ?_) (fun hs_ => ?_)) <;> (have hp_ := hs_; (try simp only [hpL, ne_eq] at hp_); (try simp (disch := omega) only [bsW, WOp, WOq, WV, bo, eqN, gdc, gw, bnd, ↓reduceIte, Nat.reduceEqDiff, rsvs, rsv, oneOf, rdN, ne_eq, Nat.reduceAdd, Nat.reduceMul, Nat.reduceLT, reduceCtorEq, Value.cells, setN, Value.oneCell', Nat.reduceLeDiff, undef, fcT, g0, g5, g6, g7, g8, g9, hs_]))) | ((first | (with_reducible refine newB_i (fun nb_ hb_ => ?_)) | (with_reducible refine RgE_i (fun (hBd_ : Bd _ _) => ?_))); (try simp (disch := omega) only [bsW, WOp, WOq, WV, bo, eqN, gdc, gw, bnd, ↓reduceIte, Nat.reduceEqDiff, rsvs, rsv, oneOf, rdN, ne_eq, Nat.reduceAdd, Nat.reduceMul, Nat.reduceLT, reduceCtorEq, Value.cells, setN, Value.oneCell', Nat.reduceLeDiff, undef, fcT, g0, g5, g6, g7, g8, g9])) | (with_reducible refine fun (hBd_ : Bd _ _) => ?_) | ((first | (with_reducible refine @And.intro (Sub _ _) _ ?_ ?_) | ((with_reducible refine @And.intro (Sub _ _ ∧ _) _ ?_ ?_); (with_reducible refine @And.intro (Sub _ _) _ ?_ ?_))); exact sbX) | ((with_reducible refine And.intro ?_ ?_); omega)))
            all_goals try (exfalso; omega)
            · refine hK _ _ _ ?_
              exact ⟨k + 1, k, colS s k i, by omega, by omega, by simp (disch := omega) only [bsW, ↓reduceIte, Nat.reduceEqDiff, ne_eq, reduceCtorEq, fcT, g0, g5, g6, g7, g8, g9], by simp (disch := omega) only [bsW, ↓reduceIte, Nat.reduceEqDiff, ne_eq, reduceCtorEq, fcT, g0, g5, g6, g7, g8, g9], by simp (disch := omega) only [bsW, ↓reduceIte, Nat.reduceEqDiff, ne_eq, reduceCtorEq, fcT, g0, g5, g6, g7, g8, g9], by simp (disch := omega) only [bsW, ↓reduceIte, Nat.reduceEqDiff, ne_eq, reduceCtorEq, fcT, g0, g5, g6, g7, g8, g9, Int.natCast_add, Int.natCast_one], hs2, by omega, stI_yes hst hp_⟩
            · refine hK _ _ _ ?_
              exact ⟨k + 1, w, best, by omega, by omega, by simp (disch := omega) only [bsW, ↓reduceIte, Nat.reduceEqDiff, ne_eq, reduceCtorEq, fcT, g0, g5, g6, g7, g8, g9], by simp (disch := omega) only [bsW, ↓reduceIte, Nat.reduceEqDiff, ne_eq, reduceCtorEq, fcT, g0, g5, g6, g7, g8, g9], by simp (disch := omega) only [bsW, ↓reduceIte, Nat.reduceEqDiff, ne_eq, reduceCtorEq, fcT, g0, g5, g6, g7, g8, g9], by simp (disch := omega) only [bsW, ↓reduceIte, Nat.reduceEqDiff, ne_eq, reduceCtorEq, fcT, g0, g5, g6, g7, g8, g9, Int.natCast_add, Int.natCast_one], hs2, by omega, stI_no hst hp_ (by show colS s k i ≤ 1000; omega)⟩
        · rintro fr H' nx' ⟨k, hmm, _⟩; omega
        · exact ⟨0, by omega, by omega, by simp (disch := omega) only [bsW, ↓reduceIte, Nat.reduceEqDiff, ne_eq, reduceCtorEq, fcT, f0, f5, f6, f7], by simp (disch := omega) only [bsW, ↓reduceIte, Nat.reduceEqDiff, ne_eq, reduceCtorEq, fcT, f0, f5, f6, f7], by simp (disch := omega) only [bsW, ↓reduceIte, Nat.reduceEqDiff, ne_eq, reduceCtorEq, fcT, f0, f5, f6, f7], by simp (disch := omega) only [bsW, ↓reduceIte, Nat.reduceEqDiff, ne_eq, reduceCtorEq, fcT, f0, f5, f6, f7], by simp (disch := omega) only [bsW, ↓reduceIte, Nat.reduceEqDiff, ne_eq, reduceCtorEq, fcT, f0, f5, f6, f7]; exact vi rfl, by simp (disch := omega) only [bsW, ↓reduceIte, Nat.reduceEqDiff, ne_eq, reduceCtorEq, fcT, f0, f5, f6, f7, Int.natCast_zero], hs, by omega⟩
      · have hkn : k = s.m 0 := by simp at b1; omega
        subst hkn
        obtain ⟨e1, e2⟩ := stI_end hst (by omega)
        simp (disch := omega) only [bsW, WOp, WOq, WV, bo, eqN, gdc, gw, bnd, ↓reduceIte, Nat.reduceEqDiff, rsvs, rsv, oneOf, rdN, ne_eq, Nat.reduceAdd, Nat.reduceMul, Nat.reduceLT, reduceCtorEq, Value.cells, setN, Value.oneCell', Nat.reduceLeDiff, undef, fcT, f0, f5, f6, f7, b1]
        exact Is_e (by rw [vStrict, if_pos ⟨hg, by omega⟩, e2, e1]) hs
    · rintro fr H' nx' ⟨k, w, best, hmm, _⟩; omega
    · exact ⟨0, 0, 1001, by omega, by omega, by simp (disch := omega) only [bsW, ↓reduceIte, Nat.reduceEqDiff, ne_eq, reduceCtorEq, fcT], by simp (disch := omega) only [bsW, ↓reduceIte, Nat.reduceEqDiff, ne_eq, reduceCtorEq, fcT], by simp (disch := omega) only [bsW, ↓reduceIte, Nat.reduceEqDiff, ne_eq, reduceCtorEq, fcT], by simp (disch := omega) only [bsW, ↓reduceIte, Nat.reduceEqDiff, ne_eq, reduceCtorEq, fcT, Int.natCast_zero], Sub.refl _, by omega, .inl ⟨rfl, rfl, rfl⟩⟩
  · have hg : exsB n s = false := by simpa using hg
    simp (disch := omega) only [bsW, WOp, WOq, WV, bo, eqN, gdc, gw, bnd, ↓reduceIte, Nat.reduceEqDiff, rsvs, rsv, oneOf, rdN, ne_eq, Nat.reduceAdd, Nat.reduceMul, Nat.reduceLT, reduceCtorEq, Value.cells, setN, Value.oneCell', Nat.reduceLeDiff, undef, fcT, hg, c_spec_StrictJudge]
    (repeat' (first | ((with_reducible refine gif_split (fun hs_ => ?_) (fun hs_ => ?_)) <;> (have hp_ := hs_; (try simp only [hpL, ne_eq] at hp_); (try simp (disch := omega) only [bsW, WOp, WOq, WV, bo, eqN, gdc, gw, bnd, ↓reduceIte, Nat.reduceEqDiff, rsvs, rsv, oneOf, rdN, ne_eq, Nat.reduceAdd, Nat.reduceMul, Nat.reduceLT, reduceCtorEq, Value.cells, setN, Value.oneCell', Nat.reduceLeDiff, undef, fcT, hg, hs_]))) | ((first | (with_reducible refine newB_i (fun nb_ hb_ => ?_)) | ((with_reducible show QC _ _ _ _ _ _); (first | (refine QC_i (l23Good A n c s _ _ hn h hw) ?_))) | ((with_reducible show AC _ _ _ _ _ _); (first | (refine PC.ac (l23Good A n c s _ _ hn h hw) ?_))) | (with_reducible refine RgE_i (fun (hBd_ : Bd _ _) => ?_))); (try simp (disch := omega) only [bsW, WOp, WOq, WV, bo, eqN, gdc, gw, bnd, ↓reduceIte, Nat.reduceEqDiff, rsvs, rsv, oneOf, rdN, ne_eq, Nat.reduceAdd, Nat.reduceMul, Nat.reduceLT, reduceCtorEq, Value.cells, setN, Value.oneCell', Nat.reduceLeDiff, undef, fcT, hg])) | (with_reducible refine fun (hBd_ : Bd _ _) => ?_) | ((first | (with_reducible refine @And.intro (Sub _ _) _ ?_ ?_) | ((with_reducible refine @And.intro (Sub _ _ ∧ _) _ ?_ ?_); (with_reducible refine @And.intro (Sub _ _) _ ?_ ?_))); exact sbX) | ((with_reducible refine And.intro ?_ ?_); omega)))
    all_goals try (exfalso; omega)
    exact Is_e (by rw [vStrict, if_neg (by simp [hg])]) (Sub.refl H)

theorem StrictJudge (A : Option Addr) (n c : Nat) (s : Shw) (H : Hp) (nx : Nat) (hn : n ≤ 17592186044416) (h : RdS H A n s) (hw : szOk n s) :
    PC Try.prog 10 #[.slice A n c] H nx (vStrict n s) := by
  refine AC_of x_impl_StrictJudge rfl fun hB => ?_
  by_cases hg : exsB n s = true
  · by_cases hn0 : n = 0
    · subst hn0
      simp (disch := omega) only [bsW, WOp, WOq, WV, bo, eqN, gdc, gw, bnd, ↓reduceIte, Nat.reduceEqDiff, rsvs, rsv, oneOf, rdN, ne_eq, Nat.reduceAdd, Nat.reduceMul, Nat.reduceLT, reduceCtorEq, Value.cells, setN, Value.oneCell', Nat.reduceLeDiff, undef, fcT, hg, c_impl_StrictJudge]
      (repeat' (first | ((with_reducible refine gif_split (fun hs_ => ?_) (fun hs_ => ?_)) <;> (have hp_ := hs_; (try simp only [hpL, ne_eq] at hp_); (try simp (disch := omega) only [bsW, WOp, WOq, WV, bo, eqN, gdc, gw, bnd, ↓reduceIte, Nat.reduceEqDiff, rsvs, rsv, oneOf, rdN, ne_eq, Nat.reduceAdd, Nat.reduceMul, Nat.reduceLT, reduceCtorEq, Value.cells, setN, Value.oneCell', Nat.reduceLeDiff, undef, fcT, hg, hs_]))) | ((first | (with_reducible refine newB_i (fun nb_ hb_ => ?_)) | ((with_reducible show QC _ _ _ _ _ _); (first | (refine QC_i (areExhibits A 0 c s _ _ hn h hw) ?_))) | ((with_reducible show AC _ _ _ _ _ _); (first | (refine PC.ac (areExhibits A 0 c s _ _ hn h hw) ?_))) | (with_reducible refine RgE_i (fun (hBd_ : Bd _ _) => ?_))); (try simp (disch := omega) only [bsW, WOp, WOq, WV, bo, eqN, gdc, gw, bnd, ↓reduceIte, Nat.reduceEqDiff, rsvs, rsv, oneOf, rdN, ne_eq, Nat.reduceAdd, Nat.reduceMul, Nat.reduceLT, reduceCtorEq, Value.cells, setN, Value.oneCell', Nat.reduceLeDiff, undef, fcT, hg])) | (with_reducible refine fun (hBd_ : Bd _ _) => ?_) | ((first | (with_reducible refine @And.intro (Sub _ _) _ ?_ ?_) | ((with_reducible refine @And.intro (Sub _ _ ∧ _) _ ?_ ?_); (with_reducible refine @And.intro (Sub _ _) _ ?_ ?_))); exact sbX) | ((with_reducible refine And.intro ?_ ?_); omega)))
      all_goals try (exfalso; omega)
      all_goals exact Is_e (by rw [vStrict, if_neg (by omega)]) (Sub.refl H)
    have hn0 : 0 < n := by omega
    have hn10 : n ≤ 10 := (exsB_iff.1 hg).2
    obtain ⟨_, _, hm3, hm7, _, _⟩ := exs_at hg hn0
    obtain ⟨B, d, q1, q2⟩ := h.ex
    obtain ⟨b, off, rfl, hc⟩ := q1.at_ (by omega)
    have z3 : rd H b (off + 3) = some (.slice (B 0) (s.m 0) (d 0)) := by have e := hc 0 3 (by omega) (by omega); rw [Nat.zero_mul, Nat.add_zero] at e; exact e
    simp (disch := omega) only [bsW, WOp, WOq, WV, bo, eqN, gdc, gw, bnd, ↓reduceIte, Nat.reduceEqDiff, rsvs, rsv, oneOf, rdN, ne_eq, Nat.reduceAdd, Nat.reduceMul, Nat.reduceLT, reduceCtorEq, Value.cells, setN, Value.oneCell', Nat.reduceLeDiff, undef, fcT, hg, z3, Int.toNat_zero, Nat.zero_mul, Nat.add_zero, c_impl_StrictJudge]
    (repeat' (first | ((with_reducible refine gif_split (fun hs_ => ?_) (fun hs_ => ?_)) <;> (have hp_ := hs_; (try simp only [hpL, ne_eq] at hp_); (try simp (disch := omega) only [bsW, WOp, WOq, WV, bo, eqN, gdc, gw, bnd, ↓reduceIte, Nat.reduceEqDiff, rsvs, rsv, oneOf, rdN, ne_eq, Nat.reduceAdd, Nat.reduceMul, Nat.reduceLT, reduceCtorEq, Value.cells, setN, Value.oneCell', Nat.reduceLeDiff, undef, fcT, hg, z3, Int.toNat_zero, Nat.zero_mul, Nat.add_zero, hs_]))) | ((first | (with_reducible refine newB_i (fun nb_ hb_ => ?_)) | ((with_reducible show QC _ _ _ _ _ _); (first | (refine QC_i (areExhibits (some ⟨b, off, none⟩) n c s _ _ hn h hw) ?_))) | ((with_reducible show AC _ _ _ _ _ _); (first | (refine PC.ac (areExhibits (some ⟨b, off, none⟩) n c s _ _ hn h hw) ?_))) | (with_reducible refine RgE_i (fun (hBd_ : Bd _ _) => ?_))); (try simp (disch := omega) only [bsW, WOp, WOq, WV, bo, eqN, gdc, gw, bnd, ↓reduceIte, Nat.reduceEqDiff, rsvs, rsv, oneOf, rdN, ne_eq, Nat.reduceAdd, Nat.reduceMul, Nat.reduceLT, reduceCtorEq, Value.cells, setN, Value.oneCell', Nat.reduceLeDiff, undef, fcT, hg, z3, Int.toNat_zero, Nat.zero_mul, Nat.add_zero])) | (with_reducible refine fun (hBd_ : Bd _ _) => ?_) | ((first | (with_reducible refine @And.intro (Sub _ _) _ ?_ ?_) | ((with_reducible refine @And.intro (Sub _ _ ∧ _) _ ?_ ?_); (with_reducible refine @And.intro (Sub _ _) _ ?_ ?_))); exact sbX) | ((with_reducible refine And.intro ?_ ?_); omega)))
    all_goals try (exfalso; omega)
    revert hb_
    generalize nb_ = nb
    intro hnb
    rw [mkRow_flat #[.int .i64 0] (s.m 0) 1 (by omega) rfl]
    try (simp (disch := omega) only [bsW, WOp, WOq, WV, bo, eqN, gdc, gw, bnd, ↓reduceIte, Nat.reduceEqDiff, rsvs, rsv, oneOf, rdN, ne_eq, Nat.reduceAdd, Nat.reduceMul, Nat.reduceLT, reduceCtorEq, Value.cells, setN, Value.oneCell', Nat.reduceLeDiff, undef, fcT])
    refine LpE_rule (fun mm fr H' nx' => ∃ i : Nat, mm = n - i + 1 ∧ i ≤ n ∧ fr 5 = .slice (some ⟨nb, 0, none⟩) (s.m 0) (s.m 0) ∧ fr 25 = .slice (some ⟨b, off, none⟩) n c ∧ fr 26 = .int .i64 n ∧ fr 27 = .int .i64 i ∧ Sub H H' ∧ nb + 1 ≤ nx' ∧ H' nb = some (.rw (flat (s.m 0) 1 (fun j _ => colS s j i)) 3)) ?_ ?_ (n + 1) ?_
    · rintro mm K hK fr H' nx' ⟨i, hmm, hi, f5, f25, f26, f27, hs, hx, hrow⟩
      simp (disch := omega) only [bsW, WOp, WOq, WV, bo, eqN, gdc, gw, bnd, ↓reduceIte, Nat.reduceEqDiff, rsvs, rsv, oneOf, rdN, ne_eq, Nat.reduceAdd, Nat.reduceMul, Nat.reduceLT, reduceCtorEq, Value.cells, setN, Value.oneCell', Nat.reduceLeDiff, undef, fcT, f5, f25, f26, f27]
      refine gif_split (fun b1 => ?_) (fun b1 => ?_)
      · have hil : i < n := by simpa using b1
        obtain ⟨_, _, _, _, hok, hme⟩ := exs_at hg hil
        have c0 : rd H' b (off + i * 4) = some (.int .i64 (s.id i)) := rd_sub hs (hc i 0 hil (by omega))
        have c1 : rd H' b (off + i * 4 + 1) = some (.string (s.title i)) := rd_sub hs (hc i 1 hil (by omega))
        have c2 : rd H' b (off + i * 4 + 2) = some (.int .i64 (s.fr i)) := rd_sub hs (hc i 2 hil (by omega))
        have c3 : rd H' b (off + i * 4 + 3) = some (.slice (B i) (s.m i) (d i)) := rd_sub hs (hc i 3 hil (by omega))
        obtain ⟨b', off', hBi, hc'⟩ := (q2 i hil).2.at_ (by omega)
        rw [hBi] at c3
        simp (disch := omega) only [bsW, WOp, WOq, WV, bo, eqN, gdc, gw, bnd, ↓reduceIte, Nat.reduceEqDiff, rsvs, rsv, oneOf, rdN, ne_eq, Nat.reduceAdd, Nat.reduceMul, Nat.reduceLT, reduceCtorEq, Value.cells, setN, Value.oneCell', Nat.reduceLeDiff, undef, fcT, f5, f25, f26, f27, c0, c1, c2, c3, b1]
        (repeat' (first | ((with_reducible refine gif_split (fun hs_ => ?_) (fun hs_ => ?_)) <;> (have hp_ := hs_; (try simp only [hpL, ne_eq] at hp_); (try simp (disch := omega) only [bsW, WOp, WOq, WV, bo, eqN, gdc, gw, bnd, ↓reduceIte, Nat.reduceEqDiff, rsvs, rsv, oneOf, rdN, ne_eq, Nat.reduceAdd, Nat.reduceMul, Nat.reduceLT, reduceCtorEq, Value.cells, setN, Value.oneCell', Nat.reduceLeDiff, undef, fcT, f5, f25, f26, f27, c0, c1, c2, c3, hs_]))) | ((first | (with_reducible refine newB_i (fun nb_ hb_ => ?_)) | (with_reducible refine RgE_i (fun (hBd_ : Bd _ _) => ?_))); (try simp (disch := omega) only [bsW, WOp, WOq, WV, bo, eqN, gdc, gw, bnd, ↓reduceIte, Nat.reduceEqDiff, rsvs, rsv, oneOf, rdN, ne_eq, Nat.reduceAdd, Nat.reduceMul, Nat.reduceLT, reduceCtorEq, Value.cells, setN, Value.oneCell', Nat.reduceLeDiff, undef, fcT, f5, f25, f26, f27, c0, c1, c2, c3])) | (with_reducible refine fun (hBd_ : Bd _ _) => ?_) | ((first | (with_reducible refine @And.intro (Sub _ _) _ ?_ ?_) | ((with_reducible refine @And.intro (Sub _ _ ∧ _) _ ?_ ?_); (with_reducible refine @And.intro (Sub _ _) _ ?_ ?_))); exact sbX) | ((with_reducible refine And.intro ?_ ?_); omega)))
        all_goals try (exfalso; omega)
        refine LpE_rule (fun mm2 fr H2 nx2 => ∃ k : Nat, mm2 = s.m i - k + 1 ∧ k ≤ s.m i ∧ fr 5 = .slice (some ⟨nb, 0, none⟩) (s.m 0) (s.m 0) ∧ fr 25 = .slice (some ⟨b, off, none⟩) n c ∧ fr 26 = .int .i64 n ∧ fr 27 = .int .i64 i ∧ fr 32 = .slice (some ⟨b', off', none⟩) (s.m i) (d i) ∧ fr 33 = .int .i64 (s.m i) ∧ fr 34 = .int .i64 k ∧ Sub H H2 ∧ nb + 1 ≤ nx2 ∧ H2 nb = some (.rw (flat (s.m 0) 1 (fun j _ => if j < k then colS s j (i + 1) else colS s j i)) 3)) ?_ ?_ (s.m i + 1) ?_
        · rintro mm2 K2 hK2 fr H2 nx2 ⟨k, hmm2, hk, g5, g25, g26, g27, g32, g33, g34, hs2, hx2, hrow2⟩
          simp (disch := omega) only [bsW, WOp, WOq, WV, bo, eqN, gdc, gw, bnd, ↓reduceIte, Nat.reduceEqDiff, rsvs, rsv, oneOf, rdN, ne_eq, Nat.reduceAdd, Nat.reduceMul, Nat.reduceLT, reduceCtorEq, Value.cells, setN, Value.oneCell', Nat.reduceLeDiff, undef, fcT, g5, g25, g26, g27, g32, g33, g34]
          refine gif_split (fun b2 => ?_) (fun b2 => ?_)
          · have hkl : k < s.m i := by simpa using b2
            have hbd := colS_bd hg (show k < s.m 0 by omega) i (by omega)
            have hmk := hok k hkl
            have cm := rd_sub hs2 (hc' k 0 hkl (by omega))
            simp only [Nat.add_zero, Nat.mul_one] at cm
            have ct : rd H2 nb k = some (.int .i64 (colS s k i)) := by
              rw [rd_rw hrow2]
              have e := flat_get_sp (f := fun j _ => if j < k then colS s j (i + 1) else colS s j i) (sp := []) (show k < s.m 0 by omega) (show 0 < 1 by omega)
              simpa using e
            have hset : (flat (s.m 0) 1 (fun j _ => if j < k then colS s j (i + 1) else colS s j i)).set k (.int .i64 (colS s k i + s.mks i k)) = flat (s.m 0) 1 (fun j _ => if j < k + 1 then colS s j (i + 1) else colS s j i) := by
              have e := flat_set0 (f := fun j _ => if j < k then colS s j (i + 1) else colS s j i) (show k < s.m 0 by omega) (show 0 < 1 by omega) (colS s k i + s.mks i k)
              rw [Nat.mul_one] at e
              rw [e]
              refine flat_congr fun u v hu hv => ?_
              have ec : colS s k (i + 1) = colS s k i + s.mks i k := rfl
              by_cases huk : u = k
              · subst huk
                rw [if_pos (Nat.lt_succ_self u), ec]
                simp; omega
              · have e1 : (u < k + 1) = (u < k) := by simp; omega
                simp [e1, huk]
            simp (disch := omega) only [bsW, WOp, WOq, WV, bo, eqN, gdc, gw, bnd, ↓reduceIte, Nat.reduceEqDiff, rsvs, rsv, oneOf, rdN, ne_eq, Nat.reduceAdd, Nat.reduceMul, Nat.reduceLT, reduceCtorEq, Value.cells, setN, Value.oneCell', Nat.reduceLeDiff, undef, fcT, g5, g25, g26, g27, g32, g33, g34, cm, ct, hrow2, hset, flat_length, Nat.mul_one, b2]
            (repeat' (first | ((with_reducible refine gif_split (fun hs_ => ?_) (fun hs_ => ?_)) <;> (have hp_ := hs_; (try simp only [hpL, ne_eq] at hp_); (try simp (disch := omega) only [bsW, WOp, WOq, WV, bo, eqN, gdc, gw, bnd, ↓reduceIte, Nat.reduceEqDiff, rsvs, rsv, oneOf, rdN, ne_eq, Nat.reduceAdd, Nat.reduceMul, Nat.reduceLT, reduceCtorEq, Value.cells, setN, Value.oneCell', Nat.reduceLeDiff, undef, fcT, g5, g25, g26, g27, g32, g33, g34, cm, ct, hrow2, hset, flat_length, Nat.mul_one, hs_]))) | ((first | (with_reducible refine newB_i (fun nb_ hb_ => ?_)) | (with_reducible refine RgE_i (fun (hBd_ : Bd _ _) => ?_))); (try simp (disch := omega) only [bsW, WOp, WOq, WV, bo, eqN, gdc, gw, bnd, ↓reduceIte, Nat.reduceEqDiff, rsvs, rsv, oneOf, rdN, ne_eq, Nat.reduceAdd, Nat.reduceMul, Nat.reduceLT, reduceCtorEq, Value.cells, setN, Value.oneCell', Nat.reduceLeDiff, undef, fcT, g5, g25, g26, g27, g32, g33, g34, cm, ct, hrow2, hset, flat_length, Nat.mul_one])) | (with_reducible refine fun (hBd_ : Bd _ _) => ?_) | ((first | (with_reducible refine @And.intro (Sub _ _) _ ?_ ?_) | ((with_reducible refine @And.intro (Sub _ _ ∧ _) _ ?_ ?_); (with_reducible refine @And.intro (Sub _ _) _ ?_ ?_))); exact sbX) | ((with_reducible refine And.intro ?_ ?_); omega)))
            all_goals try (exfalso; omega)
            refine hK2 _ _ _ ?_
            exact ⟨k + 1, by omega, by omega, by simp (disch := omega) only [bsW, ↓reduceIte, Nat.reduceEqDiff, ne_eq, reduceCtorEq, fcT, g5, g25, g26, g27, g32, g33, g34, cm, ct, hrow2, hset, flat_length, Nat.mul_one], by simp (disch := omega) only [bsW, ↓reduceIte, Nat.reduceEqDiff, ne_eq, reduceCtorEq, fcT, g5, g25, g26, g27, g32, g33, g34, cm, ct, hrow2, hset, flat_length, Nat.mul_one], by simp (disch := omega) only [bsW, ↓reduceIte, Nat.reduceEqDiff, ne_eq, reduceCtorEq, fcT, g5, g25, g26, g27, g32, g33, g34, cm, ct, hrow2, hset, flat_length, Nat.mul_one], by simp (disch := omega) only [bsW, ↓reduceIte, Nat.reduceEqDiff, ne_eq, reduceCtorEq, fcT, g5, g25, g26, g27, g32, g33, g34, cm, ct, hrow2, hset, flat_length, Nat.mul_one], by simp (disch := omega) only [bsW, ↓reduceIte, Nat.reduceEqDiff, ne_eq, reduceCtorEq, fcT, g5, g25, g26, g27, g32, g33, g34, cm, ct, hrow2, hset, flat_length, Nat.mul_one], by simp (disch := omega) only [bsW, ↓reduceIte, Nat.reduceEqDiff, ne_eq, reduceCtorEq, fcT, g5, g25, g26, g27, g32, g33, g34, cm, ct, hrow2, hset, flat_length, Nat.mul_one], by simp (disch := omega) only [bsW, ↓reduceIte, Nat.reduceEqDiff, ne_eq, reduceCtorEq, fcT, g5, g25, g26, g27, g32, g33, g34, cm, ct, hrow2, hset, flat_length, Nat.mul_one, Int.natCast_add, Int.natCast_one], sub_upd_old hs2 (none_of_bd hB hnb), by omega, upd_same _ _ _⟩
          · have hkn : k = s.m i := by simp at b2; omega
            simp (disch := omega) only [bsW, WOp, WOq, WV, bo, eqN, gdc, gw, bnd, ↓reduceIte, Nat.reduceEqDiff, rsvs, rsv, oneOf, rdN, ne_eq, Nat.reduceAdd, Nat.reduceMul, Nat.reduceLT, reduceCtorEq, Value.cells, setN, Value.oneCell', Nat.reduceLeDiff, undef, fcT, g5, g25, g26, g27, g32, g33, g34, b2]
            (repeat' (first | ((with_reducible refine gif_split (fun hs_ => ?_) (fun hs_ => ?_)) <;> (have hp_ := hs_; (try simp only [hpL, ne_eq] at hp_); (try simp (disch := omega) only [bsW, WOp, WOq, WV, bo, eqN, gdc, gw, bnd, ↓reduceIte, Nat.reduceEqDiff, rsvs, rsv, oneOf, rdN, ne_eq, Nat.reduceAdd, Nat.reduceMul, Nat.reduceLT, reduceCtorEq, Value.cells, setN, Value.oneCell', Nat.reduceLeDiff, undef, fcT, g5, g25, g26, g27, g32, g33, g34, hs_]))) | ((first | (with_reducible refine newB_i (fun nb_ hb_ => ?_)) | (with_reducible refine RgE_i (fun (hBd_ : Bd _ _) => ?_))); (try simp (disch := omega) only [bsW, WOp, WOq, WV, bo, eqN, gdc, gw, bnd, ↓reduceIte, Nat.reduceEqDiff, rsvs, rsv, oneOf, rdN, ne_eq, Nat.reduceAdd, Nat.reduceMul, Nat.reduceLT, reduceCtorEq, Value.cells, setN, Value.oneCell', Nat.reduceLeDiff, undef, fcT, g5, g25, g26, g27, g32, g33, g34])) | (with_reducible refine fun (hBd_ : Bd _ _) => ?_) | ((first | (with_reducible refine @And.intro (Sub _ _) _ ?_ ?_) | ((with_reducible refine @And.intro (Sub _ _ ∧ _) _ ?_ ?_); (with_reducible refine @And.intro (Sub _ _) _ ?_ ?_))); exact sbX) | ((with_reducible refine And.intro ?_ ?_); omega)))
            all_goals try (exfalso; omega)
            refine hK _ _ _ ?_
            refine ⟨i + 1, by omega, by omega, by simp (disch := omega) only [bsW, ↓reduceIte, Nat.reduceEqDiff, ne_eq, reduceCtorEq, fcT, g5, g25, g26, g27, g32, g33, g34], by simp (disch := omega) only [bsW, ↓reduceIte, Nat.reduceEqDiff, ne_eq, reduceCtorEq, fcT, g5, g25, g26, g27, g32, g33, g34], by simp (disch := omega) only [bsW, ↓reduceIte, Nat.reduceEqDiff, ne_eq, reduceCtorEq, fcT, g5, g25, g26, g27, g32, g33, g34], by simp (disch := omega) only [bsW, ↓reduceIte, Nat.reduceEqDiff, ne_eq, reduceCtorEq, fcT, g5, g25, g26, g27, g32, g33, g34, Int.natCast_add, Int.natCast_one], hs2, by omega, ?_⟩
            rw [hrow2]
            congr 2
            exact flat_congr fun u v hu hv => by rw [if_pos (by omega)]
        · rintro fr H' nx' ⟨k, hmm, _⟩; omega
        · refine ⟨0, by omega, by omega, by simp (disch := omega) only [bsW, ↓reduceIte, Nat.reduceEqDiff, ne_eq, reduceCtorEq, fcT, f5, f25, f26, f27], by simp (disch := omega) only [bsW, ↓reduceIte, Nat.reduceEqDiff, ne_eq, reduceCtorEq, fcT, f5, f25, f26, f27], by simp (disch := omega) only [bsW, ↓reduceIte, Nat.reduceEqDiff, ne_eq, reduceCtorEq, fcT, f5, f25, f26, f27], by simp (disch := omega) only [bsW, ↓reduceIte, Nat.reduceEqDiff, ne_eq, reduceCtorEq, fcT, f5, f25, f26, f27], by simp (disch := omega) only [bsW, ↓reduceIte, Nat.reduceEqDiff, ne_eq, reduceCtorEq, fcT, f5, f25, f26, f27], by simp (disch := omega) only [bsW, ↓reduceIte, Nat.reduceEqDiff, ne_eq, reduceCtorEq, fcT, f5, f25, f26, f27], by simp (disch := omega) only [bsW, ↓reduceIte, Nat.reduceEqDiff, ne_eq, reduceCtorEq, fcT, f5, f25, f26, f27, Int.natCast_zero], by (repeat (first | assumption | exact Sub.refl _ | (refine sub_up (nx := nx) ?_ hB ?_; omega))), by omega, ?_⟩
          rw [upd_ne (by omega), hrow]
          congr 2
      · have hin : i = n := by simp at b1; omega
        subst hin
        simp (disch := omega) only [bsW, WOp, WOq, WV, bo, eqN, gdc, gw, bnd, ↓reduceIte, Nat.reduceEqDiff, rsvs, rsv, oneOf, rdN, ne_eq, Nat.reduceAdd, Nat.reduceMul, Nat.reduceLT, reduceCtorEq, Value.cells, setN, Value.oneCell', Nat.reduceLeDiff, undef, fcT, f5, f25, f26, f27, b1]
        (repeat' (first | ((with_reducible refine gif_split (fun hs_ => ?_) (fun hs_ => ?_)) <;> (have hp_ := hs_; (try simp only [hpL, ne_eq] at hp_); (try simp (disch := omega) only [bsW, WOp, WOq, WV, bo, eqN, gdc, gw, bnd, ↓reduceIte, Nat.reduceEqDiff, rsvs, rsv, oneOf, rdN, ne_eq, Nat.reduceAdd, Nat.reduceMul, Nat.reduceLT, reduceCtorEq, Value.cells, setN, Value.oneCell', Nat.reduceLeDiff, undef, fcT, f5, f25, f26, f27, hs_]))) | ((first | (with_reducible refine newB_i (fun nb_ hb_ => ?_)) | ((with_reducible show QC _ _ _ _ _ _); (first | (refine QC_i (slMin (some ⟨nb, 0, none⟩) (s.m 0) (s.m 0) (fun j => colS s j i) _ _ (by omega) (by omega) (Rd.of hrow)) ?_) | (refine QC_i (idxI (some ⟨nb, 0, none⟩) (s.m 0) (s.m 0) (fun j => colS s j i) _ _ _ (by omega) (Rd.of hrow)) ?_))) | ((with_reducible show AC _ _ _ _ _ _); (first | (refine PC.ac (slMin (some ⟨nb, 0, none⟩) (s.m 0) (s.m 0) (fun j => colS s j i) _ _ (by omega) (by omega) (Rd.of hrow)) ?_) | (refine PC.ac (idxI (some ⟨nb, 0, none⟩) (s.m 0) (s.m 0) (fun j => colS s j i) _ _ _ (by omega) (Rd.of hrow)) ?_))) | (with_reducible refine RgE_i (fun (hBd_ : Bd _ _) => ?_))); (try simp (disch := omega) only [bsW, WOp, WOq, WV, bo, eqN, gdc, gw, bnd, ↓reduceIte, Nat.reduceEqDiff, rsvs, rsv, oneOf, rdN, ne_eq, Nat.reduceAdd, Nat.reduceMul, Nat.reduceLT, reduceCtorEq, Value.cells, setN, Value.oneCell', Nat.reduceLeDiff, undef, fcT, f5, f25, f26, f27])) | (with_reducible refine fun (hBd_ : Bd _ _) => ?_) | ((first | (with_reducible refine @And.intro (Sub _ _) _ ?_ ?_) | ((with_reducible refine @And.intro (Sub _ _ ∧ _) _ ?_ ?_); (with_reducible refine @And.intro (Sub _ _) _ ?_ ?_))); exact sbX) | ((with_reducible refine And.intro ?_ ?_); omega)))
        all_goals try (exfalso; omega)
        exact Is_e (by rw [vStrict, if_pos ⟨hg, by omega⟩]) hs
    · rintro fr H' nx' ⟨k, hmm, _⟩; omega
    · exact ⟨0, by omega, by omega, by simp (disch := omega) only [bsW, ↓reduceIte, Nat.reduceEqDiff, ne_eq, reduceCtorEq, fcT], by simp (disch := omega) only [bsW, ↓reduceIte, Nat.reduceEqDiff, ne_eq, reduceCtorEq, fcT], by simp (disch := omega) only [bsW, ↓reduceIte, Nat.reduceEqDiff, ne_eq, reduceCtorEq, fcT], by simp (disch := omega) only [bsW, ↓reduceIte, Nat.reduceEqDiff, ne_eq, reduceCtorEq, fcT, Int.natCast_zero], sub_upd_old (Sub.refl _) (none_of_bd hB hnb), by omega, upd_same _ _ _⟩
  · have hg : exsB n s = false := by simpa using hg
    simp (disch := omega) only [bsW, WOp, WOq, WV, bo, eqN, gdc, gw, bnd, ↓reduceIte, Nat.reduceEqDiff, rsvs, rsv, oneOf, rdN, ne_eq, Nat.reduceAdd, Nat.reduceMul, Nat.reduceLT, reduceCtorEq, Value.cells, setN, Value.oneCell', Nat.reduceLeDiff, undef, fcT, hg, c_impl_StrictJudge]
    (repeat' (first | ((with_reducible refine gif_split (fun hs_ => ?_) (fun hs_ => ?_)) <;> (have hp_ := hs_; (try simp only [hpL, ne_eq] at hp_); (try simp (disch := omega) only [bsW, WOp, WOq, WV, bo, eqN, gdc, gw, bnd, ↓reduceIte, Nat.reduceEqDiff, rsvs, rsv, oneOf, rdN, ne_eq, Nat.reduceAdd, Nat.reduceMul, Nat.reduceLT, reduceCtorEq, Value.cells, setN, Value.oneCell', Nat.reduceLeDiff, undef, fcT, hg, hs_]))) | ((first | (with_reducible refine newB_i (fun nb_ hb_ => ?_)) | ((with_reducible show QC _ _ _ _ _ _); (first | (refine QC_i (areExhibits A n c s _ _ hn h hw) ?_))) | ((with_reducible show AC _ _ _ _ _ _); (first | (refine PC.ac (areExhibits A n c s _ _ hn h hw) ?_))) | (with_reducible refine RgE_i (fun (hBd_ : Bd _ _) => ?_))); (try simp (disch := omega) only [bsW, WOp, WOq, WV, bo, eqN, gdc, gw, bnd, ↓reduceIte, Nat.reduceEqDiff, rsvs, rsv, oneOf, rdN, ne_eq, Nat.reduceAdd, Nat.reduceMul, Nat.reduceLT, reduceCtorEq, Value.cells, setN, Value.oneCell', Nat.reduceLeDiff, undef, fcT, hg])) | (with_reducible refine fun (hBd_ : Bd _ _) => ?_) | ((first | (with_reducible refine @And.intro (Sub _ _) _ ?_ ?_) | ((with_reducible refine @And.intro (Sub _ _ ∧ _) _ ?_ ?_); (with_reducible refine @And.intro (Sub _ _) _ ?_ ?_))); exact sbX) | ((with_reducible refine And.intro ?_ ?_); omega)))
    all_goals try (exfalso; omega)
    exact Is_e (by rw [vStrict, if_neg (by simp [hg])]) (Sub.refl H)
end Go.Proofs.Ytnjlleopgjggpaa
