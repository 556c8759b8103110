/- Neighbours put into one: slices.Compact. -/
import Derived.Test.YtnjlleopgjggpaaDoorT
import Derived.Test.YtnjlleopgjggpaaDoorD4
set_option linter.unusedVariables false
set_option linter.unusedSimpArgs false
set_option maxRecDepth 100000
set_option maxHeartbeats 1000000
namespace Go.Proofs.YtnjlleopgjggpaaDoor
open Go Go.RowKit Go.Proofs

/-- Neighbours that are alike are put into one. -/
def cptF (f : Nat → Nat → Int) : Nat → List Int
  | 0 => []
  | k + 1 => if k = 0 ∨ f (k - 1) 0 ≠ f k 0 then cptF f k ++ [f k 0] else cptF f k
theorem cptF_all {f : Nat → Nat → Int} : ∀ {k}, (∀ i, 0 < i → i < k → f (i - 1) 0 ≠ f i 0) → (cptF f k).length = k ∧ ∀ i, i < k → (cptF f k).getD i 0 = f i 0
  | 0, _ => ⟨rfl, fun i hi => by omega⟩
  | k + 1, h => by
    have h1 := cptF_all (k := k) (fun i h0 hi => h i h0 (by omega))
    have h2 : k = 0 ∨ f (k - 1) 0 ≠ f k 0 := by
      rcases Nat.eq_zero_or_pos k with e | e
      · exact .inl e
      · exact .inr (h k e (by omega))
    simp only [cptF]
    rw [if_pos h2]
    refine ⟨by simp [h1.1], fun i hi => ?_⟩
    simp only [List.getD_eq_getElem?_getD] at h1 ⊢
    rcases Nat.lt_succ_iff_lt_or_eq.1 hi with hi | rfl
    · rw [List.getElem?_append_left (by omega)]
      exact h1.2 i hi
    · rw [List.getElem?_append_right (by omega), h1.1]
      simp
theorem setN_take : ∀ (vs : List Value) (cs : List Value) (off j : Nat), (setN cs off j vs).take off = cs.take off
  | [], _, _, _ => rfl
  | v :: vs, cs, off, j => by
    simp only [setN]
    rw [setN_take vs]
    rw [List.take_set_of_le (by omega)]
theorem setN_len : ∀ (vs : List Value) (cs : List Value) (off j : Nat), (setN cs off j vs).length = cs.length
  | [], _, _, _ => rfl
  | v :: vs, cs, off, j => by simp only [setN]; rw [setN_len vs]; simp
theorem flat_take {n m : Nat} {f : Nat → Nat → Int} (h : m ≤ n) : (flat n 1 f).take m = flat m 1 f := by
  refine List.ext_getElem? fun p => ?_
  rw [List.getElem?_take]
  split
  · rename_i hp
    have h1 : p < n * 1 := by omega
    have h2 : p < m * 1 := by omega
    simp [flat, hp, show p < n by omega]
  · rename_i hp
    rw [List.getElem?_eq_none]
    rw [flat_length]; omega
theorem set2_flat1 {n : Nat} {f : Nat → Nat → Int} {sp : List Value} {i : Nat} (hi : i < n) (x : Int) : (flat n 1 f ++ sp).set i (.int .i64 x) = flat n 1 (set2 f i 0 x) ++ sp := by
  have := flat_set0_sp (f := f) (sp := sp) (k := 1) hi (by omega) x
  simpa using this

structure CptP (H : Hp) (lo : Nat) (l : List Int) (v v' : Value) (H' : Hp) (nx' : Nat) : Prop where
  own : OwnL H' lo nx' l 3 v'
  oth : ∀ c, some c ≠ ownBlk v → H' c = H c
theorem compactInt (v : Value) (n : Nat) (f : Nat → Nat → Int) (lo : Nat) (H : Hp) (nx : Nat) (hn : n ≤ 1048576) (hO : OwnR H lo nx n 1 f 3 v) :
    AC Tryd.prog 135 #[v] H nx (CptP H lo (cptF f n) v) := by
  refine AC_of x_slices_Compact_int rfl fun hB => ?_
  rcases hO.ex with ⟨rfl, rfl⟩ | ⟨b, cap, sp, rfl, hb1, hb2, hb3, hb4, hb5, hb6⟩
  · simp (disch := omega) only [bsW, WOp, WOq, WV, bo, eqN, gdc, gw, bnd, ↓reduceIte, Nat.reduceEqDiff, rsvs, rsv, oneOf, rdN, ne_eq, Nat.reduceAdd, Nat.reduceMul, Nat.reduceLT, reduceCtorEq, Value.cells, setN, Value.oneCell', Nat.reduceLeDiff, undef, fcT, Int.natCast_zero, c_slices_Compact_int]
    (repeat' (first | ((with_reducible refine gif_split (fun hs_ => ?_) (fun hs_ => ?_)) <;> (have hp_ := hs_; (try simp only [hpL, ne_eq] at hp_); (try simp (disch := omega) only [bsW, WOp, WOq, WV, bo, eqN, gdc, gw, bnd, ↓reduceIte, Nat.reduceEqDiff, rsvs, rsv, oneOf, rdN, ne_eq, Nat.reduceAdd, Nat.reduceMul, Nat.reduceLT, reduceCtorEq, Value.cells, setN, Value.oneCell', Nat.reduceLeDiff, undef, fcT, Int.natCast_zero, hs_]))) | ((first | (with_reducible refine newB_i (fun nb_ hb_ => ?_)) | (with_reducible refine RgE_i (fun (hBd_ : Bd _ _) => ?_))); (try simp (disch := omega) only [bsW, WOp, WOq, WV, bo, eqN, gdc, gw, bnd, ↓reduceIte, Nat.reduceEqDiff, rsvs, rsv, oneOf, rdN, ne_eq, Nat.reduceAdd, Nat.reduceMul, Nat.reduceLT, reduceCtorEq, Value.cells, setN, Value.oneCell', Nat.reduceLeDiff, undef, fcT, Int.natCast_zero])) | (with_reducible refine fun (hBd_ : Bd _ _) => ?_) | ((first | (with_reducible refine @And.intro (Sub _ _) _ ?_ ?_) | ((with_reducible refine @And.intro (Sub _ _ ∧ _) _ ?_ ?_); (with_reducible refine @And.intro (Sub _ _) _ ?_ ?_))); exact sbX) | ((with_reducible refine And.intro ?_ ?_); omega)))
    all_goals try (exfalso; omega)
    exact ⟨.nil, fun c _ => rfl⟩
  simp (disch := omega) only [bsW, WOp, WOq, WV, bo, eqN, gdc, gw, bnd, ↓reduceIte, Nat.reduceEqDiff, rsvs, rsv, oneOf, rdN, ne_eq, Nat.reduceAdd, Nat.reduceMul, Nat.reduceLT, reduceCtorEq, Value.cells, setN, Value.oneCell', Nat.reduceLeDiff, undef, fcT, c_slices_Compact_int]
  (repeat' (first | ((with_reducible refine gif_split (fun hs_ => ?_) (fun hs_ => ?_)) <;> (have hp_ := hs_; (try simp only [hpL, ne_eq] at hp_); (try simp (disch := omega) only [bsW, WOp, WOq, WV, bo, eqN, gdc, gw, bnd, ↓reduceIte, Nat.reduceEqDiff, rsvs, rsv, oneOf, rdN, ne_eq, Nat.reduceAdd, Nat.reduceMul, Nat.reduceLT, reduceCtorEq, Value.cells, setN, Value.oneCell', Nat.reduceLeDiff, undef, fcT, hs_]))) | ((first | (with_reducible refine newB_i (fun nb_ hb_ => ?_)) | (with_reducible refine RgE_i (fun (hBd_ : Bd _ _) => ?_))); (try simp (disch := omega) only [bsW, WOp, WOq, WV, bo, eqN, gdc, gw, bnd, ↓reduceIte, Nat.reduceEqDiff, rsvs, rsv, oneOf, rdN, ne_eq, Nat.reduceAdd, Nat.reduceMul, Nat.reduceLT, reduceCtorEq, Value.cells, setN, Value.oneCell', Nat.reduceLeDiff, undef, fcT])) | (with_reducible refine fun (hBd_ : Bd _ _) => ?_) | ((first | (with_reducible refine @And.intro (Sub _ _) _ ?_ ?_) | ((with_reducible refine @And.intro (Sub _ _ ∧ _) _ ?_ ?_); (with_reducible refine @And.intro (Sub _ _) _ ?_ ?_))); exact sbX) | ((with_reducible refine And.intro ?_ ?_); omega)))
  · have e : (cptF f n).length = n ∧ ∀ i, i < n → (cptF f n).getD i 0 = f i 0 := cptF_all fun i h0 hi => by omega
    refine ⟨?_, fun c _ => rfl⟩
    unfold OwnL
    rw [e.1]
    exact hO.congr fun i j hi hj => by rw [show j = 0 by omega]; exact (e.2 i hi).symm
  have hn2 : 2 ≤ n := by omega
  refine LpE_rule (fun m fr H' nx' => ∃ k : Nat, m = n - k + 1 ∧ k ≤ n ∧ 0 < k ∧ fr 0 = .slice (some ⟨b, 0, none⟩) n cap ∧ fr 3 = .int .i64 k ∧ H = H' ∧ nx = nx' ∧ ∀ i, 0 < i → i < k → f (i - 1) 0 ≠ f i 0) ?_ ?_ (n - 1 + 1) ?_
  · rintro m K hK fr H' nx' ⟨k, hm, hk, hk0, f0, f3, e9, e10, hall⟩
    subst e9 e10
    simp (disch := omega) only [bsW, WOp, WOq, WV, bo, eqN, gdc, gw, bnd, ↓reduceIte, Nat.reduceEqDiff, rsvs, rsv, oneOf, rdN, ne_eq, Nat.reduceAdd, Nat.reduceMul, Nat.reduceLT, reduceCtorEq, Value.cells, setN, Value.oneCell', Nat.reduceLeDiff, undef, fcT, f0, f3]
    refine gif_split (fun b1 => ?_) (fun b1 => ?_)
    · have hlt : k < n := by simpa using b1
      have c0 : rd H b k = some (.int .i64 (f k 0)) := by rw [rd_rw hb3]; have := flat_get0_sp (f := f) (sp := sp) (k := 1) hlt (by omega); simpa using this
      have c1 : rd H b (k - 1) = some (.int .i64 (f (k - 1) 0)) := by rw [rd_rw hb3]; have := flat_get0_sp (f := f) (sp := sp) (k := 1) (show k - 1 < n by omega) (by omega); simpa using this
      simp (disch := omega) only [bsW, WOp, WOq, WV, bo, eqN, gdc, gw, bnd, ↓reduceIte, Nat.reduceEqDiff, rsvs, rsv, oneOf, rdN, ne_eq, Nat.reduceAdd, Nat.reduceMul, Nat.reduceLT, reduceCtorEq, Value.cells, setN, Value.oneCell', Nat.reduceLeDiff, undef, fcT, f0, f3, c0, c1, Nat.mul_one, hb3, List.length_append, flat_length, cutA_pos, b1]
      refine ⟨by omega, by omega, gif_split (fun b2 => ?_) (fun b2 => ?_)⟩
      · have heq : f k 0 = f (k - 1) 0 := by simpa using b2
        simp (disch := omega) only [bsW, WOp, WOq, WV, bo, eqN, gdc, gw, bnd, ↓reduceIte, Nat.reduceEqDiff, rsvs, rsv, oneOf, rdN, ne_eq, Nat.reduceAdd, Nat.reduceMul, Nat.reduceLT, reduceCtorEq, Value.cells, setN, Value.oneCell', Nat.reduceLeDiff, undef, fcT, f0, f3, c0, c1, Nat.mul_one, hb3, List.length_append, flat_length, cutA_pos, b2]
        (repeat' (first | ((with_reducible refine gif_split (fun hs_ => ?_) (fun hs_ => ?_)) <;> (have hp_ := hs_; (try simp only [hpL, ne_eq] at hp_); (try simp (disch := omega) only [bsW, WOp, WOq, WV, bo, eqN, gdc, gw, bnd, ↓reduceIte, Nat.reduceEqDiff, rsvs, rsv, oneOf, rdN, ne_eq, Nat.reduceAdd, Nat.reduceMul, Nat.reduceLT, reduceCtorEq, Value.cells, setN, Value.oneCell', Nat.reduceLeDiff, undef, fcT, f0, f3, c0, c1, Nat.mul_one, hb3, List.length_append, flat_length, cutA_pos, hs_]))) | ((first | (with_reducible refine newB_i (fun nb_ hb_ => ?_)) | (with_reducible refine RgE_i (fun (hBd_ : Bd _ _) => ?_))); (try simp (disch := omega) only [bsW, WOp, WOq, WV, bo, eqN, gdc, gw, bnd, ↓reduceIte, Nat.reduceEqDiff, rsvs, rsv, oneOf, rdN, ne_eq, Nat.reduceAdd, Nat.reduceMul, Nat.reduceLT, reduceCtorEq, Value.cells, setN, Value.oneCell', Nat.reduceLeDiff, undef, fcT, f0, f3, c0, c1, Nat.mul_one, hb3, List.length_append, flat_length, cutA_pos])) | (with_reducible refine fun (hBd_ : Bd _ _) => ?_) | ((first | (with_reducible refine @And.intro (Sub _ _) _ ?_ ?_) | ((with_reducible refine @And.intro (Sub _ _ ∧ _) _ ?_ ?_); (with_reducible refine @And.intro (Sub _ _) _ ?_ ?_))); exact sbX) | ((with_reducible refine And.intro ?_ ?_); omega)))
        all_goals try (exfalso; omega)
        refine LpE_rule (fun m2 fr2 H2 nx2 => ∃ (q kk : Nat) (g : Nat → Nat → Int), m2 = n - q + 1 ∧ k < q ∧ q ≤ n ∧ fr2 0 = .slice (some ⟨b, 0, none⟩) n cap ∧ fr2 4 = .slice (some ⟨b, k, none⟩) (n - k) (cap - k) ∧ fr2 5 = .int .i64 ((q - k : Nat) : Int) ∧ fr2 3 = .int .i64 kk ∧
           kk = (cptF f q).length ∧ kk < q ∧ 0 < kk ∧ H2 b = some (.rw (flat n 1 g ++ sp) 3) ∧ (∀ i, i < kk → g i 0 = (cptF f q).getD i 0) ∧ (∀ i, q ≤ i + 1 → i < n → g i 0 = f i 0) ∧ (∀ c, c ≠ b → H2 c = H c) ∧ nx ≤ nx2) ?_ ?_ (n - (k + 1) + 1) ?_
        · rintro m2 K2 hK2 fr2 H2 nx2 ⟨q, kk, g, hm2, hq1, hq2, g0, g4, g5, g3, hkk, hkq, hkk0, hb, hg1, hg2, hoth, hx2⟩
          simp (disch := omega) only [bsW, WOp, WOq, WV, bo, eqN, gdc, gw, bnd, ↓reduceIte, Nat.reduceEqDiff, rsvs, rsv, oneOf, rdN, ne_eq, Nat.reduceAdd, Nat.reduceMul, Nat.reduceLT, reduceCtorEq, Value.cells, setN, Value.oneCell', Nat.reduceLeDiff, undef, fcT, g0, g4, g5, g3]
          refine gif_split (fun b3 => ?_) (fun b3 => ?_)
          · have hqn : q < n := by simp at b3; omega
            have d0 : rd H2 b (k + (q - k)) = some (.int .i64 (f q 0)) := by
              rw [rd_rw hb, ← hg2 q (by omega) hqn, show k + (q - k) = q by omega]; have := flat_get0_sp (f := g) (sp := sp) (k := 1) hqn (by omega); simpa using this
            have d1 : rd H2 b (k + (q - k - 1)) = some (.int .i64 (f (q - 1) 0)) := by
              rw [rd_rw hb, ← hg2 (q - 1) (by omega) (by omega), show k + (q - k - 1) = q - 1 by omega]; have := flat_get0_sp (f := g) (sp := sp) (k := 1) (show q - 1 < n by omega) (by omega); simpa using this
            have hst : cptF f (q + 1) = if q = 0 ∨ f (q - 1) 0 ≠ f q 0 then cptF f q ++ [f q 0] else cptF f q := rfl
            simp (disch := omega) only [bsW, WOp, WOq, WV, bo, eqN, gdc, gw, bnd, ↓reduceIte, Nat.reduceEqDiff, rsvs, rsv, oneOf, rdN, ne_eq, Nat.reduceAdd, Nat.reduceMul, Nat.reduceLT, reduceCtorEq, Value.cells, setN, Value.oneCell', Nat.reduceLeDiff, undef, fcT, g0, g4, g5, g3, d0, d1, Nat.mul_one, hb, List.length_append, flat_length, b3]
            (repeat' (first | ((with_reducible refine gif_split (fun hs_ => ?_) (fun hs_ => ?_)) <;> (have hp_ := hs_; (try simp only [hpL, ne_eq] at hp_); (try simp (disch := omega) only [bsW, WOp, WOq, WV, bo, eqN, gdc, gw, bnd, ↓reduceIte, Nat.reduceEqDiff, rsvs, rsv, oneOf, rdN, ne_eq, Nat.reduceAdd, Nat.reduceMul, Nat.reduceLT, reduceCtorEq, Value.cells, setN, Value.oneCell', Nat.reduceLeDiff, undef, fcT, g0, g4, g5, g3, d0, d1, Nat.mul_one, hb, List.length_append, flat_length, hs_]))) | ((first | (with_reducible refine newB_i (fun nb_ hb_ => ?_)) | (with_reducible refine RgE_i (fun (hBd_ : Bd _ _) => ?_))); (try simp (disch := omega) only [bsW, WOp, WOq, WV, bo, eqN, gdc, gw, bnd, ↓reduceIte, Nat.reduceEqDiff, rsvs, rsv, oneOf, rdN, ne_eq, Nat.reduceAdd, Nat.reduceMul, Nat.reduceLT, reduceCtorEq, Value.cells, setN, Value.oneCell', Nat.reduceLeDiff, undef, fcT, g0, g4, g5, g3, d0, d1, Nat.mul_one, hb, List.length_append, flat_length])) | (with_reducible refine fun (hBd_ : Bd _ _) => ?_) | ((first | (with_reducible refine @And.intro (Sub _ _) _ ?_ ?_) | ((with_reducible refine @And.intro (Sub _ _ ∧ _) _ ?_ ?_); (with_reducible refine @And.intro (Sub _ _) _ ?_ ?_))); exact sbX) | ((with_reducible refine And.intro ?_ ?_); omega)))
            all_goals try (exfalso; omega)
            · rw [if_pos (by omega)] at hst
              rw [set2_flat1 (by omega)]
              refine hK2 _ _ _ ?_
              refine ⟨q + 1, kk + 1, set2 g kk 0 (f q 0), by omega, by omega, by omega, by simp (disch := omega) only [bsW, ↓reduceIte, Nat.reduceEqDiff, ne_eq, reduceCtorEq, fcT, g0, g4, g5, g3, d0, d1, Nat.mul_one, hb, List.length_append, flat_length], by simp (disch := omega) only [bsW, ↓reduceIte, Nat.reduceEqDiff, ne_eq, reduceCtorEq, fcT, g0, g4, g5, g3, d0, d1, Nat.mul_one, hb, List.length_append, flat_length], ?_, by simp (disch := omega) only [bsW, ↓reduceIte, Nat.reduceEqDiff, ne_eq, reduceCtorEq, fcT, g0, g4, g5, g3, d0, d1, Nat.mul_one, hb, List.length_append, flat_length, Int.natCast_add, Int.natCast_one], ?_, by omega, by omega, upd_same _ _ _, fun i hi => ?_, fun i h1 h2 => ?_, fun c hc => ?_, by omega⟩
              · simp (disch := omega) only [bsW, WOp, WOq, WV, bo, eqN, gdc, gw, bnd, ↓reduceIte, Nat.reduceEqDiff, rsvs, rsv, oneOf, rdN, ne_eq, Nat.reduceAdd, Nat.reduceMul, Nat.reduceLT, reduceCtorEq, Value.cells, setN, Value.oneCell', Nat.reduceLeDiff, undef, fcT, g0, g4, g5, g3, d0, d1, Nat.mul_one, hb, List.length_append, flat_length]
                exact vi (by omega)
              · rw [hst]; simp [hkk]
              · rw [hst]
                simp only [List.getD_eq_getElem?_getD] at hg1 ⊢
                simp only [set2]
                rcases Nat.lt_succ_iff_lt_or_eq.1 hi with hi | rfl
                · rw [List.getElem?_append_left (by omega), if_neg (by omega)]
                  exact hg1 i hi
                · rw [List.getElem?_append_right (by omega), if_pos (by simp), hkk]
                  simp
              · simp only [set2]
                rw [if_neg (by omega)]
                exact hg2 i (by omega) h2
              · rw [upd_ne hc]; exact hoth c hc
            · rw [if_neg (by omega)] at hst
              refine hK2 _ _ _ ?_
              refine ⟨q + 1, kk, g, by omega, by omega, by omega, by simp (disch := omega) only [bsW, ↓reduceIte, Nat.reduceEqDiff, ne_eq, reduceCtorEq, fcT, g0, g4, g5, g3, d0, d1, Nat.mul_one, hb, List.length_append, flat_length], by simp (disch := omega) only [bsW, ↓reduceIte, Nat.reduceEqDiff, ne_eq, reduceCtorEq, fcT, g0, g4, g5, g3, d0, d1, Nat.mul_one, hb, List.length_append, flat_length], ?_, by simp (disch := omega) only [bsW, ↓reduceIte, Nat.reduceEqDiff, ne_eq, reduceCtorEq, fcT, g0, g4, g5, g3, d0, d1, Nat.mul_one, hb, List.length_append, flat_length], by rw [hst]; exact hkk, by omega, by omega, hb, fun i hi => by rw [hst]; exact hg1 i hi, fun i h1 h2 => hg2 i (by omega) h2, hoth, by omega⟩
              simp (disch := omega) only [bsW, WOp, WOq, WV, bo, eqN, gdc, gw, bnd, ↓reduceIte, Nat.reduceEqDiff, rsvs, rsv, oneOf, rdN, ne_eq, Nat.reduceAdd, Nat.reduceMul, Nat.reduceLT, reduceCtorEq, Value.cells, setN, Value.oneCell', Nat.reduceLeDiff, undef, fcT, g0, g4, g5, g3, d0, d1, Nat.mul_one, hb, List.length_append, flat_length]
              exact vi (by omega)
          · have hqn : q = n := by simp at b3; omega
            subst hqn
            simp (disch := omega) only [bsW, WOp, WOq, WV, bo, eqN, gdc, gw, bnd, ↓reduceIte, Nat.reduceEqDiff, rsvs, rsv, oneOf, rdN, ne_eq, Nat.reduceAdd, Nat.reduceMul, Nat.reduceLT, reduceCtorEq, Value.cells, setN, Value.oneCell', Nat.reduceLeDiff, undef, fcT, g0, g4, g5, g3, Nat.mul_one, cutA_pos, b3]
            (repeat' (first | ((with_reducible refine gif_split (fun hs_ => ?_) (fun hs_ => ?_)) <;> (have hp_ := hs_; (try simp only [hpL, ne_eq] at hp_); (try simp (disch := omega) only [bsW, WOp, WOq, WV, bo, eqN, gdc, gw, bnd, ↓reduceIte, Nat.reduceEqDiff, rsvs, rsv, oneOf, rdN, ne_eq, Nat.reduceAdd, Nat.reduceMul, Nat.reduceLT, reduceCtorEq, Value.cells, setN, Value.oneCell', Nat.reduceLeDiff, undef, fcT, g0, g4, g5, g3, Nat.mul_one, cutA_pos, hs_]))) | ((first | (with_reducible refine newB_i (fun nb_ hb_ => ?_)) | (with_reducible refine RgE_i (fun (hBd_ : Bd _ _) => ?_))); (try simp (disch := omega) only [bsW, WOp, WOq, WV, bo, eqN, gdc, gw, bnd, ↓reduceIte, Nat.reduceEqDiff, rsvs, rsv, oneOf, rdN, ne_eq, Nat.reduceAdd, Nat.reduceMul, Nat.reduceLT, reduceCtorEq, Value.cells, setN, Value.oneCell', Nat.reduceLeDiff, undef, fcT, g0, g4, g5, g3, Nat.mul_one, cutA_pos])) | (with_reducible refine fun (hBd_ : Bd _ _) => ?_) | ((first | (with_reducible refine @And.intro (Sub _ _) _ ?_ ?_) | ((with_reducible refine @And.intro (Sub _ _ ∧ _) _ ?_ ?_); (with_reducible refine @And.intro (Sub _ _) _ ?_ ?_))); exact sbX) | ((with_reducible refine And.intro ?_ ?_); omega)))
            all_goals try (exfalso; omega)
            refine ⟨3, q - kk, cap - kk, some ⟨b, kk, none⟩, .int .i64 0, qe30, qz3, rfl, rfl, by intro h0; omega, fun _ => ⟨b, kk, _, _, rfl, hb, by simp [flat_length, Value.cells]; omega, ?_⟩⟩
            simp (disch := omega) only [bsW, WOp, WOq, WV, bo, eqN, gdc, gw, bnd, ↓reduceIte, Nat.reduceEqDiff, rsvs, rsv, oneOf, rdN, ne_eq, Nat.reduceAdd, Nat.reduceMul, Nat.reduceLT, reduceCtorEq, Value.cells, setN, Value.oneCell', Nat.reduceLeDiff, undef, fcT, g0, g4, g5, g3, Nat.mul_one, cutA_pos]
            (repeat' (first | ((with_reducible refine gif_split (fun hs_ => ?_) (fun hs_ => ?_)) <;> (have hp_ := hs_; (try simp only [hpL, ne_eq] at hp_); (try simp (disch := omega) only [bsW, WOp, WOq, WV, bo, eqN, gdc, gw, bnd, ↓reduceIte, Nat.reduceEqDiff, rsvs, rsv, oneOf, rdN, ne_eq, Nat.reduceAdd, Nat.reduceMul, Nat.reduceLT, reduceCtorEq, Value.cells, setN, Value.oneCell', Nat.reduceLeDiff, undef, fcT, g0, g4, g5, g3, Nat.mul_one, cutA_pos, hs_]))) | ((first | (with_reducible refine newB_i (fun nb_ hb_ => ?_)) | (with_reducible refine RgE_i (fun (hBd_ : Bd _ _) => ?_))); (try simp (disch := omega) only [bsW, WOp, WOq, WV, bo, eqN, gdc, gw, bnd, ↓reduceIte, Nat.reduceEqDiff, rsvs, rsv, oneOf, rdN, ne_eq, Nat.reduceAdd, Nat.reduceMul, Nat.reduceLT, reduceCtorEq, Value.cells, setN, Value.oneCell', Nat.reduceLeDiff, undef, fcT, g0, g4, g5, g3, Nat.mul_one, cutA_pos])) | (with_reducible refine fun (hBd_ : Bd _ _) => ?_) | ((first | (with_reducible refine @And.intro (Sub _ _) _ ?_ ?_) | ((with_reducible refine @And.intro (Sub _ _ ∧ _) _ ?_ ?_); (with_reducible refine @And.intro (Sub _ _) _ ?_ ?_))); exact sbX) | ((with_reducible refine And.intro ?_ ?_); omega)))
            all_goals try (exfalso; omega)
            refine ⟨⟨.inr ⟨b, cap, (setN (flat q 1 g ++ sp) kk 0 (Builtin.zeroCells (Value.int .i64 0).cells (q - kk)).toList).drop kk, ?_, hb1, by omega, ?_, by omega, hb5, ?_⟩⟩, fun c hc => ?_⟩
            · rw [← hkk]
            · rw [upd_same, ← hkk]
              congr 2
              have e1 : flat kk 1 (rowL (cptF f q)) = (setN (flat q 1 g ++ sp) kk 0 (Builtin.zeroCells (Value.int .i64 0).cells (q - kk)).toList).take kk := by
                rw [setN_take, List.take_append_of_le_length (by rw [flat_length]; omega), flat_take (by omega)]
                exact flat_congr fun i j hi hj => by rw [show j = 0 by omega]; exact (hg1 i hi).symm
              rw [e1, List.take_append_drop]
              rfl
            · rw [List.length_drop, setN_len, List.length_append, flat_length, hb6, ← hkk]
              omega
            · rw [upd_ne (fun e => hc (by rw [e]; rfl))]
              exact hoth c (fun e => hc (by rw [e]; rfl))
        · rintro fr2 H2 nx2 ⟨q, kk, g, hm2, _⟩; omega
        · have e := cptF_all hall
          have hst : cptF f (k + 1) = cptF f k := by simp only [cptF]; rw [if_neg (by omega)]
          refine ⟨k + 1, k, f, rfl, by omega, by omega, by simp (disch := omega) only [bsW, ↓reduceIte, Nat.reduceEqDiff, ne_eq, reduceCtorEq, fcT, f0, f3], by simp (disch := omega) only [bsW, ↓reduceIte, Nat.reduceEqDiff, ne_eq, reduceCtorEq, fcT, f0, f3], by simp (disch := omega) only [bsW, ↓reduceIte, Nat.reduceEqDiff, ne_eq, reduceCtorEq, fcT, f0, f3]; exact vi (by omega), by simp (disch := omega) only [bsW, ↓reduceIte, Nat.reduceEqDiff, ne_eq, reduceCtorEq, fcT, f0, f3], by rw [hst, e.1], by omega, hk0, hb3, fun i hi => by rw [hst]; exact (e.2 i hi).symm, fun i _ _ => rfl, fun c _ => rfl, Nat.le_refl _⟩
      · simp (disch := omega) only [bsW, WOp, WOq, WV, bo, eqN, gdc, gw, bnd, ↓reduceIte, Nat.reduceEqDiff, rsvs, rsv, oneOf, rdN, ne_eq, Nat.reduceAdd, Nat.reduceMul, Nat.reduceLT, reduceCtorEq, Value.cells, setN, Value.oneCell', Nat.reduceLeDiff, undef, fcT, f0, f3, b2]
        refine hK _ _ _ ?_
        refine ⟨k + 1, by omega, by omega, by omega, by simp (disch := omega) only [bsW, ↓reduceIte, Nat.reduceEqDiff, ne_eq, reduceCtorEq, fcT, f0, f3], by simp (disch := omega) only [bsW, ↓reduceIte, Nat.reduceEqDiff, ne_eq, reduceCtorEq, fcT, f0, f3, Int.natCast_add, Int.natCast_one], rfl, rfl, fun i h0 hi => ?_⟩
        rcases Nat.lt_succ_iff_lt_or_eq.1 hi with hi | rfl
        · exact hall i h0 hi
        · intro e; simp [e] at b2
    · have hkn : k = n := by simp at b1; omega
      subst hkn
      simp (disch := omega) only [bsW, WOp, WOq, WV, bo, eqN, gdc, gw, bnd, ↓reduceIte, Nat.reduceEqDiff, rsvs, rsv, oneOf, rdN, ne_eq, Nat.reduceAdd, Nat.reduceMul, Nat.reduceLT, reduceCtorEq, Value.cells, setN, Value.oneCell', Nat.reduceLeDiff, undef, fcT, f0, f3, b1]
      have e := cptF_all hall
      refine ⟨?_, fun c _ => rfl⟩
      unfold OwnL
      rw [e.1]
      exact hO.congr fun i j hi hj => by rw [show j = 0 by omega]; exact (e.2 i hi).symm
  · rintro fr H' nx' ⟨k, hm, _⟩; omega
  · exact ⟨1, by omega, by omega, by omega, by simp (disch := omega) only [bsW, ↓reduceIte, Nat.reduceEqDiff, ne_eq, reduceCtorEq, fcT], by simp (disch := omega) only [bsW, ↓reduceIte, Nat.reduceEqDiff, ne_eq, reduceCtorEq, fcT]; rfl, rfl, rfl, by intro i h0 hi; omega⟩
end Go.Proofs.YtnjlleopgjggpaaDoor
