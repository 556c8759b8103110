/- Puzzles: rows joined. -/
import Derived.Test.YtbhabpenlaklcaaDoorQ2
set_option linter.unusedVariables false
set_option linter.unusedSimpArgs false
set_option maxRecDepth 100000
set_option maxHeartbeats 1000000
namespace Go.Proofs.YtbhabpenlaklcaaDoor
open Go Go.RowKit Go.Proofs
/-- A list more. -/
theorem app_L {P : Program} {t ty : TypeId} {lo nx m c : Nat} {H : Hp} {l g : List Int} {A : Option Addr} {f : Nat → Nat → Int} {sv : Value} {K : Value → Hp → Nat → Prop}
    (he : qElem P t = some ty) (hs : qSize P ty = some 1) (hb : qBytes P ty = some 8) (hz : qZero P ty = some (.int .i64 0))
    (ho : OwnL H lo nx l ty sv) (hm : m = g.length) (hr : Rd H A m 1 f) (hf : ∀ i j, i < m → j < 1 → f i j = rowL g i j) (hlo : lo ≤ nx) (hlen : l.length + m ≤ 1048577 + 1048577)
    (hK0 : g = [] → K sv H nx)
    (hK : ∀ v' b' o nx', (some b' = ownBlk sv ∨ nx ≤ b') → nx ≤ nx' → some b' = ownBlk v' → OwnL (upd H b' o) lo nx' (l ++ g) ty v' → K v' (upd H b' o) nx') :
    AppK P t sv (.slice A m c) K H nx := by
  subst hm
  refine app_row (k := 1) (bytes := 8) he hs hb ⟨_, hz, rfl⟩ (by omega) ho (hr.congr hf) hlo (by omega) (by unfold maxLen; omega) (fun h => hK0 (List.eq_nil_of_length_eq_zero h)) fun v' b' o nx' h1 h2 h3 h4 => hK v' b' o nx' h1 h2 h3 ?_
  unfold OwnL
  rw [List.length_append]
  exact h4.congr (fun i j hi hj => rowL_cat l g i j (by simpa using hi) hj)


theorem growNil (m : Nat) (H : Hp) (nx : Nat) (hm : m ≤ 2097153) : AC Tryd.prog 59 #[.slice none 0 0, .int .i64 m] H nx (NewL H nx [] 3) := by
  refine AC_of x_slices_Grow_int rfl fun hB => ?_
  simp (disch := omega) only [bsW, WOp, WOq, WV, bo, eqN, gdc, gw, bnd, ↓reduceIte, Nat.reduceEqDiff, rsvs, rsv, oneOf, rdN, ne_eq, Nat.reduceAdd, Nat.reduceMul, Nat.reduceLT, reduceCtorEq, Value.cells, setN, Value.oneCell', Nat.reduceLeDiff, undef, fcT, c_slices_Grow_int]
  (repeat' (first | ((with_reducible refine gif_split (fun hs_ => ?_) (fun hs_ => ?_)) <;> (have hp_ := hs_; (try simp only [hpL, ne_eq] at hp_); (try simp (disch := omega) only [bsW, WOp, WOq, WV, bo, eqN, gdc, gw, bnd, ↓reduceIte, Nat.reduceEqDiff, rsvs, rsv, oneOf, rdN, ne_eq, Nat.reduceAdd, Nat.reduceMul, Nat.reduceLT, reduceCtorEq, Value.cells, setN, Value.oneCell', Nat.reduceLeDiff, undef, fcT, hs_]))) | ((first | (with_reducible refine newB_i (fun nb_ hb_ => ?_)) | (with_reducible refine RgE_i (fun (hBd_ : Bd _ _) => ?_))); (try simp (disch := omega) only [bsW, WOp, WOq, WV, bo, eqN, gdc, gw, bnd, ↓reduceIte, Nat.reduceEqDiff, rsvs, rsv, oneOf, rdN, ne_eq, Nat.reduceAdd, Nat.reduceMul, Nat.reduceLT, reduceCtorEq, Value.cells, setN, Value.oneCell', Nat.reduceLeDiff, undef, fcT])) | (with_reducible refine fun (hBd_ : Bd _ _) => ?_) | ((first | (with_reducible refine @And.intro (Sub _ _) _ ?_ ?_) | ((with_reducible refine @And.intro (Sub _ _ ∧ _) _ ?_ ?_); (with_reducible refine @And.intro (Sub _ _) _ ?_ ?_))); exact sbX) | ((with_reducible refine And.intro ?_ ?_); omega)))
  all_goals try (exfalso; omega)
  · refine ⟨3, 1, 8, 0, m, 0, none, .int .i64 0, .i64, .i64, [], by simp (disch := omega) only [bsW, ↓reduceIte, Nat.reduceEqDiff, ne_eq, reduceCtorEq, fcT], by simp (disch := omega) only [bsW, ↓reduceIte, Nat.reduceEqDiff, ne_eq, reduceCtorEq, fcT], by simp (disch := omega) only [bsW, ↓reduceIte, Nat.reduceEqDiff, ne_eq, reduceCtorEq, fcT], by simp (disch := omega) only [bsW, ↓reduceIte, Nat.reduceEqDiff, ne_eq, reduceCtorEq, fcT], rfl, by omega, by simp (disch := omega) only [bsW, ↓reduceIte, Nat.reduceEqDiff, ne_eq, reduceCtorEq, fcT], rfl, rfl, by omega, by omega, Nat.le_refl _, fun _ => rfl, ⟨rfl, fun h => by omega⟩, by omega, by unfold maxLen; omega, ?_⟩
    rintro b' cap sp nx2 hb' hn2 hlt hcap hmx hlen'
    rw [List.nil_append] at hlen'
    simp (disch := omega) only [bsW, WOp, WOq, WV, bo, eqN, gdc, gw, bnd, ↓reduceIte, Nat.reduceEqDiff, rsvs, rsv, oneOf, rdN, ne_eq, Nat.reduceAdd, Nat.reduceMul, Nat.reduceLT, reduceCtorEq, Value.cells, setN, Value.oneCell', Nat.reduceLeDiff, undef, fcT]
    (repeat' (first | ((with_reducible refine gif_split (fun hs_ => ?_) (fun hs_ => ?_)) <;> (have hp_ := hs_; (try simp only [hpL, ne_eq] at hp_); (try simp (disch := omega) only [bsW, WOp, WOq, WV, bo, eqN, gdc, gw, bnd, ↓reduceIte, Nat.reduceEqDiff, rsvs, rsv, oneOf, rdN, ne_eq, Nat.reduceAdd, Nat.reduceMul, Nat.reduceLT, reduceCtorEq, Value.cells, setN, Value.oneCell', Nat.reduceLeDiff, undef, fcT, hs_]))) | ((first | (with_reducible refine newB_i (fun nb_ hb_ => ?_)) | (with_reducible refine RgE_i (fun (hBd_ : Bd _ _) => ?_))); (try simp (disch := omega) only [bsW, WOp, WOq, WV, bo, eqN, gdc, gw, bnd, ↓reduceIte, Nat.reduceEqDiff, rsvs, rsv, oneOf, rdN, ne_eq, Nat.reduceAdd, Nat.reduceMul, Nat.reduceLT, reduceCtorEq, Value.cells, setN, Value.oneCell', Nat.reduceLeDiff, undef, fcT])) | (with_reducible refine fun (hBd_ : Bd _ _) => ?_) | ((first | (with_reducible refine @And.intro (Sub _ _) _ ?_ ?_) | ((with_reducible refine @And.intro (Sub _ _ ∧ _) _ ?_ ?_); (with_reducible refine @And.intro (Sub _ _) _ ?_ ?_))); exact sbX) | ((with_reducible refine And.intro ?_ ?_); omega)))
    exact ⟨⟨.inr ⟨b', cap, _, rfl, hb', hlt, by rw [upd_same]; rfl, Nat.zero_le _, hmx, (by show (mkRow _ _ ++ sp).length = (cap - 0) * 1; rw [Nat.sub_zero]; exact hlen')⟩⟩, sub_new hB hb'⟩
  · exact ⟨.nil, Sub.refl _⟩
def catF (F : Nat → List Int) : Nat → List Int
  | 0 => []
  | k + 1 => catF F k ++ F k
theorem catF_len {F : Nat → List Int} {n : Nat} (h : ∀ i, i < n → (F i).length ≤ 1048576) : ∀ k, k ≤ n → (catF F k).length ≤ k * 1048576
  | 0, _ => by simp [catF]
  | k + 1, hk => by
    have h1 := catF_len h k (by omega)
    have h2 := h k (by omega)
    simp only [catF, List.length_append]
    omega
theorem concatN (bS n : Nat) (A : Nat → Option Addr) (F : Nat → List Int) (C : Nat → Nat) (H : Hp) (nx : Nat) (hn : n ≤ 2) (hF : ∀ i, i < n → (F i).length ≤ 1048576)
    (e : ∀ i, i < n → rd H bS i = some (.slice (A i) (F i).length (C i))) (hR : ∀ i, i < n → RdL H (A i) (F i)) :
    AC Tryd.prog 49 #[.slice (some ⟨bS, 0, none⟩) n n] H nx (NewL H nx (catF F n) 3) := by
  refine AC_of x_slices_Concat_int rfl fun hB => ?_
  simp (disch := omega) only [bsW, WOp, WOq, WV, bo, eqN, gdc, gw, bnd, ↓reduceIte, Nat.reduceEqDiff, rsvs, rsv, oneOf, rdN, ne_eq, Nat.reduceAdd, Nat.reduceMul, Nat.reduceLT, reduceCtorEq, Value.cells, setN, Value.oneCell', Nat.reduceLeDiff, undef, fcT, c_slices_Concat_int]
  refine LpB_rule (fun mm fr H' nx' => ∃ k : Nat, mm = n - k + 1 ∧ k ≤ n ∧ fr 0 = .slice (some ⟨bS, 0, none⟩) n n ∧ fr 3 = .int .i64 (catF F k).length ∧ fr 9 = .slice (some ⟨bS, 0, none⟩) n n ∧ fr 10 = .int .i64 n ∧ fr 11 = .int .i64 k ∧ H = H' ∧ nx = nx') ?_ ?_ (n + 1) ?_
  · rintro mm K hK fr H' nx' hB' ⟨k, hmm, hk, f0, f3, f9, f10, f11, rfl, rfl⟩
    simp (disch := omega) only [bsW, WOp, WOq, WV, bo, eqN, gdc, gw, bnd, ↓reduceIte, Nat.reduceEqDiff, rsvs, rsv, oneOf, rdN, ne_eq, Nat.reduceAdd, Nat.reduceMul, Nat.reduceLT, reduceCtorEq, Value.cells, setN, Value.oneCell', Nat.reduceLeDiff, undef, fcT, f0, f3, f9, f10, f11]
    refine gif_split (fun b1 => ?_) (fun b1 => ?_)
    · have hlt : k < n := by simpa using b1
      have c0 := e k hlt
      have h1 := catF_len hF k (by omega)
      have h2 := hF k hlt
      simp (disch := omega) only [bsW, WOp, WOq, WV, bo, eqN, gdc, gw, bnd, ↓reduceIte, Nat.reduceEqDiff, rsvs, rsv, oneOf, rdN, ne_eq, Nat.reduceAdd, Nat.reduceMul, Nat.reduceLT, reduceCtorEq, Value.cells, setN, Value.oneCell', Nat.reduceLeDiff, undef, fcT, f0, f3, f9, f10, f11, c0, Nat.mul_one, b1]
      (repeat' (first | ((with_reducible refine gif_split (fun hs_ => ?_) (fun hs_ => ?_)) <;> (have hp_ := hs_; (try simp only [hpL, ne_eq] at hp_); (try simp (disch := omega) only [bsW, WOp, WOq, WV, bo, eqN, gdc, gw, bnd, ↓reduceIte, Nat.reduceEqDiff, rsvs, rsv, oneOf, rdN, ne_eq, Nat.reduceAdd, Nat.reduceMul, Nat.reduceLT, reduceCtorEq, Value.cells, setN, Value.oneCell', Nat.reduceLeDiff, undef, fcT, f0, f3, f9, f10, f11, c0, Nat.mul_one, hs_]))) | ((first | (with_reducible refine newB_i (fun nb_ hb_ => ?_)) | (with_reducible refine RgE_i (fun (hBd_ : Bd _ _) => ?_))); (try simp (disch := omega) only [bsW, WOp, WOq, WV, bo, eqN, gdc, gw, bnd, ↓reduceIte, Nat.reduceEqDiff, rsvs, rsv, oneOf, rdN, ne_eq, Nat.reduceAdd, Nat.reduceMul, Nat.reduceLT, reduceCtorEq, Value.cells, setN, Value.oneCell', Nat.reduceLeDiff, undef, fcT, f0, f3, f9, f10, f11, c0, Nat.mul_one])) | (with_reducible refine fun (hBd_ : Bd _ _) => ?_) | ((first | (with_reducible refine @And.intro (Sub _ _) _ ?_ ?_) | ((with_reducible refine @And.intro (Sub _ _ ∧ _) _ ?_ ?_); (with_reducible refine @And.intro (Sub _ _) _ ?_ ?_))); exact sbX) | ((with_reducible refine And.intro ?_ ?_); omega)))
      all_goals try (exfalso; omega)
      refine hK _ _ _ ?_
      exact ⟨k + 1, by omega, by omega, by simp (disch := omega) only [bsW, ↓reduceIte, Nat.reduceEqDiff, ne_eq, reduceCtorEq, fcT, f0, f3, f9, f10, f11, c0, Nat.mul_one], by simp (disch := omega) only [bsW, ↓reduceIte, Nat.reduceEqDiff, ne_eq, reduceCtorEq, fcT, f0, f3, f9, f10, f11, c0, Nat.mul_one, catF, List.length_append, Int.natCast_add], by simp (disch := omega) only [bsW, ↓reduceIte, Nat.reduceEqDiff, ne_eq, reduceCtorEq, fcT, f0, f3, f9, f10, f11, c0, Nat.mul_one], by simp (disch := omega) only [bsW, ↓reduceIte, Nat.reduceEqDiff, ne_eq, reduceCtorEq, fcT, f0, f3, f9, f10, f11, c0, Nat.mul_one], by simp (disch := omega) only [bsW, ↓reduceIte, Nat.reduceEqDiff, ne_eq, reduceCtorEq, fcT, f0, f3, f9, f10, f11, c0, Nat.mul_one, Int.natCast_add, Int.natCast_one], rfl, rfl⟩
    · have hkn : k = n := by simp at b1; omega
      subst hkn
      have h1 := catF_len hF k (by omega)
      simp (disch := omega) only [bsW, WOp, WOq, WV, bo, eqN, gdc, gw, bnd, ↓reduceIte, Nat.reduceEqDiff, rsvs, rsv, oneOf, rdN, ne_eq, Nat.reduceAdd, Nat.reduceMul, Nat.reduceLT, reduceCtorEq, Value.cells, setN, Value.oneCell', Nat.reduceLeDiff, undef, fcT, f0, f3, f9, f10, f11, b1]
      refine (growNil _ _ _ (by omega)).monoC ?_
      rintro v1 H1 nx1 hB1 hx1 ⟨hO1, hs1⟩
      simp (disch := omega) only [bsW, WOp, WOq, WV, bo, eqN, gdc, gw, bnd, ↓reduceIte, Nat.reduceEqDiff, rsvs, rsv, oneOf, rdN, ne_eq, Nat.reduceAdd, Nat.reduceMul, Nat.reduceLT, reduceCtorEq, Value.cells, setN, Value.oneCell', Nat.reduceLeDiff, undef, fcT, f0, f3, f9, f10, f11]
      refine LpB_rule (fun mm fr H' nx' => ∃ (j : Nat) (w : Value), mm = k - j + 1 ∧ j ≤ k ∧ fr 6 = w ∧ fr 25 = .slice (some ⟨bS, 0, none⟩) k k ∧ fr 26 = .int .i64 k ∧ fr 27 = .int .i64 j ∧ OwnL H' nx nx' (catF F j) 3 w ∧ Sub H H' ∧ nx ≤ nx') ?_ ?_ (k + 1) ?_
      · rintro mm2 K2 hK2 fr2 H' nx' hB2 ⟨j, w, hmm2, hj, g6, g25, g26, g27, hO, hs, hx⟩
        simp (disch := omega) only [bsW, WOp, WOq, WV, bo, eqN, gdc, gw, bnd, ↓reduceIte, Nat.reduceEqDiff, rsvs, rsv, oneOf, rdN, ne_eq, Nat.reduceAdd, Nat.reduceMul, Nat.reduceLT, reduceCtorEq, Value.cells, setN, Value.oneCell', Nat.reduceLeDiff, undef, fcT, g6, g25, g26, g27]
        refine gif_split (fun b2 => ?_) (fun b2 => ?_)
        · have hlt : j < k := by simpa using b2
          have c0 := rd_sub hs (e j hlt)
          have h3 := catF_len hF j (by omega)
          have h4 := hF j hlt
          simp (disch := omega) only [bsW, WOp, WOq, WV, bo, eqN, gdc, gw, bnd, ↓reduceIte, Nat.reduceEqDiff, rsvs, rsv, oneOf, rdN, ne_eq, Nat.reduceAdd, Nat.reduceMul, Nat.reduceLT, reduceCtorEq, Value.cells, setN, Value.oneCell', Nat.reduceLeDiff, undef, fcT, g6, g25, g26, g27, c0, Nat.mul_one, b2]
          (repeat' (first | ((with_reducible refine gif_split (fun hs_ => ?_) (fun hs_ => ?_)) <;> (have hp_ := hs_; (try simp only [hpL, ne_eq] at hp_); (try simp (disch := omega) only [bsW, WOp, WOq, WV, bo, eqN, gdc, gw, bnd, ↓reduceIte, Nat.reduceEqDiff, rsvs, rsv, oneOf, rdN, ne_eq, Nat.reduceAdd, Nat.reduceMul, Nat.reduceLT, reduceCtorEq, Value.cells, setN, Value.oneCell', Nat.reduceLeDiff, undef, fcT, g6, g25, g26, g27, c0, Nat.mul_one, hs_]))) | ((first | (with_reducible refine newB_i (fun nb_ hb_ => ?_)) | (with_reducible refine RgE_i (fun (hBd_ : Bd _ _) => ?_))); (try simp (disch := omega) only [bsW, WOp, WOq, WV, bo, eqN, gdc, gw, bnd, ↓reduceIte, Nat.reduceEqDiff, rsvs, rsv, oneOf, rdN, ne_eq, Nat.reduceAdd, Nat.reduceMul, Nat.reduceLT, reduceCtorEq, Value.cells, setN, Value.oneCell', Nat.reduceLeDiff, undef, fcT, g6, g25, g26, g27, c0, Nat.mul_one])) | (with_reducible refine fun (hBd_ : Bd _ _) => ?_) | ((first | (with_reducible refine @And.intro (Sub _ _) _ ?_ ?_) | ((with_reducible refine @And.intro (Sub _ _ ∧ _) _ ?_ ?_); (with_reducible refine @And.intro (Sub _ _) _ ?_ ?_))); exact sbX) | ((with_reducible refine And.intro ?_ ?_); omega)))
          all_goals try (exfalso; omega)
          refine app_L (f := rowL (F j)) (by simp (disch := omega) only [bsW, WOp, WOq, WV, bo, eqN, gdc, gw, bnd, ↓reduceIte, Nat.reduceEqDiff, rsvs, rsv, oneOf, rdN, ne_eq, Nat.reduceAdd, Nat.reduceMul, Nat.reduceLT, reduceCtorEq, Value.cells, setN, Value.oneCell', Nat.reduceLeDiff, undef, fcT, g6, g25, g26, g27, c0, Nat.mul_one]) (by simp (disch := omega) only [bsW, WOp, WOq, WV, bo, eqN, gdc, gw, bnd, ↓reduceIte, Nat.reduceEqDiff, rsvs, rsv, oneOf, rdN, ne_eq, Nat.reduceAdd, Nat.reduceMul, Nat.reduceLT, reduceCtorEq, Value.cells, setN, Value.oneCell', Nat.reduceLeDiff, undef, fcT, g6, g25, g26, g27, c0, Nat.mul_one]) (by simp (disch := omega) only [bsW, WOp, WOq, WV, bo, eqN, gdc, gw, bnd, ↓reduceIte, Nat.reduceEqDiff, rsvs, rsv, oneOf, rdN, ne_eq, Nat.reduceAdd, Nat.reduceMul, Nat.reduceLT, reduceCtorEq, Value.cells, setN, Value.oneCell', Nat.reduceLeDiff, undef, fcT, g6, g25, g26, g27, c0, Nat.mul_one]) (by simp (disch := omega) only [bsW, WOp, WOq, WV, bo, eqN, gdc, gw, bnd, ↓reduceIte, Nat.reduceEqDiff, rsvs, rsv, oneOf, rdN, ne_eq, Nat.reduceAdd, Nat.reduceMul, Nat.reduceLT, reduceCtorEq, Value.cells, setN, Value.oneCell', Nat.reduceLeDiff, undef, fcT, g6, g25, g26, g27, c0, Nat.mul_one]) hO rfl ((hR j hlt).sub hs) (fun _ _ _ _ => rfl) (by omega) (by omega) ?_ ?_
          · intro h0
            simp (disch := omega) only [bsW, WOp, WOq, WV, bo, eqN, gdc, gw, bnd, ↓reduceIte, Nat.reduceEqDiff, rsvs, rsv, oneOf, rdN, ne_eq, Nat.reduceAdd, Nat.reduceMul, Nat.reduceLT, reduceCtorEq, Value.cells, setN, Value.oneCell', Nat.reduceLeDiff, undef, fcT, g6, g25, g26, g27, c0, Nat.mul_one]
            refine hK2 _ _ _ ?_
            exact ⟨j + 1, w, by omega, by omega, by simp (disch := omega) only [bsW, ↓reduceIte, Nat.reduceEqDiff, ne_eq, reduceCtorEq, fcT, g6, g25, g26, g27, c0, Nat.mul_one], by simp (disch := omega) only [bsW, ↓reduceIte, Nat.reduceEqDiff, ne_eq, reduceCtorEq, fcT, g6, g25, g26, g27, c0, Nat.mul_one], by simp (disch := omega) only [bsW, ↓reduceIte, Nat.reduceEqDiff, ne_eq, reduceCtorEq, fcT, g6, g25, g26, g27, c0, Nat.mul_one], by simp (disch := omega) only [bsW, ↓reduceIte, Nat.reduceEqDiff, ne_eq, reduceCtorEq, fcT, g6, g25, g26, g27, c0, Nat.mul_one, Int.natCast_add, Int.natCast_one], by (simp only [catF, h0, List.append_nil]; exact hO), hs, hx⟩
          · rintro v' b' o nx2 hb' hn2 hown' hO2
            have hlo : nx ≤ b' := by
              rcases hb' with e | e
              · exact (OwnR.blk hO e).1
              · omega
            simp (disch := omega) only [bsW, WOp, WOq, WV, bo, eqN, gdc, gw, bnd, ↓reduceIte, Nat.reduceEqDiff, rsvs, rsv, oneOf, rdN, ne_eq, Nat.reduceAdd, Nat.reduceMul, Nat.reduceLT, reduceCtorEq, Value.cells, setN, Value.oneCell', Nat.reduceLeDiff, undef, fcT, g6, g25, g26, g27, c0, Nat.mul_one]
            refine hK2 _ _ _ ?_
            exact ⟨j + 1, v', by omega, by omega, by simp (disch := omega) only [bsW, ↓reduceIte, Nat.reduceEqDiff, ne_eq, reduceCtorEq, fcT, g6, g25, g26, g27, c0, Nat.mul_one], by simp (disch := omega) only [bsW, ↓reduceIte, Nat.reduceEqDiff, ne_eq, reduceCtorEq, fcT, g6, g25, g26, g27, c0, Nat.mul_one], by simp (disch := omega) only [bsW, ↓reduceIte, Nat.reduceEqDiff, ne_eq, reduceCtorEq, fcT, g6, g25, g26, g27, c0, Nat.mul_one], by simp (disch := omega) only [bsW, ↓reduceIte, Nat.reduceEqDiff, ne_eq, reduceCtorEq, fcT, g6, g25, g26, g27, c0, Nat.mul_one, Int.natCast_add, Int.natCast_one], hO2, sub_up (nx := nx) hlo hB hs, by omega⟩
        · have hjk : j = k := by simp at b2; omega
          subst hjk
          simp (disch := omega) only [bsW, WOp, WOq, WV, bo, eqN, gdc, gw, bnd, ↓reduceIte, Nat.reduceEqDiff, rsvs, rsv, oneOf, rdN, ne_eq, Nat.reduceAdd, Nat.reduceMul, Nat.reduceLT, reduceCtorEq, Value.cells, setN, Value.oneCell', Nat.reduceLeDiff, undef, fcT, g6, g25, g26, g27, b2]
          exact ⟨hO, hs⟩
      · rintro fr2 H' nx' ⟨j, w, hmm2, _⟩; omega
      · exact ⟨0, _, by omega, by omega, by simp (disch := omega) only [bsW, ↓reduceIte, Nat.reduceEqDiff, ne_eq, reduceCtorEq, fcT], by simp (disch := omega) only [bsW, ↓reduceIte, Nat.reduceEqDiff, ne_eq, reduceCtorEq, fcT, f0], by simp (disch := omega) only [bsW, ↓reduceIte, Nat.reduceEqDiff, ne_eq, reduceCtorEq, fcT], by simp (disch := omega) only [bsW, ↓reduceIte, Nat.reduceEqDiff, ne_eq, reduceCtorEq, fcT, Int.natCast_zero], hO1, hs1, hx1⟩
  · rintro fr H' nx' ⟨k, hmm, _⟩; omega
  · exact ⟨0, by omega, by omega, by simp (disch := omega) only [bsW, ↓reduceIte, Nat.reduceEqDiff, ne_eq, reduceCtorEq, fcT], by simp (disch := omega) only [bsW, ↓reduceIte, Nat.reduceEqDiff, ne_eq, reduceCtorEq, fcT, catF, List.length_nil, Int.natCast_zero], by simp (disch := omega) only [bsW, ↓reduceIte, Nat.reduceEqDiff, ne_eq, reduceCtorEq, fcT], by simp (disch := omega) only [bsW, ↓reduceIte, Nat.reduceEqDiff, ne_eq, reduceCtorEq, fcT], by simp (disch := omega) only [bsW, ↓reduceIte, Nat.reduceEqDiff, ne_eq, reduceCtorEq, fcT, Int.natCast_zero], rfl, rfl⟩
end Go.Proofs.YtbhabpenlaklcaaDoor
