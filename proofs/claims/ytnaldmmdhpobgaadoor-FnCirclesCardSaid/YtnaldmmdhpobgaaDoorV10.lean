/- The reference's circles, all of them. -/
import Derived.Test.YtnaldmmdhpobgaaDoorV9
set_option linter.unusedVariables false
set_option linter.unusedSimpArgs false
set_option maxRecDepth 100000
set_option maxHeartbeats 1000000
namespace Go.Proofs.YtnaldmmdhpobgaaDoor
open Go Go.RowKit Go.Proofs

theorem restM_none {sub : List Int → List (List Int)} {n most m : Nat} {f : Nat → Nat → Int} {p : Nat} {b : List Int} {own : List (List Int)} (h : absN n b = 0) : ∀ j : Nat, p + 1 + j ≤ n → restM sub most m f p b own j = own
  | 0, _ => rfl
  | j + 1, hj => by
    simp only [restM, restM_none (sub := sub) (most := most) (m := m) (f := f) (own := own) h j (show p + 1 + j ≤ n by omega)]
    refine if_neg fun hc => ?_
    have := absN_pos (cand_not hc.2).1 n (show p + 1 + j < n by omega)
    omega
theorem l20From (n m most p : Nat) (f : Nat → Nat → Int) (Aw : Option Addr) (cw : Nat) (hok : wssOk (n : Int) m f) (hp : p < n) (hmost : 1 ≤ most ∧ most ≤ 1000000) :
    ∀ (u : Nat) (b : List Int), u ≤ 8 → begC n m f p b → absN n b ≤ u → ∀ (A : Option Addr) (c : Nat) (H : Hp) (nx : Nat), Rd H Aw m 3 f → RdL H A b →
      AC Tryd.prog 42 #[.int .i64 n, .slice Aw m cw, .slice A b.length c, .int .i64 most] H nx (NewLL H nx (circsM most n m f p u b) 22 3)
  | 0, b, hu, hb, ha, A, c, H, nx, hw, h => by
    have e := restM_none (sub := fun _ => []) (most := most) (m := m) (f := f) (p := p) (own := ownC m f p b) (show absN n b = 0 by omega) (n - (p + 1)) (by omega)
    have e2 : circsM most n m f p 0 b = restM (fun _ => []) most m f p b (ownC m f p b) (n - (p + 1)) := e.symm
    rw [e2]
    refine l20From_step n m most p f b (fun _ => []) Aw A cw c H nx hok hp hb hmost ?_ ?_ hw h
    · rw [e]
      have := ownC_len m f p b
      omega
    · intro k h1 h2 h3
      have := absN_pos (cand_not h3).1 n h2
      omega
  | u + 1, b, hu, hb, ha, A, c, H, nx, hw, h => by
    refine l20From_step n m most p f b (circsM most n m f p u) Aw A cw c H nx hok hp hb hmost ?_ ?_ hw h
    · have h1 := (circsM_cap (most := most) (n := n) (m := m) (f := f) (p := p) (u + 1) b).le
      have h2 := circs_len (m := m) (f := f) hp (u + 1) b ha
      have h3 := tc_le hu
      have h4 : (restM (circsM most n m f p u) most m f p b (ownC m f p b) (n - (p + 1))).length ≤ (circs n m f p (u + 1) b).length := h1
      omega
    · intro k h1 h2 h3 A' c' H' nx' hw' h'
      have := absN_step (cand_not h3).1 n h2
      exact l20From n m most p f Aw cw hok hp hmost u _ (by omega) (hb.next h1 h2 h3) (by omega) A' c' H' nx' hw' h'
theorem circs_all {n m p : Nat} {f : Nat → Nat → Int} (hn : n ≤ 8) (hp : p < n) : circsM 1000000 n m f p n [(p : Int)] = circs n m f p n [(p : Int)] := by
  refine (circsM_cap n _).yes ?_
  have h1 := absN_one n hp
  have h2 := circs_len (m := m) (f := f) hp n [(p : Int)] (by omega)
  have h3 := tc_le hn
  omega
theorem RdL.one {H : Hp} {b ty : Nat} {x : Int} (h : H b = some (.rw [.int .i64 x] ty)) : RdL H (some ⟨b, 0, none⟩) [x] := by
  refine Rd.of (ty := ty) ?_
  rw [h]
  have : flat [x].length 1 (rowL [x]) = [.int .i64 x] := by simp [flat, rowL, List.range_succ]
  rw [this]
theorem l20All (n m : Nat) (f : Nat → Nat → Int) (Aw : Option Addr) (cw : Nat) (hok : wssOk (n : Int) m f) (H : Hp) (nx : Nat) (hw : Rd H Aw m 3 f) :
    AC Tryd.prog 46 #[.int .i64 n, .slice Aw m cw] H nx (NewLL H nx (allC n m f n) 22 3) := by
  have hN8 := hok.1
  refine AC_of x_spec_l20All rfl fun hB => ?_
  simp (disch := omega) only [bsW, WOp, WOq, WV, bo, eqN, gdc, gw, bnd, ↓reduceIte, Nat.reduceEqDiff, rsvs, rsv, oneOf, rdN, ne_eq, Nat.reduceAdd, Nat.reduceMul, Nat.reduceLT, reduceCtorEq, Value.cells, setN, Value.oneCell', Nat.reduceLeDiff, undef, fcT, c_spec_l20All]
  (repeat' (first | ((with_reducible refine gif_split (fun hs_ => ?_) (fun hs_ => ?_)) <;> (have hp_ := hs_; (try simp only [hpL, ne_eq] at hp_); (try simp (disch := omega) only [bsW, WOp, WOq, WV, bo, eqN, gdc, gw, bnd, ↓reduceIte, Nat.reduceEqDiff, rsvs, rsv, oneOf, rdN, ne_eq, Nat.reduceAdd, Nat.reduceMul, Nat.reduceLT, reduceCtorEq, Value.cells, setN, Value.oneCell', Nat.reduceLeDiff, undef, fcT, hs_]))) | ((first | (with_reducible refine newB_i (fun nb_ hb_ => ?_)) | (with_reducible refine RgE_i (fun (hBd_ : Bd _ _) => ?_))); (try simp (disch := omega) only [bsW, WOp, WOq, WV, bo, eqN, gdc, gw, bnd, ↓reduceIte, Nat.reduceEqDiff, rsvs, rsv, oneOf, rdN, ne_eq, Nat.reduceAdd, Nat.reduceMul, Nat.reduceLT, reduceCtorEq, Value.cells, setN, Value.oneCell', Nat.reduceLeDiff, undef, fcT])) | (with_reducible refine fun (hBd_ : Bd _ _) => ?_) | ((first | (with_reducible refine @And.intro (Sub _ _) _ ?_ ?_) | ((with_reducible refine @And.intro (Sub _ _ ∧ _) _ ?_ ?_); (with_reducible refine @And.intro (Sub _ _) _ ?_ ?_))); exact sbX) | ((with_reducible refine And.intro ?_ ?_); omega)))
  refine LpB_rule (fun mm fr H' nx' => ∃ (k : Nat) (v : Value), mm = n - k + 1 ∧ k ≤ n ∧ fr 0 = .int .i64 n ∧ fr 1 = .slice Aw m cw ∧ fr 5 = v ∧ fr 6 = .int .i64 k ∧ Sub H H' ∧ nx ≤ nx' ∧ OwnLL H' nx nx' (allC n m f k) 22 3 v) ?_ ?_ (n + 1) ?_
  · rintro mm K hK fr H' nx' hB' ⟨k, v, hmm, hk, f0, f1, f5, f6, hs, hx, hO⟩
    obtain ⟨Av, cv, rfl, hcv, hRv⟩ := hO.rd
    by_cases hkn : k < n
    case neg =>
      have d1 : decide ((k : Int) < (n : Int)) = false := decide_eq_false (by omega)
      simp (disch := omega) only [bsW, WOp, WOq, WV, bo, eqN, gdc, gw, bnd, ↓reduceIte, Nat.reduceEqDiff, rsvs, rsv, oneOf, rdN, ne_eq, Nat.reduceAdd, Nat.reduceMul, Nat.reduceLT, reduceCtorEq, Value.cells, setN, Value.oneCell', Nat.reduceLeDiff, undef, fcT, f0, f1, f5, f6, d1]
      (repeat' (first | ((with_reducible refine gif_split (fun hs_ => ?_) (fun hs_ => ?_)) <;> (have hp_ := hs_; (try simp only [hpL, ne_eq] at hp_); (try simp (disch := omega) only [bsW, WOp, WOq, WV, bo, eqN, gdc, gw, bnd, ↓reduceIte, Nat.reduceEqDiff, rsvs, rsv, oneOf, rdN, ne_eq, Nat.reduceAdd, Nat.reduceMul, Nat.reduceLT, reduceCtorEq, Value.cells, setN, Value.oneCell', Nat.reduceLeDiff, undef, fcT, f0, f1, f5, f6, d1, hs_]))) | ((first | (with_reducible refine newB_i (fun nb_ hb_ => ?_)) | (with_reducible refine RgE_i (fun (hBd_ : Bd _ _) => ?_))); (try simp (disch := omega) only [bsW, WOp, WOq, WV, bo, eqN, gdc, gw, bnd, ↓reduceIte, Nat.reduceEqDiff, rsvs, rsv, oneOf, rdN, ne_eq, Nat.reduceAdd, Nat.reduceMul, Nat.reduceLT, reduceCtorEq, Value.cells, setN, Value.oneCell', Nat.reduceLeDiff, undef, fcT, f0, f1, f5, f6, d1])) | (with_reducible refine fun (hBd_ : Bd _ _) => ?_) | ((first | (with_reducible refine @And.intro (Sub _ _) _ ?_ ?_) | ((with_reducible refine @And.intro (Sub _ _ ∧ _) _ ?_ ?_); (with_reducible refine @And.intro (Sub _ _) _ ?_ ?_))); exact sbX) | ((with_reducible refine And.intro ?_ ?_); omega)))
      have hkn2 : k = n := by omega
      subst hkn2
      exact ⟨hO, hs⟩
    have d1 : decide ((k : Int) < (n : Int)) = true := decide_eq_true (by omega)
    simp (disch := omega) only [bsW, WOp, WOq, WV, bo, eqN, gdc, gw, bnd, ↓reduceIte, Nat.reduceEqDiff, rsvs, rsv, oneOf, rdN, ne_eq, Nat.reduceAdd, Nat.reduceMul, Nat.reduceLT, reduceCtorEq, Value.cells, setN, Value.oneCell', Nat.reduceLeDiff, undef, fcT, f0, f1, f5, f6, d1]
    (repeat' (first | ((with_reducible refine gif_split (fun hs_ => ?_) (fun hs_ => ?_)) <;> (have hp_ := hs_; (try simp only [hpL, ne_eq] at hp_); (try simp (disch := omega) only [bsW, WOp, WOq, WV, bo, eqN, gdc, gw, bnd, ↓reduceIte, Nat.reduceEqDiff, rsvs, rsv, oneOf, rdN, ne_eq, Nat.reduceAdd, Nat.reduceMul, Nat.reduceLT, reduceCtorEq, Value.cells, setN, Value.oneCell', Nat.reduceLeDiff, undef, fcT, f0, f1, f5, f6, d1, hs_]))) | ((first | (with_reducible refine newB_i (fun nb_ hb_ => ?_)) | (with_reducible refine RgE_i (fun (hBd_ : Bd _ _) => ?_))); (try simp (disch := omega) only [bsW, WOp, WOq, WV, bo, eqN, gdc, gw, bnd, ↓reduceIte, Nat.reduceEqDiff, rsvs, rsv, oneOf, rdN, ne_eq, Nat.reduceAdd, Nat.reduceMul, Nat.reduceLT, reduceCtorEq, Value.cells, setN, Value.oneCell', Nat.reduceLeDiff, undef, fcT, f0, f1, f5, f6, d1])) | (with_reducible refine fun (hBd_ : Bd _ _) => ?_) | ((first | (with_reducible refine @And.intro (Sub _ _) _ ?_ ?_) | ((with_reducible refine @And.intro (Sub _ _ ∧ _) _ ?_ ?_); (with_reducible refine @And.intro (Sub _ _) _ ?_ ?_))); exact sbX) | ((with_reducible refine And.intro ?_ ?_); omega)))
    have hsb : Sub H' (upd H' nb_ (.rw [.int .i64 (k : Int)] 3)) := sub_new hB' hb_
    refine (l20From n m 1000000 k f Aw cw hok hkn (by omega) n [(k : Int)] (by omega) (begC.one hkn) (by have := absN_one n hkn; omega) (some ⟨nb_, 0, none⟩) 1 _ _ (hw.sub (hs.trans hsb)) (RdL.one (upd_same _ _ _))).monoC ?_
    rintro v3 H3 nx3 hB3 hx3 ⟨hO3, ht3⟩
    rw [circs_all (by omega) hkn] at hO3
    obtain ⟨A3, q3, rfl, hq3, hR3⟩ := hO3.rd
    have hl1 := allC_len (m := m) (f := f) (show n ≤ 8 by omega) (k + 1) (by omega)
    simp only [allC, List.length_append] at hl1
    simp (disch := omega) only [bsW, WOp, WOq, WV, bo, eqN, gdc, gw, bnd, ↓reduceIte, Nat.reduceEqDiff, rsvs, rsv, oneOf, rdN, ne_eq, Nat.reduceAdd, Nat.reduceMul, Nat.reduceLT, reduceCtorEq, Value.cells, setN, Value.oneCell', Nat.reduceLeDiff, undef, fcT, f0, f1, f5, f6]
    (repeat' (first | ((with_reducible refine gif_split (fun hs_ => ?_) (fun hs_ => ?_)) <;> (have hp_ := hs_; (try simp only [hpL, ne_eq] at hp_); (try simp (disch := omega) only [bsW, WOp, WOq, WV, bo, eqN, gdc, gw, bnd, ↓reduceIte, Nat.reduceEqDiff, rsvs, rsv, oneOf, rdN, ne_eq, Nat.reduceAdd, Nat.reduceMul, Nat.reduceLT, reduceCtorEq, Value.cells, setN, Value.oneCell', Nat.reduceLeDiff, undef, fcT, f0, f1, f5, f6, hs_]))) | ((first | (with_reducible refine newB_i (fun nb_ hb_ => ?_)) | (with_reducible refine RgE_i (fun (hBd_ : Bd _ _) => ?_))); (try simp (disch := omega) only [bsW, WOp, WOq, WV, bo, eqN, gdc, gw, bnd, ↓reduceIte, Nat.reduceEqDiff, rsvs, rsv, oneOf, rdN, ne_eq, Nat.reduceAdd, Nat.reduceMul, Nat.reduceLT, reduceCtorEq, Value.cells, setN, Value.oneCell', Nat.reduceLeDiff, undef, fcT, f0, f1, f5, f6])) | (with_reducible refine fun (hBd_ : Bd _ _) => ?_) | ((first | (with_reducible refine @And.intro (Sub _ _) _ ?_ ?_) | ((with_reducible refine @And.intro (Sub _ _ ∧ _) _ ?_ ?_); (with_reducible refine @And.intro (Sub _ _) _ ?_ ?_))); exact sbX) | ((with_reducible refine And.intro ?_ ?_); omega)))
    refine appLL_LL (lo := nx) (n1 := nb_ + 1) (by simp (disch := omega) only [bsW, WOp, WOq, WV, bo, eqN, gdc, gw, bnd, ↓reduceIte, Nat.reduceEqDiff, rsvs, rsv, oneOf, rdN, ne_eq, Nat.reduceAdd, Nat.reduceMul, Nat.reduceLT, reduceCtorEq, Value.cells, setN, Value.oneCell', Nat.reduceLeDiff, undef, fcT, f0, f1, f5, f6]) (by simp (disch := omega) only [bsW, WOp, WOq, WV, bo, eqN, gdc, gw, bnd, ↓reduceIte, Nat.reduceEqDiff, rsvs, rsv, oneOf, rdN, ne_eq, Nat.reduceAdd, Nat.reduceMul, Nat.reduceLT, reduceCtorEq, Value.cells, setN, Value.oneCell', Nat.reduceLeDiff, undef, fcT, f0, f1, f5, f6]) (by simp (disch := omega) only [bsW, WOp, WOq, WV, bo, eqN, gdc, gw, bnd, ↓reduceIte, Nat.reduceEqDiff, rsvs, rsv, oneOf, rdN, ne_eq, Nat.reduceAdd, Nat.reduceMul, Nat.reduceLT, reduceCtorEq, Value.cells, setN, Value.oneCell', Nat.reduceLeDiff, undef, fcT, f0, f1, f5, f6]) ⟨_, qz22, rfl⟩ (((hO.subI hsb).subI ht3).wide (Nat.le_refl _) (by omega)) (by omega) (by omega) hO3 (by omega) ?_
    rintro v4 H4 nx4 hO4 hk1 hk2 hx4 hBd4 hvb4
    simp (disch := omega) only [bsW, WOp, WOq, WV, bo, eqN, gdc, gw, bnd, ↓reduceIte, Nat.reduceEqDiff, rsvs, rsv, oneOf, rdN, ne_eq, Nat.reduceAdd, Nat.reduceMul, Nat.reduceLT, reduceCtorEq, Value.cells, setN, Value.oneCell', Nat.reduceLeDiff, undef, fcT, f0, f1, f5, f6]
    refine hK _ _ _ ?_
    refine ⟨k + 1, v4, by omega, by omega, by simp (disch := omega) only [bsW, ↓reduceIte, Nat.reduceEqDiff, ne_eq, reduceCtorEq, fcT, f0, f1, f5, f6], by simp (disch := omega) only [bsW, ↓reduceIte, Nat.reduceEqDiff, ne_eq, reduceCtorEq, fcT, f0, f1, f5, f6], by simp (disch := omega) only [bsW, ↓reduceIte, Nat.reduceEqDiff, ne_eq, reduceCtorEq, fcT, f0, f1, f5, f6], by simp (disch := omega) only [bsW, ↓reduceIte, Nat.reduceEqDiff, ne_eq, reduceCtorEq, fcT, f0, f1, f5, f6, Int.natCast_add, Int.natCast_one], ?_, by omega, hO4⟩
    exact fun c o e => by
      have := hB c o e
      rw [hk1 c this]
      exact ht3 _ _ (hsb _ _ (hs _ _ e))
  · rintro fr H' nx' ⟨k, v, hmm, _⟩; omega
  · exact ⟨0, _, by omega, by omega, by simp (disch := omega) only [bsW, ↓reduceIte, Nat.reduceEqDiff, ne_eq, reduceCtorEq, fcT], by simp (disch := omega) only [bsW, ↓reduceIte, Nat.reduceEqDiff, ne_eq, reduceCtorEq, fcT], by (simp (disch := omega) only [bsW, ↓reduceIte, Nat.reduceEqDiff, ne_eq, reduceCtorEq, fcT]) <;> exact rfl, by simp (disch := omega) only [bsW, ↓reduceIte, Nat.reduceEqDiff, ne_eq, reduceCtorEq, fcT, Int.natCast_zero], sub_new hB hb_, by omega, .empty hb_ (by omega) (upd_same _ _ _)⟩

/-- Rows of rows, and whether they are told. -/
structure LLFlag (H : Hp) (nx : Nat) (ls : List (List Int)) (te ti : TypeId) (flag : Bool) (v : Value) (H' : Hp) (nx' : Nat) : Prop where
  ex : ∃ w, v = .tuple #[w, .bool flag] ∧ NewLL H nx ls te ti w H' nx'
noncomputable def coB (N : Int) (m : Nat) (f : Nat → Nat → Int) (x : Int) : Bool := wssB N m f && inR x 0 (N - 1) && decide ((circs N.toNat m f x.toNat N.toNat [x]).length ≤ 200)
noncomputable def coL (N : Int) (m : Nat) (f : Nat → Nat → Int) (x : Int) : List (List Int) := if coB N m f x = true then circs N.toNat m f x.toNat N.toNat [x] else []
theorem sCirclesOf (N x : Int) (Aw : Option Addr) (m cw : Nat) (f : Nat → Nat → Int) (H : Hp) (nx : Nat) (hN : -9223372036854775808 ≤ N ∧ N ≤ 9223372036854775807) (hm : m ≤ 9223372036854775807) (hw : Rd H Aw m 3 f) :
    AC Tryd.prog 12 #[.int .i64 N, .slice Aw m cw, .int .i64 x] H nx (LLFlag H nx (coL N m f x) 22 3 (coB N m f x)) := by
  by_cases hok : wssOk N m f
  case neg =>
    have e := wssB_no hok
    have e2 : coB N m f x = false := by simp [coB, e]
    have e3 : coL N m f x = [] := by simp [coL, e2]
    rw [e2, e3]
    refine AC_of x_spec_CirclesOf rfl fun hB => ?_
    simp (disch := omega) only [bsW, WOp, WOq, WV, bo, eqN, gdc, gw, bnd, ↓reduceIte, Nat.reduceEqDiff, rsvs, rsv, oneOf, rdN, ne_eq, Nat.reduceAdd, Nat.reduceMul, Nat.reduceLT, reduceCtorEq, Value.cells, setN, Value.oneCell', Nat.reduceLeDiff, undef, fcT, e, Bool.not_false, c_spec_CirclesOf]
    (repeat' (first | ((with_reducible refine gif_split (fun hs_ => ?_) (fun hs_ => ?_)) <;> (have hp_ := hs_; (try simp only [hpL, ne_eq] at hp_); (try simp (disch := omega) only [bsW, WOp, WOq, WV, bo, eqN, gdc, gw, bnd, ↓reduceIte, Nat.reduceEqDiff, rsvs, rsv, oneOf, rdN, ne_eq, Nat.reduceAdd, Nat.reduceMul, Nat.reduceLT, reduceCtorEq, Value.cells, setN, Value.oneCell', Nat.reduceLeDiff, undef, fcT, e, Bool.not_false, hs_]))) | ((first | (with_reducible refine newB_i (fun nb_ hb_ => ?_)) | ((with_reducible show QC _ _ _ _ _ _); (first | (refine QC_i (l20Good N _ _ _ f _ _ hm hN hw) ?_))) | ((with_reducible show AC _ _ _ _ _ _); (first | (refine PC.ac (l20Good N _ _ _ f _ _ hm hN hw) ?_))) | (with_reducible refine RgE_i (fun (hBd_ : Bd _ _) => ?_))); (try simp (disch := omega) only [bsW, WOp, WOq, WV, bo, eqN, gdc, gw, bnd, ↓reduceIte, Nat.reduceEqDiff, rsvs, rsv, oneOf, rdN, ne_eq, Nat.reduceAdd, Nat.reduceMul, Nat.reduceLT, reduceCtorEq, Value.cells, setN, Value.oneCell', Nat.reduceLeDiff, undef, fcT, e, Bool.not_false])) | (with_reducible refine fun (hBd_ : Bd _ _) => ?_) | ((first | (with_reducible refine @And.intro (Sub _ _) _ ?_ ?_) | ((with_reducible refine @And.intro (Sub _ _ ∧ _) _ ?_ ?_); (with_reducible refine @And.intro (Sub _ _) _ ?_ ?_))); exact sbX) | ((with_reducible refine And.intro ?_ ?_); omega)))
    exact ⟨_, rfl, .empty hb_ (by omega) (upd_same _ _ _), sub_new hB hb_⟩
  have e := wssB_iff.2 hok
  have hN8 := hok.1
  by_cases hx : inR x 0 (N - 1) = true
  case neg =>
    have hx : inR x 0 (N - 1) = false := by simpa using hx
    have e2 : coB N m f x = false := by simp [coB, hx]
    have e3 : coL N m f x = [] := by simp [coL, e2]
    rw [e2, e3]
    refine AC_of x_spec_CirclesOf rfl fun hB => ?_
    simp (disch := omega) only [bsW, WOp, WOq, WV, bo, eqN, gdc, gw, bnd, ↓reduceIte, Nat.reduceEqDiff, rsvs, rsv, oneOf, rdN, ne_eq, Nat.reduceAdd, Nat.reduceMul, Nat.reduceLT, reduceCtorEq, Value.cells, setN, Value.oneCell', Nat.reduceLeDiff, undef, fcT, e, hx, Bool.not_false, Bool.not_true, c_spec_CirclesOf]
    (repeat' (first | ((with_reducible refine gif_split (fun hs_ => ?_) (fun hs_ => ?_)) <;> (have hp_ := hs_; (try simp only [hpL, ne_eq] at hp_); (try simp (disch := omega) only [bsW, WOp, WOq, WV, bo, eqN, gdc, gw, bnd, ↓reduceIte, Nat.reduceEqDiff, rsvs, rsv, oneOf, rdN, ne_eq, Nat.reduceAdd, Nat.reduceMul, Nat.reduceLT, reduceCtorEq, Value.cells, setN, Value.oneCell', Nat.reduceLeDiff, undef, fcT, e, hx, Bool.not_false, Bool.not_true, hs_]))) | ((first | (with_reducible refine newB_i (fun nb_ hb_ => ?_)) | ((with_reducible show QC _ _ _ _ _ _); (first | (refine QC_i (l20Good N _ _ _ f _ _ hm hN hw) ?_) | (refine QC_i (l20Person _ _ _ _) ?_))) | ((with_reducible show AC _ _ _ _ _ _); (first | (refine PC.ac (l20Good N _ _ _ f _ _ hm hN hw) ?_) | (refine PC.ac (l20Person _ _ _ _) ?_))) | (with_reducible refine RgE_i (fun (hBd_ : Bd _ _) => ?_))); (try simp (disch := omega) only [bsW, WOp, WOq, WV, bo, eqN, gdc, gw, bnd, ↓reduceIte, Nat.reduceEqDiff, rsvs, rsv, oneOf, rdN, ne_eq, Nat.reduceAdd, Nat.reduceMul, Nat.reduceLT, reduceCtorEq, Value.cells, setN, Value.oneCell', Nat.reduceLeDiff, undef, fcT, e, hx, Bool.not_false, Bool.not_true])) | (with_reducible refine fun (hBd_ : Bd _ _) => ?_) | ((first | (with_reducible refine @And.intro (Sub _ _) _ ?_ ?_) | ((with_reducible refine @And.intro (Sub _ _ ∧ _) _ ?_ ?_); (with_reducible refine @And.intro (Sub _ _) _ ?_ ?_))); exact sbX) | ((with_reducible refine And.intro ?_ ?_); omega)))
    exact ⟨_, rfl, .empty hb_ (by omega) (upd_same _ _ _), sub_new hB hb_⟩
  have hx2 := inR_true.1 hx
  obtain ⟨n, rfl⟩ : ∃ n : Nat, N = (n : Int) := ⟨N.toNat, by omega⟩
  obtain ⟨p, rfl⟩ : ∃ p : Nat, x = (p : Int) := ⟨x.toNat, by omega⟩
  have hp : p < n := by omega
  refine AC_of x_spec_CirclesOf rfl fun hB => ?_
  simp (disch := omega) only [bsW, WOp, WOq, WV, bo, eqN, gdc, gw, bnd, ↓reduceIte, Nat.reduceEqDiff, rsvs, rsv, oneOf, rdN, ne_eq, Nat.reduceAdd, Nat.reduceMul, Nat.reduceLT, reduceCtorEq, Value.cells, setN, Value.oneCell', Nat.reduceLeDiff, undef, fcT, e, hx, Bool.not_false, Bool.not_true, c_spec_CirclesOf]
  (repeat' (first | ((with_reducible refine gif_split (fun hs_ => ?_) (fun hs_ => ?_)) <;> (have hp_ := hs_; (try simp only [hpL, ne_eq] at hp_); (try simp (disch := omega) only [bsW, WOp, WOq, WV, bo, eqN, gdc, gw, bnd, ↓reduceIte, Nat.reduceEqDiff, rsvs, rsv, oneOf, rdN, ne_eq, Nat.reduceAdd, Nat.reduceMul, Nat.reduceLT, reduceCtorEq, Value.cells, setN, Value.oneCell', Nat.reduceLeDiff, undef, fcT, e, hx, Bool.not_false, Bool.not_true, hs_]))) | ((first | (with_reducible refine newB_i (fun nb_ hb_ => ?_)) | ((with_reducible show QC _ _ _ _ _ _); (first | (refine QC_i (l20Good _ _ _ _ f _ _ hm hN hw) ?_) | (refine QC_i (l20Person _ _ _ _) ?_))) | ((with_reducible show AC _ _ _ _ _ _); (first | (refine PC.ac (l20Good _ _ _ _ f _ _ hm hN hw) ?_) | (refine PC.ac (l20Person _ _ _ _) ?_))) | (with_reducible refine RgE_i (fun (hBd_ : Bd _ _) => ?_))); (try simp (disch := omega) only [bsW, WOp, WOq, WV, bo, eqN, gdc, gw, bnd, ↓reduceIte, Nat.reduceEqDiff, rsvs, rsv, oneOf, rdN, ne_eq, Nat.reduceAdd, Nat.reduceMul, Nat.reduceLT, reduceCtorEq, Value.cells, setN, Value.oneCell', Nat.reduceLeDiff, undef, fcT, e, hx, Bool.not_false, Bool.not_true])) | (with_reducible refine fun (hBd_ : Bd _ _) => ?_) | ((first | (with_reducible refine @And.intro (Sub _ _) _ ?_ ?_) | ((with_reducible refine @And.intro (Sub _ _ ∧ _) _ ?_ ?_); (with_reducible refine @And.intro (Sub _ _) _ ?_ ?_))); exact sbX) | ((with_reducible refine And.intro ?_ ?_); omega)))
  have hsb : Sub H (upd H nb_ (.rw [.int .i64 (p : Int)] 3)) := sub_new hB hb_
  refine (l20From n m 201 p f Aw cw hok hp (by omega) n [(p : Int)] (by omega) (begC.one hp) (by have := absN_one n hp; omega) (some ⟨nb_, 0, none⟩) 1 _ _ (hw.sub hsb) (RdL.one (upd_same _ _ _))).monoC ?_
  rintro v3 H3 nx3 hB3 hx3 ⟨hO3, ht3⟩
  have hcap := circsM_cap (most := 201) (n := n) (m := m) (f := f) (p := p) n [(p : Int)]
  obtain ⟨A3, q3, rfl, hq3, hR3⟩ := hO3.rd
  have hs3 := hsb.trans ht3
  by_cases hl : (circs n m f p n [(p : Int)]).length ≤ 200
  · rw [hcap.yes (by omega)] at *
    have e2 : coB (n : Int) m f (p : Int) = true := by simp [coB, e, hx, hl]
    have e3 : coL (n : Int) m f (p : Int) = circs n m f p n [(p : Int)] := by simp [coL, e2]
    rw [e2, e3]
    have d1 : decide ((200 : Int) < ((circs n m f p n [(p : Int)]).length : Int)) = false := decide_eq_false (by omega)
    simp (disch := omega) only [bsW, WOp, WOq, WV, bo, eqN, gdc, gw, bnd, ↓reduceIte, Nat.reduceEqDiff, rsvs, rsv, oneOf, rdN, ne_eq, Nat.reduceAdd, Nat.reduceMul, Nat.reduceLT, reduceCtorEq, Value.cells, setN, Value.oneCell', Nat.reduceLeDiff, undef, fcT, d1]
    (repeat' (first | ((with_reducible refine gif_split (fun hs_ => ?_) (fun hs_ => ?_)) <;> (have hp_ := hs_; (try simp only [hpL, ne_eq] at hp_); (try simp (disch := omega) only [bsW, WOp, WOq, WV, bo, eqN, gdc, gw, bnd, ↓reduceIte, Nat.reduceEqDiff, rsvs, rsv, oneOf, rdN, ne_eq, Nat.reduceAdd, Nat.reduceMul, Nat.reduceLT, reduceCtorEq, Value.cells, setN, Value.oneCell', Nat.reduceLeDiff, undef, fcT, d1, hs_]))) | ((first | (with_reducible refine newB_i (fun nb_ hb_ => ?_)) | (with_reducible refine RgE_i (fun (hBd_ : Bd _ _) => ?_))); (try simp (disch := omega) only [bsW, WOp, WOq, WV, bo, eqN, gdc, gw, bnd, ↓reduceIte, Nat.reduceEqDiff, rsvs, rsv, oneOf, rdN, ne_eq, Nat.reduceAdd, Nat.reduceMul, Nat.reduceLT, reduceCtorEq, Value.cells, setN, Value.oneCell', Nat.reduceLeDiff, undef, fcT, d1])) | (with_reducible refine fun (hBd_ : Bd _ _) => ?_) | ((first | (with_reducible refine @And.intro (Sub _ _) _ ?_ ?_) | ((with_reducible refine @And.intro (Sub _ _ ∧ _) _ ?_ ?_); (with_reducible refine @And.intro (Sub _ _) _ ?_ ?_))); exact sbX) | ((with_reducible refine And.intro ?_ ?_); omega)))
    exact ⟨_, rfl, hO3.wide (by omega) (Nat.le_refl _), hs3⟩
  · have e2 : coB (n : Int) m f (p : Int) = false := by simp [coB, hl]
    have e3 : coL (n : Int) m f (p : Int) = [] := by simp [coL, e2]
    rw [e2, e3]
    have hge : 200 < (circsM 201 n m f p n [(p : Int)]).length := by
      rcases hcap with h | h
      · rw [h]; omega
      · omega
    have d1 : decide ((200 : Int) < ((circsM 201 n m f p n [(p : Int)]).length : Int)) = true := decide_eq_true (by omega)
    simp (disch := omega) only [bsW, WOp, WOq, WV, bo, eqN, gdc, gw, bnd, ↓reduceIte, Nat.reduceEqDiff, rsvs, rsv, oneOf, rdN, ne_eq, Nat.reduceAdd, Nat.reduceMul, Nat.reduceLT, reduceCtorEq, Value.cells, setN, Value.oneCell', Nat.reduceLeDiff, undef, fcT, d1]
    (repeat' (first | ((with_reducible refine gif_split (fun hs_ => ?_) (fun hs_ => ?_)) <;> (have hp_ := hs_; (try simp only [hpL, ne_eq] at hp_); (try simp (disch := omega) only [bsW, WOp, WOq, WV, bo, eqN, gdc, gw, bnd, ↓reduceIte, Nat.reduceEqDiff, rsvs, rsv, oneOf, rdN, ne_eq, Nat.reduceAdd, Nat.reduceMul, Nat.reduceLT, reduceCtorEq, Value.cells, setN, Value.oneCell', Nat.reduceLeDiff, undef, fcT, d1, hs_]))) | ((first | (with_reducible refine newB_i (fun nb_ hb_ => ?_)) | (with_reducible refine RgE_i (fun (hBd_ : Bd _ _) => ?_))); (try simp (disch := omega) only [bsW, WOp, WOq, WV, bo, eqN, gdc, gw, bnd, ↓reduceIte, Nat.reduceEqDiff, rsvs, rsv, oneOf, rdN, ne_eq, Nat.reduceAdd, Nat.reduceMul, Nat.reduceLT, reduceCtorEq, Value.cells, setN, Value.oneCell', Nat.reduceLeDiff, undef, fcT, d1])) | (with_reducible refine fun (hBd_ : Bd _ _) => ?_) | ((first | (with_reducible refine @And.intro (Sub _ _) _ ?_ ?_) | ((with_reducible refine @And.intro (Sub _ _ ∧ _) _ ?_ ?_); (with_reducible refine @And.intro (Sub _ _) _ ?_ ?_))); exact sbX) | ((with_reducible refine And.intro ?_ ?_); omega)))
    exact ⟨_, rfl, .empty (by omega) (by omega) (upd_same _ _ _), fun c o e => by
      have := hB c o e
      rw [upd_ne (by omega)]
      exact hs3 _ _ e⟩
end Go.Proofs.YtnaldmmdhpobgaaDoor
