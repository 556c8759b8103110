/- Puzzles: a number put into a row. -/
import Derived.Test.YtbhabpenlaklcaaDoorQ10
set_option linter.unusedVariables false
set_option linter.unusedSimpArgs false
set_option maxRecDepth 100000
set_option maxHeartbeats 1000000
namespace Go.Proofs.YtbhabpenlaklcaaDoor
open Go Go.RowKit Go.Proofs

theorem insRow {l : List Int} {sp : List Value} {i : Nat} (x : Int) (hi : i < l.length) (hs : 1 ≤ sp.length) :
    setN (setN (intsV l ++ sp) (i + 1) 0 (intsV (l.drop i))) i 0 [.int .i64 x] = intsV (l.take i ++ [x] ++ l.drop i) ++ sp.drop 1 := by
  have hl : (intsV l).length = l.length := by simp [intsV]
  have hd : (intsV (l.drop i)).length = l.length - i := by simp [intsV]
  have h1 := setN_eq (intsV (l.drop i)) (intsV l ++ sp) (i + 1) 0 (by rw [List.length_append, hl, hd]; omega)
  have e1 : (intsV l ++ sp).take (i + 1 + 0) = intsV (l.take (i + 1)) := by
    rw [Nat.add_zero, List.take_append_of_le_length (by omega)]
    simp [intsV, List.map_take]
  have e2 : (intsV l ++ sp).drop (i + 1 + 0 + (intsV (l.drop i)).length) = sp.drop 1 := by
    rw [hd, List.drop_append, hl]
    rw [List.drop_eq_nil_of_le (by rw [hl]; omega), List.nil_append]
    congr 1
    omega
  rw [e1, e2] at h1
  rw [h1]
  have ht : (intsV (l.take (i + 1))).length = i + 1 := by simp [intsV]; omega
  have h2 := setN_eq [.int .i64 x] (intsV (l.take (i + 1)) ++ intsV (l.drop i) ++ sp.drop 1) i 0 (by simp only [List.length_append, ht, List.length_singleton]; omega)
  rw [h2]
  have e3 : (intsV (l.take (i + 1)) ++ intsV (l.drop i) ++ sp.drop 1).take (i + 0) = intsV (l.take i) := by
    rw [Nat.add_zero, List.append_assoc, List.take_append_of_le_length (by omega)]
    simp only [intsV, ← List.map_take, List.take_take]
    congr 2
    omega
  have e4 : (intsV (l.take (i + 1)) ++ intsV (l.drop i) ++ sp.drop 1).drop (i + 0 + [Value.int .i64 x].length) = intsV (l.drop i) ++ sp.drop 1 := by
    rw [List.append_assoc, List.drop_append, ht]
    rw [List.drop_eq_nil_of_le (by rw [ht]; simp), List.nil_append]
    simp
  rw [e3, e4]
  simp [intsV]
theorem insRow2 {l : List Int} {r : List Value} {i : Nat} (x : Int) (hi : i < l.length) (hr : l.length + 1 ≤ i + r.length) :
    ∃ sp, setN (setN (intsV (l.take i) ++ r) i 0 [.int .i64 x]) (i + 1) 0 (intsV (l.drop i)) = intsV (l.take i ++ [x] ++ l.drop i) ++ sp := by
  have hl : (intsV (l.take i)).length = i := by simp [intsV]; omega
  have hd : (intsV (l.drop i)).length = l.length - i := by simp [intsV]
  have h1 := setN_eq [.int .i64 x] (intsV (l.take i) ++ r) i 0 (by rw [List.length_append, hl, List.length_singleton]; omega)
  have e1 : (intsV (l.take i) ++ r).take (i + 0) = intsV (l.take i) := by
    rw [Nat.add_zero, List.take_append_of_le_length (by omega), List.take_of_length_le (by omega)]
  have e2 : (intsV (l.take i) ++ r).drop (i + 0 + [Value.int .i64 x].length) = r.drop 1 := by
    rw [List.drop_append, hl, List.drop_eq_nil_of_le (by rw [hl]; simp), List.nil_append]
    congr 1
    simp
  rw [e1, e2] at h1
  rw [h1]
  have ht : (intsV (l.take i) ++ [Value.int .i64 x]).length = i + 1 := by simp [hl]
  have h2 := setN_eq (intsV (l.drop i)) (intsV (l.take i) ++ [.int .i64 x] ++ r.drop 1) (i + 1) 0 (by rw [List.length_append, ht, List.length_drop, hd]; omega)
  rw [h2]
  have e3 : (intsV (l.take i) ++ [Value.int .i64 x] ++ r.drop 1).take (i + 1 + 0) = intsV (l.take i) ++ [.int .i64 x] := by
    rw [Nat.add_zero, List.take_append_of_le_length (by omega), List.take_of_length_le (by omega)]
  rw [e3]
  refine ⟨List.drop (i + 1 + 0 + (intsV (l.drop i)).length) (intsV (l.take i) ++ [.int .i64 x] ++ r.drop 1), ?_⟩
  simp [intsV]
structure InsK (H : Hp) (nx lo : Nat) (l : List Int) (v v' : Value) (H' : Hp) (nx' : Nat) : Prop where
  own : OwnL H' lo nx' l 3 v'
  oth : ∀ c, c < nx → some c ≠ ownBlk v → H' c = H c
  at_ : ∀ c, some c = ownBlk v' → some c = ownBlk v ∨ nx ≤ c
theorem OwnR.at0 {H : Hp} {lo hi n k b c : Nat} {f : Nat → Nat → Int} {ty : TypeId} (h : OwnR H lo hi n k f ty (.slice (some ⟨b, 0, none⟩) n c)) : n ≤ c ∧ Rd H (some ⟨b, 0, none⟩) n k f := by
  obtain ⟨A, c', e, h1, h2⟩ := h.rd
  cases e
  exact ⟨h1, h2⟩
theorem insertI (v : Value) (l : List Int) (i : Nat) (x : Int) (lo bX : Nat) (tx : TypeId) (H : Hp) (nx : Nat) (hlo : lo ≤ nx) (hl : l.length ≤ 1048576) (hi : i ≤ l.length) (hO : OwnL H lo nx l 3 v) (hX : H bX = some (.rw [.int .i64 x] 3)) (hne : some bX ≠ ownBlk v) (hXn : bX < nx) :
    AC Tryd.prog 55 #[v, .int .i64 i, .slice (some ⟨bX, 0, none⟩) 1 1] H nx (InsK H nx lo (l.take i ++ [x] ++ l.drop i) v) := by
  by_cases hin : i = l.length
  · subst hin
    have e : l.take l.length ++ [x] ++ l.drop l.length = l ++ [x] := by simp
    rw [e]
    obtain ⟨A, c, rfl, hc, hR⟩ := OwnR.rd hO
    refine AC_of x_slices_Insert_int rfl fun hB => ?_
    simp (disch := omega) only [bsW, WOp, WOq, WV, bo, eqN, gdc, gw, bnd, ↓reduceIte, Nat.reduceEqDiff, rsvs, rsv, oneOf, rdN, ne_eq, Nat.reduceAdd, Nat.reduceMul, Nat.reduceLT, reduceCtorEq, Value.cells, setN, Value.oneCell', Nat.reduceLeDiff, undef, fcT, beq_self_eq_true, cutA_zero, c_slices_Insert_int]
    (repeat' (first | ((with_reducible refine gif_split (fun hs_ => ?_) (fun hs_ => ?_)) <;> (have hp_ := hs_; (try simp only [hpL, ne_eq] at hp_); (try simp (disch := omega) only [bsW, WOp, WOq, WV, bo, eqN, gdc, gw, bnd, ↓reduceIte, Nat.reduceEqDiff, rsvs, rsv, oneOf, rdN, ne_eq, Nat.reduceAdd, Nat.reduceMul, Nat.reduceLT, reduceCtorEq, Value.cells, setN, Value.oneCell', Nat.reduceLeDiff, undef, fcT, beq_self_eq_true, cutA_zero, hs_]))) | ((first | (with_reducible refine newB_i (fun nb_ hb_ => ?_)) | (with_reducible refine RgE_i (fun (hBd_ : Bd _ _) => ?_))); (try simp (disch := omega) only [bsW, WOp, WOq, WV, bo, eqN, gdc, gw, bnd, ↓reduceIte, Nat.reduceEqDiff, rsvs, rsv, oneOf, rdN, ne_eq, Nat.reduceAdd, Nat.reduceMul, Nat.reduceLT, reduceCtorEq, Value.cells, setN, Value.oneCell', Nat.reduceLeDiff, undef, fcT, beq_self_eq_true, cutA_zero])) | (with_reducible refine fun (hBd_ : Bd _ _) => ?_) | ((first | (with_reducible refine @And.intro (Sub _ _) _ ?_ ?_) | ((with_reducible refine @And.intro (Sub _ _ ∧ _) _ ?_ ?_); (with_reducible refine @And.intro (Sub _ _) _ ?_ ?_))); exact sbX) | ((with_reducible refine And.intro ?_ ?_); omega)))
    all_goals try (exfalso; omega)
    refine app_oneL (x := x) (by simp (disch := omega) only [bsW, WOp, WOq, WV, bo, eqN, gdc, gw, bnd, ↓reduceIte, Nat.reduceEqDiff, rsvs, rsv, oneOf, rdN, ne_eq, Nat.reduceAdd, Nat.reduceMul, Nat.reduceLT, reduceCtorEq, Value.cells, setN, Value.oneCell', Nat.reduceLeDiff, undef, fcT, beq_self_eq_true, cutA_zero]) (by simp (disch := omega) only [bsW, WOp, WOq, WV, bo, eqN, gdc, gw, bnd, ↓reduceIte, Nat.reduceEqDiff, rsvs, rsv, oneOf, rdN, ne_eq, Nat.reduceAdd, Nat.reduceMul, Nat.reduceLT, reduceCtorEq, Value.cells, setN, Value.oneCell', Nat.reduceLeDiff, undef, fcT, beq_self_eq_true, cutA_zero]) (by simp (disch := omega) only [bsW, WOp, WOq, WV, bo, eqN, gdc, gw, bnd, ↓reduceIte, Nat.reduceEqDiff, rsvs, rsv, oneOf, rdN, ne_eq, Nat.reduceAdd, Nat.reduceMul, Nat.reduceLT, reduceCtorEq, Value.cells, setN, Value.oneCell', Nat.reduceLeDiff, undef, fcT, beq_self_eq_true, cutA_zero]) (by simp (disch := omega) only [bsW, WOp, WOq, WV, bo, eqN, gdc, gw, bnd, ↓reduceIte, Nat.reduceEqDiff, rsvs, rsv, oneOf, rdN, ne_eq, Nat.reduceAdd, Nat.reduceMul, Nat.reduceLT, reduceCtorEq, Value.cells, setN, Value.oneCell', Nat.reduceLeDiff, undef, fcT, beq_self_eq_true, cutA_zero]) hO hX hlo (by omega) ?_
    rintro v' b' o nx2 hb' hn2 hown' hO2
    simp (disch := omega) only [bsW, WOp, WOq, WV, bo, eqN, gdc, gw, bnd, ↓reduceIte, Nat.reduceEqDiff, rsvs, rsv, oneOf, rdN, ne_eq, Nat.reduceAdd, Nat.reduceMul, Nat.reduceLT, reduceCtorEq, Value.cells, setN, Value.oneCell', Nat.reduceLeDiff, undef, fcT, beq_self_eq_true, cutA_zero]
    refine ⟨hO2, fun c hc2 hn => upd_ne (fun e => ?_), fun c hc => ?_⟩
    · subst e
      rcases hb' with e | e
      · exact hn e
      · omega
    · have : c = b' := by simpa using hc.trans hown'.symm
      subst this
      exact hb'
  · have hlt : i < l.length := by omega
    rcases OwnR.own hO with ⟨hlen, ⟨rfl, h0⟩ | ⟨b, cap, sp, rfl, hb, hnc, hcm, hcl⟩⟩
    · omega
    rw [flat_ints] at hb hcl
    have hb12 := OwnR.blk hO (show some b = ownBlk (.slice (some ⟨b, 0, none⟩) l.length cap) from rfl)
    have hbX : bX ≠ b := fun e => hne (by rw [e]; rfl)
    have hspl : sp.length = cap - l.length := by simp [intsV] at hcl; omega
    have d1 : ((i : Int) == (l.length : Int)) = false := by simp; omega
    have hR : RdL H (some ⟨b, 0, none⟩) l := (OwnR.at0 hO).2
    have t1 : ((i : Int) + ((1 : Nat) : Int)).toNat = i + 1 := by omega
    have t2 : ((l.length : Int) + ((1 : Nat) : Int)).toNat = l.length + 1 := by omega
    by_cases hroom : l.length + 1 ≤ cap
    · have k1 : cutA (some ⟨b, 0, none⟩) cap (i + 1) 1 = some ⟨b, 0 + (i + 1) * 1, none⟩ := cutA_pos (by omega)
      have k2 : cutA (some ⟨b, 0, none⟩) cap i 1 = some ⟨b, 0 + i * 1, none⟩ := cutA_pos (by omega)
      refine AC_of x_slices_Insert_int rfl fun hB => ?_
      simp (disch := omega) only [bsW, WOp, WOq, WV, bo, eqN, gdc, gw, bnd, ↓reduceIte, Nat.reduceEqDiff, rsvs, rsv, oneOf, rdN, ne_eq, Nat.reduceAdd, Nat.reduceMul, Nat.reduceLT, reduceCtorEq, Value.cells, setN, Value.oneCell', Nat.reduceLeDiff, undef, fcT, d1, cutA_zero, hb, hX, t1, t2, k1, k2, Nat.mul_one, Nat.zero_add, Nat.sub_zero, c_slices_Insert_int]
      (repeat' (first | ((with_reducible refine gif_split (fun hs_ => ?_) (fun hs_ => ?_)) <;> (have hp_ := hs_; (try simp only [hpL, ne_eq] at hp_); (try simp (disch := omega) only [bsW, WOp, WOq, WV, bo, eqN, gdc, gw, bnd, ↓reduceIte, Nat.reduceEqDiff, rsvs, rsv, oneOf, rdN, ne_eq, Nat.reduceAdd, Nat.reduceMul, Nat.reduceLT, reduceCtorEq, Value.cells, setN, Value.oneCell', Nat.reduceLeDiff, undef, fcT, d1, cutA_zero, hb, hX, t1, t2, k1, k2, Nat.mul_one, Nat.zero_add, Nat.sub_zero, hs_]))) | ((first | (with_reducible refine newB_i (fun nb_ hb_ => ?_)) | ((with_reducible show QC _ _ _ _ _ _); (first | (refine QC_i (overlapsI bX b (i + 1) _ _ [.int .i64 x] (intsV l ++ sp) 3 3 _ _ hX hb hbX (by omega)) ?_))) | ((with_reducible show AC _ _ _ _ _ _); (first | (refine PC.ac (overlapsI bX b (i + 1) _ _ [.int .i64 x] (intsV l ++ sp) 3 3 _ _ hX hb hbX (by omega)) ?_))) | (with_reducible refine RgE_i (fun (hBd_ : Bd _ _) => ?_))); (try simp (disch := omega) only [bsW, WOp, WOq, WV, bo, eqN, gdc, gw, bnd, ↓reduceIte, Nat.reduceEqDiff, rsvs, rsv, oneOf, rdN, ne_eq, Nat.reduceAdd, Nat.reduceMul, Nat.reduceLT, reduceCtorEq, Value.cells, setN, Value.oneCell', Nat.reduceLeDiff, undef, fcT, d1, cutA_zero, hb, hX, t1, t2, k1, k2, Nat.mul_one, Nat.zero_add, Nat.sub_zero])) | (with_reducible refine fun (hBd_ : Bd _ _) => ?_) | ((first | (with_reducible refine @And.intro (Sub _ _) _ ?_ ?_) | ((with_reducible refine @And.intro (Sub _ _ ∧ _) _ ?_ ?_); (with_reducible refine @And.intro (Sub _ _) _ ?_ ?_))); exact sbX) | ((with_reducible refine And.intro ?_ ?_); omega)))
      all_goals try (exfalso; omega)
      refine ⟨3, 1, l.length - i, _, _, _, _, some ⟨b, i + 1, none⟩, some ⟨b, i, none⟩, intsV (l.drop i), by simp (disch := omega) only [bsW, ↓reduceIte, Nat.reduceEqDiff, ne_eq, reduceCtorEq, fcT, d1, cutA_zero, hb, hX, t1, t2, k1, k2, Nat.mul_one, Nat.zero_add, Nat.sub_zero], by simp (disch := omega) only [bsW, ↓reduceIte, Nat.reduceEqDiff, ne_eq, reduceCtorEq, fcT, d1, cutA_zero, hb, hX, t1, t2, k1, k2, Nat.mul_one, Nat.zero_add, Nat.sub_zero], rfl, rfl, by omega, ints_row hi hb, ints_all _, fun h => by omega, fun _ => ⟨b, i + 1, intsV l ++ sp, 3, rfl, hb, by omega, ?_⟩⟩
      simp (disch := omega) only [bsW, WOp, WOq, WV, bo, eqN, gdc, gw, bnd, ↓reduceIte, Nat.reduceEqDiff, rsvs, rsv, oneOf, rdN, ne_eq, Nat.reduceAdd, Nat.reduceMul, Nat.reduceLT, reduceCtorEq, Value.cells, setN, Value.oneCell', Nat.reduceLeDiff, undef, fcT, cutA_zero, t1, t2, k1, k2, Nat.mul_one, Nat.zero_add, Nat.sub_zero]
      (repeat' (first | ((with_reducible refine gif_split (fun hs_ => ?_) (fun hs_ => ?_)) <;> (have hp_ := hs_; (try simp only [hpL, ne_eq] at hp_); (try simp (disch := omega) only [bsW, WOp, WOq, WV, bo, eqN, gdc, gw, bnd, ↓reduceIte, Nat.reduceEqDiff, rsvs, rsv, oneOf, rdN, ne_eq, Nat.reduceAdd, Nat.reduceMul, Nat.reduceLT, reduceCtorEq, Value.cells, setN, Value.oneCell', Nat.reduceLeDiff, undef, fcT, cutA_zero, t1, t2, k1, k2, Nat.mul_one, Nat.zero_add, Nat.sub_zero, hs_]))) | ((first | (with_reducible refine newB_i (fun nb_ hb_ => ?_)) | (with_reducible refine RgE_i (fun (hBd_ : Bd _ _) => ?_))); (try simp (disch := omega) only [bsW, WOp, WOq, WV, bo, eqN, gdc, gw, bnd, ↓reduceIte, Nat.reduceEqDiff, rsvs, rsv, oneOf, rdN, ne_eq, Nat.reduceAdd, Nat.reduceMul, Nat.reduceLT, reduceCtorEq, Value.cells, setN, Value.oneCell', Nat.reduceLeDiff, undef, fcT, cutA_zero, t1, t2, k1, k2, Nat.mul_one, Nat.zero_add, Nat.sub_zero])) | (with_reducible refine fun (hBd_ : Bd _ _) => ?_) | ((first | (with_reducible refine @And.intro (Sub _ _) _ ?_ ?_) | ((with_reducible refine @And.intro (Sub _ _ ∧ _) _ ?_ ?_); (with_reducible refine @And.intro (Sub _ _) _ ?_ ?_))); exact sbX) | ((with_reducible refine And.intro ?_ ?_); omega)))
      all_goals try (exfalso; omega)
      refine ⟨3, 1, 1, _, _, _, _, some ⟨b, i, none⟩, some ⟨bX, 0, none⟩, [.int .i64 x], by simp (disch := omega) only [bsW, ↓reduceIte, Nat.reduceEqDiff, ne_eq, reduceCtorEq, fcT, cutA_zero, t1, t2, k1, k2, Nat.mul_one, Nat.zero_add, Nat.sub_zero], by simp (disch := omega) only [bsW, ↓reduceIte, Nat.reduceEqDiff, ne_eq, reduceCtorEq, fcT, cutA_zero, t1, t2, k1, k2, Nat.mul_one, Nat.zero_add, Nat.sub_zero], rfl, rfl, by omega, ⟨rfl, fun _ => ⟨bX, 0, rfl, fun p u hu => by rw [rd_upd_ne hbX, rd_rw hX, Nat.zero_add]; exact hu⟩⟩, rfl, fun h => by omega, fun _ => ⟨b, i, _, 3, rfl, upd_same _ _ _, ?_, ?_⟩⟩
      · rw [setN_eq _ _ _ _ (by simp [intsV]; omega)]
        simp [intsV]
        omega
      · rw [insRow x hlt (by omega), upd_upd]
        simp (disch := omega) only [bsW, WOp, WOq, WV, bo, eqN, gdc, gw, bnd, ↓reduceIte, Nat.reduceEqDiff, rsvs, rsv, oneOf, rdN, ne_eq, Nat.reduceAdd, Nat.reduceMul, Nat.reduceLT, reduceCtorEq, Value.cells, setN, Value.oneCell', Nat.reduceLeDiff, undef, fcT, cutA_zero, t1, t2, k1, k2, Nat.mul_one, Nat.zero_add, Nat.sub_zero]
        have el : (l.take i ++ [x] ++ l.drop i).length = l.length + 1 := by simp; omega
        have := ownL_ints (H := upd H b (.rw (intsV (l.take i ++ [x] ++ l.drop i) ++ sp.drop 1) 3)) (lo := lo) (nx := nx) (cap := cap) hb12.1 hb12.2 (upd_same _ _ _) (by omega) hcm (by simp only [List.length_append, List.length_drop, hspl]; simp only [intsV, List.length_map]; omega)
        rw [el] at this
        exact ⟨this, fun c hc hn => upd_ne (fun e => hn (by rw [e]; rfl)), fun c hc => .inl hc⟩
    · refine AC_of x_slices_Insert_int rfl fun hB => ?_
      simp (disch := omega) only [bsW, WOp, WOq, WV, bo, eqN, gdc, gw, bnd, ↓reduceIte, Nat.reduceEqDiff, rsvs, rsv, oneOf, rdN, ne_eq, Nat.reduceAdd, Nat.reduceMul, Nat.reduceLT, reduceCtorEq, Value.cells, setN, Value.oneCell', Nat.reduceLeDiff, undef, fcT, d1, cutA_zero, hb, hX, c_slices_Insert_int]
      (repeat' (first | ((with_reducible refine gif_split (fun hs_ => ?_) (fun hs_ => ?_)) <;> (have hp_ := hs_; (try simp only [hpL, ne_eq] at hp_); (try simp (disch := omega) only [bsW, WOp, WOq, WV, bo, eqN, gdc, gw, bnd, ↓reduceIte, Nat.reduceEqDiff, rsvs, rsv, oneOf, rdN, ne_eq, Nat.reduceAdd, Nat.reduceMul, Nat.reduceLT, reduceCtorEq, Value.cells, setN, Value.oneCell', Nat.reduceLeDiff, undef, fcT, d1, cutA_zero, hb, hX, hs_]))) | ((first | (with_reducible refine newB_i (fun nb_ hb_ => ?_)) | (with_reducible refine RgE_i (fun (hBd_ : Bd _ _) => ?_))); (try simp (disch := omega) only [bsW, WOp, WOq, WV, bo, eqN, gdc, gw, bnd, ↓reduceIte, Nat.reduceEqDiff, rsvs, rsv, oneOf, rdN, ne_eq, Nat.reduceAdd, Nat.reduceMul, Nat.reduceLT, reduceCtorEq, Value.cells, setN, Value.oneCell', Nat.reduceLeDiff, undef, fcT, d1, cutA_zero, hb, hX])) | (with_reducible refine fun (hBd_ : Bd _ _) => ?_) | ((first | (with_reducible refine @And.intro (Sub _ _) _ ?_ ?_) | ((with_reducible refine @And.intro (Sub _ _ ∧ _) _ ?_ ?_); (with_reducible refine @And.intro (Sub _ _) _ ?_ ?_))); exact sbX) | ((with_reducible refine And.intro ?_ ?_); omega)))
      all_goals try (exfalso; omega)
      refine ⟨3, 1, 8, i, l.length + 1 - i, cap, _, .int .i64 0, .i64, .i64, intsV (l.take i), by simp (disch := omega) only [bsW, ↓reduceIte, Nat.reduceEqDiff, ne_eq, reduceCtorEq, fcT, d1, cutA_zero, hb, hX], by simp (disch := omega) only [bsW, ↓reduceIte, Nat.reduceEqDiff, ne_eq, reduceCtorEq, fcT, d1, cutA_zero, hb, hX], by simp (disch := omega) only [bsW, ↓reduceIte, Nat.reduceEqDiff, ne_eq, reduceCtorEq, fcT, d1, cutA_zero, hb, hX], by simp (disch := omega) only [bsW, ↓reduceIte, Nat.reduceEqDiff, ne_eq, reduceCtorEq, fcT, d1, cutA_zero, hb, hX], rfl, by omega, by simp (disch := omega) only [bsW, ↓reduceIte, Nat.reduceEqDiff, ne_eq, reduceCtorEq, fcT, d1, cutA_zero, hb, hX], rfl, by congr 1; omega, by omega, by omega, by omega, (fun h => by cases h), ⟨by simp [intsV]; omega, fun h0 => ⟨b, 0, rfl, fun p u hu => ?_⟩⟩, by omega, by unfold maxLen; omega, ?_⟩
      · rw [rd_rw hb, Nat.zero_add]
        have hp : p < i := by
          have := (List.getElem?_eq_some_iff.1 hu).1
          simp [intsV] at this
          omega
        rw [List.getElem?_append_left (by simp [intsV]; omega)]
        simp only [intsV, List.map_take] at hu ⊢
        rwa [List.getElem?_take_of_lt hp] at hu
      rintro b' cap' sp' nx2 hb' hn2 hlt' hcap' hmx' hlen'
      obtain ⟨r, hr⟩ : ∃ r, (intsV (l.take i) ++ mkRow (Value.int IntKind.i64 0).cells ((l.length + 1 - i) * 1)) ++ sp' = intsV (l.take i) ++ r := ⟨_, List.append_assoc _ _ _⟩
      rw [hr] at hlen' ⊢
      have hrl : r.length = cap' - i := by simp [intsV] at hlen'; omega
      have hbb : b ≠ b' := by omega
      have hbb' : b' ≠ b := by omega
      have hbX' : bX ≠ b' := by omega
      have k1 : cutA (some ⟨b', 0, none⟩) cap' (i + 1) 1 = some ⟨b', 0 + (i + 1) * 1, none⟩ := cutA_pos (by omega)
      have k2 : cutA (some ⟨b', 0, none⟩) cap' i 1 = some ⟨b', 0 + i * 1, none⟩ := cutA_pos (by omega)
      have k3 : cutA (some ⟨b, 0, none⟩) cap i 1 = some ⟨b, 0 + i * 1, none⟩ := cutA_pos (by omega)
      have t3 : i + (l.length + 1 - i) = l.length + 1 := by omega
      simp (disch := omega) only [bsW, WOp, WOq, WV, bo, eqN, gdc, gw, bnd, ↓reduceIte, Nat.reduceEqDiff, rsvs, rsv, oneOf, rdN, ne_eq, Nat.reduceAdd, Nat.reduceMul, Nat.reduceLT, reduceCtorEq, Value.cells, setN, Value.oneCell', Nat.reduceLeDiff, undef, fcT, cutA_zero, t1, t2, t3, k1, k2, k3, Nat.mul_one, Nat.zero_add, Nat.sub_zero]
      (repeat' (first | ((with_reducible refine gif_split (fun hs_ => ?_) (fun hs_ => ?_)) <;> (have hp_ := hs_; (try simp only [hpL, ne_eq] at hp_); (try simp (disch := omega) only [bsW, WOp, WOq, WV, bo, eqN, gdc, gw, bnd, ↓reduceIte, Nat.reduceEqDiff, rsvs, rsv, oneOf, rdN, ne_eq, Nat.reduceAdd, Nat.reduceMul, Nat.reduceLT, reduceCtorEq, Value.cells, setN, Value.oneCell', Nat.reduceLeDiff, undef, fcT, cutA_zero, t1, t2, t3, k1, k2, k3, Nat.mul_one, Nat.zero_add, Nat.sub_zero, hs_]))) | ((first | (with_reducible refine newB_i (fun nb_ hb_ => ?_)) | (with_reducible refine RgE_i (fun (hBd_ : Bd _ _) => ?_))); (try simp (disch := omega) only [bsW, WOp, WOq, WV, bo, eqN, gdc, gw, bnd, ↓reduceIte, Nat.reduceEqDiff, rsvs, rsv, oneOf, rdN, ne_eq, Nat.reduceAdd, Nat.reduceMul, Nat.reduceLT, reduceCtorEq, Value.cells, setN, Value.oneCell', Nat.reduceLeDiff, undef, fcT, cutA_zero, t1, t2, t3, k1, k2, k3, Nat.mul_one, Nat.zero_add, Nat.sub_zero])) | (with_reducible refine fun (hBd_ : Bd _ _) => ?_) | ((first | (with_reducible refine @And.intro (Sub _ _) _ ?_ ?_) | ((with_reducible refine @And.intro (Sub _ _ ∧ _) _ ?_ ?_); (with_reducible refine @And.intro (Sub _ _) _ ?_ ?_))); exact sbX) | ((with_reducible refine And.intro ?_ ?_); omega)))
      all_goals try (exfalso; omega)
      refine ⟨3, 1, 1, _, _, _, _, some ⟨b', i, none⟩, some ⟨bX, 0, none⟩, [.int .i64 x], by simp (disch := omega) only [bsW, ↓reduceIte, Nat.reduceEqDiff, ne_eq, reduceCtorEq, fcT, cutA_zero, t1, t2, t3, k1, k2, k3, Nat.mul_one, Nat.zero_add, Nat.sub_zero], by simp (disch := omega) only [bsW, ↓reduceIte, Nat.reduceEqDiff, ne_eq, reduceCtorEq, fcT, cutA_zero, t1, t2, t3, k1, k2, k3, Nat.mul_one, Nat.zero_add, Nat.sub_zero], rfl, rfl, by omega, ⟨rfl, fun _ => ⟨bX, 0, rfl, fun p u hu => by rw [rd_upd_ne hbX', rd_rw hX, Nat.zero_add]; exact hu⟩⟩, rfl, fun h => by omega, fun _ => ⟨b', i, _, 3, rfl, upd_same _ _ _, by simp [intsV]; omega, ?_⟩⟩
      rw [upd_upd]
      simp (disch := omega) only [bsW, WOp, WOq, WV, bo, eqN, gdc, gw, bnd, ↓reduceIte, Nat.reduceEqDiff, rsvs, rsv, oneOf, rdN, ne_eq, Nat.reduceAdd, Nat.reduceMul, Nat.reduceLT, reduceCtorEq, Value.cells, setN, Value.oneCell', Nat.reduceLeDiff, undef, fcT, cutA_zero, t1, t2, t3, k1, k2, k3, Nat.mul_one, Nat.zero_add, Nat.sub_zero]
      (repeat' (first | ((with_reducible refine gif_split (fun hs_ => ?_) (fun hs_ => ?_)) <;> (have hp_ := hs_; (try simp only [hpL, ne_eq] at hp_); (try simp (disch := omega) only [bsW, WOp, WOq, WV, bo, eqN, gdc, gw, bnd, ↓reduceIte, Nat.reduceEqDiff, rsvs, rsv, oneOf, rdN, ne_eq, Nat.reduceAdd, Nat.reduceMul, Nat.reduceLT, reduceCtorEq, Value.cells, setN, Value.oneCell', Nat.reduceLeDiff, undef, fcT, cutA_zero, t1, t2, t3, k1, k2, k3, Nat.mul_one, Nat.zero_add, Nat.sub_zero, hs_]))) | ((first | (with_reducible refine newB_i (fun nb_ hb_ => ?_)) | (with_reducible refine RgE_i (fun (hBd_ : Bd _ _) => ?_))); (try simp (disch := omega) only [bsW, WOp, WOq, WV, bo, eqN, gdc, gw, bnd, ↓reduceIte, Nat.reduceEqDiff, rsvs, rsv, oneOf, rdN, ne_eq, Nat.reduceAdd, Nat.reduceMul, Nat.reduceLT, reduceCtorEq, Value.cells, setN, Value.oneCell', Nat.reduceLeDiff, undef, fcT, cutA_zero, t1, t2, t3, k1, k2, k3, Nat.mul_one, Nat.zero_add, Nat.sub_zero])) | (with_reducible refine fun (hBd_ : Bd _ _) => ?_) | ((first | (with_reducible refine @And.intro (Sub _ _) _ ?_ ?_) | ((with_reducible refine @And.intro (Sub _ _ ∧ _) _ ?_ ?_); (with_reducible refine @And.intro (Sub _ _) _ ?_ ?_))); exact sbX) | ((with_reducible refine And.intro ?_ ?_); omega)))
      all_goals try (exfalso; omega)
      refine ⟨3, 1, l.length - i, _, _, _, _, some ⟨b', i + 1, none⟩, some ⟨b, i, none⟩, intsV (l.drop i), by simp (disch := omega) only [bsW, ↓reduceIte, Nat.reduceEqDiff, ne_eq, reduceCtorEq, fcT, cutA_zero, t1, t2, t3, k1, k2, k3, Nat.mul_one, Nat.zero_add, Nat.sub_zero], by simp (disch := omega) only [bsW, ↓reduceIte, Nat.reduceEqDiff, ne_eq, reduceCtorEq, fcT, cutA_zero, t1, t2, t3, k1, k2, k3, Nat.mul_one, Nat.zero_add, Nat.sub_zero], rfl, rfl, by omega, ints_row hi (by rw [upd_ne hbb]; exact hb), ints_all _, fun h => by omega, fun _ => ⟨b', i + 1, _, 3, rfl, upd_same _ _ _, ?_, ?_⟩⟩
      · simp [intsV]
        omega
      · obtain ⟨sp2, e2⟩ := insRow2 (r := r) x hlt (by omega)
        have e2 : setN ((intsV (l.take i) ++ r).set i (.int .i64 x)) (i + 1) 0 (intsV (l.drop i)) = intsV (l.take i ++ [x] ++ l.drop i) ++ sp2 := e2
        rw [e2, upd_upd]
        simp (disch := omega) only [bsW, WOp, WOq, WV, bo, eqN, gdc, gw, bnd, ↓reduceIte, Nat.reduceEqDiff, rsvs, rsv, oneOf, rdN, ne_eq, Nat.reduceAdd, Nat.reduceMul, Nat.reduceLT, reduceCtorEq, Value.cells, setN, Value.oneCell', Nat.reduceLeDiff, undef, fcT, cutA_zero, t1, t2, t3, k1, k2, k3, Nat.mul_one, Nat.zero_add, Nat.sub_zero]
        have el : (l.take i ++ [x] ++ l.drop i).length = l.length + 1 := by simp; omega
        have el2 : (intsV (l.take i ++ [x] ++ l.drop i) ++ sp2).length = cap' := by
          rw [← e2, setN_eq _ _ _ _ (by simp [intsV]; omega)]
          simp [intsV]
          omega
        have := ownL_ints (H := upd H b' (.rw (intsV (l.take i ++ [x] ++ l.drop i) ++ sp2) 3)) (lo := lo) (nx := nx2) (cap := cap') (by omega) hlt' (upd_same _ _ _) (by omega) hmx' el2
        rw [el] at this
        exact ⟨this, fun c hc hn => upd_ne (by omega), fun c hc => .inr (by rw [show c = b' by simpa [ownBlk] using hc]; omega)⟩
end Go.Proofs.YtbhabpenlaklcaaDoor
