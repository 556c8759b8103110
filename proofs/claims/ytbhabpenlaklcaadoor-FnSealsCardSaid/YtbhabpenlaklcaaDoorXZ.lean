/- PuzzleText. -/
import Derived.Test.YtbhabpenlaklcaaDoorXI
import Derived.Test.YtbhabpenlaklcaaDoorQ4
import Derived.Test.YtbhabpenlaklcaaDoorQ5
set_option linter.unusedVariables false
set_option linter.unusedSimpArgs false
set_option maxRecDepth 100000
set_option maxHeartbeats 1000000
namespace Go.Proofs.YtbhabpenlaklcaaDoor
open Go Go.RowKit Go.Proofs

theorem bs_toList (l : List UInt8) : (bs l).toList = l := by
  rw [ByteArray.toList_eq]
  rfl
theorem join_snoc (sep : List UInt8) (xs : List (List UInt8)) (x : List UInt8) : Lib.join (xs ++ [x]) sep = if xs = [] then x else Lib.join xs sep ++ (sep ++ x) := by
  cases xs with
  | nil => simp [Lib.join_one]
  | cons y r =>
    rw [if_neg (by simp), List.cons_append, Lib.join_cons, Lib.join_cons]
    simp [Lib.joinTail, List.append_assoc]
/-- Pieces with commas between them, as far as told. -/
def pjT (l : List Int) (k : Nat) : List UInt8 := Lib.join ((l.take k).map Lib.itoa) [44]
def puT (l : List Int) : List UInt8 := if l = [] then [45] else pjT l l.length
theorem take_snoc8 (l : List Int) (k : Nat) (h : k < l.length) : l.take (k + 1) = l.take k ++ [l.getD k 0] := by
  rw [List.take_succ_eq_append_getElem h]
  simp [List.getD_eq_getElem?_getD, List.getElem?_eq_getElem h]
theorem pjT_one {l : List Int} (h : 0 < l.length) : pjT l 1 = Lib.itoa (l.getD 0 0) := by
  unfold pjT
  rw [take_snoc8 l 0 h, List.take_zero, List.nil_append, List.map_cons, List.map_nil, Lib.join_one]
theorem pjT_succ {l : List Int} {k : Nat} (h0 : 0 < k) (h : k < l.length) : pjT l (k + 1) = pjT l k ++ (44 :: Lib.itoa (l.getD k 0)) := by
  unfold pjT
  rw [take_snoc8 l k h, List.map_append, List.map_cons, List.map_nil, join_snoc, if_neg]
  · rfl
  · intro e
    have := congrArg List.length e
    rw [List.length_map, List.length_take, List.length_nil] at this
    omega
theorem decDigits_pos (n : Nat) : 0 < (Lib.decDigits n).length := by
  rw [Lib.decDigits]
  split <;> simp
theorem itoa_pos (x : Int) (h : 0 ≤ x) : 0 < (Lib.itoa x).length := by
  obtain ⟨n, rfl⟩ : ∃ n : Nat, x = n := ⟨x.toNat, by omega⟩
  rw [Lib.itoa_nonneg]
  exact decDigits_pos n
/-- Pieces' bounds. -/
def okPc (l : List Int) : Prop := l.length ≤ 20 ∧ ∀ x ∈ l, 0 ≤ x ∧ x ≤ 1000
theorem pjT_len {l : List Int} (h : okPc l) : ∀ k, k ≤ l.length → (pjT l k).length ≤ 31 * k ∧ (0 < k → 0 < (pjT l k).length)
  | 0, _ => by simp [pjT, Lib.join_nil]
  | k + 1, hk => by
    have ih := pjT_len h k (by omega)
    have hx : l.getD k 0 ∈ l := by rw [List.getD_eq_getElem?_getD, List.getElem?_eq_getElem (by omega)]; exact List.getElem_mem _
    have hb := h.2 _ hx
    have h1 := itoa_len (l.getD k 0) (by omega) (by omega)
    have h2 := itoa_pos (l.getD k 0) hb.1
    rcases Nat.eq_zero_or_pos k with e | e
    · subst e
      rw [pjT_one (by omega)]
      omega
    · rw [pjT_succ e (by omega), List.length_append, List.length_cons]
      omega
theorem puT_len {l : List Int} (h : okPc l) : (puT l).length ≤ 620 := by
  unfold puT
  split
  · simp
  · have := (pjT_len h l.length (Nat.le_refl _)).1
    have := h.1
    omega
theorem puT_no : puT [] = [45] := rfl
theorem puT_yes {l : List Int} (h : 0 < l.length) : puT l = pjT l l.length := by
  unfold puT
  rw [if_neg]
  intro e
  rw [e] at h
  simp at h
theorem piecesText (g : Nat) (ty : TypeId) (A : Option Addr) (l : List Int) (n c : Nat) (H : Hp) (nx : Nat) (hg : g = 0) (hT : H g = some (.rw powCells ty)) (hl : l.length = n) (hok : okPc l) (h : RdL H A l) :
    PC Tryd.prog 31 #[.slice A n c] H nx (.string (bs (puT l))) := by
  subst hl
  refine AC_of x_impl_piecesText rfl fun hB => ?_
  have h20 := hok.1
  by_cases h0 : l.length = 0
  · have e : l = [] := List.eq_nil_of_length_eq_zero h0
    have d1 : ((l.length : Int) == 0) = true := by simp [h0]
    simp (disch := omega) only [bsW, WOp, WOq, WV, bo, eqN, gdc, gw, bnd, ↓reduceIte, Nat.reduceEqDiff, rsvs, rsv, oneOf, rdN, ne_eq, Nat.reduceAdd, Nat.reduceMul, Nat.reduceLT, reduceCtorEq, Value.cells, setN, Value.oneCell', Nat.reduceLeDiff, undef, fcT, d1, mk_bs, c_impl_piecesText]
    (repeat' (first | ((with_reducible refine gif_split (fun hs_ => ?_) (fun hs_ => ?_)) <;> (have hp_ := hs_; (try simp only [hpL, ne_eq] at hp_); (try simp (disch := omega) only [bsW, WOp, WOq, WV, bo, eqN, gdc, gw, bnd, ↓reduceIte, Nat.reduceEqDiff, rsvs, rsv, oneOf, rdN, ne_eq, Nat.reduceAdd, Nat.reduceMul, Nat.reduceLT, reduceCtorEq, Value.cells, setN, Value.oneCell', Nat.reduceLeDiff, undef, fcT, d1, mk_bs, hs_]))) | ((first | (with_reducible refine newB_i (fun nb_ hb_ => ?_)) | (with_reducible refine RgE_i (fun (hBd_ : Bd _ _) => ?_))); (try simp (disch := omega) only [bsW, WOp, WOq, WV, bo, eqN, gdc, gw, bnd, ↓reduceIte, Nat.reduceEqDiff, rsvs, rsv, oneOf, rdN, ne_eq, Nat.reduceAdd, Nat.reduceMul, Nat.reduceLT, reduceCtorEq, Value.cells, setN, Value.oneCell', Nat.reduceLeDiff, undef, fcT, d1, mk_bs])) | (with_reducible refine fun (hBd_ : Bd _ _) => ?_) | ((first | (with_reducible refine @And.intro (Sub _ _) _ ?_ ?_) | ((with_reducible refine @And.intro (Sub _ _ ∧ _) _ ?_ ?_); (with_reducible refine @And.intro (Sub _ _) _ ?_ ?_))); exact sbX) | ((with_reducible refine And.intro ?_ ?_); omega)))
    exact Is_e (by rw [e, puT_no]) (Sub.refl _)
  · have d1 : ((l.length : Int) == 0) = false := by rw [beq_eq_false_iff_ne]; omega
    have e : puT l = Lib.join (l.map Lib.itoa) [44] := by rw [puT_yes (by omega), pjT, List.take_length]
    rw [e]
    simp (disch := omega) only [bsW, WOp, WOq, WV, bo, eqN, gdc, gw, bnd, ↓reduceIte, Nat.reduceEqDiff, rsvs, rsv, oneOf, rdN, ne_eq, Nat.reduceAdd, Nat.reduceMul, Nat.reduceLT, reduceCtorEq, Value.cells, setN, Value.oneCell', Nat.reduceLeDiff, undef, fcT, d1, mk_bs, c_impl_piecesText]
    (repeat' (first | ((with_reducible refine gif_split (fun hs_ => ?_) (fun hs_ => ?_)) <;> (have hp_ := hs_; (try simp only [hpL, ne_eq] at hp_); (try simp (disch := omega) only [bsW, WOp, WOq, WV, bo, eqN, gdc, gw, bnd, ↓reduceIte, Nat.reduceEqDiff, rsvs, rsv, oneOf, rdN, ne_eq, Nat.reduceAdd, Nat.reduceMul, Nat.reduceLT, reduceCtorEq, Value.cells, setN, Value.oneCell', Nat.reduceLeDiff, undef, fcT, d1, mk_bs, hs_]))) | ((first | (with_reducible refine newB_i (fun nb_ hb_ => ?_)) | ((with_reducible show QC _ _ _ _ _ _); (first | (refine QC_i (joinInts g ty A l l.length c [44] _ _ hg hT rfl (by omega) (by omega) hok.2 (by simp) h) ?_))) | ((with_reducible show AC _ _ _ _ _ _); (first | (refine PC.ac (joinInts g ty A l l.length c [44] _ _ hg hT rfl (by omega) (by omega) hok.2 (by simp) h) ?_))) | (with_reducible refine RgE_i (fun (hBd_ : Bd _ _) => ?_))); (try simp (disch := omega) only [bsW, WOp, WOq, WV, bo, eqN, gdc, gw, bnd, ↓reduceIte, Nat.reduceEqDiff, rsvs, rsv, oneOf, rdN, ne_eq, Nat.reduceAdd, Nat.reduceMul, Nat.reduceLT, reduceCtorEq, Value.cells, setN, Value.oneCell', Nat.reduceLeDiff, undef, fcT, d1, mk_bs])) | (with_reducible refine fun (hBd_ : Bd _ _) => ?_) | ((first | (with_reducible refine @And.intro (Sub _ _) _ ?_ ?_) | ((with_reducible refine @And.intro (Sub _ _ ∧ _) _ ?_ ?_); (with_reducible refine @And.intro (Sub _ _) _ ?_ ?_))); exact sbX) | ((with_reducible refine And.intro ?_ ?_); omega)))
    exact Is_i (Sub.refl _)
theorem l21List (A : Option Addr) (l : List Int) (n c : Nat) (H : Hp) (nx : Nat) (hl : l.length = n) (hok : okPc l) (h : RdL H A l) :
    PC Tryd.prog 26 #[.slice A n c] H nx (.string (bs (puT l))) := by
  subst hl
  refine AC_of x_spec_l21List rfl fun hB => ?_
  have h20 := hok.1
  simp (disch := omega) only [bsW, WOp, WOq, WV, bo, eqN, gdc, gw, bnd, ↓reduceIte, Nat.reduceEqDiff, rsvs, rsv, oneOf, rdN, ne_eq, Nat.reduceAdd, Nat.reduceMul, Nat.reduceLT, reduceCtorEq, Value.cells, setN, Value.oneCell', Nat.reduceLeDiff, undef, fcT, mk_bs, c_spec_l21List]
  (repeat' (first | ((with_reducible refine gif_split (fun hs_ => ?_) (fun hs_ => ?_)) <;> (have hp_ := hs_; (try simp only [hpL, ne_eq] at hp_); (try simp (disch := omega) only [bsW, WOp, WOq, WV, bo, eqN, gdc, gw, bnd, ↓reduceIte, Nat.reduceEqDiff, rsvs, rsv, oneOf, rdN, ne_eq, Nat.reduceAdd, Nat.reduceMul, Nat.reduceLT, reduceCtorEq, Value.cells, setN, Value.oneCell', Nat.reduceLeDiff, undef, fcT, mk_bs, hs_]))) | ((first | (with_reducible refine newB_i (fun nb_ hb_ => ?_)) | (with_reducible refine RgE_i (fun (hBd_ : Bd _ _) => ?_))); (try simp (disch := omega) only [bsW, WOp, WOq, WV, bo, eqN, gdc, gw, bnd, ↓reduceIte, Nat.reduceEqDiff, rsvs, rsv, oneOf, rdN, ne_eq, Nat.reduceAdd, Nat.reduceMul, Nat.reduceLT, reduceCtorEq, Value.cells, setN, Value.oneCell', Nat.reduceLeDiff, undef, fcT, mk_bs])) | (with_reducible refine fun (hBd_ : Bd _ _) => ?_) | ((first | (with_reducible refine @And.intro (Sub _ _) _ ?_ ?_) | ((with_reducible refine @And.intro (Sub _ _ ∧ _) _ ?_ ?_); (with_reducible refine @And.intro (Sub _ _) _ ?_ ?_))); exact sbX) | ((with_reducible refine And.intro ?_ ?_); omega)))
  refine LpB_rule (fun m fr H' nx' => ∃ k : Nat, m = l.length - k + 1 ∧ k ≤ l.length ∧ fr 0 = .slice A l.length c ∧ fr 3 = .string (bs (pjT l k)) ∧ fr 4 = .int .i64 k ∧ H' = H ∧ nx' = nx) ?_ ?_ (l.length + 1) ?_
  · rintro m K hK fr H' nx' hB' ⟨k, hm, hk, f0, f4, f5, rfl, rfl⟩
    obtain ⟨hlen, hpos⟩ := pjT_len hok k hk
    by_cases hkn : k < l.length
    · have d1 : decide ((k : Int) < (l.length : Int)) = true := decide_eq_true (by omega)
      obtain ⟨bl, ol, rfl, c1⟩ := RdL.at_ (l := l) h hkn
      have hx1 : l.getD k 0 ∈ l := by rw [List.getD_eq_getElem?_getD, List.getElem?_eq_getElem (by omega)]; exact List.getElem_mem _
      have hx2 := hok.2 _ hx1
      have l1 := itoa_len (l.getD k 0) (by omega) (by omega)
      rcases Nat.eq_zero_or_pos k with e | e
      · have d2 : decide ((0 : Int) < (k : Int)) = false := decide_eq_false (by omega)
        have es : pjT l k = [] := by rw [e]; simp [pjT, Lib.join_nil]
        have en : pjT l (k + 1) = Lib.itoa (l.getD k 0) := by rw [e]; exact pjT_one (by omega)
        rw [es] at f4
        simp (disch := omega) only [bsW, WOp, WOq, WV, bo, eqN, gdc, gw, bnd, ↓reduceIte, Nat.reduceEqDiff, rsvs, rsv, oneOf, rdN, ne_eq, Nat.reduceAdd, Nat.reduceMul, Nat.reduceLT, reduceCtorEq, Value.cells, setN, Value.oneCell', Nat.reduceLeDiff, undef, fcT, f0, f5, f4, d1, d2, c1, mk_bs, i64max, bs_size, bs_app, List.length_append, List.length_cons, List.length_nil, List.append_assoc, Nat.mul_one]
        (repeat' (first | ((with_reducible refine gif_split (fun hs_ => ?_) (fun hs_ => ?_)) <;> (have hp_ := hs_; (try simp only [hpL, ne_eq] at hp_); (try simp (disch := omega) only [bsW, WOp, WOq, WV, bo, eqN, gdc, gw, bnd, ↓reduceIte, Nat.reduceEqDiff, rsvs, rsv, oneOf, rdN, ne_eq, Nat.reduceAdd, Nat.reduceMul, Nat.reduceLT, reduceCtorEq, Value.cells, setN, Value.oneCell', Nat.reduceLeDiff, undef, fcT, f0, f5, f4, d1, d2, c1, mk_bs, i64max, bs_size, bs_app, List.length_append, List.length_cons, List.length_nil, List.append_assoc, Nat.mul_one, hs_]))) | ((first | (with_reducible refine newB_i (fun nb_ hb_ => ?_)) | ((with_reducible show QC _ _ _ _ _ _); (first | (refine QC_i (l1Num _ (by omega) (by omega) _ _) ?_))) | ((with_reducible show AC _ _ _ _ _ _); (first | (refine PC.ac (l1Num _ (by omega) (by omega) _ _) ?_))) | (with_reducible refine RgE_i (fun (hBd_ : Bd _ _) => ?_))); (try simp (disch := omega) only [bsW, WOp, WOq, WV, bo, eqN, gdc, gw, bnd, ↓reduceIte, Nat.reduceEqDiff, rsvs, rsv, oneOf, rdN, ne_eq, Nat.reduceAdd, Nat.reduceMul, Nat.reduceLT, reduceCtorEq, Value.cells, setN, Value.oneCell', Nat.reduceLeDiff, undef, fcT, f0, f5, f4, d1, d2, c1, mk_bs, i64max, bs_size, bs_app, List.length_append, List.length_cons, List.length_nil, List.append_assoc, Nat.mul_one])) | (with_reducible refine fun (hBd_ : Bd _ _) => ?_) | ((first | (with_reducible refine @And.intro (Sub _ _) _ ?_ ?_) | ((with_reducible refine @And.intro (Sub _ _ ∧ _) _ ?_ ?_); (with_reducible refine @And.intro (Sub _ _) _ ?_ ?_))); exact sbX) | ((with_reducible refine And.intro ?_ ?_); omega)))
        all_goals try (exfalso; omega)
        exact hK _ _ _ ⟨k + 1, by omega, by omega, by simp (disch := omega) only [bsW, ↓reduceIte, Nat.reduceEqDiff, ne_eq, reduceCtorEq, fcT, f0, f5, f4, d1, d2, c1, mk_bs, i64max, bs_size, bs_app, List.length_append, List.length_cons, List.length_nil, List.append_assoc, Nat.mul_one], by rw [en]; simp (disch := omega) only [bsW, ↓reduceIte, Nat.reduceEqDiff, ne_eq, reduceCtorEq, fcT, f0, f5, f4, d1, d2, c1, mk_bs, i64max, bs_size, bs_app, List.length_append, List.length_cons, List.length_nil, List.append_assoc, Nat.mul_one], by simp (disch := omega) only [bsW, ↓reduceIte, Nat.reduceEqDiff, ne_eq, reduceCtorEq, fcT, f0, f5, f4, d1, d2, c1, mk_bs, i64max, bs_size, bs_app, List.length_append, List.length_cons, List.length_nil, List.append_assoc, Nat.mul_one, Int.natCast_add, Int.natCast_one], rfl, rfl⟩
      · have d2 : decide ((0 : Int) < (k : Int)) = true := decide_eq_true (by omega)
        have en := pjT_succ (l := l) e hkn
        simp (disch := omega) only [bsW, WOp, WOq, WV, bo, eqN, gdc, gw, bnd, ↓reduceIte, Nat.reduceEqDiff, rsvs, rsv, oneOf, rdN, ne_eq, Nat.reduceAdd, Nat.reduceMul, Nat.reduceLT, reduceCtorEq, Value.cells, setN, Value.oneCell', Nat.reduceLeDiff, undef, fcT, f0, f5, f4, d1, d2, c1, mk_bs, i64max, bs_size, bs_app, List.length_append, List.length_cons, List.length_nil, List.append_assoc, Nat.mul_one]
        (repeat' (first | ((with_reducible refine gif_split (fun hs_ => ?_) (fun hs_ => ?_)) <;> (have hp_ := hs_; (try simp only [hpL, ne_eq] at hp_); (try simp (disch := omega) only [bsW, WOp, WOq, WV, bo, eqN, gdc, gw, bnd, ↓reduceIte, Nat.reduceEqDiff, rsvs, rsv, oneOf, rdN, ne_eq, Nat.reduceAdd, Nat.reduceMul, Nat.reduceLT, reduceCtorEq, Value.cells, setN, Value.oneCell', Nat.reduceLeDiff, undef, fcT, f0, f5, f4, d1, d2, c1, mk_bs, i64max, bs_size, bs_app, List.length_append, List.length_cons, List.length_nil, List.append_assoc, Nat.mul_one, hs_]))) | ((first | (with_reducible refine newB_i (fun nb_ hb_ => ?_)) | ((with_reducible show QC _ _ _ _ _ _); (first | (refine QC_i (l1Num _ (by omega) (by omega) _ _) ?_))) | ((with_reducible show AC _ _ _ _ _ _); (first | (refine PC.ac (l1Num _ (by omega) (by omega) _ _) ?_))) | (with_reducible refine RgE_i (fun (hBd_ : Bd _ _) => ?_))); (try simp (disch := omega) only [bsW, WOp, WOq, WV, bo, eqN, gdc, gw, bnd, ↓reduceIte, Nat.reduceEqDiff, rsvs, rsv, oneOf, rdN, ne_eq, Nat.reduceAdd, Nat.reduceMul, Nat.reduceLT, reduceCtorEq, Value.cells, setN, Value.oneCell', Nat.reduceLeDiff, undef, fcT, f0, f5, f4, d1, d2, c1, mk_bs, i64max, bs_size, bs_app, List.length_append, List.length_cons, List.length_nil, List.append_assoc, Nat.mul_one])) | (with_reducible refine fun (hBd_ : Bd _ _) => ?_) | ((first | (with_reducible refine @And.intro (Sub _ _) _ ?_ ?_) | ((with_reducible refine @And.intro (Sub _ _ ∧ _) _ ?_ ?_); (with_reducible refine @And.intro (Sub _ _) _ ?_ ?_))); exact sbX) | ((with_reducible refine And.intro ?_ ?_); omega)))
        all_goals try (exfalso; omega)
        exact hK _ _ _ ⟨k + 1, by omega, by omega, by simp (disch := omega) only [bsW, ↓reduceIte, Nat.reduceEqDiff, ne_eq, reduceCtorEq, fcT, f0, f5, f4, d1, d2, c1, mk_bs, i64max, bs_size, bs_app, List.length_append, List.length_cons, List.length_nil, List.append_assoc, Nat.mul_one], by rw [en]; (simp (disch := omega) only [bsW, ↓reduceIte, Nat.reduceEqDiff, ne_eq, reduceCtorEq, fcT, f0, f5, f4, d1, d2, c1, mk_bs, i64max, bs_size, bs_app, List.length_append, List.length_cons, List.length_nil, List.append_assoc, Nat.mul_one]) <;> rfl, by simp (disch := omega) only [bsW, ↓reduceIte, Nat.reduceEqDiff, ne_eq, reduceCtorEq, fcT, f0, f5, f4, d1, d2, c1, mk_bs, i64max, bs_size, bs_app, List.length_append, List.length_cons, List.length_nil, List.append_assoc, Nat.mul_one, Int.natCast_add, Int.natCast_one], rfl, rfl⟩
    · have d1 : decide ((k : Int) < (l.length : Int)) = false := decide_eq_false (by omega)
      obtain rfl : k = l.length := by omega
      by_cases h0 : l.length = 0
      · have e : l = [] := List.eq_nil_of_length_eq_zero h0
        have es : pjT l l.length = [] := by rw [e]; simp [pjT, Lib.join_nil]
        rw [es] at f4
        have d2 : (([] : List UInt8) == []) = true := rfl
        simp (disch := omega) only [bsW, WOp, WOq, WV, bo, eqN, gdc, gw, bnd, ↓reduceIte, Nat.reduceEqDiff, rsvs, rsv, oneOf, rdN, ne_eq, Nat.reduceAdd, Nat.reduceMul, Nat.reduceLT, reduceCtorEq, Value.cells, setN, Value.oneCell', Nat.reduceLeDiff, undef, fcT, f0, f5, f4, d1, d2, mk_bs, bs_toList]
        (repeat' (first | ((with_reducible refine gif_split (fun hs_ => ?_) (fun hs_ => ?_)) <;> (have hp_ := hs_; (try simp only [hpL, ne_eq] at hp_); (try simp (disch := omega) only [bsW, WOp, WOq, WV, bo, eqN, gdc, gw, bnd, ↓reduceIte, Nat.reduceEqDiff, rsvs, rsv, oneOf, rdN, ne_eq, Nat.reduceAdd, Nat.reduceMul, Nat.reduceLT, reduceCtorEq, Value.cells, setN, Value.oneCell', Nat.reduceLeDiff, undef, fcT, f0, f5, f4, d1, d2, mk_bs, bs_toList, hs_]))) | ((first | (with_reducible refine newB_i (fun nb_ hb_ => ?_)) | (with_reducible refine RgE_i (fun (hBd_ : Bd _ _) => ?_))); (try simp (disch := omega) only [bsW, WOp, WOq, WV, bo, eqN, gdc, gw, bnd, ↓reduceIte, Nat.reduceEqDiff, rsvs, rsv, oneOf, rdN, ne_eq, Nat.reduceAdd, Nat.reduceMul, Nat.reduceLT, reduceCtorEq, Value.cells, setN, Value.oneCell', Nat.reduceLeDiff, undef, fcT, f0, f5, f4, d1, d2, mk_bs, bs_toList])) | (with_reducible refine fun (hBd_ : Bd _ _) => ?_) | ((first | (with_reducible refine @And.intro (Sub _ _) _ ?_ ?_) | ((with_reducible refine @And.intro (Sub _ _ ∧ _) _ ?_ ?_); (with_reducible refine @And.intro (Sub _ _) _ ?_ ?_))); exact sbX) | ((with_reducible refine And.intro ?_ ?_); omega)))
        all_goals try (exfalso; omega)
        exact Is_e (by rw [e, puT_no]) (Sub.refl _)
      · have hp := hpos (by omega)
        have d2 : (pjT l l.length == []) = false := by
          rw [beq_eq_false_iff_ne]
          intro e
          rw [e] at hp
          simp at hp
        simp (disch := omega) only [bsW, WOp, WOq, WV, bo, eqN, gdc, gw, bnd, ↓reduceIte, Nat.reduceEqDiff, rsvs, rsv, oneOf, rdN, ne_eq, Nat.reduceAdd, Nat.reduceMul, Nat.reduceLT, reduceCtorEq, Value.cells, setN, Value.oneCell', Nat.reduceLeDiff, undef, fcT, f0, f5, f4, d1, d2, mk_bs, bs_toList]
        (repeat' (first | ((with_reducible refine gif_split (fun hs_ => ?_) (fun hs_ => ?_)) <;> (have hp_ := hs_; (try simp only [hpL, ne_eq] at hp_); (try simp (disch := omega) only [bsW, WOp, WOq, WV, bo, eqN, gdc, gw, bnd, ↓reduceIte, Nat.reduceEqDiff, rsvs, rsv, oneOf, rdN, ne_eq, Nat.reduceAdd, Nat.reduceMul, Nat.reduceLT, reduceCtorEq, Value.cells, setN, Value.oneCell', Nat.reduceLeDiff, undef, fcT, f0, f5, f4, d1, d2, mk_bs, bs_toList, hs_]))) | ((first | (with_reducible refine newB_i (fun nb_ hb_ => ?_)) | (with_reducible refine RgE_i (fun (hBd_ : Bd _ _) => ?_))); (try simp (disch := omega) only [bsW, WOp, WOq, WV, bo, eqN, gdc, gw, bnd, ↓reduceIte, Nat.reduceEqDiff, rsvs, rsv, oneOf, rdN, ne_eq, Nat.reduceAdd, Nat.reduceMul, Nat.reduceLT, reduceCtorEq, Value.cells, setN, Value.oneCell', Nat.reduceLeDiff, undef, fcT, f0, f5, f4, d1, d2, mk_bs, bs_toList])) | (with_reducible refine fun (hBd_ : Bd _ _) => ?_) | ((first | (with_reducible refine @And.intro (Sub _ _) _ ?_ ?_) | ((with_reducible refine @And.intro (Sub _ _ ∧ _) _ ?_ ?_); (with_reducible refine @And.intro (Sub _ _) _ ?_ ?_))); exact sbX) | ((with_reducible refine And.intro ?_ ?_); omega)))
        all_goals try (exfalso; omega)
        exact Is_e (by rw [puT_yes (by omega)]) (Sub.refl _)
  · rintro fr H' nx' ⟨k, hm, _⟩; omega
  · exact ⟨0, by omega, by omega, by simp (disch := omega) only [bsW, ↓reduceIte, Nat.reduceEqDiff, ne_eq, reduceCtorEq, fcT], by (simp (disch := omega) only [bsW, ↓reduceIte, Nat.reduceEqDiff, ne_eq, reduceCtorEq, fcT]) <;> simp [pjT, Lib.join_nil], by simp (disch := omega) only [bsW, ↓reduceIte, Nat.reduceEqDiff, ne_eq, reduceCtorEq, fcT, Int.natCast_zero], rfl, rfl⟩
def hdT (hand : Int) : List UInt8 := if hand = 0 then [45] else Lib.itoa hand
def pzT (la : List Int) (hand : Int) (rj : List Int) (sl : Bool) : List UInt8 := puT la ++ ([32, 104, 97, 110, 100, 32] ++ (hdT hand ++ ([32, 111, 117, 116, 32] ++ (puT rj ++ if sl = true then [32, 115, 101, 97, 108, 101, 100] else []))))
noncomputable def ptT (tot : Int) (la : List Int) (hand : Int) (rj : List Int) (sl : Bool) : List UInt8 := if pzB tot la hand rj sl = true then pzT la hand rj sl else []
noncomputable def vPuzzleText (tot : Int) (la : List Int) (hand : Int) (rj : List Int) (sl : Bool) : Value := .tuple #[.string (bs (ptT tot la hand rj sl)), .bool (pzB tot la hand rj sl)]
theorem pz_all {tot : Int} {la : List Int} {hand : Int} {rj : List Int} {sl : Bool} (h : PzOk tot la hand rj sl) : okPc la ∧ okPc rj ∧ 0 ≤ hand ∧ hand ≤ 1000 := by
  have h1 := h.t1; have h2 := h.t2
  have hm : ∀ x, x ∈ la ∨ x ∈ rj → 1 ≤ x ∧ x ≤ tot := fun x hx => h.rg x (by unfold pcs; rcases hx with hx | hx <;> simp [hx])
  have hh : 0 ≤ hand ∧ hand ≤ 1000 := by
    by_cases e : hand = 0
    · omega
    · have := h.rg hand (by unfold pcs; simp [e])
      omega
  have hn : la.length + rj.length ≤ 20 := by
    have h3 := len_le (t := tot.toNat) h.nd (fun x hx => by have := h.rg x hx; omega)
    unfold pcs at h3
    rw [List.length_append, List.length_append] at h3
    omega
  exact ⟨⟨by omega, fun x hx => by have := hm x (.inl hx); omega⟩, ⟨by omega, fun x hx => by have := hm x (.inr hx); omega⟩, hh⟩
theorem PuzzleText (g : Nat) (ty : TypeId) (tot : Int) (A : Option Addr) (la : List Int) (c : Nat) (hand : Int) (B : Option Addr) (rj : List Int) (d : Nat) (sl : Bool) (H : Hp) (nx : Nat) (hg : g = 0) (hT : H g = some (.rw powCells ty)) (hla : la.length + rj.length ≤ 1048576) (hc : la.length ≤ c) (hA : RdL H A la) (hRB : RdL H B rj) :
    PC Tryd.prog 8 #[.agg #[.int .i64 tot, .slice A la.length c, .int .i64 hand, .slice B rj.length d, .bool sl]] H nx (vPuzzleText tot la hand rj sl) := by
  refine AC_of x_impl_PuzzleText rfl fun hB => ?_
  have hne : ∀ b, nx ≤ b → ∀ o, upd H b o g = some (.rw powCells ty) := fun b hb o => by
    have := hB _ _ hT
    rw [upd_ne (by omega)]
    exact hT
  have hsb : ∀ b, nx ≤ b → ∀ o, Sub H (upd H b o) := fun b hb o => sub_new hB hb
  cases hv : pzB tot la hand rj sl
  · have ev : vPuzzleText tot la hand rj sl = .tuple #[.string (bs []), .bool false] := by unfold vPuzzleText ptT; rw [hv, if_neg (by simp)]
    rw [ev]
    simp (disch := omega) only [bsW, WOp, WOq, WV, bo, eqN, gdc, gw, bnd, ↓reduceIte, Nat.reduceEqDiff, rsvs, rsv, oneOf, rdN, ne_eq, Nat.reduceAdd, Nat.reduceMul, Nat.reduceLT, reduceCtorEq, Value.cells, setN, Value.oneCell', Nat.reduceLeDiff, undef, fcT, hv, mk_bs, Bool.not_false, c_impl_PuzzleText]
    (repeat' (first | ((with_reducible refine gif_split (fun hs_ => ?_) (fun hs_ => ?_)) <;> (have hp_ := hs_; (try simp only [hpL, ne_eq] at hp_); (try simp (disch := omega) only [bsW, WOp, WOq, WV, bo, eqN, gdc, gw, bnd, ↓reduceIte, Nat.reduceEqDiff, rsvs, rsv, oneOf, rdN, ne_eq, Nat.reduceAdd, Nat.reduceMul, Nat.reduceLT, reduceCtorEq, Value.cells, setN, Value.oneCell', Nat.reduceLeDiff, undef, fcT, hv, mk_bs, Bool.not_false, hs_]))) | ((first | (with_reducible refine newB_i (fun nb_ hb_ => ?_)) | ((with_reducible show QC _ _ _ _ _ _); (first | (refine QC_i (isPuzzle _ tot A la c _ B rj d _ _ _ hla (by rw [rd_upd_same]; rfl) (by rw [rd_upd_same]; rfl) (by rw [rd_upd_same]; rfl) (by rw [rd_upd_same]; rfl) (by rw [rd_upd_same]; rfl) (Rd.sub hA (by (repeat (first | assumption | exact Sub.refl _ | (refine sub_up (nx := nx) ?_ hB ?_; omega))))) (Rd.sub hRB (by (repeat (first | assumption | exact Sub.refl _ | (refine sub_up (nx := nx) ?_ hB ?_; omega)))))) ?_))) | ((with_reducible show AC _ _ _ _ _ _); (first | (refine PC.ac (isPuzzle _ tot A la c _ B rj d _ _ _ hla (by rw [rd_upd_same]; rfl) (by rw [rd_upd_same]; rfl) (by rw [rd_upd_same]; rfl) (by rw [rd_upd_same]; rfl) (by rw [rd_upd_same]; rfl) (Rd.sub hA (by (repeat (first | assumption | exact Sub.refl _ | (refine sub_up (nx := nx) ?_ hB ?_; omega))))) (Rd.sub hRB (by (repeat (first | assumption | exact Sub.refl _ | (refine sub_up (nx := nx) ?_ hB ?_; omega)))))) ?_))) | (with_reducible refine RgE_i (fun (hBd_ : Bd _ _) => ?_))); (try simp (disch := omega) only [bsW, WOp, WOq, WV, bo, eqN, gdc, gw, bnd, ↓reduceIte, Nat.reduceEqDiff, rsvs, rsv, oneOf, rdN, ne_eq, Nat.reduceAdd, Nat.reduceMul, Nat.reduceLT, reduceCtorEq, Value.cells, setN, Value.oneCell', Nat.reduceLeDiff, undef, fcT, hv, mk_bs, Bool.not_false])) | (with_reducible refine fun (hBd_ : Bd _ _) => ?_) | ((first | (with_reducible refine @And.intro (Sub _ _) _ ?_ ?_) | ((with_reducible refine @And.intro (Sub _ _ ∧ _) _ ?_ ?_); (with_reducible refine @And.intro (Sub _ _) _ ?_ ?_))); exact sbX) | ((with_reducible refine And.intro ?_ ?_); omega)))
    exact Is_i (hsb _ (by assumption) _)
  have ev : vPuzzleText tot la hand rj sl = .tuple #[.string (bs (pzT la hand rj sl)), .bool true] := by unfold vPuzzleText ptT; rw [hv, if_pos rfl]
  rw [ev]
  obtain ⟨ok1, ok2, hh0, hh1⟩ := pz_all (pzB_iff.1 hv)
  have p1 := puT_len ok1
  have p2 := puT_len ok2
  have l0 := itoa_len hand (by omega) (by omega)
  by_cases e0 : hand = 0
  · subst e0
    have d1 : ((0 : Int) == 0) = true := rfl
    have d2 : decide ((0 : Int) < 0) = false := rfl
    cases sl
    all_goals
      simp (disch := omega) only [bsW, WOp, WOq, WV, bo, eqN, gdc, gw, bnd, ↓reduceIte, Nat.reduceEqDiff, rsvs, rsv, oneOf, rdN, ne_eq, Nat.reduceAdd, Nat.reduceMul, Nat.reduceLT, reduceCtorEq, Value.cells, setN, Value.oneCell', Nat.reduceLeDiff, undef, fcT, hv, d1, d2, Bool.not_true, mk_bs, i64max, bs_size, bs_app, List.length_append, List.length_cons, List.length_nil, List.append_assoc, c_impl_PuzzleText]
      (repeat' (first | ((with_reducible refine gif_split (fun hs_ => ?_) (fun hs_ => ?_)) <;> (have hp_ := hs_; (try simp only [hpL, ne_eq] at hp_); (try simp (disch := omega) only [bsW, WOp, WOq, WV, bo, eqN, gdc, gw, bnd, ↓reduceIte, Nat.reduceEqDiff, rsvs, rsv, oneOf, rdN, ne_eq, Nat.reduceAdd, Nat.reduceMul, Nat.reduceLT, reduceCtorEq, Value.cells, setN, Value.oneCell', Nat.reduceLeDiff, undef, fcT, hv, d1, d2, Bool.not_true, mk_bs, i64max, bs_size, bs_app, List.length_append, List.length_cons, List.length_nil, List.append_assoc, hs_]))) | ((first | (with_reducible refine newB_i (fun nb_ hb_ => ?_)) | ((with_reducible show QC _ _ _ _ _ _); (first | (refine QC_i (isPuzzle _ tot A la c _ B rj d _ _ _ hla (by rw [rd_upd_same]; rfl) (by rw [rd_upd_same]; rfl) (by rw [rd_upd_same]; rfl) (by rw [rd_upd_same]; rfl) (by rw [rd_upd_same]; rfl) (Rd.sub hA (by (repeat (first | assumption | exact Sub.refl _ | (refine sub_up (nx := nx) ?_ hB ?_; omega))))) (Rd.sub hRB (by (repeat (first | assumption | exact Sub.refl _ | (refine sub_up (nx := nx) ?_ hB ?_; omega)))))) ?_) | (refine QC_i (piecesText g ty A la _ c _ _ hg (hne _ (by with_reducible assumption) _) rfl ok1 (Rd.sub hA (by (repeat (first | assumption | exact Sub.refl _ | (refine sub_up (nx := nx) ?_ hB ?_; omega)))))) ?_) | (refine QC_i (piecesText g ty B rj _ d _ _ hg (hne _ (by with_reducible assumption) _) rfl ok2 (Rd.sub hRB (by (repeat (first | assumption | exact Sub.refl _ | (refine sub_up (nx := nx) ?_ hB ?_; omega)))))) ?_))) | ((with_reducible show AC _ _ _ _ _ _); (first | (refine PC.ac (isPuzzle _ tot A la c _ B rj d _ _ _ hla (by rw [rd_upd_same]; rfl) (by rw [rd_upd_same]; rfl) (by rw [rd_upd_same]; rfl) (by rw [rd_upd_same]; rfl) (by rw [rd_upd_same]; rfl) (Rd.sub hA (by (repeat (first | assumption | exact Sub.refl _ | (refine sub_up (nx := nx) ?_ hB ?_; omega))))) (Rd.sub hRB (by (repeat (first | assumption | exact Sub.refl _ | (refine sub_up (nx := nx) ?_ hB ?_; omega)))))) ?_) | (refine PC.ac (piecesText g ty A la _ c _ _ hg (hne _ (by with_reducible assumption) _) rfl ok1 (Rd.sub hA (by (repeat (first | assumption | exact Sub.refl _ | (refine sub_up (nx := nx) ?_ hB ?_; omega)))))) ?_) | (refine PC.ac (piecesText g ty B rj _ d _ _ hg (hne _ (by with_reducible assumption) _) rfl ok2 (Rd.sub hRB (by (repeat (first | assumption | exact Sub.refl _ | (refine sub_up (nx := nx) ?_ hB ?_; omega)))))) ?_))) | (with_reducible refine RgE_i (fun (hBd_ : Bd _ _) => ?_))); (try simp (disch := omega) only [bsW, WOp, WOq, WV, bo, eqN, gdc, gw, bnd, ↓reduceIte, Nat.reduceEqDiff, rsvs, rsv, oneOf, rdN, ne_eq, Nat.reduceAdd, Nat.reduceMul, Nat.reduceLT, reduceCtorEq, Value.cells, setN, Value.oneCell', Nat.reduceLeDiff, undef, fcT, hv, d1, d2, Bool.not_true, mk_bs, i64max, bs_size, bs_app, List.length_append, List.length_cons, List.length_nil, List.append_assoc])) | (with_reducible refine fun (hBd_ : Bd _ _) => ?_) | ((first | (with_reducible refine @And.intro (Sub _ _) _ ?_ ?_) | ((with_reducible refine @And.intro (Sub _ _ ∧ _) _ ?_ ?_); (with_reducible refine @And.intro (Sub _ _) _ ?_ ?_))); exact sbX) | ((with_reducible refine And.intro ?_ ?_); omega)))
      refine Is_e ?_ (hsb _ (by assumption) _)
      first | rfl | simp [pzT, hdT]
  · have d1 : (hand == 0) = false := by simpa using e0
    have d2 : decide (0 < hand) = true := decide_eq_true (by omega)
    cases sl
    all_goals
      simp (disch := omega) only [bsW, WOp, WOq, WV, bo, eqN, gdc, gw, bnd, ↓reduceIte, Nat.reduceEqDiff, rsvs, rsv, oneOf, rdN, ne_eq, Nat.reduceAdd, Nat.reduceMul, Nat.reduceLT, reduceCtorEq, Value.cells, setN, Value.oneCell', Nat.reduceLeDiff, undef, fcT, hv, d1, d2, Bool.not_true, mk_bs, i64max, bs_size, bs_app, List.length_append, List.length_cons, List.length_nil, List.append_assoc, c_impl_PuzzleText]
      (repeat' (first | ((with_reducible refine gif_split (fun hs_ => ?_) (fun hs_ => ?_)) <;> (have hp_ := hs_; (try simp only [hpL, ne_eq] at hp_); (try simp (disch := omega) only [bsW, WOp, WOq, WV, bo, eqN, gdc, gw, bnd, ↓reduceIte, Nat.reduceEqDiff, rsvs, rsv, oneOf, rdN, ne_eq, Nat.reduceAdd, Nat.reduceMul, Nat.reduceLT, reduceCtorEq, Value.cells, setN, Value.oneCell', Nat.reduceLeDiff, undef, fcT, hv, d1, d2, Bool.not_true, mk_bs, i64max, bs_size, bs_app, List.length_append, List.length_cons, List.length_nil, List.append_assoc, hs_]))) | ((first | (with_reducible refine newB_i (fun nb_ hb_ => ?_)) | ((with_reducible show QC _ _ _ _ _ _); (first | (refine QC_i (isPuzzle _ tot A la c _ B rj d _ _ _ hla (by rw [rd_upd_same]; rfl) (by rw [rd_upd_same]; rfl) (by rw [rd_upd_same]; rfl) (by rw [rd_upd_same]; rfl) (by rw [rd_upd_same]; rfl) (Rd.sub hA (by (repeat (first | assumption | exact Sub.refl _ | (refine sub_up (nx := nx) ?_ hB ?_; omega))))) (Rd.sub hRB (by (repeat (first | assumption | exact Sub.refl _ | (refine sub_up (nx := nx) ?_ hB ?_; omega)))))) ?_) | (refine QC_i (piecesText g ty A la _ c _ _ hg (hne _ (by with_reducible assumption) _) rfl ok1 (Rd.sub hA (by (repeat (first | assumption | exact Sub.refl _ | (refine sub_up (nx := nx) ?_ hB ?_; omega)))))) ?_) | (refine QC_i (piecesText g ty B rj _ d _ _ hg (hne _ (by with_reducible assumption) _) rfl ok2 (Rd.sub hRB (by (repeat (first | assumption | exact Sub.refl _ | (refine sub_up (nx := nx) ?_ hB ?_; omega)))))) ?_) | (refine QC_i (Itoa g ty _ _ hg (hne _ (by with_reducible assumption) _) _ (by omega) (by omega)) ?_))) | ((with_reducible show AC _ _ _ _ _ _); (first | (refine PC.ac (isPuzzle _ tot A la c _ B rj d _ _ _ hla (by rw [rd_upd_same]; rfl) (by rw [rd_upd_same]; rfl) (by rw [rd_upd_same]; rfl) (by rw [rd_upd_same]; rfl) (by rw [rd_upd_same]; rfl) (Rd.sub hA (by (repeat (first | assumption | exact Sub.refl _ | (refine sub_up (nx := nx) ?_ hB ?_; omega))))) (Rd.sub hRB (by (repeat (first | assumption | exact Sub.refl _ | (refine sub_up (nx := nx) ?_ hB ?_; omega)))))) ?_) | (refine PC.ac (piecesText g ty A la _ c _ _ hg (hne _ (by with_reducible assumption) _) rfl ok1 (Rd.sub hA (by (repeat (first | assumption | exact Sub.refl _ | (refine sub_up (nx := nx) ?_ hB ?_; omega)))))) ?_) | (refine PC.ac (piecesText g ty B rj _ d _ _ hg (hne _ (by with_reducible assumption) _) rfl ok2 (Rd.sub hRB (by (repeat (first | assumption | exact Sub.refl _ | (refine sub_up (nx := nx) ?_ hB ?_; omega)))))) ?_) | (refine PC.ac (Itoa g ty _ _ hg (hne _ (by with_reducible assumption) _) _ (by omega) (by omega)) ?_))) | (with_reducible refine RgE_i (fun (hBd_ : Bd _ _) => ?_))); (try simp (disch := omega) only [bsW, WOp, WOq, WV, bo, eqN, gdc, gw, bnd, ↓reduceIte, Nat.reduceEqDiff, rsvs, rsv, oneOf, rdN, ne_eq, Nat.reduceAdd, Nat.reduceMul, Nat.reduceLT, reduceCtorEq, Value.cells, setN, Value.oneCell', Nat.reduceLeDiff, undef, fcT, hv, d1, d2, Bool.not_true, mk_bs, i64max, bs_size, bs_app, List.length_append, List.length_cons, List.length_nil, List.append_assoc])) | (with_reducible refine fun (hBd_ : Bd _ _) => ?_) | ((first | (with_reducible refine @And.intro (Sub _ _) _ ?_ ?_) | ((with_reducible refine @And.intro (Sub _ _ ∧ _) _ ?_ ?_); (with_reducible refine @And.intro (Sub _ _) _ ?_ ?_))); exact sbX) | ((with_reducible refine And.intro ?_ ?_); omega)))
      refine Is_e ?_ (hsb _ (by assumption) _)
      unfold pzT hdT
      rw [if_neg e0]
      first | rfl | simp
theorem sPuzzleText (tot : Int) (A : Option Addr) (la : List Int) (c : Nat) (hand : Int) (B : Option Addr) (rj : List Int) (d : Nat) (sl : Bool) (H : Hp) (nx : Nat) (hla : la.length + rj.length ≤ 1048576) (hc : la.length ≤ c) (hA : RdL H A la) (hRB : RdL H B rj) :
    PC Tryd.prog 6 #[.agg #[.int .i64 tot, .slice A la.length c, .int .i64 hand, .slice B rj.length d, .bool sl]] H nx (vPuzzleText tot la hand rj sl) := by
  refine AC_of x_spec_PuzzleText rfl fun hB => ?_
  have hsb : ∀ b, nx ≤ b → ∀ o, Sub H (upd H b o) := fun b hb o => sub_new hB hb
  cases hv : pzB tot la hand rj sl
  · have ev : vPuzzleText tot la hand rj sl = .tuple #[.string (bs []), .bool false] := by unfold vPuzzleText ptT; rw [hv, if_neg (by simp)]
    rw [ev]
    simp (disch := omega) only [bsW, WOp, WOq, WV, bo, eqN, gdc, gw, bnd, ↓reduceIte, Nat.reduceEqDiff, rsvs, rsv, oneOf, rdN, ne_eq, Nat.reduceAdd, Nat.reduceMul, Nat.reduceLT, reduceCtorEq, Value.cells, setN, Value.oneCell', Nat.reduceLeDiff, undef, fcT, hv, mk_bs, Bool.not_false, c_spec_PuzzleText]
    (repeat' (first | ((with_reducible refine gif_split (fun hs_ => ?_) (fun hs_ => ?_)) <;> (have hp_ := hs_; (try simp only [hpL, ne_eq] at hp_); (try simp (disch := omega) only [bsW, WOp, WOq, WV, bo, eqN, gdc, gw, bnd, ↓reduceIte, Nat.reduceEqDiff, rsvs, rsv, oneOf, rdN, ne_eq, Nat.reduceAdd, Nat.reduceMul, Nat.reduceLT, reduceCtorEq, Value.cells, setN, Value.oneCell', Nat.reduceLeDiff, undef, fcT, hv, mk_bs, Bool.not_false, hs_]))) | ((first | (with_reducible refine newB_i (fun nb_ hb_ => ?_)) | ((with_reducible show QC _ _ _ _ _ _); (first | (refine QC_i (l21Good tot A la c _ B rj d _ _ _ hla hc (Rd.sub hA (by (repeat (first | assumption | exact Sub.refl _ | (refine sub_up (nx := nx) ?_ hB ?_; omega))))) (Rd.sub hRB (by (repeat (first | assumption | exact Sub.refl _ | (refine sub_up (nx := nx) ?_ hB ?_; omega)))))) ?_))) | ((with_reducible show AC _ _ _ _ _ _); (first | (refine PC.ac (l21Good tot A la c _ B rj d _ _ _ hla hc (Rd.sub hA (by (repeat (first | assumption | exact Sub.refl _ | (refine sub_up (nx := nx) ?_ hB ?_; omega))))) (Rd.sub hRB (by (repeat (first | assumption | exact Sub.refl _ | (refine sub_up (nx := nx) ?_ hB ?_; omega)))))) ?_))) | (with_reducible refine RgE_i (fun (hBd_ : Bd _ _) => ?_))); (try simp (disch := omega) only [bsW, WOp, WOq, WV, bo, eqN, gdc, gw, bnd, ↓reduceIte, Nat.reduceEqDiff, rsvs, rsv, oneOf, rdN, ne_eq, Nat.reduceAdd, Nat.reduceMul, Nat.reduceLT, reduceCtorEq, Value.cells, setN, Value.oneCell', Nat.reduceLeDiff, undef, fcT, hv, mk_bs, Bool.not_false])) | (with_reducible refine fun (hBd_ : Bd _ _) => ?_) | ((first | (with_reducible refine @And.intro (Sub _ _) _ ?_ ?_) | ((with_reducible refine @And.intro (Sub _ _ ∧ _) _ ?_ ?_); (with_reducible refine @And.intro (Sub _ _) _ ?_ ?_))); exact sbX) | ((with_reducible refine And.intro ?_ ?_); omega)))
    exact Is_i (hsb _ (by assumption) _)
  have ev : vPuzzleText tot la hand rj sl = .tuple #[.string (bs (pzT la hand rj sl)), .bool true] := by unfold vPuzzleText ptT; rw [hv, if_pos rfl]
  rw [ev]
  obtain ⟨ok1, ok2, hh0, hh1⟩ := pz_all (pzB_iff.1 hv)
  have p1 := puT_len ok1
  have p2 := puT_len ok2
  have l0 := itoa_len hand (by omega) (by omega)
  by_cases e0 : hand = 0
  · subst e0
    have d1 : ((0 : Int) == 0) = true := rfl
    have d2 : decide ((0 : Int) < 0) = false := rfl
    cases sl
    all_goals
      simp (disch := omega) only [bsW, WOp, WOq, WV, bo, eqN, gdc, gw, bnd, ↓reduceIte, Nat.reduceEqDiff, rsvs, rsv, oneOf, rdN, ne_eq, Nat.reduceAdd, Nat.reduceMul, Nat.reduceLT, reduceCtorEq, Value.cells, setN, Value.oneCell', Nat.reduceLeDiff, undef, fcT, hv, d1, d2, Bool.not_true, mk_bs, i64max, bs_size, bs_app, List.length_append, List.length_cons, List.length_nil, List.append_assoc, c_spec_PuzzleText]
      (repeat' (first | ((with_reducible refine gif_split (fun hs_ => ?_) (fun hs_ => ?_)) <;> (have hp_ := hs_; (try simp only [hpL, ne_eq] at hp_); (try simp (disch := omega) only [bsW, WOp, WOq, WV, bo, eqN, gdc, gw, bnd, ↓reduceIte, Nat.reduceEqDiff, rsvs, rsv, oneOf, rdN, ne_eq, Nat.reduceAdd, Nat.reduceMul, Nat.reduceLT, reduceCtorEq, Value.cells, setN, Value.oneCell', Nat.reduceLeDiff, undef, fcT, hv, d1, d2, Bool.not_true, mk_bs, i64max, bs_size, bs_app, List.length_append, List.length_cons, List.length_nil, List.append_assoc, hs_]))) | ((first | (with_reducible refine newB_i (fun nb_ hb_ => ?_)) | ((with_reducible show QC _ _ _ _ _ _); (first | (refine QC_i (l21Good tot A la c _ B rj d _ _ _ hla hc (Rd.sub hA (by (repeat (first | assumption | exact Sub.refl _ | (refine sub_up (nx := nx) ?_ hB ?_; omega))))) (Rd.sub hRB (by (repeat (first | assumption | exact Sub.refl _ | (refine sub_up (nx := nx) ?_ hB ?_; omega)))))) ?_) | (refine QC_i (l21List A la _ c _ _ rfl ok1 (Rd.sub hA (by (repeat (first | assumption | exact Sub.refl _ | (refine sub_up (nx := nx) ?_ hB ?_; omega)))))) ?_) | (refine QC_i (l21List B rj _ d _ _ rfl ok2 (Rd.sub hRB (by (repeat (first | assumption | exact Sub.refl _ | (refine sub_up (nx := nx) ?_ hB ?_; omega)))))) ?_))) | ((with_reducible show AC _ _ _ _ _ _); (first | (refine PC.ac (l21Good tot A la c _ B rj d _ _ _ hla hc (Rd.sub hA (by (repeat (first | assumption | exact Sub.refl _ | (refine sub_up (nx := nx) ?_ hB ?_; omega))))) (Rd.sub hRB (by (repeat (first | assumption | exact Sub.refl _ | (refine sub_up (nx := nx) ?_ hB ?_; omega)))))) ?_) | (refine PC.ac (l21List A la _ c _ _ rfl ok1 (Rd.sub hA (by (repeat (first | assumption | exact Sub.refl _ | (refine sub_up (nx := nx) ?_ hB ?_; omega)))))) ?_) | (refine PC.ac (l21List B rj _ d _ _ rfl ok2 (Rd.sub hRB (by (repeat (first | assumption | exact Sub.refl _ | (refine sub_up (nx := nx) ?_ hB ?_; omega)))))) ?_))) | (with_reducible refine RgE_i (fun (hBd_ : Bd _ _) => ?_))); (try simp (disch := omega) only [bsW, WOp, WOq, WV, bo, eqN, gdc, gw, bnd, ↓reduceIte, Nat.reduceEqDiff, rsvs, rsv, oneOf, rdN, ne_eq, Nat.reduceAdd, Nat.reduceMul, Nat.reduceLT, reduceCtorEq, Value.cells, setN, Value.oneCell', Nat.reduceLeDiff, undef, fcT, hv, d1, d2, Bool.not_true, mk_bs, i64max, bs_size, bs_app, List.length_append, List.length_cons, List.length_nil, List.append_assoc])) | (with_reducible refine fun (hBd_ : Bd _ _) => ?_) | ((first | (with_reducible refine @And.intro (Sub _ _) _ ?_ ?_) | ((with_reducible refine @And.intro (Sub _ _ ∧ _) _ ?_ ?_); (with_reducible refine @And.intro (Sub _ _) _ ?_ ?_))); exact sbX) | ((with_reducible refine And.intro ?_ ?_); omega)))
      refine Is_e ?_ (hsb _ (by assumption) _)
      first | rfl | simp [pzT, hdT]
  · have d1 : (hand == 0) = false := by simpa using e0
    have d2 : decide (0 < hand) = true := decide_eq_true (by omega)
    cases sl
    all_goals
      simp (disch := omega) only [bsW, WOp, WOq, WV, bo, eqN, gdc, gw, bnd, ↓reduceIte, Nat.reduceEqDiff, rsvs, rsv, oneOf, rdN, ne_eq, Nat.reduceAdd, Nat.reduceMul, Nat.reduceLT, reduceCtorEq, Value.cells, setN, Value.oneCell', Nat.reduceLeDiff, undef, fcT, hv, d1, d2, Bool.not_true, mk_bs, i64max, bs_size, bs_app, List.length_append, List.length_cons, List.length_nil, List.append_assoc, c_spec_PuzzleText]
      (repeat' (first | ((with_reducible refine gif_split (fun hs_ => ?_) (fun hs_ => ?_)) <;> (have hp_ := hs_; (try simp only [hpL, ne_eq] at hp_); (try simp (disch := omega) only [bsW, WOp, WOq, WV, bo, eqN, gdc, gw, bnd, ↓reduceIte, Nat.reduceEqDiff, rsvs, rsv, oneOf, rdN, ne_eq, Nat.reduceAdd, Nat.reduceMul, Nat.reduceLT, reduceCtorEq, Value.cells, setN, Value.oneCell', Nat.reduceLeDiff, undef, fcT, hv, d1, d2, Bool.not_true, mk_bs, i64max, bs_size, bs_app, List.length_append, List.length_cons, List.length_nil, List.append_assoc, hs_]))) | ((first | (with_reducible refine newB_i (fun nb_ hb_ => ?_)) | ((with_reducible show QC _ _ _ _ _ _); (first | (refine QC_i (l21Good tot A la c _ B rj d _ _ _ hla hc (Rd.sub hA (by (repeat (first | assumption | exact Sub.refl _ | (refine sub_up (nx := nx) ?_ hB ?_; omega))))) (Rd.sub hRB (by (repeat (first | assumption | exact Sub.refl _ | (refine sub_up (nx := nx) ?_ hB ?_; omega)))))) ?_) | (refine QC_i (l21List A la _ c _ _ rfl ok1 (Rd.sub hA (by (repeat (first | assumption | exact Sub.refl _ | (refine sub_up (nx := nx) ?_ hB ?_; omega)))))) ?_) | (refine QC_i (l21List B rj _ d _ _ rfl ok2 (Rd.sub hRB (by (repeat (first | assumption | exact Sub.refl _ | (refine sub_up (nx := nx) ?_ hB ?_; omega)))))) ?_) | (refine QC_i (l1Num _ (by omega) (by omega) _ _) ?_))) | ((with_reducible show AC _ _ _ _ _ _); (first | (refine PC.ac (l21Good tot A la c _ B rj d _ _ _ hla hc (Rd.sub hA (by (repeat (first | assumption | exact Sub.refl _ | (refine sub_up (nx := nx) ?_ hB ?_; omega))))) (Rd.sub hRB (by (repeat (first | assumption | exact Sub.refl _ | (refine sub_up (nx := nx) ?_ hB ?_; omega)))))) ?_) | (refine PC.ac (l21List A la _ c _ _ rfl ok1 (Rd.sub hA (by (repeat (first | assumption | exact Sub.refl _ | (refine sub_up (nx := nx) ?_ hB ?_; omega)))))) ?_) | (refine PC.ac (l21List B rj _ d _ _ rfl ok2 (Rd.sub hRB (by (repeat (first | assumption | exact Sub.refl _ | (refine sub_up (nx := nx) ?_ hB ?_; omega)))))) ?_) | (refine PC.ac (l1Num _ (by omega) (by omega) _ _) ?_))) | (with_reducible refine RgE_i (fun (hBd_ : Bd _ _) => ?_))); (try simp (disch := omega) only [bsW, WOp, WOq, WV, bo, eqN, gdc, gw, bnd, ↓reduceIte, Nat.reduceEqDiff, rsvs, rsv, oneOf, rdN, ne_eq, Nat.reduceAdd, Nat.reduceMul, Nat.reduceLT, reduceCtorEq, Value.cells, setN, Value.oneCell', Nat.reduceLeDiff, undef, fcT, hv, d1, d2, Bool.not_true, mk_bs, i64max, bs_size, bs_app, List.length_append, List.length_cons, List.length_nil, List.append_assoc])) | (with_reducible refine fun (hBd_ : Bd _ _) => ?_) | ((first | (with_reducible refine @And.intro (Sub _ _) _ ?_ ?_) | ((with_reducible refine @And.intro (Sub _ _ ∧ _) _ ?_ ?_); (with_reducible refine @And.intro (Sub _ _) _ ?_ ?_))); exact sbX) | ((with_reducible refine And.intro ?_ ?_); omega)))
      refine Is_e ?_ (hsb _ (by assumption) _)
      unfold pzT hdT
      rw [if_neg e0]
      first | rfl | simp
end Go.Proofs.YtbhabpenlaklcaaDoor
