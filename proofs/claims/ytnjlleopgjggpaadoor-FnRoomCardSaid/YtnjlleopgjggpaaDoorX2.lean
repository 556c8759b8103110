/- StepsText. -/
import Derived.Test.YtnjlleopgjggpaaDoorX1
import Derived.Test.YtnjlleopgjggpaaDoorC1
set_option linter.unusedVariables false
set_option linter.unusedSimpArgs false
set_option maxRecDepth 100000
set_option maxHeartbeats 1000000
namespace Go.Proofs.YtnjlleopgjggpaaDoor
open Go Go.RowKit Go.Proofs

def stT (f : Nat → Nat → Int) : Nat → List UInt8
  | 0 => []
  | k + 1 => stT f k ++ (Lib.itoa (f k 0) ++ ([43] ++ (Lib.itoa (f k 1) ++ [59])))
theorem stT_len {n : Nat} {f : Nat → Nat → Int} (hok : stepsOk n f) : ∀ k, k ≤ n → (stT f k).length ≤ 44 * k
  | 0, _ => by simp [stT]
  | k + 1, hk => by
    have h := stT_len hok k (by omega)
    have hs := hok.1 k (by omega)
    have h1 := inR_true.1 hs.1
    have h2 := inR_true.1 hs.2.1
    have h3 := itoa_len (f k 0) (by omega) (by omega)
    have h4 := itoa_len (f k 1) (by omega) (by omega)
    simp only [stT, List.length_append, List.length_cons, List.length_nil]
    omega
noncomputable def vStepsText (n : Nat) (f : Nat → Nat → Int) : Value :=
  if stepsB n f = true then .tuple #[.string (bs (stT f n)), .bool true] else .tuple #[.string (bs []), .bool false]
theorem StepsText (g : Nat) (ty : TypeId) (A : Option Addr) (n c : Nat) (f : Nat → Nat → Int) (H : Hp) (nx : Nat) (hg : g = 0) (hT : H g = some (.rw powCells ty)) (hn : n ≤ 17592186044416) (h : Rd H A n 2 f) :
    PC Tryd.prog 21 #[.slice A n c] H nx (vStepsText n f) := by
  refine AC_of x_impl_StepsText rfl fun hB => ?_
  simp (disch := omega) only [bsW, WOp, WOq, WV, bo, eqN, gdc, gw, bnd, ↓reduceIte, Nat.reduceEqDiff, rsvs, rsv, oneOf, rdN, ne_eq, Nat.reduceAdd, Nat.reduceMul, Nat.reduceLT, reduceCtorEq, Value.cells, setN, Value.oneCell', Nat.reduceLeDiff, undef, fcT, mk_bs, c_impl_StepsText]
  (repeat' (first | ((with_reducible refine gif_split (fun hs_ => ?_) (fun hs_ => ?_)) <;> (have hp_ := hs_; (try simp only [hpL, ne_eq] at hp_); (try simp (disch := omega) only [bsW, WOp, WOq, WV, bo, eqN, gdc, gw, bnd, ↓reduceIte, Nat.reduceEqDiff, rsvs, rsv, oneOf, rdN, ne_eq, Nat.reduceAdd, Nat.reduceMul, Nat.reduceLT, reduceCtorEq, Value.cells, setN, Value.oneCell', Nat.reduceLeDiff, undef, fcT, mk_bs, hs_]))) | ((first | (with_reducible refine newB_i (fun nb_ hb_ => ?_)) | ((with_reducible show QC _ _ _ _ _ _); (first | (refine QC_i (areSteps _ _ _ f _ _ hn h) ?_))) | ((with_reducible show AC _ _ _ _ _ _); (first | (refine PC.ac (areSteps _ _ _ f _ _ hn h) ?_))) | (with_reducible refine RgE_i (fun (hBd_ : Bd _ _) => ?_))); (try simp (disch := omega) only [bsW, WOp, WOq, WV, bo, eqN, gdc, gw, bnd, ↓reduceIte, Nat.reduceEqDiff, rsvs, rsv, oneOf, rdN, ne_eq, Nat.reduceAdd, Nat.reduceMul, Nat.reduceLT, reduceCtorEq, Value.cells, setN, Value.oneCell', Nat.reduceLeDiff, undef, fcT, mk_bs])) | (with_reducible refine fun (hBd_ : Bd _ _) => ?_) | ((first | (with_reducible refine @And.intro (Sub _ _) _ ?_ ?_) | ((with_reducible refine @And.intro (Sub _ _ ∧ _) _ ?_ ?_); (with_reducible refine @And.intro (Sub _ _) _ ?_ ?_))); exact sbX) | ((with_reducible refine And.intro ?_ ?_); omega)))
  rotate_left
  · exact Is_e (by simp [vStepsText, hp_]) (Sub.refl H)
  have hok := stepsB_iff.1 hp_
  have hn8 := inR_true.1 hok.2
  have e1 : vStepsText n f = .tuple #[.string (bs (stT f n)), .bool true] := if_pos hp_
  rw [e1]
  refine LpB_rule (fun m fr H' nx' => ∃ k : Nat, m = n - k + 1 ∧ k ≤ n ∧ fr 10 = .slice A n c ∧ fr 11 = .int .i64 n ∧ fr 12 = .int .i64 k ∧ fr 4 = .string (bs (stT f k)) ∧ Sub H H' ∧ nx ≤ nx') ?_ ?_ (n + 1) ?_
  · rintro m K hK fr H' nx' hB' ⟨k, hm, hk, f10, f11, f12, f4, hs, hx⟩
    simp (disch := omega) only [bsW, WOp, WOq, WV, bo, eqN, gdc, gw, bnd, ↓reduceIte, Nat.reduceEqDiff, rsvs, rsv, oneOf, rdN, ne_eq, Nat.reduceAdd, Nat.reduceMul, Nat.reduceLT, reduceCtorEq, Value.cells, setN, Value.oneCell', Nat.reduceLeDiff, undef, fcT, f10, f11, f12, f4]
    refine gif_split (fun b1 => ?_) (fun b1 => ?_)
    · have hlt : k < n := by simpa using b1
      obtain ⟨bb, off, rfl, hc⟩ := h.at_ (by omega)
      have c0 := rd_sub hs (hc k 0 hlt (by omega))
      have c1 := rd_sub hs (hc k 1 hlt (by omega))
      simp only [Nat.add_zero] at c0
      have hso := hok.1 k hlt
      have q1 := inR_true.1 hso.1
      have q2 := inR_true.1 hso.2.1
      have l0 := stT_len hok k (by omega)
      have l1 := itoa_len (f k 0) (by omega) (by omega)
      have l2 := itoa_len (f k 1) (by omega) (by omega)
      simp (disch := omega) only [bsW, WOp, WOq, WV, bo, eqN, gdc, gw, bnd, ↓reduceIte, Nat.reduceEqDiff, rsvs, rsv, oneOf, rdN, ne_eq, Nat.reduceAdd, Nat.reduceMul, Nat.reduceLT, reduceCtorEq, Value.cells, setN, Value.oneCell', Nat.reduceLeDiff, undef, fcT, f10, f11, f12, f4, c0, c1, mk_bs, i64max, bs_size, bs_app, List.length_append, List.length_cons, List.length_nil, List.append_assoc, b1]
      (repeat' (first | ((with_reducible refine gif_split (fun hs_ => ?_) (fun hs_ => ?_)) <;> (have hp_ := hs_; (try simp only [hpL, ne_eq] at hp_); (try simp (disch := omega) only [bsW, WOp, WOq, WV, bo, eqN, gdc, gw, bnd, ↓reduceIte, Nat.reduceEqDiff, rsvs, rsv, oneOf, rdN, ne_eq, Nat.reduceAdd, Nat.reduceMul, Nat.reduceLT, reduceCtorEq, Value.cells, setN, Value.oneCell', Nat.reduceLeDiff, undef, fcT, f10, f11, f12, f4, c0, c1, mk_bs, i64max, bs_size, bs_app, List.length_append, List.length_cons, List.length_nil, List.append_assoc, hs_]))) | ((first | (with_reducible refine newB_i (fun nb_ hb_ => ?_)) | ((with_reducible show QC _ _ _ _ _ _); (first | (refine QC_i (Itoa g ty _ _ hg (by rw [upd_ne (by have := hB _ _ hT; omega)]; exact hs _ _ hT) _ (by omega) (by omega)) ?_))) | ((with_reducible show AC _ _ _ _ _ _); (first | (refine PC.ac (Itoa g ty _ _ hg (by rw [upd_ne (by have := hB _ _ hT; omega)]; exact hs _ _ hT) _ (by omega) (by omega)) ?_))) | (with_reducible refine RgE_i (fun (hBd_ : Bd _ _) => ?_))); (try simp (disch := omega) only [bsW, WOp, WOq, WV, bo, eqN, gdc, gw, bnd, ↓reduceIte, Nat.reduceEqDiff, rsvs, rsv, oneOf, rdN, ne_eq, Nat.reduceAdd, Nat.reduceMul, Nat.reduceLT, reduceCtorEq, Value.cells, setN, Value.oneCell', Nat.reduceLeDiff, undef, fcT, f10, f11, f12, f4, c0, c1, mk_bs, i64max, bs_size, bs_app, List.length_append, List.length_cons, List.length_nil, List.append_assoc])) | (with_reducible refine fun (hBd_ : Bd _ _) => ?_) | ((first | (with_reducible refine @And.intro (Sub _ _) _ ?_ ?_) | ((with_reducible refine @And.intro (Sub _ _ ∧ _) _ ?_ ?_); (with_reducible refine @And.intro (Sub _ _) _ ?_ ?_))); exact sbX) | ((with_reducible refine And.intro ?_ ?_); omega)))
      exact hK _ _ _ ⟨k + 1, by omega, by omega, by simp (disch := omega) only [bsW, ↓reduceIte, Nat.reduceEqDiff, ne_eq, reduceCtorEq, fcT, f10, f11, f12, f4, c0, c1, mk_bs, i64max, bs_size, bs_app, List.length_append, List.length_cons, List.length_nil, List.append_assoc], by simp (disch := omega) only [bsW, ↓reduceIte, Nat.reduceEqDiff, ne_eq, reduceCtorEq, fcT, f10, f11, f12, f4, c0, c1, mk_bs, i64max, bs_size, bs_app, List.length_append, List.length_cons, List.length_nil, List.append_assoc], by simp (disch := omega) only [bsW, ↓reduceIte, Nat.reduceEqDiff, ne_eq, reduceCtorEq, fcT, f10, f11, f12, f4, c0, c1, mk_bs, i64max, bs_size, bs_app, List.length_append, List.length_cons, List.length_nil, List.append_assoc, Int.natCast_add, Int.natCast_one], by simp (disch := omega) only [bsW, ↓reduceIte, Nat.reduceEqDiff, ne_eq, reduceCtorEq, fcT, f10, f11, f12, f4, c0, c1, mk_bs, i64max, bs_size, bs_app, List.length_append, List.length_cons, List.length_nil, List.append_assoc, stT], by (repeat (first | assumption | exact Sub.refl _ | (refine sub_up (nx := nx) ?_ hB ?_; omega))), by omega⟩
    · have hkn : k = n := by simp at b1; omega
      subst hkn
      simp (disch := omega) only [bsW, WOp, WOq, WV, bo, eqN, gdc, gw, bnd, ↓reduceIte, Nat.reduceEqDiff, rsvs, rsv, oneOf, rdN, ne_eq, Nat.reduceAdd, Nat.reduceMul, Nat.reduceLT, reduceCtorEq, Value.cells, setN, Value.oneCell', Nat.reduceLeDiff, undef, fcT, f10, f11, f12, f4, b1]
      exact Is_i hs
  · rintro fr H' nx' ⟨k, hm, _⟩; omega
  · exact ⟨0, by omega, by omega, by simp (disch := omega) only [bsW, ↓reduceIte, Nat.reduceEqDiff, ne_eq, reduceCtorEq, fcT], by simp (disch := omega) only [bsW, ↓reduceIte, Nat.reduceEqDiff, ne_eq, reduceCtorEq, fcT], by simp (disch := omega) only [bsW, ↓reduceIte, Nat.reduceEqDiff, ne_eq, reduceCtorEq, fcT, Int.natCast_zero], by simp (disch := omega) only [bsW, ↓reduceIte, Nat.reduceEqDiff, ne_eq, reduceCtorEq, fcT, stT], Sub.refl _, by omega⟩
theorem sStepsText (A : Option Addr) (n c : Nat) (f : Nat → Nat → Int) (H : Hp) (nx : Nat) (hn : n ≤ 17592186044416) (h : Rd H A n 2 f) :
    PC Tryd.prog 22 #[.slice A n c] H nx (vStepsText n f) := by
  refine AC_of x_spec_StepsText rfl fun hB => ?_
  simp (disch := omega) only [bsW, WOp, WOq, WV, bo, eqN, gdc, gw, bnd, ↓reduceIte, Nat.reduceEqDiff, rsvs, rsv, oneOf, rdN, ne_eq, Nat.reduceAdd, Nat.reduceMul, Nat.reduceLT, reduceCtorEq, Value.cells, setN, Value.oneCell', Nat.reduceLeDiff, undef, fcT, mk_bs, c_spec_StepsText]
  (repeat' (first | ((with_reducible refine gif_split (fun hs_ => ?_) (fun hs_ => ?_)) <;> (have hp_ := hs_; (try simp only [hpL, ne_eq] at hp_); (try simp (disch := omega) only [bsW, WOp, WOq, WV, bo, eqN, gdc, gw, bnd, ↓reduceIte, Nat.reduceEqDiff, rsvs, rsv, oneOf, rdN, ne_eq, Nat.reduceAdd, Nat.reduceMul, Nat.reduceLT, reduceCtorEq, Value.cells, setN, Value.oneCell', Nat.reduceLeDiff, undef, fcT, mk_bs, hs_]))) | ((first | (with_reducible refine newB_i (fun nb_ hb_ => ?_)) | ((with_reducible show QC _ _ _ _ _ _); (first | (refine QC_i (l22Steps _ _ _ f _ _ hn h) ?_))) | ((with_reducible show AC _ _ _ _ _ _); (first | (refine PC.ac (l22Steps _ _ _ f _ _ hn h) ?_))) | (with_reducible refine RgE_i (fun (hBd_ : Bd _ _) => ?_))); (try simp (disch := omega) only [bsW, WOp, WOq, WV, bo, eqN, gdc, gw, bnd, ↓reduceIte, Nat.reduceEqDiff, rsvs, rsv, oneOf, rdN, ne_eq, Nat.reduceAdd, Nat.reduceMul, Nat.reduceLT, reduceCtorEq, Value.cells, setN, Value.oneCell', Nat.reduceLeDiff, undef, fcT, mk_bs])) | (with_reducible refine fun (hBd_ : Bd _ _) => ?_) | ((first | (with_reducible refine @And.intro (Sub _ _) _ ?_ ?_) | ((with_reducible refine @And.intro (Sub _ _ ∧ _) _ ?_ ?_); (with_reducible refine @And.intro (Sub _ _) _ ?_ ?_))); exact sbX) | ((with_reducible refine And.intro ?_ ?_); omega)))
  rotate_left
  · exact Is_e (by simp [vStepsText, hp_]) (Sub.refl H)
  have hok := stepsB_iff.1 hp_
  have hn8 := inR_true.1 hok.2
  have e1 : vStepsText n f = .tuple #[.string (bs (stT f n)), .bool true] := if_pos hp_
  rw [e1]
  refine LpB_rule (fun m fr H' nx' => ∃ k : Nat, m = n - k + 1 ∧ k ≤ n ∧ fr 0 = .slice A n c ∧ fr 5 = .int .i64 k ∧ fr 4 = .string (bs (stT f k)) ∧ H' = H ∧ nx' = nx) ?_ ?_ (n + 1) ?_
  · rintro m K hK fr H' nx' hB' ⟨k, hm, hk, f0, f5, f4, rfl, rfl⟩
    simp (disch := omega) only [bsW, WOp, WOq, WV, bo, eqN, gdc, gw, bnd, ↓reduceIte, Nat.reduceEqDiff, rsvs, rsv, oneOf, rdN, ne_eq, Nat.reduceAdd, Nat.reduceMul, Nat.reduceLT, reduceCtorEq, Value.cells, setN, Value.oneCell', Nat.reduceLeDiff, undef, fcT, f0, f5, f4]
    refine gif_split (fun b1 => ?_) (fun b1 => ?_)
    · have hlt : k < n := by simpa using b1
      obtain ⟨bb, off, rfl, hc⟩ := h.at_ (by omega)
      have c0 := hc k 0 hlt (by omega)
      have c1 := hc k 1 hlt (by omega)
      simp only [Nat.add_zero] at c0
      have hso := hok.1 k hlt
      have q1 := inR_true.1 hso.1
      have q2 := inR_true.1 hso.2.1
      have l0 := stT_len hok k (by omega)
      have l1 := itoa_len (f k 0) (by omega) (by omega)
      have l2 := itoa_len (f k 1) (by omega) (by omega)
      simp (disch := omega) only [bsW, WOp, WOq, WV, bo, eqN, gdc, gw, bnd, ↓reduceIte, Nat.reduceEqDiff, rsvs, rsv, oneOf, rdN, ne_eq, Nat.reduceAdd, Nat.reduceMul, Nat.reduceLT, reduceCtorEq, Value.cells, setN, Value.oneCell', Nat.reduceLeDiff, undef, fcT, f0, f5, f4, c0, c1, mk_bs, i64max, bs_size, bs_app, List.length_append, List.length_cons, List.length_nil, List.append_assoc, b1]
      (repeat' (first | ((with_reducible refine gif_split (fun hs_ => ?_) (fun hs_ => ?_)) <;> (have hp_ := hs_; (try simp only [hpL, ne_eq] at hp_); (try simp (disch := omega) only [bsW, WOp, WOq, WV, bo, eqN, gdc, gw, bnd, ↓reduceIte, Nat.reduceEqDiff, rsvs, rsv, oneOf, rdN, ne_eq, Nat.reduceAdd, Nat.reduceMul, Nat.reduceLT, reduceCtorEq, Value.cells, setN, Value.oneCell', Nat.reduceLeDiff, undef, fcT, f0, f5, f4, c0, c1, mk_bs, i64max, bs_size, bs_app, List.length_append, List.length_cons, List.length_nil, List.append_assoc, hs_]))) | ((first | (with_reducible refine newB_i (fun nb_ hb_ => ?_)) | ((with_reducible show QC _ _ _ _ _ _); (first | (refine QC_i (l1Num _ (by omega) (by omega) _ _) ?_))) | ((with_reducible show AC _ _ _ _ _ _); (first | (refine PC.ac (l1Num _ (by omega) (by omega) _ _) ?_))) | (with_reducible refine RgE_i (fun (hBd_ : Bd _ _) => ?_))); (try simp (disch := omega) only [bsW, WOp, WOq, WV, bo, eqN, gdc, gw, bnd, ↓reduceIte, Nat.reduceEqDiff, rsvs, rsv, oneOf, rdN, ne_eq, Nat.reduceAdd, Nat.reduceMul, Nat.reduceLT, reduceCtorEq, Value.cells, setN, Value.oneCell', Nat.reduceLeDiff, undef, fcT, f0, f5, f4, c0, c1, mk_bs, i64max, bs_size, bs_app, List.length_append, List.length_cons, List.length_nil, List.append_assoc])) | (with_reducible refine fun (hBd_ : Bd _ _) => ?_) | ((first | (with_reducible refine @And.intro (Sub _ _) _ ?_ ?_) | ((with_reducible refine @And.intro (Sub _ _ ∧ _) _ ?_ ?_); (with_reducible refine @And.intro (Sub _ _) _ ?_ ?_))); exact sbX) | ((with_reducible refine And.intro ?_ ?_); omega)))
      exact hK _ _ _ ⟨k + 1, by omega, by omega, by simp (disch := omega) only [bsW, ↓reduceIte, Nat.reduceEqDiff, ne_eq, reduceCtorEq, fcT, f0, f5, f4, c0, c1, mk_bs, i64max, bs_size, bs_app, List.length_append, List.length_cons, List.length_nil, List.append_assoc], by simp (disch := omega) only [bsW, ↓reduceIte, Nat.reduceEqDiff, ne_eq, reduceCtorEq, fcT, f0, f5, f4, c0, c1, mk_bs, i64max, bs_size, bs_app, List.length_append, List.length_cons, List.length_nil, List.append_assoc, Int.natCast_add, Int.natCast_one], by simp (disch := omega) only [bsW, ↓reduceIte, Nat.reduceEqDiff, ne_eq, reduceCtorEq, fcT, f0, f5, f4, c0, c1, mk_bs, i64max, bs_size, bs_app, List.length_append, List.length_cons, List.length_nil, List.append_assoc, stT], rfl, rfl⟩
    · have hkn : k = n := by simp at b1; omega
      subst hkn
      simp (disch := omega) only [bsW, WOp, WOq, WV, bo, eqN, gdc, gw, bnd, ↓reduceIte, Nat.reduceEqDiff, rsvs, rsv, oneOf, rdN, ne_eq, Nat.reduceAdd, Nat.reduceMul, Nat.reduceLT, reduceCtorEq, Value.cells, setN, Value.oneCell', Nat.reduceLeDiff, undef, fcT, f0, f5, f4, b1]
      exact Is_i (Sub.refl _)
  · rintro fr H' nx' ⟨k, hm, _⟩; omega
  · exact ⟨0, by omega, by omega, by simp (disch := omega) only [bsW, ↓reduceIte, Nat.reduceEqDiff, ne_eq, reduceCtorEq, fcT], by simp (disch := omega) only [bsW, ↓reduceIte, Nat.reduceEqDiff, ne_eq, reduceCtorEq, fcT, Int.natCast_zero], by simp (disch := omega) only [bsW, ↓reduceIte, Nat.reduceEqDiff, ne_eq, reduceCtorEq, fcT, stT], rfl, rfl⟩
end Go.Proofs.YtnjlleopgjggpaaDoor
