/- The reference's GreatestExchange. -/
import Derived.Test.YtnaldmmdhpobgaaV21
import Derived.Test.YtnaldmmdhpobgaaP20f
set_option linter.unusedVariables false
set_option linter.unusedSimpArgs false
set_option maxRecDepth 100000
set_option maxHeartbeats 1000000
namespace Go.Proofs.Ytnaldmmdhpobgaa
open Go Go.RowKit Go.Proofs

/-- Rows of rows, a number, and whether they are told. -/
structure LLIFlag (H : Hp) (nx : Nat) (ls : List (List Int)) (x : Int) (te ti : TypeId) (flag : Bool) (v : Value) (H' : Hp) (nx' : Nat) : Prop where
  ex : ∃ w, v = .tuple #[w, .int .i64 x, .bool flag] ∧ NewLL H nx ls te ti w H' nx'
noncomputable def gxB (N : Int) (m : Nat) (f : Nat → Nat → Int) : Bool := wssB N m f && decide (N ≤ 6)
noncomputable def gxL (N : Int) (m : Nat) (f : Nat → Nat → Int) : List (List Int) := if gxB N m f = true then (bestX N.toNat m f false).1 else []
noncomputable def gxS (N : Int) (m : Nat) (f : Nat → Nat → Int) : Int := if gxB N m f = true then (bestX N.toNat m f false).2 else 0
theorem gx_no {N : Int} {m : Nat} {f : Nat → Nat → Int} (h : gxB N m f = false) : gxL N m f = [] ∧ gxS N m f = 0 := ⟨if_neg (by rw [h]; simp), if_neg (by rw [h]; simp)⟩
theorem bestX_sv (n m : Nat) (f : Nat → Nat → Int) (cnt : Bool) : ∃ first, SV (allC n m f n) (wC n m f cnt) (bestX n m f cnt).1 first (bestX n m f cnt).2 := srch_sv _ _ _
theorem bestX_TP {n m : Nat} {f : Nat → Nat → Int} (hok : wssOk (n : Int) m f) (cnt : Bool) : TP (allC n m f n) (bestX n m f cnt) := srch_TP (wC_bd hok cnt) _ _ _ _ _ .zero .zero
theorem bestX_mem {n m : Nat} {f : Nat → Nat → Int} (cnt : Bool) : ∀ c ∈ (bestX n m f cnt).1, c ∈ allC n m f n := by
  obtain ⟨first, h⟩ := bestX_sv n m f cnt
  exact h.mem
theorem bestX_row {n m : Nat} {f : Nat → Nat → Int} (hok : wssOk (n : Int) m f) (cnt : Bool) : ∀ i, i < (bestX n m f cnt).1.length → 2 ≤ (rowOf (bestX n m f cnt).1 i).length ∧ (rowOf (bestX n m f cnt).1 i).length ≤ 8 := fun i hi => by
  have h := allC_ok n (Nat.le_refl _) _ (bestX_mem cnt _ (rowOf_mem hi))
  have := hok.1
  have := h.1.2
  omega
theorem gx_rows (N : Int) (m : Nat) (f : Nat → Nat → Int) : (gxL N m f).length ≤ 1000000 ∧ ∀ i, i < (gxL N m f).length → (rowOf (gxL N m f) i).length ≤ 8 := by
  cases h : gxB N m f
  · rw [(gx_no h).1]
    exact ⟨by simp, fun i hi => by simp at hi⟩
  · have e : gxL N m f = (bestX N.toNat m f false).1 := if_pos h
    simp only [gxB, Bool.and_eq_true, decide_eq_true_eq] at h
    have hok := wssB_iff.1 h.1
    obtain ⟨n, rfl⟩ : ∃ n : Nat, N = (n : Int) := ⟨N.toNat, by have := hok.1; omega⟩
    rw [e, Int.toNat_natCast]
    have := (bestX_TP hok false).hbt
    have := (allC_all hok).1
    exact ⟨by omega, fun i hi => (bestX_row hok false i hi).2⟩
theorem OwnR.ptr {H : Hp} {lo hi n k : Nat} {f : Nat → Nat → Int} {ty : TypeId} {v : Value} (h : OwnR H lo hi n k f ty v) (hn : 0 < n) : ∃ b c, v = .slice (some ⟨b, 0, none⟩) n c := by
  rcases h.ex with ⟨_, h0⟩ | ⟨b, c, _, e, _⟩
  · omega
  · exact ⟨b, c, e⟩
theorem sGreatestExchange (N : Int) (Aw : Option Addr) (m cw : Nat) (f : Nat → Nat → Int) (H : Hp) (nx : Nat) (hN : -9223372036854775808 ≤ N ∧ N ≤ 9223372036854775807) (hm : m ≤ 9223372036854775807) (hw : Rd H Aw m 3 f) :
    AC Try.prog 39 #[.int .i64 N, .slice Aw m cw] H nx (LLIFlag H nx (gxL N m f) (gxS N m f) 23 3 (gxB N m f)) := by
  refine AC_of x_spec_GreatestExchange rfl fun hB => ?_
  by_cases hok : wssOk N m f
  case neg =>
    have e := wssB_no hok
    have eb : gxB N m f = false := by simp [gxB, e]
    rw [eb, (gx_no eb).1, (gx_no eb).2]
    simp (disch := omega) only [bsW, WOp, WOq, WV, bo, gdc, gw, bnd, ↓reduceIte, Nat.reduceEqDiff, rsvs, rsv, oneOf, rdN, ne_eq, Nat.reduceAdd, Nat.reduceMul, Nat.reduceLT, reduceCtorEq, Value.cells, setN, Value.oneCell', Nat.reduceLeDiff, undef, fcT, e, Bool.not_false, c_spec_GreatestExchange]
    (repeat' (first | ((with_reducible refine gif_split (fun hs_ => ?_) (fun hs_ => ?_)) <;> (have hp_ := hs_; (try simp only [hpL, ne_eq] at hp_); (try simp (disch := omega) only [bsW, WOp, WOq, WV, bo, gdc, gw, bnd, ↓reduceIte, Nat.reduceEqDiff, rsvs, rsv, oneOf, rdN, ne_eq, Nat.reduceAdd, Nat.reduceMul, Nat.reduceLT, reduceCtorEq, Value.cells, setN, Value.oneCell', Nat.reduceLeDiff, undef, fcT, e, Bool.not_false, hs_]))) | ((first | (with_reducible refine newB_i (fun nb_ hb_ => ?_)) | ((with_reducible show QC _ _ _ _ _ _); (first | (refine QC_i (l20Good N _ _ _ f _ _ hm hN hw) ?_))) | ((with_reducible show AC _ _ _ _ _ _); (first | (refine PC.ac (l20Good N _ _ _ f _ _ hm hN hw) ?_))) | (with_reducible refine RgE_i (fun (hBd_ : Bd _ _) => ?_))); (try simp (disch := omega) only [bsW, WOp, WOq, WV, bo, gdc, gw, bnd, ↓reduceIte, Nat.reduceEqDiff, rsvs, rsv, oneOf, rdN, ne_eq, Nat.reduceAdd, Nat.reduceMul, Nat.reduceLT, reduceCtorEq, Value.cells, setN, Value.oneCell', Nat.reduceLeDiff, undef, fcT, e, Bool.not_false])) | (with_reducible refine fun (hBd_ : Bd _ _) => ?_) | ((first | (with_reducible refine @And.intro (Sub _ _) _ ?_ ?_) | ((with_reducible refine @And.intro (Sub _ _ ∧ _) _ ?_ ?_); (with_reducible refine @And.intro (Sub _ _) _ ?_ ?_))); exact sbX) | ((with_reducible refine And.intro ?_ ?_); omega)))
    exact ⟨_, rfl, .empty hb_ (by omega) (upd_same _ _ _), sub_new hB hb_⟩
  have e := wssB_iff.2 hok
  have hN8 := hok.1
  by_cases h6 : N ≤ 6
  case neg =>
    have d1 : decide ((6 : Int) < N) = true := decide_eq_true (by omega)
    have eb : gxB N m f = false := by simp [gxB, h6]
    rw [eb, (gx_no eb).1, (gx_no eb).2]
    simp (disch := omega) only [bsW, WOp, WOq, WV, bo, gdc, gw, bnd, ↓reduceIte, Nat.reduceEqDiff, rsvs, rsv, oneOf, rdN, ne_eq, Nat.reduceAdd, Nat.reduceMul, Nat.reduceLT, reduceCtorEq, Value.cells, setN, Value.oneCell', Nat.reduceLeDiff, undef, fcT, e, Bool.not_true, d1, c_spec_GreatestExchange]
    (repeat' (first | ((with_reducible refine gif_split (fun hs_ => ?_) (fun hs_ => ?_)) <;> (have hp_ := hs_; (try simp only [hpL, ne_eq] at hp_); (try simp (disch := omega) only [bsW, WOp, WOq, WV, bo, gdc, gw, bnd, ↓reduceIte, Nat.reduceEqDiff, rsvs, rsv, oneOf, rdN, ne_eq, Nat.reduceAdd, Nat.reduceMul, Nat.reduceLT, reduceCtorEq, Value.cells, setN, Value.oneCell', Nat.reduceLeDiff, undef, fcT, e, Bool.not_true, d1, hs_]))) | ((first | (with_reducible refine newB_i (fun nb_ hb_ => ?_)) | ((with_reducible show QC _ _ _ _ _ _); (first | (refine QC_i (l20Good N _ _ _ f _ _ hm hN hw) ?_))) | ((with_reducible show AC _ _ _ _ _ _); (first | (refine PC.ac (l20Good N _ _ _ f _ _ hm hN hw) ?_))) | (with_reducible refine RgE_i (fun (hBd_ : Bd _ _) => ?_))); (try simp (disch := omega) only [bsW, WOp, WOq, WV, bo, gdc, gw, bnd, ↓reduceIte, Nat.reduceEqDiff, rsvs, rsv, oneOf, rdN, ne_eq, Nat.reduceAdd, Nat.reduceMul, Nat.reduceLT, reduceCtorEq, Value.cells, setN, Value.oneCell', Nat.reduceLeDiff, undef, fcT, e, Bool.not_true, d1])) | (with_reducible refine fun (hBd_ : Bd _ _) => ?_) | ((first | (with_reducible refine @And.intro (Sub _ _) _ ?_ ?_) | ((with_reducible refine @And.intro (Sub _ _ ∧ _) _ ?_ ?_); (with_reducible refine @And.intro (Sub _ _) _ ?_ ?_))); exact sbX) | ((with_reducible refine And.intro ?_ ?_); omega)))
    exact ⟨_, rfl, .empty hb_ (by omega) (upd_same _ _ _), sub_new hB hb_⟩
  have d1 : decide ((6 : Int) < N) = false := decide_eq_false (by omega)
  have eb : gxB N m f = true := by simp [gxB, e, h6]
  have eL : gxL N m f = (bestX N.toNat m f false).1 := if_pos eb
  have eS : gxS N m f = (bestX N.toNat m f false).2 := if_pos eb
  rw [eb, eL, eS]
  obtain ⟨n, rfl⟩ : ∃ n : Nat, N = (n : Int) := ⟨N.toNat, by omega⟩
  rw [Int.toNat_natCast]
  obtain ⟨hl, hcr, hr8⟩ := allC_all hok
  have hbl := (bestX_TP hok false).hbt
  have hbr := bestX_row hok false
  simp (disch := omega) only [bsW, WOp, WOq, WV, bo, gdc, gw, bnd, ↓reduceIte, Nat.reduceEqDiff, rsvs, rsv, oneOf, rdN, ne_eq, Nat.reduceAdd, Nat.reduceMul, Nat.reduceLT, reduceCtorEq, Value.cells, setN, Value.oneCell', Nat.reduceLeDiff, undef, fcT, e, Bool.not_true, d1, c_spec_GreatestExchange]
  (repeat' (first | ((with_reducible refine gif_split (fun hs_ => ?_) (fun hs_ => ?_)) <;> (have hp_ := hs_; (try simp only [hpL, ne_eq] at hp_); (try simp (disch := omega) only [bsW, WOp, WOq, WV, bo, gdc, gw, bnd, ↓reduceIte, Nat.reduceEqDiff, rsvs, rsv, oneOf, rdN, ne_eq, Nat.reduceAdd, Nat.reduceMul, Nat.reduceLT, reduceCtorEq, Value.cells, setN, Value.oneCell', Nat.reduceLeDiff, undef, fcT, e, Bool.not_true, d1, hs_]))) | ((first | (with_reducible refine newB_i (fun nb_ hb_ => ?_)) | ((with_reducible show QC _ _ _ _ _ _); (first | (refine QC_i (l20Good (n : Int) _ _ _ f _ _ hm hN hw) ?_))) | ((with_reducible show AC _ _ _ _ _ _); (first | (refine PC.ac (l20Good (n : Int) _ _ _ f _ _ hm hN hw) ?_))) | (with_reducible refine RgE_i (fun (hBd_ : Bd _ _) => ?_))); (try simp (disch := omega) only [bsW, WOp, WOq, WV, bo, gdc, gw, bnd, ↓reduceIte, Nat.reduceEqDiff, rsvs, rsv, oneOf, rdN, ne_eq, Nat.reduceAdd, Nat.reduceMul, Nat.reduceLT, reduceCtorEq, Value.cells, setN, Value.oneCell', Nat.reduceLeDiff, undef, fcT, e, Bool.not_true, d1])) | (with_reducible refine fun (hBd_ : Bd _ _) => ?_) | ((first | (with_reducible refine @And.intro (Sub _ _) _ ?_ ?_) | ((with_reducible refine @And.intro (Sub _ _ ∧ _) _ ?_ ?_); (with_reducible refine @And.intro (Sub _ _) _ ?_ ?_))); exact sbX) | ((with_reducible refine And.intro ?_ ?_); omega)))
  refine (l20All n m f Aw cw hok H nx hw).monoC ?_
  rintro v3 H3 nx3 hB3 hx3 ⟨hO3, ht3⟩
  obtain ⟨A3, q3, rfl, hq3, hR3⟩ := hO3.rd
  simp (disch := omega) only [bsW, WOp, WOq, WV, bo, gdc, gw, bnd, ↓reduceIte, Nat.reduceEqDiff, rsvs, rsv, oneOf, rdN, ne_eq, Nat.reduceAdd, Nat.reduceMul, Nat.reduceLT, reduceCtorEq, Value.cells, setN, Value.oneCell', Nat.reduceLeDiff, undef, fcT]
  (repeat' (first | ((with_reducible refine gif_split (fun hs_ => ?_) (fun hs_ => ?_)) <;> (have hp_ := hs_; (try simp only [hpL, ne_eq] at hp_); (try simp (disch := omega) only [bsW, WOp, WOq, WV, bo, gdc, gw, bnd, ↓reduceIte, Nat.reduceEqDiff, rsvs, rsv, oneOf, rdN, ne_eq, Nat.reduceAdd, Nat.reduceMul, Nat.reduceLT, reduceCtorEq, Value.cells, setN, Value.oneCell', Nat.reduceLeDiff, undef, fcT, hs_]))) | ((first | (with_reducible refine newB_i (fun nb_ hb_ => ?_)) | (with_reducible refine RgE_i (fun (hBd_ : Bd _ _) => ?_))); (try simp (disch := omega) only [bsW, WOp, WOq, WV, bo, gdc, gw, bnd, ↓reduceIte, Nat.reduceEqDiff, rsvs, rsv, oneOf, rdN, ne_eq, Nat.reduceAdd, Nat.reduceMul, Nat.reduceLT, reduceCtorEq, Value.cells, setN, Value.oneCell', Nat.reduceLeDiff, undef, fcT])) | (with_reducible refine fun (hBd_ : Bd _ _) => ?_) | ((first | (with_reducible refine @And.intro (Sub _ _) _ ?_ ?_) | ((with_reducible refine @And.intro (Sub _ _ ∧ _) _ ?_ ?_); (with_reducible refine @And.intro (Sub _ _) _ ?_ ?_))); exact sbX) | ((with_reducible refine And.intro ?_ ?_); omega)))
  rename_i z1 hz1
  have ht8 : Sub H3 (upd (upd H3 z1 (.rw [] 23)) nb_ (.rw [] 23)) := (sub_new hB3 hz1).trans (sub_new (Bd.up hB3 hz1) hb_)
  have ht9 := ht3.trans ht8
  refine (l20Search n m f Aw A3 cw q3 (allC n m f n) false hok (wC_bd hok false) hl hcr (allC n m f n).length 0 [] 0 ([], 0) (some ⟨z1, 0, none⟩) (some ⟨nb_, 0, none⟩) 0 0 _ _ (by omega) .zero .zero (hw.sub ht9) (hR3.sub ht8) .nil .nil (Nat.le_refl _) (Nat.le_refl _)).monoC ?_
  rintro v5 H5 nx5 hB5 hx5 ⟨⟨A5, c5, rfl, hc5, hR5⟩, hs5⟩
  obtain ⟨ls, els⟩ : ∃ ls, ls = (bestX n m f false).1 := ⟨_, rfl⟩
  obtain ⟨sm, esm⟩ : ∃ sm, sm = (bestX n m f false).2 := ⟨_, rfl⟩
  rw [← els] at hbl hbr
  rw [show srch (allC n m f n) (wC (n : Int) m f false) updS (allC n m f n).length 0 [] 0 ([], 0) = bestX n m f false from rfl, ← els] at hc5 hR5 ⊢
  rw [← esm]
  have hs9 := ht9.trans hs5
  have hx9 : nx ≤ nx5 := by omega
  simp (disch := omega) only [bsW, WOp, WOq, WV, bo, gdc, gw, bnd, ↓reduceIte, Nat.reduceEqDiff, rsvs, rsv, oneOf, rdN, ne_eq, Nat.reduceAdd, Nat.reduceMul, Nat.reduceLT, reduceCtorEq, Value.cells, setN, Value.oneCell', Nat.reduceLeDiff, undef, fcT]
  (repeat' (first | ((with_reducible refine gif_split (fun hs_ => ?_) (fun hs_ => ?_)) <;> (have hp_ := hs_; (try simp only [hpL, ne_eq] at hp_); (try simp (disch := omega) only [bsW, WOp, WOq, WV, bo, gdc, gw, bnd, ↓reduceIte, Nat.reduceEqDiff, rsvs, rsv, oneOf, rdN, ne_eq, Nat.reduceAdd, Nat.reduceMul, Nat.reduceLT, reduceCtorEq, Value.cells, setN, Value.oneCell', Nat.reduceLeDiff, undef, fcT, hs_]))) | ((first | (with_reducible refine newB_i (fun nb_ hb_ => ?_)) | (with_reducible refine RgE_i (fun (hBd_ : Bd _ _) => ?_))); (try simp (disch := omega) only [bsW, WOp, WOq, WV, bo, gdc, gw, bnd, ↓reduceIte, Nat.reduceEqDiff, rsvs, rsv, oneOf, rdN, ne_eq, Nat.reduceAdd, Nat.reduceMul, Nat.reduceLT, reduceCtorEq, Value.cells, setN, Value.oneCell', Nat.reduceLeDiff, undef, fcT])) | (with_reducible refine fun (hBd_ : Bd _ _) => ?_) | ((first | (with_reducible refine @And.intro (Sub _ _) _ ?_ ?_) | ((with_reducible refine @And.intro (Sub _ _ ∧ _) _ ?_ ?_); (with_reducible refine @And.intro (Sub _ _) _ ?_ ?_))); exact sbX) | ((with_reducible refine And.intro ?_ ?_); omega)))
  refine LpB_rule (fun mm fr H' nx' => ∃ (k : Nat) (v : Value), mm = ls.length - k + 1 ∧ k ≤ ls.length ∧ fr 7 = .slice A5 ls.length c5 ∧ fr 8 = .int .i64 sm ∧ fr 9 = v ∧ fr 10 = .int .i64 k ∧ Sub H5 H' ∧ nx5 ≤ nx' ∧ OwnLL H' nx5 nx' (ls.take k) 23 3 v) ?_ ?_ (ls.length + 1) ?_
  · rintro mm K hK fr H' nx' hB' ⟨k, v, hmm, hk, f7, f8, f9, f10, hs, hx, hO⟩
    by_cases hkn : k < ls.length
    case neg =>
      have d2 : decide ((k : Int) < (ls.length : Int)) = false := decide_eq_false (by omega)
      have hkn2 : k = ls.length := by omega
      simp (disch := omega) only [bsW, WOp, WOq, WV, bo, gdc, gw, bnd, ↓reduceIte, Nat.reduceEqDiff, rsvs, rsv, oneOf, rdN, ne_eq, Nat.reduceAdd, Nat.reduceMul, Nat.reduceLT, reduceCtorEq, Value.cells, setN, Value.oneCell', Nat.reduceLeDiff, undef, fcT, f7, f8, f9, f10, d2]
      (repeat' (first | ((with_reducible refine gif_split (fun hs_ => ?_) (fun hs_ => ?_)) <;> (have hp_ := hs_; (try simp only [hpL, ne_eq] at hp_); (try simp (disch := omega) only [bsW, WOp, WOq, WV, bo, gdc, gw, bnd, ↓reduceIte, Nat.reduceEqDiff, rsvs, rsv, oneOf, rdN, ne_eq, Nat.reduceAdd, Nat.reduceMul, Nat.reduceLT, reduceCtorEq, Value.cells, setN, Value.oneCell', Nat.reduceLeDiff, undef, fcT, f7, f8, f9, f10, d2, hs_]))) | ((first | (with_reducible refine newB_i (fun nb_ hb_ => ?_)) | (with_reducible refine RgE_i (fun (hBd_ : Bd _ _) => ?_))); (try simp (disch := omega) only [bsW, WOp, WOq, WV, bo, gdc, gw, bnd, ↓reduceIte, Nat.reduceEqDiff, rsvs, rsv, oneOf, rdN, ne_eq, Nat.reduceAdd, Nat.reduceMul, Nat.reduceLT, reduceCtorEq, Value.cells, setN, Value.oneCell', Nat.reduceLeDiff, undef, fcT, f7, f8, f9, f10, d2])) | (with_reducible refine fun (hBd_ : Bd _ _) => ?_) | ((first | (with_reducible refine @And.intro (Sub _ _) _ ?_ ?_) | ((with_reducible refine @And.intro (Sub _ _ ∧ _) _ ?_ ?_); (with_reducible refine @And.intro (Sub _ _) _ ?_ ?_))); exact sbX) | ((with_reducible refine And.intro ?_ ?_); omega)))
      rw [hkn2, List.take_length] at hO
      exact ⟨_, rfl, hO.wide (by omega) (Nat.le_refl _), hs9.trans hs⟩
    have d2 : decide ((k : Int) < (ls.length : Int)) = true := decide_eq_true (by omega)
    obtain ⟨ba, oa, Qa, da, eA, ca0, hda, hRa0⟩ := hR5.at_ hkn
    subst eA
    have ca1 := rd_sub hs ca0
    obtain ⟨hr2, hr8'⟩ := hbr k hkn
    simp (disch := omega) only [bsW, WOp, WOq, WV, bo, gdc, gw, bnd, ↓reduceIte, Nat.reduceEqDiff, rsvs, rsv, oneOf, rdN, ne_eq, Nat.reduceAdd, Nat.reduceMul, Nat.reduceLT, reduceCtorEq, Value.cells, setN, Value.oneCell', Nat.reduceLeDiff, undef, fcT, f7, f8, f9, f10, d2, ca1, Nat.mul_one]
    (repeat' (first | ((with_reducible refine gif_split (fun hs_ => ?_) (fun hs_ => ?_)) <;> (have hp_ := hs_; (try simp only [hpL, ne_eq] at hp_); (try simp (disch := omega) only [bsW, WOp, WOq, WV, bo, gdc, gw, bnd, ↓reduceIte, Nat.reduceEqDiff, rsvs, rsv, oneOf, rdN, ne_eq, Nat.reduceAdd, Nat.reduceMul, Nat.reduceLT, reduceCtorEq, Value.cells, setN, Value.oneCell', Nat.reduceLeDiff, undef, fcT, f7, f8, f9, f10, d2, ca1, Nat.mul_one, hs_]))) | ((first | (with_reducible refine newB_i (fun nb_ hb_ => ?_)) | (with_reducible refine RgE_i (fun (hBd_ : Bd _ _) => ?_))); (try simp (disch := omega) only [bsW, WOp, WOq, WV, bo, gdc, gw, bnd, ↓reduceIte, Nat.reduceEqDiff, rsvs, rsv, oneOf, rdN, ne_eq, Nat.reduceAdd, Nat.reduceMul, Nat.reduceLT, reduceCtorEq, Value.cells, setN, Value.oneCell', Nat.reduceLeDiff, undef, fcT, f7, f8, f9, f10, d2, ca1, Nat.mul_one])) | (with_reducible refine fun (hBd_ : Bd _ _) => ?_) | ((first | (with_reducible refine @And.intro (Sub _ _) _ ?_ ?_) | ((with_reducible refine @And.intro (Sub _ _ ∧ _) _ ?_ ?_); (with_reducible refine @And.intro (Sub _ _) _ ?_ ?_))); exact sbX) | ((with_reducible refine And.intro ?_ ?_); omega)))
    refine (l1OwnN _ (rowOf ls k) (rowOf ls k).length da H' _ rfl (by omega) (RdL.sub hRa0 hs)).monoC ?_
    rintro v1 H1 nx1 hB1 hx1 ⟨hO1, ht1⟩
    obtain ⟨q1, e1, rfl⟩ := OwnR.ptr hO1 (by omega)
    have hlt : (ls.take k).length = k := by rw [List.length_take]; omega
    simp (disch := omega) only [bsW, WOp, WOq, WV, bo, gdc, gw, bnd, ↓reduceIte, Nat.reduceEqDiff, rsvs, rsv, oneOf, rdN, ne_eq, Nat.reduceAdd, Nat.reduceMul, Nat.reduceLT, reduceCtorEq, Value.cells, setN, Value.oneCell', Nat.reduceLeDiff, undef, fcT, f7, f8, f9, f10]
    (repeat' (first | ((with_reducible refine gif_split (fun hs_ => ?_) (fun hs_ => ?_)) <;> (have hp_ := hs_; (try simp only [hpL, ne_eq] at hp_); (try simp (disch := omega) only [bsW, WOp, WOq, WV, bo, gdc, gw, bnd, ↓reduceIte, Nat.reduceEqDiff, rsvs, rsv, oneOf, rdN, ne_eq, Nat.reduceAdd, Nat.reduceMul, Nat.reduceLT, reduceCtorEq, Value.cells, setN, Value.oneCell', Nat.reduceLeDiff, undef, fcT, f7, f8, f9, f10, hs_]))) | ((first | (with_reducible refine newB_i (fun nb_ hb_ => ?_)) | (with_reducible refine RgE_i (fun (hBd_ : Bd _ _) => ?_))); (try simp (disch := omega) only [bsW, WOp, WOq, WV, bo, gdc, gw, bnd, ↓reduceIte, Nat.reduceEqDiff, rsvs, rsv, oneOf, rdN, ne_eq, Nat.reduceAdd, Nat.reduceMul, Nat.reduceLT, reduceCtorEq, Value.cells, setN, Value.oneCell', Nat.reduceLeDiff, undef, fcT, f7, f8, f9, f10])) | (with_reducible refine fun (hBd_ : Bd _ _) => ?_) | ((first | (with_reducible refine @And.intro (Sub _ _) _ ?_ ?_) | ((with_reducible refine @And.intro (Sub _ _ ∧ _) _ ?_ ?_); (with_reducible refine @And.intro (Sub _ _) _ ?_ ?_))); exact sbX) | ((with_reducible refine And.intro ?_ ?_); omega)))
    refine appLL_one (lo := nx5) (n1 := nx') (l := rowOf ls k) (by simp (disch := omega) only [bsW, WOp, WOq, WV, bo, gdc, gw, bnd, ↓reduceIte, Nat.reduceEqDiff, rsvs, rsv, oneOf, rdN, ne_eq, Nat.reduceAdd, Nat.reduceMul, Nat.reduceLT, reduceCtorEq, Value.cells, setN, Value.oneCell', Nat.reduceLeDiff, undef, fcT, f7, f8, f9, f10]) (by simp (disch := omega) only [bsW, WOp, WOq, WV, bo, gdc, gw, bnd, ↓reduceIte, Nat.reduceEqDiff, rsvs, rsv, oneOf, rdN, ne_eq, Nat.reduceAdd, Nat.reduceMul, Nat.reduceLT, reduceCtorEq, Value.cells, setN, Value.oneCell', Nat.reduceLeDiff, undef, fcT, f7, f8, f9, f10]) (by simp (disch := omega) only [bsW, WOp, WOq, WV, bo, gdc, gw, bnd, ↓reduceIte, Nat.reduceEqDiff, rsvs, rsv, oneOf, rdN, ne_eq, Nat.reduceAdd, Nat.reduceMul, Nat.reduceLT, reduceCtorEq, Value.cells, setN, Value.oneCell', Nat.reduceLeDiff, undef, fcT, f7, f8, f9, f10]) ⟨_, qz23, rfl⟩ ((hO.subI ht1).subI (sub_new hB1 (by omega))) (by omega) (by omega) (OwnR.hiI (OwnR.subI hO1 (sub_new hB1 (by omega))) (by omega)) rfl (upd_same _ _ _) (by omega) ?_
    rintro v4 H4 nx4 hO4 hk1 hk2 hx4 hBd4 hvb4
    simp (disch := omega) only [bsW, WOp, WOq, WV, bo, gdc, gw, bnd, ↓reduceIte, Nat.reduceEqDiff, rsvs, rsv, oneOf, rdN, ne_eq, Nat.reduceAdd, Nat.reduceMul, Nat.reduceLT, reduceCtorEq, Value.cells, setN, Value.oneCell', Nat.reduceLeDiff, undef, fcT, f7, f8, f9, f10]
    refine hK _ _ _ ?_
    refine ⟨k + 1, v4, by omega, by omega, by simp (disch := omega) only [bsW, ↓reduceIte, Nat.reduceEqDiff, ne_eq, reduceCtorEq, fcT, f7, f8, f9, f10], by simp (disch := omega) only [bsW, ↓reduceIte, Nat.reduceEqDiff, ne_eq, reduceCtorEq, fcT, f7, f8, f9, f10], by simp (disch := omega) only [bsW, ↓reduceIte, Nat.reduceEqDiff, ne_eq, reduceCtorEq, fcT, f7, f8, f9, f10], by simp (disch := omega) only [bsW, ↓reduceIte, Nat.reduceEqDiff, ne_eq, reduceCtorEq, fcT, f7, f8, f9, f10, Int.natCast_add, Int.natCast_one], ?_, by omega, by rw [take_rowOf hkn]; exact hO4⟩
    exact fun c o e => by
      have := hB5 c o e
      rw [hk1 c this, upd_ne (by omega)]
      exact ht1 _ _ (hs _ _ e)
  · rintro fr H' nx' ⟨k, v, hmm, _⟩; omega
  · exact ⟨0, _, by omega, by omega, by simp (disch := omega) only [bsW, ↓reduceIte, Nat.reduceEqDiff, ne_eq, reduceCtorEq, fcT], by simp (disch := omega) only [bsW, ↓reduceIte, Nat.reduceEqDiff, ne_eq, reduceCtorEq, fcT], by (simp (disch := omega) only [bsW, ↓reduceIte, Nat.reduceEqDiff, ne_eq, reduceCtorEq, fcT]) <;> exact rfl, by simp (disch := omega) only [bsW, ↓reduceIte, Nat.reduceEqDiff, ne_eq, reduceCtorEq, fcT, Int.natCast_zero], sub_new hB5 hb_, by omega, .empty hb_ (by omega) (upd_same _ _ _)⟩
end Go.Proofs.Ytnaldmmdhpobgaa
