/- What the program keeps of the exchanges. -/
import Derived.Test.YtnaldmmdhpobgaaV22
import Derived.Test.YtnaldmmdhpobgaaV24
set_option linter.unusedVariables false
set_option linter.unusedSimpArgs false
set_option maxRecDepth 100000
set_option maxHeartbeats 1000000
namespace Go.Proofs.Ytnaldmmdhpobgaa
open Go Go.RowKit Go.Proofs

/-- Rows copied, each to a block of its own. -/
theorem copyLists (A : Option Addr) (ls : List (List Int)) (c : Nat) (H : Hp) (nx : Nat) (hl : ls.length ≤ 1000000) (hr : ∀ i, i < ls.length → 1 ≤ (rowOf ls i).length ∧ (rowOf ls i).length ≤ 8) (h : RdLL H A ls) :
    AC Try.prog 67 #[.slice A ls.length c] H nx (NewLL H nx ls 23 3) := by
  refine AC_of x_impl_copyLists_int rfl fun hB => ?_
  simp (disch := omega) only [bsW, WOp, WOq, WV, bo, gdc, gw, bnd, ↓reduceIte, Nat.reduceEqDiff, rsvs, rsv, oneOf, rdN, ne_eq, Nat.reduceAdd, Nat.reduceMul, Nat.reduceLT, reduceCtorEq, Value.cells, setN, Value.oneCell', Nat.reduceLeDiff, undef, fcT, c_impl_copyLists_int]
  (repeat' (first | ((with_reducible refine gif_split (fun hs_ => ?_) (fun hs_ => ?_)) <;> (have hp_ := hs_; (try simp only [hpL, ne_eq] at hp_); (try simp (disch := omega) only [bsW, WOp, WOq, WV, bo, gdc, gw, bnd, ↓reduceIte, Nat.reduceEqDiff, rsvs, rsv, oneOf, rdN, ne_eq, Nat.reduceAdd, Nat.reduceMul, Nat.reduceLT, reduceCtorEq, Value.cells, setN, Value.oneCell', Nat.reduceLeDiff, undef, fcT, hs_]))) | ((first | (with_reducible refine newB_i (fun nb_ hb_ => ?_)) | (with_reducible refine RgE_i (fun (hBd_ : Bd _ _) => ?_))); (try simp (disch := omega) only [bsW, WOp, WOq, WV, bo, gdc, gw, bnd, ↓reduceIte, Nat.reduceEqDiff, rsvs, rsv, oneOf, rdN, ne_eq, Nat.reduceAdd, Nat.reduceMul, Nat.reduceLT, reduceCtorEq, Value.cells, setN, Value.oneCell', Nat.reduceLeDiff, undef, fcT])) | (with_reducible refine fun (hBd_ : Bd _ _) => ?_) | ((first | (with_reducible refine @And.intro (Sub _ _) _ ?_ ?_) | ((with_reducible refine @And.intro (Sub _ _ ∧ _) _ ?_ ?_); (with_reducible refine @And.intro (Sub _ _) _ ?_ ?_))); exact sbX) | ((with_reducible refine And.intro ?_ ?_); omega)))
  refine LpB_rule (fun mm fr H' nx' => ∃ (k : Nat) (v : Value), mm = ls.length - k + 1 ∧ k ≤ ls.length ∧ fr 6 = .slice A ls.length c ∧ fr 7 = .int .i64 ls.length ∧ fr 3 = v ∧ fr 8 = .int .i64 k ∧ Sub H H' ∧ nx ≤ nx' ∧ OwnLL H' nx nx' (ls.take k) 23 3 v) ?_ ?_ (ls.length + 1) ?_
  · rintro mm K hK fr H' nx' hB' ⟨k, v, hmm, hk, f6, f7, f3, f8, hs, hx, hO⟩
    by_cases hkn : k < ls.length
    case neg =>
      have d2 : decide ((k : Int) < (ls.length : Int)) = false := decide_eq_false (by omega)
      have hkn2 : k = ls.length := by omega
      simp (disch := omega) only [bsW, WOp, WOq, WV, bo, gdc, gw, bnd, ↓reduceIte, Nat.reduceEqDiff, rsvs, rsv, oneOf, rdN, ne_eq, Nat.reduceAdd, Nat.reduceMul, Nat.reduceLT, reduceCtorEq, Value.cells, setN, Value.oneCell', Nat.reduceLeDiff, undef, fcT, f6, f7, f3, f8, d2]
      (repeat' (first | ((with_reducible refine gif_split (fun hs_ => ?_) (fun hs_ => ?_)) <;> (have hp_ := hs_; (try simp only [hpL, ne_eq] at hp_); (try simp (disch := omega) only [bsW, WOp, WOq, WV, bo, gdc, gw, bnd, ↓reduceIte, Nat.reduceEqDiff, rsvs, rsv, oneOf, rdN, ne_eq, Nat.reduceAdd, Nat.reduceMul, Nat.reduceLT, reduceCtorEq, Value.cells, setN, Value.oneCell', Nat.reduceLeDiff, undef, fcT, f6, f7, f3, f8, d2, hs_]))) | ((first | (with_reducible refine newB_i (fun nb_ hb_ => ?_)) | (with_reducible refine RgE_i (fun (hBd_ : Bd _ _) => ?_))); (try simp (disch := omega) only [bsW, WOp, WOq, WV, bo, gdc, gw, bnd, ↓reduceIte, Nat.reduceEqDiff, rsvs, rsv, oneOf, rdN, ne_eq, Nat.reduceAdd, Nat.reduceMul, Nat.reduceLT, reduceCtorEq, Value.cells, setN, Value.oneCell', Nat.reduceLeDiff, undef, fcT, f6, f7, f3, f8, d2])) | (with_reducible refine fun (hBd_ : Bd _ _) => ?_) | ((first | (with_reducible refine @And.intro (Sub _ _) _ ?_ ?_) | ((with_reducible refine @And.intro (Sub _ _ ∧ _) _ ?_ ?_); (with_reducible refine @And.intro (Sub _ _) _ ?_ ?_))); exact sbX) | ((with_reducible refine And.intro ?_ ?_); omega)))
      rw [hkn2, List.take_length] at hO
      exact ⟨hO, hs⟩
    have d2 : decide ((k : Int) < (ls.length : Int)) = true := decide_eq_true (by omega)
    obtain ⟨ba, oa, Qa, da, eA, ca0, hda, hRa0⟩ := h.at_ hkn
    subst eA
    have ca1 := rd_sub hs ca0
    obtain ⟨hr1, hr8⟩ := hr k hkn
    have hlt : (ls.take k).length = k := by rw [List.length_take]; omega
    simp (disch := omega) only [bsW, WOp, WOq, WV, bo, gdc, gw, bnd, ↓reduceIte, Nat.reduceEqDiff, rsvs, rsv, oneOf, rdN, ne_eq, Nat.reduceAdd, Nat.reduceMul, Nat.reduceLT, reduceCtorEq, Value.cells, setN, Value.oneCell', Nat.reduceLeDiff, undef, fcT, f6, f7, f3, f8, d2, ca1, Nat.mul_one]
    (repeat' (first | ((with_reducible refine gif_split (fun hs_ => ?_) (fun hs_ => ?_)) <;> (have hp_ := hs_; (try simp only [hpL, ne_eq] at hp_); (try simp (disch := omega) only [bsW, WOp, WOq, WV, bo, gdc, gw, bnd, ↓reduceIte, Nat.reduceEqDiff, rsvs, rsv, oneOf, rdN, ne_eq, Nat.reduceAdd, Nat.reduceMul, Nat.reduceLT, reduceCtorEq, Value.cells, setN, Value.oneCell', Nat.reduceLeDiff, undef, fcT, f6, f7, f3, f8, d2, ca1, Nat.mul_one, hs_]))) | ((first | (with_reducible refine newB_i (fun nb_ hb_ => ?_)) | (with_reducible refine RgE_i (fun (hBd_ : Bd _ _) => ?_))); (try simp (disch := omega) only [bsW, WOp, WOq, WV, bo, gdc, gw, bnd, ↓reduceIte, Nat.reduceEqDiff, rsvs, rsv, oneOf, rdN, ne_eq, Nat.reduceAdd, Nat.reduceMul, Nat.reduceLT, reduceCtorEq, Value.cells, setN, Value.oneCell', Nat.reduceLeDiff, undef, fcT, f6, f7, f3, f8, d2, ca1, Nat.mul_one])) | (with_reducible refine fun (hBd_ : Bd _ _) => ?_) | ((first | (with_reducible refine @And.intro (Sub _ _) _ ?_ ?_) | ((with_reducible refine @And.intro (Sub _ _ ∧ _) _ ?_ ?_); (with_reducible refine @And.intro (Sub _ _) _ ?_ ?_))); exact sbX) | ((with_reducible refine And.intro ?_ ?_); omega)))
    refine app_any (k := 1) (bytes := 8) (lo := nx') (n := 0) (f := rowL (rowOf ls k)) (g := rowL (rowOf ls k)) (by simp (disch := omega) only [bsW, WOp, WOq, WV, bo, gdc, gw, bnd, ↓reduceIte, Nat.reduceEqDiff, rsvs, rsv, oneOf, rdN, ne_eq, Nat.reduceAdd, Nat.reduceMul, Nat.reduceLT, reduceCtorEq, Value.cells, setN, Value.oneCell', Nat.reduceLeDiff, undef, fcT, f6, f7, f3, f8, d2, ca1, Nat.mul_one]) (by simp (disch := omega) only [bsW, WOp, WOq, WV, bo, gdc, gw, bnd, ↓reduceIte, Nat.reduceEqDiff, rsvs, rsv, oneOf, rdN, ne_eq, Nat.reduceAdd, Nat.reduceMul, Nat.reduceLT, reduceCtorEq, Value.cells, setN, Value.oneCell', Nat.reduceLeDiff, undef, fcT, f6, f7, f3, f8, d2, ca1, Nat.mul_one]) (by simp (disch := omega) only [bsW, WOp, WOq, WV, bo, gdc, gw, bnd, ↓reduceIte, Nat.reduceEqDiff, rsvs, rsv, oneOf, rdN, ne_eq, Nat.reduceAdd, Nat.reduceMul, Nat.reduceLT, reduceCtorEq, Value.cells, setN, Value.oneCell', Nat.reduceLeDiff, undef, fcT, f6, f7, f3, f8, d2, ca1, Nat.mul_one]) ⟨_, qz3, rfl⟩ (by omega) .nil (RdL.sub hRa0 hs) (by omega) (by omega) (by unfold maxLen; omega) ?_
    rintro v1 H1 nx1 hO1 hc1 hc2 hx1 hBd1 hvb
    rw [cat_zero, Nat.zero_add] at hO1
    have hB1 := hBd1 hB'
    have ht1 : Sub H' H1 := fun c o e => by have := hB' c o e; rw [hc1 c this]; exact e
    obtain ⟨q1, e1, rfl⟩ := OwnR.ptr hO1 (by omega)
    simp (disch := omega) only [bsW, WOp, WOq, WV, bo, gdc, gw, bnd, ↓reduceIte, Nat.reduceEqDiff, rsvs, rsv, oneOf, rdN, ne_eq, Nat.reduceAdd, Nat.reduceMul, Nat.reduceLT, reduceCtorEq, Value.cells, setN, Value.oneCell', Nat.reduceLeDiff, undef, fcT, f6, f7, f3, f8]
    (repeat' (first | ((with_reducible refine gif_split (fun hs_ => ?_) (fun hs_ => ?_)) <;> (have hp_ := hs_; (try simp only [hpL, ne_eq] at hp_); (try simp (disch := omega) only [bsW, WOp, WOq, WV, bo, gdc, gw, bnd, ↓reduceIte, Nat.reduceEqDiff, rsvs, rsv, oneOf, rdN, ne_eq, Nat.reduceAdd, Nat.reduceMul, Nat.reduceLT, reduceCtorEq, Value.cells, setN, Value.oneCell', Nat.reduceLeDiff, undef, fcT, f6, f7, f3, f8, hs_]))) | ((first | (with_reducible refine newB_i (fun nb_ hb_ => ?_)) | (with_reducible refine RgE_i (fun (hBd_ : Bd _ _) => ?_))); (try simp (disch := omega) only [bsW, WOp, WOq, WV, bo, gdc, gw, bnd, ↓reduceIte, Nat.reduceEqDiff, rsvs, rsv, oneOf, rdN, ne_eq, Nat.reduceAdd, Nat.reduceMul, Nat.reduceLT, reduceCtorEq, Value.cells, setN, Value.oneCell', Nat.reduceLeDiff, undef, fcT, f6, f7, f3, f8])) | (with_reducible refine fun (hBd_ : Bd _ _) => ?_) | ((first | (with_reducible refine @And.intro (Sub _ _) _ ?_ ?_) | ((with_reducible refine @And.intro (Sub _ _ ∧ _) _ ?_ ?_); (with_reducible refine @And.intro (Sub _ _) _ ?_ ?_))); exact sbX) | ((with_reducible refine And.intro ?_ ?_); omega)))
    refine appLL_one (lo := nx) (n1 := nx') (l := rowOf ls k) (by simp (disch := omega) only [bsW, WOp, WOq, WV, bo, gdc, gw, bnd, ↓reduceIte, Nat.reduceEqDiff, rsvs, rsv, oneOf, rdN, ne_eq, Nat.reduceAdd, Nat.reduceMul, Nat.reduceLT, reduceCtorEq, Value.cells, setN, Value.oneCell', Nat.reduceLeDiff, undef, fcT, f6, f7, f3, f8]) (by simp (disch := omega) only [bsW, WOp, WOq, WV, bo, gdc, gw, bnd, ↓reduceIte, Nat.reduceEqDiff, rsvs, rsv, oneOf, rdN, ne_eq, Nat.reduceAdd, Nat.reduceMul, Nat.reduceLT, reduceCtorEq, Value.cells, setN, Value.oneCell', Nat.reduceLeDiff, undef, fcT, f6, f7, f3, f8]) (by simp (disch := omega) only [bsW, WOp, WOq, WV, bo, gdc, gw, bnd, ↓reduceIte, Nat.reduceEqDiff, rsvs, rsv, oneOf, rdN, ne_eq, Nat.reduceAdd, Nat.reduceMul, Nat.reduceLT, reduceCtorEq, Value.cells, setN, Value.oneCell', Nat.reduceLeDiff, undef, fcT, f6, f7, f3, f8]) ⟨_, qz23, rfl⟩ ((hO.subI ht1).subI (sub_new hB1 (by omega))) (by omega) (by omega) (OwnR.hiI (OwnR.subI hO1 (sub_new hB1 (by omega))) (by omega)) rfl (upd_same _ _ _) (by omega) ?_
    rintro v4 H4 nx4 hO4 hk1 hk2 hx4 hBd4 hvb4
    simp (disch := omega) only [bsW, WOp, WOq, WV, bo, gdc, gw, bnd, ↓reduceIte, Nat.reduceEqDiff, rsvs, rsv, oneOf, rdN, ne_eq, Nat.reduceAdd, Nat.reduceMul, Nat.reduceLT, reduceCtorEq, Value.cells, setN, Value.oneCell', Nat.reduceLeDiff, undef, fcT, f6, f7, f3, f8]
    refine hK _ _ _ ?_
    refine ⟨k + 1, v4, by omega, by omega, by simp (disch := omega) only [bsW, ↓reduceIte, Nat.reduceEqDiff, ne_eq, reduceCtorEq, fcT, f6, f7, f3, f8], by simp (disch := omega) only [bsW, ↓reduceIte, Nat.reduceEqDiff, ne_eq, reduceCtorEq, fcT, f6, f7, f3, f8], by simp (disch := omega) only [bsW, ↓reduceIte, Nat.reduceEqDiff, ne_eq, reduceCtorEq, fcT, f6, f7, f3, f8], by simp (disch := omega) only [bsW, ↓reduceIte, Nat.reduceEqDiff, ne_eq, reduceCtorEq, fcT, f6, f7, f3, f8, Int.natCast_add, Int.natCast_one], ?_, by omega, by rw [take_rowOf hkn]; exact hO4⟩
    exact fun c o e => by
      have := hB c o e
      rw [hk1 c this, upd_ne (by omega)]
      exact ht1 _ _ (hs _ _ e)
  · rintro fr H' nx' ⟨k, v, hmm, _⟩; omega
  · exact ⟨0, _, by omega, by omega, by simp (disch := omega) only [bsW, ↓reduceIte, Nat.reduceEqDiff, ne_eq, reduceCtorEq, fcT], by simp (disch := omega) only [bsW, ↓reduceIte, Nat.reduceEqDiff, ne_eq, reduceCtorEq, fcT], by (simp (disch := omega) only [bsW, ↓reduceIte, Nat.reduceEqDiff, ne_eq, reduceCtorEq, fcT]) <;> exact rfl, by simp (disch := omega) only [bsW, ↓reduceIte, Nat.reduceEqDiff, ne_eq, reduceCtorEq, fcT, Int.natCast_zero], Sub.refl _, by omega, .nil⟩
/-- What the program keeps: the best one, its gain, its people. -/
structure TSg (c1 c2 c3 lo0 : Nat) (t : List (List Int) × Int × Int) (G : Hp) (nx : Nat) : Prop where
  m : G c2 = some (.rw [.int .i64 t.2.1] 3)
  w : G c3 = some (.rw [.int .i64 t.2.2] 3)
  b : ∃ v, G c1 = some (.rw [v] 33) ∧ OwnLL G lo0 nx t.1 23 3 v
def tellG (bg : List (List Int)) (val : Int) (t : List (List Int) × Int × Int) : List (List Int) × Int × Int := if t.2.1 < val ∨ (val = t.2.1 ∧ ((pplL bg : Nat) : Int) < t.2.2) then (bg, val, ((pplL bg : Nat) : Int)) else t
def emG (t : List (List Int) × Int) : List (List Int) × Int × Int := (t.1, t.2, ((pplL t.1 : Nat) : Int))
theorem emG_upd (bg : List (List Int)) (val : Int) (t : List (List Int) × Int) : emG (updS bg val t) = tellG bg val (emG t) := by
  unfold updS tellG
  by_cases h : t.2 < val ∨ (val = t.2 ∧ pplL bg < pplL t.1)
  · rw [if_pos h, if_pos (by unfold emG; simp only; omega)]
    rfl
  · rw [if_neg h, if_neg (by unfold emG; simp only; omega)]
theorem srch_first {T : Type} {ls : List (List Int)} {w : List Int → Int} {at_ : List (List Int) → Int → T → T} {t t' : T} {first : Nat} {bg : List (List Int)} {val : Int} (h : at_ bg val t = at_ bg val t') : ∀ u, srch ls w at_ u first bg val t = srch ls w at_ u first bg val t'
  | 0 => h
  | u + 1 => by simp only [srch, h]
theorem srch_tellG (ls : List (List Int)) (w : List Int → Int) (u : Nat) : srch ls w tellG u 0 [] 0 ([], -1, 0) = emG (srch ls w updS u 0 [] 0 ([], 0)) := by
  rw [srch_map emG emG_upd]
  exact srch_first (t := ([], -1, 0)) (t' := emG ([], 0)) (by simp [tellG, emG, pplL, llLen]) u
theorem tellGx (c1 c2 c3 lo0 : Nat) (Hc : Hp) (lo : Nat) (hc1 : Hc c1 = none) (hc2 : Hc c2 = none) (hc3 : Hc c3 = none) (h12 : c1 ≠ c2) (h13 : c1 ≠ c3) (h23 : c2 ≠ c3) (hl1 : c1 < lo0) (hl2 : c2 < lo0) (hl3 : c3 < lo0) (hlo : lo0 ≤ lo)
    (bg : List (List Int)) (val : Int) (t : List (List Int) × Int × Int) (S : Nat → Bool) (cv : Value) (H : Hp) (nx : Nat) (hbg : bg.length ≤ 1000000) (hbr : ∀ i, i < bg.length → 1 ≤ (rowOf bg i).length ∧ (rowOf bg i).length ≤ 8) (hS : SOk lo nx S cv) (hst : StX (TSg c1 c2 c3 lo0) Hc H lo nx S t bg cv) :
    AC Try.prog 66 #[cv, .int .i64 ((pplL bg : Nat) : Int), .int .i64 val, .pointer (some ⟨c2, 0, none⟩), .pointer (some ⟨c3, 0, none⟩), .pointer (some ⟨c1, 0, none⟩)] H nx (TlK (TSg c1 c2 c3 lo0) Hc H S (tellG bg val t)) := by
  obtain ⟨Av, cc, rfl, hcc, hRc⟩ := hst.own.rd hst.sc
  obtain ⟨hm, hw, v0, hb, hO⟩ := hst.ts
  obtain ⟨s2, h2⟩ := hide_some hm
  obtain ⟨s3, h3⟩ := hide_some hw
  obtain ⟨s1, h1⟩ := hide_some hb
  have hnx := hS.le
  refine AC_of x_impl_GreatestExchange_1 rfl fun hB => ?_
  by_cases hc : t.2.1 < val ∨ (val = t.2.1 ∧ ((pplL bg : Nat) : Int) < t.2.2)
  case neg =>
    have e9 : tellG bg val t = t := if_neg hc
    have d1 : decide (t.2.1 < val) = false := decide_eq_false (by omega)
    have y2 : rd H c2 0 = some (.int .i64 t.2.1) := by rw [rd_rw h2]; rfl
    have y3 : rd H c3 0 = some (.int .i64 t.2.2) := by rw [rd_rw h3]; rfl
    by_cases hv : val = t.2.1
    · have d2 : (val == t.2.1) = true := by simpa using hv
      have d3 : decide (((pplL bg : Nat) : Int) < t.2.2) = false := decide_eq_false (by omega)
      simp (disch := omega) only [bsW, WOp, WOq, WV, bo, gdc, gw, bnd, ↓reduceIte, Nat.reduceEqDiff, rsvs, rsv, oneOf, rdN, ne_eq, Nat.reduceAdd, Nat.reduceMul, Nat.reduceLT, reduceCtorEq, Value.cells, setN, Value.oneCell', Nat.reduceLeDiff, undef, fcT, y2, y3, d1, d2, d3, c_impl_GreatestExchange_1]
      (repeat' (first | ((with_reducible refine gif_split (fun hs_ => ?_) (fun hs_ => ?_)) <;> (have hp_ := hs_; (try simp only [hpL, ne_eq] at hp_); (try simp (disch := omega) only [bsW, WOp, WOq, WV, bo, gdc, gw, bnd, ↓reduceIte, Nat.reduceEqDiff, rsvs, rsv, oneOf, rdN, ne_eq, Nat.reduceAdd, Nat.reduceMul, Nat.reduceLT, reduceCtorEq, Value.cells, setN, Value.oneCell', Nat.reduceLeDiff, undef, fcT, y2, y3, d1, d2, d3, hs_]))) | ((first | (with_reducible refine newB_i (fun nb_ hb_ => ?_)) | (with_reducible refine RgE_i (fun (hBd_ : Bd _ _) => ?_))); (try simp (disch := omega) only [bsW, WOp, WOq, WV, bo, gdc, gw, bnd, ↓reduceIte, Nat.reduceEqDiff, rsvs, rsv, oneOf, rdN, ne_eq, Nat.reduceAdd, Nat.reduceMul, Nat.reduceLT, reduceCtorEq, Value.cells, setN, Value.oneCell', Nat.reduceLeDiff, undef, fcT, y2, y3, d1, d2, d3])) | (with_reducible refine fun (hBd_ : Bd _ _) => ?_) | ((first | (with_reducible refine @And.intro (Sub _ _) _ ?_ ?_) | ((with_reducible refine @And.intro (Sub _ _ ∧ _) _ ?_ ?_); (with_reducible refine @And.intro (Sub _ _) _ ?_ ?_))); exact sbX) | ((with_reducible refine And.intro ?_ ?_); omega)))
      rw [e9]
      exact ⟨hst.ts, hst.sc, fun d o _ e => e⟩
    · have d2 : (val == t.2.1) = false := by simpa using hv
      simp (disch := omega) only [bsW, WOp, WOq, WV, bo, gdc, gw, bnd, ↓reduceIte, Nat.reduceEqDiff, rsvs, rsv, oneOf, rdN, ne_eq, Nat.reduceAdd, Nat.reduceMul, Nat.reduceLT, reduceCtorEq, Value.cells, setN, Value.oneCell', Nat.reduceLeDiff, undef, fcT, y2, y3, d1, d2, c_impl_GreatestExchange_1]
      (repeat' (first | ((with_reducible refine gif_split (fun hs_ => ?_) (fun hs_ => ?_)) <;> (have hp_ := hs_; (try simp only [hpL, ne_eq] at hp_); (try simp (disch := omega) only [bsW, WOp, WOq, WV, bo, gdc, gw, bnd, ↓reduceIte, Nat.reduceEqDiff, rsvs, rsv, oneOf, rdN, ne_eq, Nat.reduceAdd, Nat.reduceMul, Nat.reduceLT, reduceCtorEq, Value.cells, setN, Value.oneCell', Nat.reduceLeDiff, undef, fcT, y2, y3, d1, d2, hs_]))) | ((first | (with_reducible refine newB_i (fun nb_ hb_ => ?_)) | (with_reducible refine RgE_i (fun (hBd_ : Bd _ _) => ?_))); (try simp (disch := omega) only [bsW, WOp, WOq, WV, bo, gdc, gw, bnd, ↓reduceIte, Nat.reduceEqDiff, rsvs, rsv, oneOf, rdN, ne_eq, Nat.reduceAdd, Nat.reduceMul, Nat.reduceLT, reduceCtorEq, Value.cells, setN, Value.oneCell', Nat.reduceLeDiff, undef, fcT, y2, y3, d1, d2])) | (with_reducible refine fun (hBd_ : Bd _ _) => ?_) | ((first | (with_reducible refine @And.intro (Sub _ _) _ ?_ ?_) | ((with_reducible refine @And.intro (Sub _ _ ∧ _) _ ?_ ?_); (with_reducible refine @And.intro (Sub _ _) _ ?_ ?_))); exact sbX) | ((with_reducible refine And.intro ?_ ?_); omega)))
      rw [e9]
      exact ⟨hst.ts, hst.sc, fun d o _ e => e⟩
  have e9 : tellG bg val t = (bg, val, ((pplL bg : Nat) : Int)) := if_pos hc
  have y2 : rd H c2 0 = some (.int .i64 t.2.1) := by rw [rd_rw h2]; rfl
  have y3 : rd H c3 0 = some (.int .i64 t.2.2) := by rw [rd_rw h3]; rfl
  have key : ∀ v1 H1 nx1, Bd H1 nx1 → nx ≤ nx1 → NewLL H nx bg 23 3 v1 H1 nx1 → TlK (TSg c1 c2 c3 lo0) Hc H S (tellG bg val t) (.tuple #[]) (upd (upd (upd H1 c1 (.rw [v1] 33)) c2 (.rw [.int .i64 val] 3)) c3 (.rw [.int .i64 ((pplL bg : Nat) : Int)] 3)) nx1 := by
    rintro v1 H1 nx1 hB1 hx1 ⟨hO1, ht1⟩
    rw [e9]
    have hne : ∀ d, d ≠ c1 → d ≠ c2 → d ≠ c3 → upd (upd (upd H1 c1 (.rw [v1] 33)) c2 (.rw [.int .i64 val] 3)) c3 (.rw [.int .i64 ((pplL bg : Nat) : Int)] 3) d = H1 d := fun d e1 e2 e3 => by rw [upd_ne e3, upd_ne e2, upd_ne e1]
    refine ⟨⟨?_, ?_, v1, ?_, ?_⟩, fun d o e => ?_, fun d o hd e => ?_⟩
    · rw [hide_at s2, upd_ne h23, upd_same]
    · rw [hide_at s3, upd_same]
    · rw [hide_at s1, upd_ne h13, upd_ne h12, upd_same]
    · refine (hO1.keepI fun d h5 h6 => ?_).wide (by omega) (Nat.le_refl _)
      have hSd : S d = false := by
        cases h : S d
        · rfl
        · have := hS.rg d h; omega
      rw [hide_at hSd, hne d (by omega) (by omega) (by omega)]
    · have g1 : d ≠ c1 := fun e5 => by rw [e5, hc1] at e; cases e
      have g2 : d ≠ c2 := fun e5 => by rw [e5, hc2] at e; cases e
      have g3 : d ≠ c3 := fun e5 => by rw [e5, hc3] at e; cases e
      rw [hne d g1 g2 g3]
      exact ht1 _ _ (hst.sc _ _ e)
    · have := hS.rg d hd
      rw [hne d (by omega) (by omega) (by omega)]
      exact ht1 _ _ e
  by_cases hv : t.2.1 < val
  · have d1 : decide (t.2.1 < val) = true := decide_eq_true hv
    simp (disch := omega) only [bsW, WOp, WOq, WV, bo, gdc, gw, bnd, ↓reduceIte, Nat.reduceEqDiff, rsvs, rsv, oneOf, rdN, ne_eq, Nat.reduceAdd, Nat.reduceMul, Nat.reduceLT, reduceCtorEq, Value.cells, setN, Value.oneCell', Nat.reduceLeDiff, undef, fcT, y2, y3, d1, c_impl_GreatestExchange_1]
    (repeat' (first | ((with_reducible refine gif_split (fun hs_ => ?_) (fun hs_ => ?_)) <;> (have hp_ := hs_; (try simp only [hpL, ne_eq] at hp_); (try simp (disch := omega) only [bsW, WOp, WOq, WV, bo, gdc, gw, bnd, ↓reduceIte, Nat.reduceEqDiff, rsvs, rsv, oneOf, rdN, ne_eq, Nat.reduceAdd, Nat.reduceMul, Nat.reduceLT, reduceCtorEq, Value.cells, setN, Value.oneCell', Nat.reduceLeDiff, undef, fcT, y2, y3, d1, hs_]))) | ((first | (with_reducible refine newB_i (fun nb_ hb_ => ?_)) | (with_reducible refine RgE_i (fun (hBd_ : Bd _ _) => ?_))); (try simp (disch := omega) only [bsW, WOp, WOq, WV, bo, gdc, gw, bnd, ↓reduceIte, Nat.reduceEqDiff, rsvs, rsv, oneOf, rdN, ne_eq, Nat.reduceAdd, Nat.reduceMul, Nat.reduceLT, reduceCtorEq, Value.cells, setN, Value.oneCell', Nat.reduceLeDiff, undef, fcT, y2, y3, d1])) | (with_reducible refine fun (hBd_ : Bd _ _) => ?_) | ((first | (with_reducible refine @And.intro (Sub _ _) _ ?_ ?_) | ((with_reducible refine @And.intro (Sub _ _ ∧ _) _ ?_ ?_); (with_reducible refine @And.intro (Sub _ _) _ ?_ ?_))); exact sbX) | ((with_reducible refine And.intro ?_ ?_); omega)))
    refine (copyLists Av bg cc H nx hbg hbr hRc).monoC ?_
    rintro v1 H1 nx1 hB1 hx1 hN1
    have g1 := hN1.s _ _ h1
    have g2 := hN1.s _ _ h2
    have g3 := hN1.s _ _ h3
    obtain ⟨A1, q1, rfl, _, _⟩ := hN1.own.rd
    (try (simp (disch := omega) only [bsW, WOp, WOq, WV, bo, gdc, gw, bnd, ↓reduceIte, Nat.reduceEqDiff, rsvs, rsv, oneOf, rdN, ne_eq, Nat.reduceAdd, Nat.reduceMul, Nat.reduceLT, reduceCtorEq, Value.cells, setN, Value.oneCell', Nat.reduceLeDiff, undef, fcT, g1, g2, g3]))
    (repeat' (first | ((with_reducible refine gif_split (fun hs_ => ?_) (fun hs_ => ?_)) <;> (have hp_ := hs_; (try simp only [hpL, ne_eq] at hp_); (try simp (disch := omega) only [bsW, WOp, WOq, WV, bo, gdc, gw, bnd, ↓reduceIte, Nat.reduceEqDiff, rsvs, rsv, oneOf, rdN, ne_eq, Nat.reduceAdd, Nat.reduceMul, Nat.reduceLT, reduceCtorEq, Value.cells, setN, Value.oneCell', Nat.reduceLeDiff, undef, fcT, g1, g2, g3, hs_]))) | ((first | (with_reducible refine newB_i (fun nb_ hb_ => ?_)) | (with_reducible refine RgE_i (fun (hBd_ : Bd _ _) => ?_))); (try simp (disch := omega) only [bsW, WOp, WOq, WV, bo, gdc, gw, bnd, ↓reduceIte, Nat.reduceEqDiff, rsvs, rsv, oneOf, rdN, ne_eq, Nat.reduceAdd, Nat.reduceMul, Nat.reduceLT, reduceCtorEq, Value.cells, setN, Value.oneCell', Nat.reduceLeDiff, undef, fcT, g1, g2, g3])) | (with_reducible refine fun (hBd_ : Bd _ _) => ?_) | ((first | (with_reducible refine @And.intro (Sub _ _) _ ?_ ?_) | ((with_reducible refine @And.intro (Sub _ _ ∧ _) _ ?_ ?_); (with_reducible refine @And.intro (Sub _ _) _ ?_ ?_))); exact sbX) | ((with_reducible refine And.intro ?_ ?_); omega)))
    exact key _ H1 nx1 hB1 hx1 hN1
  · have d1 : decide (t.2.1 < val) = false := decide_eq_false hv
    have d2 : (val == t.2.1) = true := by simp; omega
    have d3 : decide (((pplL bg : Nat) : Int) < t.2.2) = true := decide_eq_true (by omega)
    simp (disch := omega) only [bsW, WOp, WOq, WV, bo, gdc, gw, bnd, ↓reduceIte, Nat.reduceEqDiff, rsvs, rsv, oneOf, rdN, ne_eq, Nat.reduceAdd, Nat.reduceMul, Nat.reduceLT, reduceCtorEq, Value.cells, setN, Value.oneCell', Nat.reduceLeDiff, undef, fcT, y2, y3, d1, d2, d3, c_impl_GreatestExchange_1]
    (repeat' (first | ((with_reducible refine gif_split (fun hs_ => ?_) (fun hs_ => ?_)) <;> (have hp_ := hs_; (try simp only [hpL, ne_eq] at hp_); (try simp (disch := omega) only [bsW, WOp, WOq, WV, bo, gdc, gw, bnd, ↓reduceIte, Nat.reduceEqDiff, rsvs, rsv, oneOf, rdN, ne_eq, Nat.reduceAdd, Nat.reduceMul, Nat.reduceLT, reduceCtorEq, Value.cells, setN, Value.oneCell', Nat.reduceLeDiff, undef, fcT, y2, y3, d1, d2, d3, hs_]))) | ((first | (with_reducible refine newB_i (fun nb_ hb_ => ?_)) | (with_reducible refine RgE_i (fun (hBd_ : Bd _ _) => ?_))); (try simp (disch := omega) only [bsW, WOp, WOq, WV, bo, gdc, gw, bnd, ↓reduceIte, Nat.reduceEqDiff, rsvs, rsv, oneOf, rdN, ne_eq, Nat.reduceAdd, Nat.reduceMul, Nat.reduceLT, reduceCtorEq, Value.cells, setN, Value.oneCell', Nat.reduceLeDiff, undef, fcT, y2, y3, d1, d2, d3])) | (with_reducible refine fun (hBd_ : Bd _ _) => ?_) | ((first | (with_reducible refine @And.intro (Sub _ _) _ ?_ ?_) | ((with_reducible refine @And.intro (Sub _ _ ∧ _) _ ?_ ?_); (with_reducible refine @And.intro (Sub _ _) _ ?_ ?_))); exact sbX) | ((with_reducible refine And.intro ?_ ?_); omega)))
    refine (copyLists Av bg cc H nx hbg hbr hRc).monoC ?_
    rintro v1 H1 nx1 hB1 hx1 hN1
    have g1 := hN1.s _ _ h1
    have g2 := hN1.s _ _ h2
    have g3 := hN1.s _ _ h3
    obtain ⟨A1, q1, rfl, _, _⟩ := hN1.own.rd
    (try (simp (disch := omega) only [bsW, WOp, WOq, WV, bo, gdc, gw, bnd, ↓reduceIte, Nat.reduceEqDiff, rsvs, rsv, oneOf, rdN, ne_eq, Nat.reduceAdd, Nat.reduceMul, Nat.reduceLT, reduceCtorEq, Value.cells, setN, Value.oneCell', Nat.reduceLeDiff, undef, fcT, g1, g2, g3]))
    (repeat' (first | ((with_reducible refine gif_split (fun hs_ => ?_) (fun hs_ => ?_)) <;> (have hp_ := hs_; (try simp only [hpL, ne_eq] at hp_); (try simp (disch := omega) only [bsW, WOp, WOq, WV, bo, gdc, gw, bnd, ↓reduceIte, Nat.reduceEqDiff, rsvs, rsv, oneOf, rdN, ne_eq, Nat.reduceAdd, Nat.reduceMul, Nat.reduceLT, reduceCtorEq, Value.cells, setN, Value.oneCell', Nat.reduceLeDiff, undef, fcT, g1, g2, g3, hs_]))) | ((first | (with_reducible refine newB_i (fun nb_ hb_ => ?_)) | (with_reducible refine RgE_i (fun (hBd_ : Bd _ _) => ?_))); (try simp (disch := omega) only [bsW, WOp, WOq, WV, bo, gdc, gw, bnd, ↓reduceIte, Nat.reduceEqDiff, rsvs, rsv, oneOf, rdN, ne_eq, Nat.reduceAdd, Nat.reduceMul, Nat.reduceLT, reduceCtorEq, Value.cells, setN, Value.oneCell', Nat.reduceLeDiff, undef, fcT, g1, g2, g3])) | (with_reducible refine fun (hBd_ : Bd _ _) => ?_) | ((first | (with_reducible refine @And.intro (Sub _ _) _ ?_ ?_) | ((with_reducible refine @And.intro (Sub _ _ ∧ _) _ ?_ ?_); (with_reducible refine @And.intro (Sub _ _) _ ?_ ?_))); exact sbX) | ((with_reducible refine And.intro ?_ ?_); omega)))
    exact key _ H1 nx1 hB1 hx1 hN1

theorem exg_step {T : Type} (TS : T → Hp → Nat → Prop) (hTS : ∀ t G G' nx nx', TS t G nx → Sub G G' → nx ≤ nx' → TS t G' nx') (tellF : List (List Int) → Int → T → T)
    (n m : Nat) (f : Nat → Nat → Int) (Aw As : Option Addr) (cw ca : Nat) (ls : List (List Int)) (Hc : Hp) (lo b5 b6 b7 b8 : Nat) (c2 c3 c1 : Nat) (sub : Nat → List (List Int) → Int → T → T)
    (hok : wssOk (n : Int) m f) (hls : ls.length ≤ 1000000) (hcr : ∀ c ∈ ls, crOk (n : Int) m f c.length (rowL c)) (hx8 : ∀ c ∈ ls, c.length ≤ 8 ∧ ∀ x ∈ c, 0 ≤ x ∧ x < 8)
    (E : EnvX Hc lo b5 b6 b7 b8 m f Aw cw As ca ls (.func (.func 66) #[] #[.pointer (some ⟨c2, 0, none⟩), .pointer (some ⟨c3, 0, none⟩), .pointer (some ⟨c1, 0, none⟩)]))
    (hTell : ∀ (bg : List (List Int)) (val : Int) (t : T) (S : Nat → Bool) (cv : Value) (H : Hp) (nx : Nat), (∀ c ∈ bg, c ∈ ls) → bg.length ≤ 1000000 → SOk lo nx S cv → StX TS Hc H lo nx S t bg cv →
      AC Try.prog 66 #[cv, .int .i64 ((pplL bg : Nat) : Int), .int .i64 val, .pointer (some ⟨c2, 0, none⟩), .pointer (some ⟨c3, 0, none⟩), .pointer (some ⟨c1, 0, none⟩)] H nx (TlK TS Hc H S (tellF bg val t)))
    (first : Nat) (bg : List (List Int)) (val : Int) (hp : SrP ls bg first val) (hbm : ∀ c ∈ bg, c ∈ ls)
    (hsub : ∀ k, first ≤ k → k < ls.length → ∀ (t : T) (S : Nat → Bool) (cv : Value) (H : Hp) (nx : Nat), SOk lo nx S cv → StX TS Hc H lo nx S t (bg ++ [rowOf ls k]) cv →
      AC Try.prog 84 #[.int .i64 ((k : Int) + 1), cv, .int .i64 ((mskLL bg ||| mskL (rowOf ls k) : Nat) : Int), .int .i64 (((pplL bg : Nat) : Int) + ((rowOf ls k).length : Int)), .int .i64 (val + sumG m f (rowOf ls k).length (rowL (rowOf ls k)) (rowOf ls k).length), .pointer (some ⟨b5, 0, none⟩), .pointer (some ⟨b6, 0, none⟩), .pointer (some ⟨b7, 0, none⟩), .pointer (some ⟨b8, 0, none⟩)] H nx (StXK TS Hc H lo S (sub (k + 1) (bg ++ [rowOf ls k]) (val + wC (n : Int) m f false (rowOf ls k)) t) (bg ++ [rowOf ls k]) cv))
    (t : T) (S : Nat → Bool) (cv : Value) (H : Hp) (nx : Nat) (hS : SOk lo nx S cv) (hst : StX TS Hc H lo nx S t bg cv) :
    AC Try.prog 84 #[.int .i64 first, cv, .int .i64 ((mskLL bg : Nat) : Int), .int .i64 ((pplL bg : Nat) : Int), .int .i64 val, .pointer (some ⟨b5, 0, none⟩), .pointer (some ⟨b6, 0, none⟩), .pointer (some ⟨b7, 0, none⟩), .pointer (some ⟨b8, 0, none⟩)] H nx (StXK TS Hc H lo S (restS ls (wC (n : Int) m f false) sub first bg val (tellF bg val t) (ls.length - first)) bg cv) := by
  obtain ⟨Av, cc, rfl, hcc, hRc⟩ := hst.own.rd hst.sc
  have q1 := hp.hval
  have q3 := hp.hbg
  have q5 := hp.hf
  have y5 := rd_sub hst.sc E.tl
  refine AC_of x_impl_exchanges_1 rfl fun hB => ?_
  rw [fr0_9]
  simp (disch := omega) only [bsW, WOp, WOq, WV, bo, gdc, gw, bnd, ↓reduceIte, Nat.reduceEqDiff, rsvs, rsv, oneOf, rdN, ne_eq, Nat.reduceAdd, Nat.reduceMul, Nat.reduceLT, reduceCtorEq, Value.cells, setN, Value.oneCell', Nat.reduceLeDiff, undef, fcT, y5, qaT, qsT, c_impl_exchanges_1]
  (repeat' (first | ((with_reducible refine gif_split (fun hs_ => ?_) (fun hs_ => ?_)) <;> (have hp_ := hs_; (try simp only [hpL, ne_eq] at hp_); (try simp (disch := omega) only [bsW, WOp, WOq, WV, bo, gdc, gw, bnd, ↓reduceIte, Nat.reduceEqDiff, rsvs, rsv, oneOf, rdN, ne_eq, Nat.reduceAdd, Nat.reduceMul, Nat.reduceLT, reduceCtorEq, Value.cells, setN, Value.oneCell', Nat.reduceLeDiff, undef, fcT, y5, qaT, qsT, hs_]))) | ((first | (with_reducible refine newB_i (fun nb_ hb_ => ?_))); (try simp (disch := omega) only [bsW, WOp, WOq, WV, bo, gdc, gw, bnd, ↓reduceIte, Nat.reduceEqDiff, rsvs, rsv, oneOf, rdN, ne_eq, Nat.reduceAdd, Nat.reduceMul, Nat.reduceLT, reduceCtorEq, Value.cells, setN, Value.oneCell', Nat.reduceLeDiff, undef, fcT, y5, qaT, qsT])) | (with_reducible refine fun (hBd_ : Bd _ _) => ?_) | ((first | (with_reducible refine @And.intro (Sub _ _) _ ?_ ?_) | ((with_reducible refine @And.intro (Sub _ _ ∧ _) _ ?_ ?_); (with_reducible refine @And.intro (Sub _ _) _ ?_ ?_))); exact sbX) | ((with_reducible refine And.intro ?_ ?_); omega)))
  refine (hTell bg val t S _ H nx hbm (by omega) hS hst).monoC ?_
  rintro v1 H1 nx1 hB1 hx1 ⟨hts1, hsc1, hfr1⟩
  have hlo := hS.le
  have hst1 : StX TS Hc H1 lo nx1 S (tellF bg val t) bg (.slice Av bg.length cc) := ⟨hsc1, hts1, hst.own.keep (fun b o hb ho => hfr1 b o (hS.own b hb) ho) hx1⟩
  have hfr1' : ∀ d o, S d = true → some d ≠ ownBlk (.slice Av bg.length cc) → H d = some o → H1 d = some o := fun d o h1 _ h2 => hfr1 d o h1 h2
  clear hts1 hsc1 hfr1
  simp (disch := omega) only [bsW, WOp, WOq, WV, bo, gdc, gw, bnd, ↓reduceIte, Nat.reduceEqDiff, rsvs, rsv, oneOf, rdN, ne_eq, Nat.reduceAdd, Nat.reduceMul, Nat.reduceLT, reduceCtorEq, Value.cells, setN, Value.oneCell', Nat.reduceLeDiff, undef, fcT]
  (repeat' (first | ((with_reducible refine gif_split (fun hs_ => ?_) (fun hs_ => ?_)) <;> (have hp_ := hs_; (try simp only [hpL, ne_eq] at hp_); (try simp (disch := omega) only [bsW, WOp, WOq, WV, bo, gdc, gw, bnd, ↓reduceIte, Nat.reduceEqDiff, rsvs, rsv, oneOf, rdN, ne_eq, Nat.reduceAdd, Nat.reduceMul, Nat.reduceLT, reduceCtorEq, Value.cells, setN, Value.oneCell', Nat.reduceLeDiff, undef, fcT, hs_]))) | ((first | (with_reducible refine newB_i (fun nb_ hb_ => ?_))); (try simp (disch := omega) only [bsW, WOp, WOq, WV, bo, gdc, gw, bnd, ↓reduceIte, Nat.reduceEqDiff, rsvs, rsv, oneOf, rdN, ne_eq, Nat.reduceAdd, Nat.reduceMul, Nat.reduceLT, reduceCtorEq, Value.cells, setN, Value.oneCell', Nat.reduceLeDiff, undef, fcT])) | (with_reducible refine fun (hBd_ : Bd _ _) => ?_) | ((first | (with_reducible refine @And.intro (Sub _ _) _ ?_ ?_) | ((with_reducible refine @And.intro (Sub _ _ ∧ _) _ ?_ ?_); (with_reducible refine @And.intro (Sub _ _) _ ?_ ?_))); exact sbX) | ((with_reducible refine And.intro ?_ ?_); omega)))
  refine LpB_rule (fun mm fr H' nx' => ∃ (j : Nat), mm = ls.length - first - j + 1 ∧ j ≤ ls.length - first ∧ fr 1 = .slice Av bg.length cc ∧ fr 2 = .int .i64 ((mskLL bg : Nat) : Int) ∧ fr 3 = .int .i64 ((pplL bg : Nat) : Int) ∧ fr 4 = .int .i64 val ∧ fr 5 = .pointer (some ⟨b5, 0, none⟩) ∧ fr 6 = .pointer (some ⟨b6, 0, none⟩) ∧ fr 7 = .pointer (some ⟨b7, 0, none⟩) ∧ fr 8 = .pointer (some ⟨b8, 0, none⟩) ∧ fr 14 = .int .i64 ((first + j : Nat) : Int) ∧ nx1 ≤ nx' ∧
      StX TS Hc H' lo nx' S (restS ls (wC (n : Int) m f false) sub first bg val (tellF bg val t) j) bg (.slice Av bg.length cc) ∧ ∀ d o, S d = true → some d ≠ ownBlk (.slice Av bg.length cc) → H d = some o → H' d = some o) ?_ ?_ (ls.length - first + 1) ?_
  · rintro mm K hK fr H' nx' hB' ⟨j, hmm, hj, f1, f2, f3, f4, f5, f6, f7, f8, f14, hx, hst2, hfr⟩
    obtain ⟨k, hk⟩ : ∃ k, k = first + j := ⟨_, rfl⟩
    rw [← hk] at f14
    have hsc2 := hst2.sc
    have y6 := rd_sub hsc2 E.al
    by_cases hkn : k < ls.length
    case neg =>
      have d1 : decide ((k : Int) < (ls.length : Int)) = false := decide_eq_false (by omega)
      have hjn : j = ls.length - first := by omega
      subst hjn
      simp (disch := omega) only [bsW, WOp, WOq, WV, bo, gdc, gw, bnd, ↓reduceIte, Nat.reduceEqDiff, rsvs, rsv, oneOf, rdN, ne_eq, Nat.reduceAdd, Nat.reduceMul, Nat.reduceLT, reduceCtorEq, Value.cells, setN, Value.oneCell', Nat.reduceLeDiff, undef, fcT, f1, f2, f3, f4, f5, f6, f7, f8, f14, y6, d1]
      (repeat' (first | ((with_reducible refine gif_split (fun hs_ => ?_) (fun hs_ => ?_)) <;> (have hp_ := hs_; (try simp only [hpL, ne_eq] at hp_); (try simp (disch := omega) only [bsW, WOp, WOq, WV, bo, gdc, gw, bnd, ↓reduceIte, Nat.reduceEqDiff, rsvs, rsv, oneOf, rdN, ne_eq, Nat.reduceAdd, Nat.reduceMul, Nat.reduceLT, reduceCtorEq, Value.cells, setN, Value.oneCell', Nat.reduceLeDiff, undef, fcT, f1, f2, f3, f4, f5, f6, f7, f8, f14, y6, d1, hs_]))) | ((first | (with_reducible refine newB_i (fun nb_ hb_ => ?_))); (try simp (disch := omega) only [bsW, WOp, WOq, WV, bo, gdc, gw, bnd, ↓reduceIte, Nat.reduceEqDiff, rsvs, rsv, oneOf, rdN, ne_eq, Nat.reduceAdd, Nat.reduceMul, Nat.reduceLT, reduceCtorEq, Value.cells, setN, Value.oneCell', Nat.reduceLeDiff, undef, fcT, f1, f2, f3, f4, f5, f6, f7, f8, f14, y6, d1])) | (with_reducible refine fun (hBd_ : Bd _ _) => ?_) | ((first | (with_reducible refine @And.intro (Sub _ _) _ ?_ ?_) | ((with_reducible refine @And.intro (Sub _ _ ∧ _) _ ?_ ?_); (with_reducible refine @And.intro (Sub _ _) _ ?_ ?_))); exact sbX) | ((with_reducible refine And.intro ?_ ?_); omega)))
      exact ⟨hst2, hfr⟩
    have d1 : decide ((k : Int) < (ls.length : Int)) = true := decide_eq_true (by omega)
    obtain ⟨ba, oa, Qa, da, eA, ca0, hda, hRa0⟩ := E.rls.at_ hkn
    subst eA
    have ca1 := rd_sub hsc2 ca0
    have hRa := RdL.sub hRa0 hsc2
    have hmem := rowOf_mem hkn
    obtain ⟨hk8, hv8⟩ := hx8 _ hmem
    simp (disch := omega) only [bsW, WOp, WOq, WV, bo, gdc, gw, bnd, ↓reduceIte, Nat.reduceEqDiff, rsvs, rsv, oneOf, rdN, ne_eq, Nat.reduceAdd, Nat.reduceMul, Nat.reduceLT, reduceCtorEq, Value.cells, setN, Value.oneCell', Nat.reduceLeDiff, undef, fcT, f1, f2, f3, f4, f5, f6, f7, f8, f14, y6, d1, ca1, Nat.mul_one]
    (repeat' (first | ((with_reducible refine gif_split (fun hs_ => ?_) (fun hs_ => ?_)) <;> (have hp_ := hs_; (try simp only [hpL, ne_eq] at hp_); (try simp (disch := omega) only [bsW, WOp, WOq, WV, bo, gdc, gw, bnd, ↓reduceIte, Nat.reduceEqDiff, rsvs, rsv, oneOf, rdN, ne_eq, Nat.reduceAdd, Nat.reduceMul, Nat.reduceLT, reduceCtorEq, Value.cells, setN, Value.oneCell', Nat.reduceLeDiff, undef, fcT, f1, f2, f3, f4, f5, f6, f7, f8, f14, y6, d1, ca1, Nat.mul_one, hs_]))) | ((first | (with_reducible refine newB_i (fun nb_ hb_ => ?_))); (try simp (disch := omega) only [bsW, WOp, WOq, WV, bo, gdc, gw, bnd, ↓reduceIte, Nat.reduceEqDiff, rsvs, rsv, oneOf, rdN, ne_eq, Nat.reduceAdd, Nat.reduceMul, Nat.reduceLT, reduceCtorEq, Value.cells, setN, Value.oneCell', Nat.reduceLeDiff, undef, fcT, f1, f2, f3, f4, f5, f6, f7, f8, f14, y6, d1, ca1, Nat.mul_one])) | (with_reducible refine fun (hBd_ : Bd _ _) => ?_) | ((first | (with_reducible refine @And.intro (Sub _ _) _ ?_ ?_) | ((with_reducible refine @And.intro (Sub _ _ ∧ _) _ ?_ ?_); (with_reducible refine @And.intro (Sub _ _) _ ?_ ?_))); exact sbX) | ((with_reducible refine And.intro ?_ ?_); omega)))
    refine LpB_rule (fun m2 fr2 H2 nx2 => ∃ q : Nat, m2 = (rowOf ls k).length - q + 1 ∧ q ≤ (rowOf ls k).length ∧ fr2 1 = .slice Av bg.length cc ∧ fr2 2 = .int .i64 ((mskLL bg : Nat) : Int) ∧ fr2 3 = .int .i64 ((pplL bg : Nat) : Int) ∧ fr2 4 = .int .i64 val ∧ fr2 5 = .pointer (some ⟨b5, 0, none⟩) ∧ fr2 6 = .pointer (some ⟨b6, 0, none⟩) ∧ fr2 7 = .pointer (some ⟨b7, 0, none⟩) ∧ fr2 8 = .pointer (some ⟨b8, 0, none⟩) ∧ fr2 14 = .int .i64 k ∧ fr2 15 = .int .i64 ((mskL ((rowOf ls k).take q) : Nat) : Int) ∧ fr2 33 = .slice Qa (rowOf ls k).length da ∧ fr2 34 = .int .i64 (rowOf ls k).length ∧ fr2 35 = .int .i64 q ∧ H2 = H' ∧ nx2 = nx') ?_ ?_ ((rowOf ls k).length + 1) ?_
    · rintro m2 K2 hK2 fr2 H2 nx2 hB2 ⟨q, hm2, hq, g1, g2, g3, g4, g5, g6, g7, g8, g14, g15, g33, g34, g35, rfl, rfl⟩
      by_cases hqn : q < (rowOf ls k).length
      case pos =>
        have d2 : decide ((q : Int) < ((rowOf ls k).length : Int)) = true := decide_eq_true (by omega)
        obtain ⟨bq, oq, rfl, cq⟩ := RdL.at_ hRa hqn
        have hxm : (rowOf ls k).getD q 0 ∈ rowOf ls k := by rw [List.getD_eq_getElem?_getD, List.getElem?_eq_getElem hqn]; exact List.getElem_mem _
        have hxv := hv8 _ hxm
        have hlt : mskL ((rowOf ls k).take q) < 2 ^ 8 := mskL_lt _ fun x hx => hv8 x (List.mem_of_mem_take hx)
        have hs1 := shl_one hxv.1 hxv.2
        have hs2 : 1 <<< ((rowOf ls k).getD q 0).toNat < 2 ^ 8 := by
          rw [Nat.one_shiftLeft]
          exact Nat.pow_lt_pow_right (by omega) (by omega)
        have hs3 := bitv_or (a := mskL ((rowOf ls k).take q)) (b := 1 <<< ((rowOf ls k).getD q 0).toNat) (by omega) (by omega)
        rw [← mskL_take hqn] at hs3
        simp (disch := omega) only [bsW, WOp, WOq, WV, bo, gdc, gw, bnd, ↓reduceIte, Nat.reduceEqDiff, rsvs, rsv, oneOf, rdN, ne_eq, Nat.reduceAdd, Nat.reduceMul, Nat.reduceLT, reduceCtorEq, Value.cells, setN, Value.oneCell', Nat.reduceLeDiff, undef, fcT, g1, g2, g3, g4, g5, g6, g7, g8, g14, g15, g33, g34, g35, d2, cq, hs1, hs3, Nat.mul_one]
        (repeat' (first | ((with_reducible refine gif_split (fun hs_ => ?_) (fun hs_ => ?_)) <;> (have hp_ := hs_; (try simp only [hpL, ne_eq] at hp_); (try simp (disch := omega) only [bsW, WOp, WOq, WV, bo, gdc, gw, bnd, ↓reduceIte, Nat.reduceEqDiff, rsvs, rsv, oneOf, rdN, ne_eq, Nat.reduceAdd, Nat.reduceMul, Nat.reduceLT, reduceCtorEq, Value.cells, setN, Value.oneCell', Nat.reduceLeDiff, undef, fcT, g1, g2, g3, g4, g5, g6, g7, g8, g14, g15, g33, g34, g35, d2, cq, hs1, hs3, Nat.mul_one, hs_]))) | ((first | (with_reducible refine newB_i (fun nb_ hb_ => ?_))); (try simp (disch := omega) only [bsW, WOp, WOq, WV, bo, gdc, gw, bnd, ↓reduceIte, Nat.reduceEqDiff, rsvs, rsv, oneOf, rdN, ne_eq, Nat.reduceAdd, Nat.reduceMul, Nat.reduceLT, reduceCtorEq, Value.cells, setN, Value.oneCell', Nat.reduceLeDiff, undef, fcT, g1, g2, g3, g4, g5, g6, g7, g8, g14, g15, g33, g34, g35, d2, cq, hs1, hs3, Nat.mul_one])) | (with_reducible refine fun (hBd_ : Bd _ _) => ?_) | ((first | (with_reducible refine @And.intro (Sub _ _) _ ?_ ?_) | ((with_reducible refine @And.intro (Sub _ _ ∧ _) _ ?_ ?_); (with_reducible refine @And.intro (Sub _ _) _ ?_ ?_))); exact sbX) | ((with_reducible refine And.intro ?_ ?_); omega)))
        exact hK2 _ _ _ ⟨q + 1, by omega, by omega, by simp (disch := omega) only [bsW, ↓reduceIte, Nat.reduceEqDiff, ne_eq, reduceCtorEq, fcT, g1, g2, g3, g4, g5, g6, g7, g8, g14, g15, g33, g34, g35, d2, cq, hs1, hs3, Nat.mul_one], by simp (disch := omega) only [bsW, ↓reduceIte, Nat.reduceEqDiff, ne_eq, reduceCtorEq, fcT, g1, g2, g3, g4, g5, g6, g7, g8, g14, g15, g33, g34, g35, d2, cq, hs1, hs3, Nat.mul_one], by simp (disch := omega) only [bsW, ↓reduceIte, Nat.reduceEqDiff, ne_eq, reduceCtorEq, fcT, g1, g2, g3, g4, g5, g6, g7, g8, g14, g15, g33, g34, g35, d2, cq, hs1, hs3, Nat.mul_one], by simp (disch := omega) only [bsW, ↓reduceIte, Nat.reduceEqDiff, ne_eq, reduceCtorEq, fcT, g1, g2, g3, g4, g5, g6, g7, g8, g14, g15, g33, g34, g35, d2, cq, hs1, hs3, Nat.mul_one], by simp (disch := omega) only [bsW, ↓reduceIte, Nat.reduceEqDiff, ne_eq, reduceCtorEq, fcT, g1, g2, g3, g4, g5, g6, g7, g8, g14, g15, g33, g34, g35, d2, cq, hs1, hs3, Nat.mul_one], by simp (disch := omega) only [bsW, ↓reduceIte, Nat.reduceEqDiff, ne_eq, reduceCtorEq, fcT, g1, g2, g3, g4, g5, g6, g7, g8, g14, g15, g33, g34, g35, d2, cq, hs1, hs3, Nat.mul_one], by simp (disch := omega) only [bsW, ↓reduceIte, Nat.reduceEqDiff, ne_eq, reduceCtorEq, fcT, g1, g2, g3, g4, g5, g6, g7, g8, g14, g15, g33, g34, g35, d2, cq, hs1, hs3, Nat.mul_one], by simp (disch := omega) only [bsW, ↓reduceIte, Nat.reduceEqDiff, ne_eq, reduceCtorEq, fcT, g1, g2, g3, g4, g5, g6, g7, g8, g14, g15, g33, g34, g35, d2, cq, hs1, hs3, Nat.mul_one], by simp (disch := omega) only [bsW, ↓reduceIte, Nat.reduceEqDiff, ne_eq, reduceCtorEq, fcT, g1, g2, g3, g4, g5, g6, g7, g8, g14, g15, g33, g34, g35, d2, cq, hs1, hs3, Nat.mul_one], by simp (disch := omega) only [bsW, ↓reduceIte, Nat.reduceEqDiff, ne_eq, reduceCtorEq, fcT, g1, g2, g3, g4, g5, g6, g7, g8, g14, g15, g33, g34, g35, d2, cq, hs1, hs3, Nat.mul_one], by simp (disch := omega) only [bsW, ↓reduceIte, Nat.reduceEqDiff, ne_eq, reduceCtorEq, fcT, g1, g2, g3, g4, g5, g6, g7, g8, g14, g15, g33, g34, g35, d2, cq, hs1, hs3, Nat.mul_one], by simp (disch := omega) only [bsW, ↓reduceIte, Nat.reduceEqDiff, ne_eq, reduceCtorEq, fcT, g1, g2, g3, g4, g5, g6, g7, g8, g14, g15, g33, g34, g35, d2, cq, hs1, hs3, Nat.mul_one], by simp (disch := omega) only [bsW, ↓reduceIte, Nat.reduceEqDiff, ne_eq, reduceCtorEq, fcT, g1, g2, g3, g4, g5, g6, g7, g8, g14, g15, g33, g34, g35, d2, cq, hs1, hs3, Nat.mul_one, Int.natCast_add, Int.natCast_one], rfl, rfl⟩
      have d2 : decide ((q : Int) < ((rowOf ls k).length : Int)) = false := decide_eq_false (by omega)
      have hqb : q = (rowOf ls k).length := by omega
      subst hqb
      rw [List.take_length] at g15
      have hm1 : mskL (rowOf ls k) < 2 ^ 8 := mskL_lt _ fun x hx => hv8 x hx
      have hm3 : mskLL bg < 2 ^ 8 := mskLL_lt _ fun c hc => (hx8 c (hbm c hc)).2
      have hand := bitv_and (a := mskL (rowOf ls k)) (b := mskLL bg) (by omega) (by omega)
      have hfb := free_bits (bg := bg) (c := rowOf ls k) (fun x hx => (hv8 x hx).1) (fun c hc x hx => ((hx8 c (hbm c hc)).2 x hx).1)
      obtain ⟨t', et⟩ : ∃ t', t' = restS ls (wC (n : Int) m f false) sub first bg val (tellF bg val t) j := ⟨_, rfl⟩
      have hnext : restS ls (wC (n : Int) m f false) sub first bg val (tellF bg val t) (j + 1) = if freeB bg (rowOf ls k) = true then sub (k + 1) (bg ++ [rowOf ls k]) (val + wC (n : Int) m f false (rowOf ls k)) t' else t' := by
        rw [et]; simp only [restS, ← hk]
      rw [← et] at hst2
      cases hfree : freeB bg (rowOf ls k)
      · rw [hfree] at hfb hnext
        rw [if_neg (by simp)] at hnext
        simp (disch := omega) only [bsW, WOp, WOq, WV, bo, gdc, gw, bnd, ↓reduceIte, Nat.reduceEqDiff, rsvs, rsv, oneOf, rdN, ne_eq, Nat.reduceAdd, Nat.reduceMul, Nat.reduceLT, reduceCtorEq, Value.cells, setN, Value.oneCell', Nat.reduceLeDiff, undef, fcT, g1, g2, g3, g4, g5, g6, g7, g8, g14, g15, g33, g34, g35, d2, hand, hfb]
        (repeat' (first | ((with_reducible refine gif_split (fun hs_ => ?_) (fun hs_ => ?_)) <;> (have hp_ := hs_; (try simp only [hpL, ne_eq] at hp_); (try simp (disch := omega) only [bsW, WOp, WOq, WV, bo, gdc, gw, bnd, ↓reduceIte, Nat.reduceEqDiff, rsvs, rsv, oneOf, rdN, ne_eq, Nat.reduceAdd, Nat.reduceMul, Nat.reduceLT, reduceCtorEq, Value.cells, setN, Value.oneCell', Nat.reduceLeDiff, undef, fcT, g1, g2, g3, g4, g5, g6, g7, g8, g14, g15, g33, g34, g35, d2, hand, hfb, hs_]))) | ((first | (with_reducible refine newB_i (fun nb_ hb_ => ?_))); (try simp (disch := omega) only [bsW, WOp, WOq, WV, bo, gdc, gw, bnd, ↓reduceIte, Nat.reduceEqDiff, rsvs, rsv, oneOf, rdN, ne_eq, Nat.reduceAdd, Nat.reduceMul, Nat.reduceLT, reduceCtorEq, Value.cells, setN, Value.oneCell', Nat.reduceLeDiff, undef, fcT, g1, g2, g3, g4, g5, g6, g7, g8, g14, g15, g33, g34, g35, d2, hand, hfb])) | (with_reducible refine fun (hBd_ : Bd _ _) => ?_) | ((first | (with_reducible refine @And.intro (Sub _ _) _ ?_ ?_) | ((with_reducible refine @And.intro (Sub _ _ ∧ _) _ ?_ ?_); (with_reducible refine @And.intro (Sub _ _) _ ?_ ?_))); exact sbX) | ((with_reducible refine And.intro ?_ ?_); omega)))
        exact hK _ _ _ ⟨j + 1, by omega, by omega, by simp (disch := omega) only [bsW, ↓reduceIte, Nat.reduceEqDiff, ne_eq, reduceCtorEq, fcT, g1, g2, g3, g4, g5, g6, g7, g8, g14, g15, g33, g34, g35, d2, hand, hfb], by simp (disch := omega) only [bsW, ↓reduceIte, Nat.reduceEqDiff, ne_eq, reduceCtorEq, fcT, g1, g2, g3, g4, g5, g6, g7, g8, g14, g15, g33, g34, g35, d2, hand, hfb], by simp (disch := omega) only [bsW, ↓reduceIte, Nat.reduceEqDiff, ne_eq, reduceCtorEq, fcT, g1, g2, g3, g4, g5, g6, g7, g8, g14, g15, g33, g34, g35, d2, hand, hfb], by simp (disch := omega) only [bsW, ↓reduceIte, Nat.reduceEqDiff, ne_eq, reduceCtorEq, fcT, g1, g2, g3, g4, g5, g6, g7, g8, g14, g15, g33, g34, g35, d2, hand, hfb], by simp (disch := omega) only [bsW, ↓reduceIte, Nat.reduceEqDiff, ne_eq, reduceCtorEq, fcT, g1, g2, g3, g4, g5, g6, g7, g8, g14, g15, g33, g34, g35, d2, hand, hfb], by simp (disch := omega) only [bsW, ↓reduceIte, Nat.reduceEqDiff, ne_eq, reduceCtorEq, fcT, g1, g2, g3, g4, g5, g6, g7, g8, g14, g15, g33, g34, g35, d2, hand, hfb], by simp (disch := omega) only [bsW, ↓reduceIte, Nat.reduceEqDiff, ne_eq, reduceCtorEq, fcT, g1, g2, g3, g4, g5, g6, g7, g8, g14, g15, g33, g34, g35, d2, hand, hfb], by simp (disch := omega) only [bsW, ↓reduceIte, Nat.reduceEqDiff, ne_eq, reduceCtorEq, fcT, g1, g2, g3, g4, g5, g6, g7, g8, g14, g15, g33, g34, g35, d2, hand, hfb], by (simp (disch := omega) only [bsW, ↓reduceIte, Nat.reduceEqDiff, ne_eq, reduceCtorEq, fcT, g1, g2, g3, g4, g5, g6, g7, g8, g14, g15, g33, g34, g35, d2, hand, hfb]) <;> exact vi (by omega), by omega, by rw [hnext]; exact hst2, hfr⟩
      rw [hfree] at hfb hnext
      rw [if_pos rfl] at hnext
      have hbd := wC_bd1 hok hcr hx8 (rowOf ls k) hmem
      have hor := bitv_or (a := mskLL bg) (b := mskL (rowOf ls k)) (by omega) (by omega)
      have hpp := pplL_le (fun i hi => hp.bgr i hi) (bg := bg)
      simp (disch := omega) only [bsW, WOp, WOq, WV, bo, gdc, gw, bnd, ↓reduceIte, Nat.reduceEqDiff, rsvs, rsv, oneOf, rdN, ne_eq, Nat.reduceAdd, Nat.reduceMul, Nat.reduceLT, reduceCtorEq, Value.cells, setN, Value.oneCell', Nat.reduceLeDiff, undef, fcT, g1, g2, g3, g4, g5, g6, g7, g8, g14, g15, g33, g34, g35, d2, hand, hfb]
      (repeat' (first | ((with_reducible refine gif_split (fun hs_ => ?_) (fun hs_ => ?_)) <;> (have hp_ := hs_; (try simp only [hpL, ne_eq] at hp_); (try simp (disch := omega) only [bsW, WOp, WOq, WV, bo, gdc, gw, bnd, ↓reduceIte, Nat.reduceEqDiff, rsvs, rsv, oneOf, rdN, ne_eq, Nat.reduceAdd, Nat.reduceMul, Nat.reduceLT, reduceCtorEq, Value.cells, setN, Value.oneCell', Nat.reduceLeDiff, undef, fcT, g1, g2, g3, g4, g5, g6, g7, g8, g14, g15, g33, g34, g35, d2, hand, hfb, hs_]))) | ((first | (with_reducible refine newB_i (fun nb_ hb_ => ?_))); (try simp (disch := omega) only [bsW, WOp, WOq, WV, bo, gdc, gw, bnd, ↓reduceIte, Nat.reduceEqDiff, rsvs, rsv, oneOf, rdN, ne_eq, Nat.reduceAdd, Nat.reduceMul, Nat.reduceLT, reduceCtorEq, Value.cells, setN, Value.oneCell', Nat.reduceLeDiff, undef, fcT, g1, g2, g3, g4, g5, g6, g7, g8, g14, g15, g33, g34, g35, d2, hand, hfb])) | (with_reducible refine fun (hBd_ : Bd _ _) => ?_) | ((first | (with_reducible refine @And.intro (Sub _ _) _ ?_ ?_) | ((with_reducible refine @And.intro (Sub _ _ ∧ _) _ ?_ ?_); (with_reducible refine @And.intro (Sub _ _) _ ?_ ?_))); exact sbX) | ((with_reducible refine And.intro ?_ ?_); omega)))
      refine RgE_w hsc2 (fun _ => ?_)
      have z5 := E.cl
      have z6 := E.al
      have z8 := E.w
      simp (disch := omega) only [bsW, WOp, WOq, WV, bo, gdc, gw, bnd, ↓reduceIte, Nat.reduceEqDiff, rsvs, rsv, oneOf, rdN, ne_eq, Nat.reduceAdd, Nat.reduceMul, Nat.reduceLT, reduceCtorEq, Value.cells, setN, Value.oneCell', Nat.reduceLeDiff, undef, fcT, g1, g2, g3, g4, g5, g6, g7, g8, g14, g15, g33, g34, g35, z5, z6, z8, ca0, hor, qaX, qsX, Nat.mul_one]
      (repeat' (first | ((with_reducible refine gif_split (fun hs_ => ?_) (fun hs_ => ?_)) <;> (have hp_ := hs_; (try simp only [hpL, ne_eq] at hp_); (try simp (disch := omega) only [bsW, WOp, WOq, WV, bo, gdc, gw, bnd, ↓reduceIte, Nat.reduceEqDiff, rsvs, rsv, oneOf, rdN, ne_eq, Nat.reduceAdd, Nat.reduceMul, Nat.reduceLT, reduceCtorEq, Value.cells, setN, Value.oneCell', Nat.reduceLeDiff, undef, fcT, g1, g2, g3, g4, g5, g6, g7, g8, g14, g15, g33, g34, g35, z5, z6, z8, ca0, hor, qaX, qsX, Nat.mul_one, hs_]))) | ((first | (with_reducible refine newB_i (fun nb_ hb_ => ?_)) | ((with_reducible show QC _ _ _ _ _ _); (first | (refine QC_i (gainOf (n : Int) _ _ _ _ f (rowOf ls k) _ _ _ _ hok E.rw_ rfl (by omega) hRa0) ?_) | (refine QC_i (gainOf (n : Int) _ _ _ _ f (rowOf ls k) _ _ _ _ hok (E.rw_.sub hsc2) rfl (by omega) hRa) ?_))) | ((with_reducible show AC _ _ _ _ _ _); (first | (refine PC.ac (gainOf (n : Int) _ _ _ _ f (rowOf ls k) _ _ _ _ hok E.rw_ rfl (by omega) hRa0) ?_) | (refine PC.ac (gainOf (n : Int) _ _ _ _ f (rowOf ls k) _ _ _ _ hok (E.rw_.sub hsc2) rfl (by omega) hRa) ?_)))); (try simp (disch := omega) only [bsW, WOp, WOq, WV, bo, gdc, gw, bnd, ↓reduceIte, Nat.reduceEqDiff, rsvs, rsv, oneOf, rdN, ne_eq, Nat.reduceAdd, Nat.reduceMul, Nat.reduceLT, reduceCtorEq, Value.cells, setN, Value.oneCell', Nat.reduceLeDiff, undef, fcT, g1, g2, g3, g4, g5, g6, g7, g8, g14, g15, g33, g34, g35, z5, z6, z8, ca0, hor, qaX, qsX, Nat.mul_one])) | (with_reducible refine fun (hBd_ : Bd _ _) => ?_) | ((first | (with_reducible refine @And.intro (Sub _ _) _ ?_ ?_) | ((with_reducible refine @And.intro (Sub _ _ ∧ _) _ ?_ ?_); (with_reducible refine @And.intro (Sub _ _) _ ?_ ?_))); exact sbX) | ((with_reducible refine And.intro ?_ ?_); omega)))
      have hnx : nx ≤ nx2 := by omega
      have hsn : Sub Hc (upd H2 nb_ (.rw [.slice Qa (rowOf ls k).length da] 23)) := sub_up2 (E.bd.mono (show lo ≤ nx2 by omega)) hsc2 hb_
      refine ⟨hsn, ?_⟩
      have hown2 : CirO Hc (upd H2 nb_ (.rw [.slice Qa (rowOf ls k).length da] 23)) lo (nb_ + 1) 23 bg (.slice Av bg.length cc) := hst2.own.keep (fun b o hb ho => by have := (hst2.own.blk hb).2; rw [upd_ne (by omega)]; exact ho) (by omega)
      refine CirO.app (bytes := 24) (by simp (disch := omega) only [bsW, WOp, WOq, WV, bo, gdc, gw, bnd, ↓reduceIte, Nat.reduceEqDiff, rsvs, rsv, oneOf, rdN, ne_eq, Nat.reduceAdd, Nat.reduceMul, Nat.reduceLT, reduceCtorEq, Value.cells, setN, Value.oneCell', Nat.reduceLeDiff, undef, fcT, g1, g2, g3, g4, g5, g6, g7, g8, g14, g15, g33, g34, g35, z5, z6, z8, ca0, hor, qaX, qsX, Nat.mul_one]) (by simp (disch := omega) only [bsW, WOp, WOq, WV, bo, gdc, gw, bnd, ↓reduceIte, Nat.reduceEqDiff, rsvs, rsv, oneOf, rdN, ne_eq, Nat.reduceAdd, Nat.reduceMul, Nat.reduceLT, reduceCtorEq, Value.cells, setN, Value.oneCell', Nat.reduceLeDiff, undef, fcT, g1, g2, g3, g4, g5, g6, g7, g8, g14, g15, g33, g34, g35, z5, z6, z8, ca0, hor, qaX, qsX, Nat.mul_one]) (by simp (disch := omega) only [bsW, WOp, WOq, WV, bo, gdc, gw, bnd, ↓reduceIte, Nat.reduceEqDiff, rsvs, rsv, oneOf, rdN, ne_eq, Nat.reduceAdd, Nat.reduceMul, Nat.reduceLT, reduceCtorEq, Value.cells, setN, Value.oneCell', Nat.reduceLeDiff, undef, fcT, g1, g2, g3, g4, g5, g6, g7, g8, g14, g15, g33, g34, g35, z5, z6, z8, ca0, hor, qaX, qsX, Nat.mul_one]) ⟨_, qz23, rfl⟩ hown2 (upd_same _ _ _) (by omega) (by omega) (by unfold maxLen; omega) hda hRa0 ?_
      rintro c2 cap2 o2 nx3 hc2 hn2 hlt2 hO2 hpre
      have hlo2 : lo ≤ c2 := (hO2.blk (b := c2) rfl).1
      have hH2 : ∀ d o, d ≠ nb_ → d ≠ c2 → H2 d = some o → (upd (upd H2 nb_ (.rw [.slice Qa (rowOf ls k).length da] 23)) c2 o2) d = some o := fun d o h5 h6 h7 => by rw [upd_ne h6, upd_ne h5]; exact h7
      have hsc4 : Sub Hc (upd (upd H2 nb_ (.rw [.slice Qa (rowOf ls k).length da] 23)) c2 o2) := fun d o e => by
        have h5 := E.bd d o e
        exact hH2 d o (by omega) (by omega) (hsc2 _ _ e)
      generalize (upd (upd H2 nb_ (.rw [.slice Qa (rowOf ls k).length da] 23)) c2 o2) = H3 at *
      have hst3 : StX TS Hc H3 lo nx3 (fun d => S d || d == c2) t' (bg ++ [rowOf ls k]) (.slice (some ⟨c2, 0, none⟩) (bg.length + 1) cap2) := by
        refine ⟨hsc4, hTS _ _ _ _ _ hst2.ts (fun d o e => ?_) (by omega), hO2⟩
        obtain ⟨h5, h6⟩ := hide_some e
        have h7 := hB2 d o h6
        have h8 : d ≠ c2 := fun e8 => by
          rcases hc2 with h9 | h9
          · rw [e8, hS.own c2 h9] at h5; cases h5
          · omega
        rw [hide_at (by simp [h5, h8])]
        exact hH2 d o (by omega) h8 h6
      have hcall := hsub k (by omega) hkn t' (fun d => S d || d == c2) _ H3 nx3 ⟨by omega, fun d hd => by
        rw [Bool.or_eq_true] at hd
        rcases hd with hd | hd
        · have := hS.rg d hd; omega
        · have : d = c2 := by simpa using hd
          omega, fun b hb => by cases hb; simp⟩ hst3
      simp (disch := omega) only [bsW, WOp, WOq, WV, bo, gdc, gw, bnd, ↓reduceIte, Nat.reduceEqDiff, rsvs, rsv, oneOf, rdN, ne_eq, Nat.reduceAdd, Nat.reduceMul, Nat.reduceLT, reduceCtorEq, Value.cells, setN, Value.oneCell', Nat.reduceLeDiff, undef, fcT, g1, g2, g3, g4, g5, g6, g7, g8, g14, g15, g33, g34, g35, hor, qaX, qsX]
      (repeat' (first | ((with_reducible refine gif_split (fun hs_ => ?_) (fun hs_ => ?_)) <;> (have hp_ := hs_; (try simp only [hpL, ne_eq] at hp_); (try simp (disch := omega) only [bsW, WOp, WOq, WV, bo, gdc, gw, bnd, ↓reduceIte, Nat.reduceEqDiff, rsvs, rsv, oneOf, rdN, ne_eq, Nat.reduceAdd, Nat.reduceMul, Nat.reduceLT, reduceCtorEq, Value.cells, setN, Value.oneCell', Nat.reduceLeDiff, undef, fcT, g1, g2, g3, g4, g5, g6, g7, g8, g14, g15, g33, g34, g35, hor, qaX, qsX, hs_]))) | ((first | (with_reducible refine newB_i (fun nb_ hb_ => ?_)) | ((with_reducible show QC _ _ _ _ _ _); (first | (refine QC_i (gainOf (n : Int) _ _ _ _ f (rowOf ls k) _ _ _ _ hok (E.rw_.sub hsc4) rfl (by omega) (RdL.sub hRa0 hsc4)) ?_))) | ((with_reducible show AC _ _ _ _ _ _); (first | (refine PC.ac (gainOf (n : Int) _ _ _ _ f (rowOf ls k) _ _ _ _ hok (E.rw_.sub hsc4) rfl (by omega) (RdL.sub hRa0 hsc4)) ?_)))); (try simp (disch := omega) only [bsW, WOp, WOq, WV, bo, gdc, gw, bnd, ↓reduceIte, Nat.reduceEqDiff, rsvs, rsv, oneOf, rdN, ne_eq, Nat.reduceAdd, Nat.reduceMul, Nat.reduceLT, reduceCtorEq, Value.cells, setN, Value.oneCell', Nat.reduceLeDiff, undef, fcT, g1, g2, g3, g4, g5, g6, g7, g8, g14, g15, g33, g34, g35, hor, qaX, qsX])) | (with_reducible refine fun (hBd_ : Bd _ _) => ?_) | ((first | (with_reducible refine @And.intro (Sub _ _) _ ?_ ?_) | ((with_reducible refine @And.intro (Sub _ _ ∧ _) _ ?_ ?_); (with_reducible refine @And.intro (Sub _ _) _ ?_ ?_))); exact sbX) | ((with_reducible refine And.intro ?_ ?_); omega)))
      refine hcall.monoC ?_
      rintro v4 H4 nx4 hB4 hx4 ⟨hst4, hfr4⟩
      simp (disch := omega) only [bsW, WOp, WOq, WV, bo, gdc, gw, bnd, ↓reduceIte, Nat.reduceEqDiff, rsvs, rsv, oneOf, rdN, ne_eq, Nat.reduceAdd, Nat.reduceMul, Nat.reduceLT, reduceCtorEq, Value.cells, setN, Value.oneCell', Nat.reduceLeDiff, undef, fcT, g1, g2, g3, g4, g5, g6, g7, g8, g14, g15, g33, g34, g35]
      (repeat' (first | ((with_reducible refine gif_split (fun hs_ => ?_) (fun hs_ => ?_)) <;> (have hp_ := hs_; (try simp only [hpL, ne_eq] at hp_); (try simp (disch := omega) only [bsW, WOp, WOq, WV, bo, gdc, gw, bnd, ↓reduceIte, Nat.reduceEqDiff, rsvs, rsv, oneOf, rdN, ne_eq, Nat.reduceAdd, Nat.reduceMul, Nat.reduceLT, reduceCtorEq, Value.cells, setN, Value.oneCell', Nat.reduceLeDiff, undef, fcT, g1, g2, g3, g4, g5, g6, g7, g8, g14, g15, g33, g34, g35, hs_]))) | ((first | (with_reducible refine newB_i (fun nb_ hb_ => ?_))); (try simp (disch := omega) only [bsW, WOp, WOq, WV, bo, gdc, gw, bnd, ↓reduceIte, Nat.reduceEqDiff, rsvs, rsv, oneOf, rdN, ne_eq, Nat.reduceAdd, Nat.reduceMul, Nat.reduceLT, reduceCtorEq, Value.cells, setN, Value.oneCell', Nat.reduceLeDiff, undef, fcT, g1, g2, g3, g4, g5, g6, g7, g8, g14, g15, g33, g34, g35])) | (with_reducible refine fun (hBd_ : Bd _ _) => ?_) | ((first | (with_reducible refine @And.intro (Sub _ _) _ ?_ ?_) | ((with_reducible refine @And.intro (Sub _ _ ∧ _) _ ?_ ?_); (with_reducible refine @And.intro (Sub _ _) _ ?_ ?_))); exact sbX) | ((with_reducible refine And.intro ?_ ?_); omega)))
      refine hK _ _ _ ?_
      refine ⟨j + 1, by omega, by omega, by simp (disch := omega) only [bsW, ↓reduceIte, Nat.reduceEqDiff, ne_eq, reduceCtorEq, fcT, g1, g2, g3, g4, g5, g6, g7, g8, g14, g15, g33, g34, g35], by simp (disch := omega) only [bsW, ↓reduceIte, Nat.reduceEqDiff, ne_eq, reduceCtorEq, fcT, g1, g2, g3, g4, g5, g6, g7, g8, g14, g15, g33, g34, g35], by simp (disch := omega) only [bsW, ↓reduceIte, Nat.reduceEqDiff, ne_eq, reduceCtorEq, fcT, g1, g2, g3, g4, g5, g6, g7, g8, g14, g15, g33, g34, g35], by simp (disch := omega) only [bsW, ↓reduceIte, Nat.reduceEqDiff, ne_eq, reduceCtorEq, fcT, g1, g2, g3, g4, g5, g6, g7, g8, g14, g15, g33, g34, g35], by simp (disch := omega) only [bsW, ↓reduceIte, Nat.reduceEqDiff, ne_eq, reduceCtorEq, fcT, g1, g2, g3, g4, g5, g6, g7, g8, g14, g15, g33, g34, g35], by simp (disch := omega) only [bsW, ↓reduceIte, Nat.reduceEqDiff, ne_eq, reduceCtorEq, fcT, g1, g2, g3, g4, g5, g6, g7, g8, g14, g15, g33, g34, g35], by simp (disch := omega) only [bsW, ↓reduceIte, Nat.reduceEqDiff, ne_eq, reduceCtorEq, fcT, g1, g2, g3, g4, g5, g6, g7, g8, g14, g15, g33, g34, g35], by simp (disch := omega) only [bsW, ↓reduceIte, Nat.reduceEqDiff, ne_eq, reduceCtorEq, fcT, g1, g2, g3, g4, g5, g6, g7, g8, g14, g15, g33, g34, g35], by (simp (disch := omega) only [bsW, ↓reduceIte, Nat.reduceEqDiff, ne_eq, reduceCtorEq, fcT, g1, g2, g3, g4, g5, g6, g7, g8, g14, g15, g33, g34, g35]) <;> exact vi (by omega), by omega, ⟨hst4.sc, ?_, ?_⟩, fun d o h5 h6 e => ?_⟩
      · rw [hnext]
        refine hTS _ _ _ _ _ hst4.ts (fun d o e => ?_) (Nat.le_refl _)
        obtain ⟨h5, h6⟩ := hide_some e
        rw [Bool.or_eq_false_iff] at h5
        rw [hide_at h5.1]
        exact h6
      · rcases hc2 with h9 | h9
        · exact hpre h9 H4 nx4 hst4.own
        · exact hst2.own.keep (fun b o hb ho => by
            have h7 := (hst2.own.blk hb).2
            have h8 : b ≠ c2 := by omega
            exact hfr4 b o (by simp [hS.own b hb]) (by simpa [ownBlk] using h8) (hH2 b o (by omega) h8 ho)) (by omega)
      · have h7 := hS.rg d h5
        have h8 : d ≠ c2 := fun e8 => by
          rcases hc2 with h9 | h9
          · exact h6 (by rw [e8]; exact h9)
          · omega
        exact hfr4 d o (by simp [h5]) (by simpa [ownBlk] using h8) (hH2 d o (by omega) h8 (hfr d o h5 h6 e))
    · rintro fr2 H2 nx2 ⟨q, hm2, _⟩; omega
    · exact ⟨0, by omega, by omega, by simp (disch := omega) only [bsW, ↓reduceIte, Nat.reduceEqDiff, ne_eq, reduceCtorEq, fcT, f1, f2, f3, f4, f5, f6, f7, f8, f14], by simp (disch := omega) only [bsW, ↓reduceIte, Nat.reduceEqDiff, ne_eq, reduceCtorEq, fcT, f1, f2, f3, f4, f5, f6, f7, f8, f14], by simp (disch := omega) only [bsW, ↓reduceIte, Nat.reduceEqDiff, ne_eq, reduceCtorEq, fcT, f1, f2, f3, f4, f5, f6, f7, f8, f14], by simp (disch := omega) only [bsW, ↓reduceIte, Nat.reduceEqDiff, ne_eq, reduceCtorEq, fcT, f1, f2, f3, f4, f5, f6, f7, f8, f14], by simp (disch := omega) only [bsW, ↓reduceIte, Nat.reduceEqDiff, ne_eq, reduceCtorEq, fcT, f1, f2, f3, f4, f5, f6, f7, f8, f14], by simp (disch := omega) only [bsW, ↓reduceIte, Nat.reduceEqDiff, ne_eq, reduceCtorEq, fcT, f1, f2, f3, f4, f5, f6, f7, f8, f14], by simp (disch := omega) only [bsW, ↓reduceIte, Nat.reduceEqDiff, ne_eq, reduceCtorEq, fcT, f1, f2, f3, f4, f5, f6, f7, f8, f14], by simp (disch := omega) only [bsW, ↓reduceIte, Nat.reduceEqDiff, ne_eq, reduceCtorEq, fcT, f1, f2, f3, f4, f5, f6, f7, f8, f14], by simp (disch := omega) only [bsW, ↓reduceIte, Nat.reduceEqDiff, ne_eq, reduceCtorEq, fcT, f1, f2, f3, f4, f5, f6, f7, f8, f14], by (simp (disch := omega) only [bsW, ↓reduceIte, Nat.reduceEqDiff, ne_eq, reduceCtorEq, fcT, f1, f2, f3, f4, f5, f6, f7, f8, f14]) <;> rfl, by simp (disch := omega) only [bsW, ↓reduceIte, Nat.reduceEqDiff, ne_eq, reduceCtorEq, fcT, f1, f2, f3, f4, f5, f6, f7, f8, f14], by simp (disch := omega) only [bsW, ↓reduceIte, Nat.reduceEqDiff, ne_eq, reduceCtorEq, fcT, f1, f2, f3, f4, f5, f6, f7, f8, f14], by simp (disch := omega) only [bsW, ↓reduceIte, Nat.reduceEqDiff, ne_eq, reduceCtorEq, fcT, f1, f2, f3, f4, f5, f6, f7, f8, f14, Int.natCast_zero], rfl, rfl⟩
  · rintro fr H' nx' ⟨j, hmm, _⟩; omega
  · exact ⟨0, by omega, by omega, by simp (disch := omega) only [bsW, ↓reduceIte, Nat.reduceEqDiff, ne_eq, reduceCtorEq, fcT], by simp (disch := omega) only [bsW, ↓reduceIte, Nat.reduceEqDiff, ne_eq, reduceCtorEq, fcT], by simp (disch := omega) only [bsW, ↓reduceIte, Nat.reduceEqDiff, ne_eq, reduceCtorEq, fcT], by simp (disch := omega) only [bsW, ↓reduceIte, Nat.reduceEqDiff, ne_eq, reduceCtorEq, fcT], by simp (disch := omega) only [bsW, ↓reduceIte, Nat.reduceEqDiff, ne_eq, reduceCtorEq, fcT], by simp (disch := omega) only [bsW, ↓reduceIte, Nat.reduceEqDiff, ne_eq, reduceCtorEq, fcT], by simp (disch := omega) only [bsW, ↓reduceIte, Nat.reduceEqDiff, ne_eq, reduceCtorEq, fcT], by simp (disch := omega) only [bsW, ↓reduceIte, Nat.reduceEqDiff, ne_eq, reduceCtorEq, fcT], by (simp (disch := omega) only [bsW, ↓reduceIte, Nat.reduceEqDiff, ne_eq, reduceCtorEq, fcT]) <;> exact vi (by omega), Nat.le_refl _, hst1, hfr1'⟩
end Go.Proofs.Ytnaldmmdhpobgaa
