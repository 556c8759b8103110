/- The laws' helpers at rows of rows of ints. -/
import Derived.Test.YtnaldmmdhpobgaaT
import Derived.Test.YtnaldmmdhpobgaaSB
import Derived.Test.YtnaldmmdhpobgaaD11
import Derived.Test.YtnaldmmdhpobgaaE5
set_option linter.unusedVariables false
set_option linter.unusedSimpArgs false
set_option maxRecDepth 100000
set_option maxHeartbeats 1000000
namespace Go.Proofs.Ytnaldmmdhpobgaa
open Go Go.RowKit Go.Proofs

theorem szIntS (A : Option Addr) (n c : Nat) (left : Int) (H : Hp) (nx : Nat) (hn : n ≤ 9223372036854775807) (hl : -1 ≤ left ∧ left ≤ 1048576) :
    PC Try.prog 59 #[.slice A n c, .int .i64 left] H nx (.int .i64 (if left - n < 0 then -1 else left - n)) := by
  refine AC_of x_laws_szIntS rfl fun hB => ?_
  simp (disch := omega) only [bsW, WOp, WOq, WV, bo, gdc, gw, bnd, ↓reduceIte, Nat.reduceEqDiff, rsvs, rsv, oneOf, rdN, ne_eq, Nat.reduceAdd, Nat.reduceMul, Nat.reduceLT, reduceCtorEq, Value.cells, setN, Value.oneCell', Nat.reduceLeDiff, undef, fcT, c_laws_szIntS]
  (repeat' (first | ((with_reducible refine gif_split (fun hs_ => ?_) (fun hs_ => ?_)) <;> (have hp_ := hs_; (try simp only [hpL, ne_eq] at hp_); (try simp (disch := omega) only [bsW, WOp, WOq, WV, bo, gdc, gw, bnd, ↓reduceIte, Nat.reduceEqDiff, rsvs, rsv, oneOf, rdN, ne_eq, Nat.reduceAdd, Nat.reduceMul, Nat.reduceLT, reduceCtorEq, Value.cells, setN, Value.oneCell', Nat.reduceLeDiff, undef, fcT, hs_]))) | ((first | (with_reducible refine newB_i (fun nb_ hb_ => ?_)) | (with_reducible refine RgE_i (fun (hBd_ : Bd _ _) => ?_))); (try simp (disch := omega) only [bsW, WOp, WOq, WV, bo, gdc, gw, bnd, ↓reduceIte, Nat.reduceEqDiff, rsvs, rsv, oneOf, rdN, ne_eq, Nat.reduceAdd, Nat.reduceMul, Nat.reduceLT, reduceCtorEq, Value.cells, setN, Value.oneCell', Nat.reduceLeDiff, undef, fcT])) | (with_reducible refine fun (hBd_ : Bd _ _) => ?_) | ((first | (with_reducible refine @And.intro (Sub _ _) _ ?_ ?_) | ((with_reducible refine @And.intro (Sub _ _ ∧ _) _ ?_ ?_); (with_reducible refine @And.intro (Sub _ _) _ ?_ ?_))); exact sbX) | ((with_reducible refine And.intro ?_ ?_); omega)))
  · exact Is_e (by rw [if_pos (by omega)]) (Sub.refl H)
  · exact Is_e (by rw [if_neg (by omega)]) (Sub.refl H)
def szV1 (l : Int) (n : Nat) : Int := if l - n < 0 then -1 else l - n
def szLG (ls : List (List Int)) : Nat → Nat → Int → Int
  | 0, _, l => l
  | r + 1, i, l => if szV1 l (rowOf ls i).length < 0 then -1 else szLG ls r (i + 1) (szV1 l (rowOf ls i).length)
def szLL (ls : List (List Int)) (left : Int) : Int := if left - ls.length < 0 then -1 else szLG ls ls.length 0 (left - ls.length)
theorem szLG_ok {ls : List (List Int)} : ∀ (r i : Nat) (l : Int), 0 ≤ l → ¬ szLG ls r i l < 0 → (∀ j, i ≤ j → j < i + r → ((rowOf ls j).length : Int) ≤ l) ∧ (llLen ls (i + r) : Int) ≤ llLen ls i + l
  | 0, i, l, h0, _ => ⟨fun j h1 h2 => by omega, by simp; omega⟩
  | r + 1, i, l, h0, h => by
    simp only [szLG] at h
    split at h
    · omega
    · rename_i hv
      have hle : szV1 l (rowOf ls i).length + ((rowOf ls i).length : Int) = l := by
        revert hv
        unfold szV1
        split <;> omega
      obtain ⟨i1, i2⟩ := szLG_ok r (i + 1) _ (by omega) h
      have e : llLen ls (i + 1) = llLen ls i + (rowOf ls i).length := rfl
      refine ⟨fun j h1 h2 => ?_, ?_⟩
      · rcases Nat.eq_or_lt_of_le h1 with rfl | h1
        · omega
        · have := i1 j h1 (by omega)
          omega
      · rw [show i + (r + 1) = i + 1 + r by omega]
        omega
theorem szLL_ok {ls : List (List Int)} {left : Int} (h : ¬ szLL ls left < 0) (hl : left ≤ 1048576) : ls.length ≤ 1048576 ∧ (∀ i, i < ls.length → (rowOf ls i).length ≤ 1048576) ∧ llLen ls ls.length ≤ 1048576 := by
  unfold szLL at h
  split at h
  · omega
  · obtain ⟨h1, h2⟩ := szLG_ok ls.length 0 _ (by omega) h
    have e : llLen ls 0 = 0 := rfl
    rw [Nat.zero_add, e] at h2
    exact ⟨by omega, fun i hi => by have := h1 i (by omega) (by omega); omega, by omega⟩
theorem szIntSS (A : Option Addr) (c : Nat) (ls : List (List Int)) (left : Int) (H : Hp) (nx : Nat) (hn : ls.length ≤ 17592186044416) (h : RdLL H A ls) (hw : llOk ls) (hl : -1 ≤ left ∧ left ≤ 1048576) :
    PC Try.prog 31 #[.slice A ls.length c, .int .i64 left] H nx (.int .i64 (szLL ls left)) := by
  refine AC_of x_laws_szIntSS rfl fun hB => ?_
  simp (disch := omega) only [bsW, WOp, WOq, WV, bo, gdc, gw, bnd, ↓reduceIte, Nat.reduceEqDiff, rsvs, rsv, oneOf, rdN, ne_eq, Nat.reduceAdd, Nat.reduceMul, Nat.reduceLT, reduceCtorEq, Value.cells, setN, Value.oneCell', Nat.reduceLeDiff, undef, fcT, c_laws_szIntSS]
  (repeat' (first | ((with_reducible refine gif_split (fun hs_ => ?_) (fun hs_ => ?_)) <;> (have hp_ := hs_; (try simp only [hpL, ne_eq] at hp_); (try simp (disch := omega) only [bsW, WOp, WOq, WV, bo, gdc, gw, bnd, ↓reduceIte, Nat.reduceEqDiff, rsvs, rsv, oneOf, rdN, ne_eq, Nat.reduceAdd, Nat.reduceMul, Nat.reduceLT, reduceCtorEq, Value.cells, setN, Value.oneCell', Nat.reduceLeDiff, undef, fcT, hs_]))) | ((first | (with_reducible refine newB_i (fun nb_ hb_ => ?_)) | (with_reducible refine RgE_i (fun (hBd_ : Bd _ _) => ?_))); (try simp (disch := omega) only [bsW, WOp, WOq, WV, bo, gdc, gw, bnd, ↓reduceIte, Nat.reduceEqDiff, rsvs, rsv, oneOf, rdN, ne_eq, Nat.reduceAdd, Nat.reduceMul, Nat.reduceLT, reduceCtorEq, Value.cells, setN, Value.oneCell', Nat.reduceLeDiff, undef, fcT])) | (with_reducible refine fun (hBd_ : Bd _ _) => ?_) | ((first | (with_reducible refine @And.intro (Sub _ _) _ ?_ ?_) | ((with_reducible refine @And.intro (Sub _ _ ∧ _) _ ?_ ?_); (with_reducible refine @And.intro (Sub _ _) _ ?_ ?_))); exact sbX) | ((with_reducible refine And.intro ?_ ?_); omega)))
  all_goals try (exfalso; omega)
  · exact Is_e (vi (by unfold szLL; rw [if_pos (by omega)])) (Sub.refl H)
  refine LpE_rule (fun m fr H' nx' => ∃ (k : Nat) (l : Int), m = ls.length - k + 1 ∧ k ≤ ls.length ∧ fr 0 = .slice A ls.length c ∧ fr 1 = .int .i64 l ∧ fr 5 = .int .i64 k ∧ 0 ≤ l ∧ l ≤ 1048576 ∧ szLG ls (ls.length - k) k l = szLL ls left ∧ Sub H H' ∧ nx ≤ nx') ?_ ?_ (ls.length + 1) ?_
  · rintro m K hK fr H' nx' ⟨k, l, hm, hk, f0, f1, f5, hl0, hl1, hg, hs, hx⟩
    simp (disch := omega) only [bsW, WOp, WOq, WV, bo, gdc, gw, bnd, ↓reduceIte, Nat.reduceEqDiff, rsvs, rsv, oneOf, rdN, ne_eq, Nat.reduceAdd, Nat.reduceMul, Nat.reduceLT, reduceCtorEq, Value.cells, setN, Value.oneCell', Nat.reduceLeDiff, undef, fcT, f0, f1, f5]
    refine gif_split (fun b1 => ?_) (fun b1 => ?_)
    · have hlt : k < ls.length := by simpa using b1
      obtain ⟨b, off, Q, d, rfl, c0, hd, hR⟩ := (h.sub hs).at_ hlt
      have hw1 := hw k hlt
      have hg2 : szLG ls (ls.length - k) k l = if szV1 l (rowOf ls k).length < 0 then -1 else szLG ls (ls.length - (k + 1)) (k + 1) (szV1 l (rowOf ls k).length) := by
        rw [show ls.length - k = (ls.length - (k + 1)) + 1 by omega]; rfl
      have hle : szV1 l (rowOf ls k).length ≤ l := by unfold szV1; split <;> omega
      have hcall := szIntS Q (rowOf ls k).length d l H' nx' hw1 (by omega)
      rw [show (if l - ((rowOf ls k).length : Int) < 0 then -1 else l - ((rowOf ls k).length : Int)) = szV1 l (rowOf ls k).length from rfl] at hcall
      simp (disch := omega) only [bsW, WOp, WOq, WV, bo, gdc, gw, bnd, ↓reduceIte, Nat.reduceEqDiff, rsvs, rsv, oneOf, rdN, ne_eq, Nat.reduceAdd, Nat.reduceMul, Nat.reduceLT, reduceCtorEq, Value.cells, setN, Value.oneCell', Nat.reduceLeDiff, undef, fcT, f0, f1, f5, c0, Nat.mul_one, b1]
      (repeat' (first | ((with_reducible refine gif_split (fun hs_ => ?_) (fun hs_ => ?_)) <;> (have hp_ := hs_; (try simp only [hpL, ne_eq] at hp_); (try simp (disch := omega) only [bsW, WOp, WOq, WV, bo, gdc, gw, bnd, ↓reduceIte, Nat.reduceEqDiff, rsvs, rsv, oneOf, rdN, ne_eq, Nat.reduceAdd, Nat.reduceMul, Nat.reduceLT, reduceCtorEq, Value.cells, setN, Value.oneCell', Nat.reduceLeDiff, undef, fcT, f0, f1, f5, c0, Nat.mul_one, hs_]))) | ((first | (with_reducible refine newB_i (fun nb_ hb_ => ?_)) | ((with_reducible show QC _ _ _ _ _ _); (first | (refine QC_i (hcall) ?_))) | ((with_reducible show AC _ _ _ _ _ _); (first | (refine PC.ac (hcall) ?_))) | (with_reducible refine RgE_i (fun (hBd_ : Bd _ _) => ?_))); (try simp (disch := omega) only [bsW, WOp, WOq, WV, bo, gdc, gw, bnd, ↓reduceIte, Nat.reduceEqDiff, rsvs, rsv, oneOf, rdN, ne_eq, Nat.reduceAdd, Nat.reduceMul, Nat.reduceLT, reduceCtorEq, Value.cells, setN, Value.oneCell', Nat.reduceLeDiff, undef, fcT, f0, f1, f5, c0, Nat.mul_one])) | (with_reducible refine fun (hBd_ : Bd _ _) => ?_) | ((first | (with_reducible refine @And.intro (Sub _ _) _ ?_ ?_) | ((with_reducible refine @And.intro (Sub _ _ ∧ _) _ ?_ ?_); (with_reducible refine @And.intro (Sub _ _) _ ?_ ?_))); exact sbX) | ((with_reducible refine And.intro ?_ ?_); omega)))
      all_goals try (exfalso; omega)
      · rw [if_pos hp_] at hg2
        exact Is_e (vi (by omega)) hs
      · rw [if_neg hp_] at hg2
        refine hK _ _ _ ?_
        exact ⟨k + 1, szV1 l (rowOf ls k).length, by omega, by omega, by simp (disch := omega) only [bsW, ↓reduceIte, Nat.reduceEqDiff, ne_eq, reduceCtorEq, fcT, f0, f1, f5, c0, Nat.mul_one], by simp (disch := omega) only [bsW, ↓reduceIte, Nat.reduceEqDiff, ne_eq, reduceCtorEq, fcT, f0, f1, f5, c0, Nat.mul_one], by simp (disch := omega) only [bsW, ↓reduceIte, Nat.reduceEqDiff, ne_eq, reduceCtorEq, fcT, f0, f1, f5, c0, Nat.mul_one, Int.natCast_add, Int.natCast_one], by omega, by omega, by rw [← hg2]; exact hg, hs, by omega⟩
    · have hkn : k = ls.length := by simp at b1; omega
      subst hkn
      simp (disch := omega) only [bsW, WOp, WOq, WV, bo, gdc, gw, bnd, ↓reduceIte, Nat.reduceEqDiff, rsvs, rsv, oneOf, rdN, ne_eq, Nat.reduceAdd, Nat.reduceMul, Nat.reduceLT, reduceCtorEq, Value.cells, setN, Value.oneCell', Nat.reduceLeDiff, undef, fcT, f0, f1, f5, b1]
      refine Is_e (vi ?_) hs
      rw [← hg, Nat.sub_self]
      rfl
  · rintro fr H' nx' ⟨k, l, hm, _⟩; omega
  · exact ⟨0, left - ls.length, by omega, by omega, by simp (disch := omega) only [bsW, ↓reduceIte, Nat.reduceEqDiff, ne_eq, reduceCtorEq, fcT], by simp (disch := omega) only [bsW, ↓reduceIte, Nat.reduceEqDiff, ne_eq, reduceCtorEq, fcT], by simp (disch := omega) only [bsW, ↓reduceIte, Nat.reduceEqDiff, ne_eq, reduceCtorEq, fcT, Int.natCast_zero], by omega, by omega, by unfold szLL; rw [if_neg (by omega)]; rfl, Sub.refl _, by omega⟩
theorem toLLI (A : Option Addr) (c : Nat) (ls : List (List Int)) (H : Hp) (nx : Nat) (hn : ls.length ≤ 1048576) (hm : ∀ i, i < ls.length → (rowOf ls i).length ≤ 1048576) (h : RdLL H A ls) :
    AC Try.prog 33 #[.slice A ls.length c] H nx (NewI (fun hi v H' => OwnLL H' nx hi ls 23 3 v) H) := by
  refine AC_of x_laws_toIntSS rfl fun hB => ?_
  simp (disch := omega) only [bsW, WOp, WOq, WV, bo, gdc, gw, bnd, ↓reduceIte, Nat.reduceEqDiff, rsvs, rsv, oneOf, rdN, ne_eq, Nat.reduceAdd, Nat.reduceMul, Nat.reduceLT, reduceCtorEq, Value.cells, setN, Value.oneCell', Nat.reduceLeDiff, undef, fcT, c_laws_toIntSS]
  refine ⟨by omega, newB_i fun nb hnb => ?_⟩
  rw [mkRow_flatV _ ls.length 1 (by omega) rfl]
  simp (disch := omega) only [bsW, WOp, WOq, WV, bo, gdc, gw, bnd, ↓reduceIte, Nat.reduceEqDiff, rsvs, rsv, oneOf, rdN, ne_eq, Nat.reduceAdd, Nat.reduceMul, Nat.reduceLT, reduceCtorEq, Value.cells, setN, Value.oneCell', Nat.reduceLeDiff, undef, fcT]
  refine LpE_rule (fun m fr H' nx' => ∃ (k : Nat) (B : Nat → Nat) (g : Nat → Nat → Value), m = ls.length - k + 1 ∧ k ≤ ls.length ∧ fr 0 = .slice A ls.length c ∧ fr 3 = .slice (some ⟨nb, 0, none⟩) ls.length ls.length ∧ fr 4 = .int .i64 k ∧ Sub H H' ∧ nb + 1 ≤ nx' ∧
    H' nb = some (.rw (flatV ls.length 1 g) 23) ∧ (∀ i j, i < k → j < 1 → g i j = rowsV ls (fun i => some ⟨B i, 0, none⟩) (fun i => (rowOf ls i).length) i j) ∧ (∀ i, i < k → nb < B i ∧ B i < nx' ∧ H' (B i) = some (.rw (flat (rowOf ls i).length 1 (rowL (rowOf ls i))) 3)) ∧ ∀ i j, i < k → j < k → i ≠ j → B i ≠ B j) ?_ ?_ (ls.length + 1) ?_
  · rintro m K hK fr H' nx' ⟨k, B, g, hm', hk, f0, f3, f4, hs, hx, hb, hg, hB2, hB3⟩
    simp (disch := omega) only [bsW, WOp, WOq, WV, bo, gdc, gw, bnd, ↓reduceIte, Nat.reduceEqDiff, rsvs, rsv, oneOf, rdN, ne_eq, Nat.reduceAdd, Nat.reduceMul, Nat.reduceLT, reduceCtorEq, Value.cells, setN, Value.oneCell', Nat.reduceLeDiff, undef, fcT, f0, f3, f4]
    refine gif_split (fun b1 => ?_) (fun b1 => ?_)
    · have hlt : k < ls.length := by simpa using b1
      obtain ⟨b, off, Q, d, rfl, c0, hd, hR⟩ := (h.sub hs).at_ hlt
      simp (disch := omega) only [bsW, WOp, WOq, WV, bo, gdc, gw, bnd, ↓reduceIte, Nat.reduceEqDiff, rsvs, rsv, oneOf, rdN, ne_eq, Nat.reduceAdd, Nat.reduceMul, Nat.reduceLT, reduceCtorEq, Value.cells, setN, Value.oneCell', Nat.reduceLeDiff, undef, fcT, f0, f3, f4, c0, Nat.mul_one, b1]
      (repeat' (first | ((with_reducible refine gif_split (fun hs_ => ?_) (fun hs_ => ?_)) <;> (have hp_ := hs_; (try simp only [hpL, ne_eq] at hp_); (try simp (disch := omega) only [bsW, WOp, WOq, WV, bo, gdc, gw, bnd, ↓reduceIte, Nat.reduceEqDiff, rsvs, rsv, oneOf, rdN, ne_eq, Nat.reduceAdd, Nat.reduceMul, Nat.reduceLT, reduceCtorEq, Value.cells, setN, Value.oneCell', Nat.reduceLeDiff, undef, fcT, f0, f3, f4, c0, Nat.mul_one, hs_]))) | ((first | (with_reducible refine newB_i (fun nb_ hb_ => ?_)) | (with_reducible refine RgE_i (fun (hBd_ : Bd _ _) => ?_))); (try simp (disch := omega) only [bsW, WOp, WOq, WV, bo, gdc, gw, bnd, ↓reduceIte, Nat.reduceEqDiff, rsvs, rsv, oneOf, rdN, ne_eq, Nat.reduceAdd, Nat.reduceMul, Nat.reduceLT, reduceCtorEq, Value.cells, setN, Value.oneCell', Nat.reduceLeDiff, undef, fcT, f0, f3, f4, c0, Nat.mul_one])) | (with_reducible refine fun (hBd_ : Bd _ _) => ?_) | ((first | (with_reducible refine @And.intro (Sub _ _) _ ?_ ?_) | ((with_reducible refine @And.intro (Sub _ _ ∧ _) _ ?_ ?_); (with_reducible refine @And.intro (Sub _ _) _ ?_ ?_))); exact sbX) | ((with_reducible refine And.intro ?_ ?_); omega)))
      all_goals try (exfalso; omega)
      refine (toIntS Q (rowOf ls k).length d (rowL (rowOf ls k)) _ _ (hm k hlt) hR).mono2 ?_
      rintro v1 H1 nx1 hx1 ⟨⟨q, rfl, hq1, hq2, hq3⟩, ht1⟩
      have hb1 := ht1 _ _ hb
      simp (disch := omega) only [bsW, WOp, WOq, WV, bo, gdc, gw, bnd, ↓reduceIte, Nat.reduceEqDiff, rsvs, rsv, oneOf, rdN, ne_eq, Nat.reduceAdd, Nat.reduceMul, Nat.reduceLT, reduceCtorEq, Value.cells, setN, Value.oneCell', Nat.reduceLeDiff, undef, fcT, f0, f3, f4, hb1, flatV_length, Nat.mul_one]
      (repeat' (first | ((with_reducible refine gif_split (fun hs_ => ?_) (fun hs_ => ?_)) <;> (have hp_ := hs_; (try simp only [hpL, ne_eq] at hp_); (try simp (disch := omega) only [bsW, WOp, WOq, WV, bo, gdc, gw, bnd, ↓reduceIte, Nat.reduceEqDiff, rsvs, rsv, oneOf, rdN, ne_eq, Nat.reduceAdd, Nat.reduceMul, Nat.reduceLT, reduceCtorEq, Value.cells, setN, Value.oneCell', Nat.reduceLeDiff, undef, fcT, f0, f3, f4, hb1, flatV_length, Nat.mul_one, hs_]))) | ((first | (with_reducible refine newB_i (fun nb_ hb_ => ?_)) | (with_reducible refine RgE_i (fun (hBd_ : Bd _ _) => ?_))); (try simp (disch := omega) only [bsW, WOp, WOq, WV, bo, gdc, gw, bnd, ↓reduceIte, Nat.reduceEqDiff, rsvs, rsv, oneOf, rdN, ne_eq, Nat.reduceAdd, Nat.reduceMul, Nat.reduceLT, reduceCtorEq, Value.cells, setN, Value.oneCell', Nat.reduceLeDiff, undef, fcT, f0, f3, f4, hb1, flatV_length, Nat.mul_one])) | (with_reducible refine fun (hBd_ : Bd _ _) => ?_) | ((first | (with_reducible refine @And.intro (Sub _ _) _ ?_ ?_) | ((with_reducible refine @And.intro (Sub _ _ ∧ _) _ ?_ ?_); (with_reducible refine @And.intro (Sub _ _) _ ?_ ?_))); exact sbX) | ((with_reducible refine And.intro ?_ ?_); omega)))
      all_goals try (exfalso; omega)
      refine hK _ _ _ ?_
      refine ⟨k + 1, fun i => if i = k then q else B i, setV g k 0 (.slice (some ⟨q, 0, none⟩) (rowOf ls k).length (rowOf ls k).length), by omega, by omega, by simp (disch := omega) only [bsW, ↓reduceIte, Nat.reduceEqDiff, ne_eq, reduceCtorEq, fcT, f0, f3, f4, hb1, flatV_length, Nat.mul_one], by simp (disch := omega) only [bsW, ↓reduceIte, Nat.reduceEqDiff, ne_eq, reduceCtorEq, fcT, f0, f3, f4, hb1, flatV_length, Nat.mul_one], by simp (disch := omega) only [bsW, ↓reduceIte, Nat.reduceEqDiff, ne_eq, reduceCtorEq, fcT, f0, f3, f4, hb1, flatV_length, Nat.mul_one, Int.natCast_add, Int.natCast_one], sub_upd_old (hs.trans ht1) (none_of_bd hB hnb), by omega, ?_, fun i j hi hj => ?_, fun i hi => ?_, fun i j hi hj hij => ?_⟩
      · rw [upd_same]
        have e := flatV_set0 (n := ls.length) (k := 1) (f := g) (i := k) (sp := []) hlt (by omega) (.slice (some ⟨q, 0, none⟩) (rowOf ls k).length (rowOf ls k).length)
        rw [List.append_nil, List.append_nil, Nat.mul_one] at e
        first
        | (rw [← e]; done)
        | (simp only [setN, Nat.add_zero]; rw [e])
      · by_cases hik : i = k
        · subst hik
          have : j = 0 := by omega
          subst this
          simp [setV, rowsV]
        · have := hg i j (by omega) hj
          have e0 : j = 0 := by omega
          subst e0
          simpa [setV, rowsV, hik] using this
      · by_cases hik : i = k
        · subst hik
          simp only [if_true]
          exact ⟨by omega, by omega, by rw [upd_ne (by omega)]; exact hq3⟩
        · obtain ⟨e1, e2, e3⟩ := hB2 i (by omega)
          simp only [if_neg hik]
          exact ⟨e1, by omega, by rw [upd_ne (by omega)]; exact ht1 _ _ e3⟩
      · by_cases hik : i = k
        · subst hik
          have := hB2 j (by omega)
          simp only [if_true, if_neg (Ne.symm hij)]
          omega
        · by_cases hjk : j = k
          · subst hjk
            have := hB2 i (by omega)
            simp only [if_true, if_neg hij]
            omega
          · simp only [if_neg hik, if_neg hjk]
            exact hB3 i j (by omega) (by omega) hij
    · simp (disch := omega) only [bsW, WOp, WOq, WV, bo, gdc, gw, bnd, ↓reduceIte, Nat.reduceEqDiff, rsvs, rsv, oneOf, rdN, ne_eq, Nat.reduceAdd, Nat.reduceMul, Nat.reduceLT, reduceCtorEq, Value.cells, setN, Value.oneCell', Nat.reduceLeDiff, undef, fcT, f0, f3, f4, b1]
      have hkn : k = ls.length := by simp at b1; omega
      subst hkn
      refine ⟨⟨.inr ⟨nb, ls.length, [], B, fun i => (rowOf ls i).length, rfl, hnb, by omega, Nat.le_refl _, by unfold maxLen; omega, by simp, ?_, fun i hi => ?_, hB3⟩⟩, hs⟩
      · rw [hb, List.append_nil]
        congr 2
        exact flatV_congr fun i j hi hj => hg i j hi hj
      · obtain ⟨e1, e2, e3⟩ := hB2 i hi
        exact ⟨by omega, .full (by omega) e2 e3 (by have := hm i hi; unfold maxLen; omega)⟩
  · rintro fr H' nx' ⟨k, B, g, hm', _⟩; omega
  · refine ⟨0, fun _ => 0, _, by omega, by omega, by simp (disch := omega) only [bsW, ↓reduceIte, Nat.reduceEqDiff, ne_eq, reduceCtorEq, fcT], by simp (disch := omega) only [bsW, ↓reduceIte, Nat.reduceEqDiff, ne_eq, reduceCtorEq, fcT], by simp (disch := omega) only [bsW, ↓reduceIte, Nat.reduceEqDiff, ne_eq, reduceCtorEq, fcT, Int.natCast_zero], ?_, by omega, upd_same _ _ _, fun i j hi => by omega, fun i hi => by omega, fun i j hi => by omega⟩
    exact sub_upd_old (Sub.refl _) (none_of_bd hB hnb)
theorem eqLL (A B : Option Addr) (c d : Nat) (ls : List (List Int)) (H : Hp) (nx : Nat) (hn : ls.length ≤ 17592186044416) (hm : ∀ i, i < ls.length → (rowOf ls i).length ≤ 17592186044416) (h : RdLL H A ls) (h' : RdLL H B ls) :
    PC Try.prog 21 #[.slice A ls.length c, .slice B ls.length d] H nx (.bool true) := by
  refine AC_of x_laws_eqIntSS rfl fun hB => ?_
  simp (disch := omega) only [bsW, WOp, WOq, WV, bo, gdc, gw, bnd, ↓reduceIte, Nat.reduceEqDiff, rsvs, rsv, oneOf, rdN, ne_eq, Nat.reduceAdd, Nat.reduceMul, Nat.reduceLT, reduceCtorEq, Value.cells, setN, Value.oneCell', Nat.reduceLeDiff, undef, fcT, c_laws_eqIntSS]
  (repeat' (first | ((with_reducible refine gif_split (fun hs_ => ?_) (fun hs_ => ?_)) <;> (have hp_ := hs_; (try simp only [hpL, ne_eq] at hp_); (try simp (disch := omega) only [bsW, WOp, WOq, WV, bo, gdc, gw, bnd, ↓reduceIte, Nat.reduceEqDiff, rsvs, rsv, oneOf, rdN, ne_eq, Nat.reduceAdd, Nat.reduceMul, Nat.reduceLT, reduceCtorEq, Value.cells, setN, Value.oneCell', Nat.reduceLeDiff, undef, fcT, hs_]))) | ((first | (with_reducible refine newB_i (fun nb_ hb_ => ?_)) | (with_reducible refine RgE_i (fun (hBd_ : Bd _ _) => ?_))); (try simp (disch := omega) only [bsW, WOp, WOq, WV, bo, gdc, gw, bnd, ↓reduceIte, Nat.reduceEqDiff, rsvs, rsv, oneOf, rdN, ne_eq, Nat.reduceAdd, Nat.reduceMul, Nat.reduceLT, reduceCtorEq, Value.cells, setN, Value.oneCell', Nat.reduceLeDiff, undef, fcT])) | (with_reducible refine fun (hBd_ : Bd _ _) => ?_) | ((first | (with_reducible refine @And.intro (Sub _ _) _ ?_ ?_) | ((with_reducible refine @And.intro (Sub _ _ ∧ _) _ ?_ ?_); (with_reducible refine @And.intro (Sub _ _) _ ?_ ?_))); exact sbX) | ((with_reducible refine And.intro ?_ ?_); omega)))
  all_goals try (exfalso; omega)
  all_goals try (exfalso; simp_all; done)
  refine LpE_rule (fun m fr H' nx' => ∃ k : Nat, m = ls.length - k + 1 ∧ k ≤ ls.length ∧ fr 0 = .slice A ls.length c ∧ fr 1 = .slice B ls.length d ∧ fr 5 = .int .i64 k ∧ Sub H H' ∧ nx ≤ nx') ?_ ?_ (ls.length + 1) ?_
  · rintro m K hK fr H' nx' ⟨k, hmm, hk, f0, f1, f5, hs, hx⟩
    simp (disch := omega) only [bsW, WOp, WOq, WV, bo, gdc, gw, bnd, ↓reduceIte, Nat.reduceEqDiff, rsvs, rsv, oneOf, rdN, ne_eq, Nat.reduceAdd, Nat.reduceMul, Nat.reduceLT, reduceCtorEq, Value.cells, setN, Value.oneCell', Nat.reduceLeDiff, undef, fcT, f0, f1, f5]
    refine gif_split (fun b1 => ?_) (fun b1 => ?_)
    · have hlt : k < ls.length := by simpa using b1
      obtain ⟨b, off, Q, dQ, rfl, c0, hd, hR⟩ := (h.sub hs).at_ hlt
      obtain ⟨b', off', Q', dQ', rfl, d0, hd', hR'⟩ := (h'.sub hs).at_ hlt
      simp (disch := omega) only [bsW, WOp, WOq, WV, bo, gdc, gw, bnd, ↓reduceIte, Nat.reduceEqDiff, rsvs, rsv, oneOf, rdN, ne_eq, Nat.reduceAdd, Nat.reduceMul, Nat.reduceLT, reduceCtorEq, Value.cells, setN, Value.oneCell', Nat.reduceLeDiff, undef, fcT, f0, f1, f5, c0, d0, Nat.mul_one, b1]
      (repeat' (first | ((with_reducible refine gif_split (fun hs_ => ?_) (fun hs_ => ?_)) <;> (have hp_ := hs_; (try simp only [hpL, ne_eq] at hp_); (try simp (disch := omega) only [bsW, WOp, WOq, WV, bo, gdc, gw, bnd, ↓reduceIte, Nat.reduceEqDiff, rsvs, rsv, oneOf, rdN, ne_eq, Nat.reduceAdd, Nat.reduceMul, Nat.reduceLT, reduceCtorEq, Value.cells, setN, Value.oneCell', Nat.reduceLeDiff, undef, fcT, f0, f1, f5, c0, d0, Nat.mul_one, hs_]))) | ((first | (with_reducible refine newB_i (fun nb_ hb_ => ?_)) | ((with_reducible show QC _ _ _ _ _ _); (first | (refine QC_i (eqIntS _ _ _ _ _ _ _ _ (hm k hlt) hR hR') ?_))) | ((with_reducible show AC _ _ _ _ _ _); (first | (refine PC.ac (eqIntS _ _ _ _ _ _ _ _ (hm k hlt) hR hR') ?_))) | (with_reducible refine RgE_i (fun (hBd_ : Bd _ _) => ?_))); (try simp (disch := omega) only [bsW, WOp, WOq, WV, bo, gdc, gw, bnd, ↓reduceIte, Nat.reduceEqDiff, rsvs, rsv, oneOf, rdN, ne_eq, Nat.reduceAdd, Nat.reduceMul, Nat.reduceLT, reduceCtorEq, Value.cells, setN, Value.oneCell', Nat.reduceLeDiff, undef, fcT, f0, f1, f5, c0, d0, Nat.mul_one])) | (with_reducible refine fun (hBd_ : Bd _ _) => ?_) | ((first | (with_reducible refine @And.intro (Sub _ _) _ ?_ ?_) | ((with_reducible refine @And.intro (Sub _ _ ∧ _) _ ?_ ?_); (with_reducible refine @And.intro (Sub _ _) _ ?_ ?_))); exact sbX) | ((with_reducible refine And.intro ?_ ?_); omega)))
      all_goals try (exfalso; simp_all; done)
      refine hK _ _ _ ?_
      refine ⟨k + 1, by omega, by omega, by simp (disch := omega) only [bsW, ↓reduceIte, Nat.reduceEqDiff, ne_eq, reduceCtorEq, fcT, f0, f1, f5, c0, d0, Nat.mul_one], by simp (disch := omega) only [bsW, ↓reduceIte, Nat.reduceEqDiff, ne_eq, reduceCtorEq, fcT, f0, f1, f5, c0, d0, Nat.mul_one], by simp (disch := omega) only [bsW, ↓reduceIte, Nat.reduceEqDiff, ne_eq, reduceCtorEq, fcT, f0, f1, f5, c0, d0, Nat.mul_one, Int.natCast_add, Int.natCast_one], hs, by omega⟩
    · simp (disch := omega) only [bsW, WOp, WOq, WV, bo, gdc, gw, bnd, ↓reduceIte, Nat.reduceEqDiff, rsvs, rsv, oneOf, rdN, ne_eq, Nat.reduceAdd, Nat.reduceMul, Nat.reduceLT, reduceCtorEq, Value.cells, setN, Value.oneCell', Nat.reduceLeDiff, undef, fcT, f0, f1, f5, b1]
      exact Is_i hs
  · rintro fr H' nx' ⟨k, hmm, _⟩; omega
  · exact ⟨0, by omega, by omega, by simp (disch := omega) only [bsW, ↓reduceIte, Nat.reduceEqDiff, ne_eq, reduceCtorEq, fcT], by simp (disch := omega) only [bsW, ↓reduceIte, Nat.reduceEqDiff, ne_eq, reduceCtorEq, fcT], by simp (disch := omega) only [bsW, ↓reduceIte, Nat.reduceEqDiff, ne_eq, reduceCtorEq, fcT, Int.natCast_zero], Sub.refl _, by omega⟩
theorem eqLLO (v w : Value) (ls : List (List Int)) (lo hi lo2 hi2 : Nat) (H : Hp) (nx : Nat) (hn : ls.length ≤ 17592186044416) (hm : ∀ i, i < ls.length → (rowOf ls i).length ≤ 17592186044416) (h : OwnLL H lo hi ls 23 3 v) (h' : OwnLL H lo2 hi2 ls 23 3 w) :
    PC Try.prog 21 #[v, w] H nx (.bool true) := by
  obtain ⟨A, c, rfl, _, hR⟩ := h.rd
  obtain ⟨A2, c2, rfl, _, hR2⟩ := h'.rd
  exact eqLL A A2 c c2 ls H nx hn hm hR hR2

theorem Marked.ownI {H : Hp} {lo hi n k : Nat} {f : Nat → Nat → Int} {t : Int} {ty : TypeId} {v r : Value} {H' : Hp} {nx' : Nat} (ho : OwnR H lo hi n k f ty v) (h : Marked H lo n k t ty v r H' nx') : OwnR H' lo hi n k (mks t k) ty v := by
  rcases h.own.ex with ⟨rfl, rfl⟩ | ⟨b, cap, sp, rfl, h1, h2, h3⟩
  · exact .nil
  · have := ho.blk (show some b = ownBlk (.slice (some ⟨b, 0, none⟩) n cap) from rfl)
    exact ⟨.inr ⟨b, cap, sp, rfl, h1, this.2, h3⟩⟩
theorem markIntI (v : Value) (n : Nat) (f : Nat → Nat → Int) (t : Int) (lo hi : Nat) (H : Hp) (nx : Nat) (hn : n ≤ 1048576) (ht : 0 ≤ t ∧ t ≤ 1099511627776) (ho : OwnR H lo hi n 1 f 3 v) (hhi : hi ≤ nx) :
    AC Try.prog 27 #[v, .int .i64 t] H nx (MarkI (fun H' => OwnR H' lo hi n 1 (mks t 1) 3 v) H lo hi nx (.int .i64 (t + n * 1))) :=
  (markIntS v n f t lo H nx hn ht (ho.sub (Sub.refl _) hhi)).mono2 fun r H' nx' hx h => markI_of ho hhi h
def mixLL (ls : List (List Int)) (t k i : Nat) : List Int := if i < k then rowOf (markLL ls t) i else rowOf ls i
theorem mixLL_len {ls : List (List Int)} {t k i : Nat} (h : i < ls.length) : (mixLL ls t k i).length = (rowOf ls i).length := by
  unfold mixLL; split
  · exact markLL_rlen h
  · rfl
theorem markLLI (v : Value) (ls : List (List Int)) (t : Nat) (lo hi : Nat) (H : Hp) (nx : Nat) (hn : ls.length ≤ 1048576) (hm : ∀ i, i < ls.length → (rowOf ls i).length ≤ 1048576) (hL : llLen ls ls.length ≤ 4194304) (ht : t ≤ 1048576) (ho : OwnLL H lo hi ls 23 3 v) (hhi : hi ≤ nx) :
    AC Try.prog 23 #[v, .int .i64 t] H nx (MarkI (fun H' => OwnLL H' lo hi (markLL ls t) 23 3 v) H lo hi nx (.int .i64 (t + (llLen ls ls.length : Nat)))) := by
  rcases ho.ex with ⟨rfl, rfl⟩ | ⟨b, cap, sp, B, d, rfl, h1, h2, h3, h4, h5, h6, h7, h8⟩
  · refine AC_of x_laws_markIntSS rfl fun hB => ?_
    simp (disch := omega) only [bsW, WOp, WOq, WV, bo, gdc, gw, bnd, ↓reduceIte, Nat.reduceEqDiff, rsvs, rsv, oneOf, rdN, ne_eq, Nat.reduceAdd, Nat.reduceMul, Nat.reduceLT, reduceCtorEq, Value.cells, setN, Value.oneCell', Nat.reduceLeDiff, undef, fcT, c_laws_markIntSS]
    refine LpE_rule (fun mm fr H' nx' => mm = 1 ∧ fr 0 = .slice none 0 0 ∧ fr 1 = .int .i64 t ∧ fr 5 = .int .i64 0 ∧ H' = H ∧ nx' = nx) ?_ ?_ 1 ?_
    · rintro mm K hK fr H' nx' ⟨hmm, f0, f1, f5, rfl, rfl⟩
      simp (disch := omega) only [bsW, WOp, WOq, WV, bo, gdc, gw, bnd, ↓reduceIte, Nat.reduceEqDiff, rsvs, rsv, oneOf, rdN, ne_eq, Nat.reduceAdd, Nat.reduceMul, Nat.reduceLT, reduceCtorEq, Value.cells, setN, Value.oneCell', Nat.reduceLeDiff, undef, fcT, f0, f1, f5]
      (repeat' (first | ((with_reducible refine gif_split (fun hs_ => ?_) (fun hs_ => ?_)) <;> (have hp_ := hs_; (try simp only [hpL, ne_eq] at hp_); (try simp (disch := omega) only [bsW, WOp, WOq, WV, bo, gdc, gw, bnd, ↓reduceIte, Nat.reduceEqDiff, rsvs, rsv, oneOf, rdN, ne_eq, Nat.reduceAdd, Nat.reduceMul, Nat.reduceLT, reduceCtorEq, Value.cells, setN, Value.oneCell', Nat.reduceLeDiff, undef, fcT, f0, f1, f5, hs_]))) | ((first | (with_reducible refine newB_i (fun nb_ hb_ => ?_)) | (with_reducible refine RgE_i (fun (hBd_ : Bd _ _) => ?_))); (try simp (disch := omega) only [bsW, WOp, WOq, WV, bo, gdc, gw, bnd, ↓reduceIte, Nat.reduceEqDiff, rsvs, rsv, oneOf, rdN, ne_eq, Nat.reduceAdd, Nat.reduceMul, Nat.reduceLT, reduceCtorEq, Value.cells, setN, Value.oneCell', Nat.reduceLeDiff, undef, fcT, f0, f1, f5])) | (with_reducible refine fun (hBd_ : Bd _ _) => ?_) | ((first | (with_reducible refine @And.intro (Sub _ _) _ ?_ ?_) | ((with_reducible refine @And.intro (Sub _ _ ∧ _) _ ?_ ?_); (with_reducible refine @And.intro (Sub _ _) _ ?_ ?_))); exact sbX) | ((with_reducible refine And.intro ?_ ?_); omega)))
      all_goals try (exfalso; omega)
      exact ⟨vi (by simp [llLen]), .nil, fun c _ _ => rfl⟩
    · rintro fr H' nx' ⟨hmm, _⟩; omega
    · exact ⟨rfl, by simp (disch := omega) only [bsW, ↓reduceIte, Nat.reduceEqDiff, ne_eq, reduceCtorEq, fcT], by simp (disch := omega) only [bsW, ↓reduceIte, Nat.reduceEqDiff, ne_eq, reduceCtorEq, fcT], by simp (disch := omega) only [bsW, ↓reduceIte, Nat.reduceEqDiff, ne_eq, reduceCtorEq, fcT], rfl, rfl⟩
  · have hBi : ∀ i, i < ls.length → lo ≤ B i ∧ B i < hi := fun i hi' => OwnR.blk (h7 i hi').2 rfl
    refine AC_of x_laws_markIntSS rfl fun hB => ?_
    simp (disch := omega) only [bsW, WOp, WOq, WV, bo, gdc, gw, bnd, ↓reduceIte, Nat.reduceEqDiff, rsvs, rsv, oneOf, rdN, ne_eq, Nat.reduceAdd, Nat.reduceMul, Nat.reduceLT, reduceCtorEq, Value.cells, setN, Value.oneCell', Nat.reduceLeDiff, undef, fcT, c_laws_markIntSS]
    refine LpB_rule (fun mm fr H' nx' => ∃ k : Nat, mm = ls.length - k + 1 ∧ k ≤ ls.length ∧ fr 0 = .slice (some ⟨b, 0, none⟩) ls.length cap ∧ fr 1 = .int .i64 ((t + llLen ls k : Nat) : Int) ∧ fr 5 = .int .i64 k ∧ nx ≤ nx' ∧
      H' b = some (.rw (flatV ls.length 1 (rowsV ls (fun i => some ⟨B i, 0, none⟩) d) ++ sp) 23) ∧ (∀ i, i < ls.length → OwnR H' lo hi (rowOf ls i).length 1 (rowL (mixLL ls t k i)) 3 (.slice (some ⟨B i, 0, none⟩) (rowOf ls i).length (d i))) ∧
      (∀ c, c < nx → ¬ (lo ≤ c ∧ c < hi) → H' c = H c)) ?_ ?_ (ls.length + 1) ?_
    · rintro mm K hK fr H' nx' hB' ⟨k, hmm, hk, f0, f1, f5, hx, hb, hI, hoth⟩
      simp (disch := omega) only [bsW, WOp, WOq, WV, bo, gdc, gw, bnd, ↓reduceIte, Nat.reduceEqDiff, rsvs, rsv, oneOf, rdN, ne_eq, Nat.reduceAdd, Nat.reduceMul, Nat.reduceLT, reduceCtorEq, Value.cells, setN, Value.oneCell', Nat.reduceLeDiff, undef, fcT, f0, f1, f5]
      refine gif_split (fun b1 => ?_) (fun b1 => ?_)
      · have hlt : k < ls.length := by simpa using b1
        have hL1 : llLen ls (k + 1) = llLen ls k + (rowOf ls k).length := rfl
        have hL2 := llLen_mono (ls := ls) (show k + 1 ≤ ls.length by omega)
        obtain ⟨hbk1, hbk2⟩ := hBi k hlt
        have hne := (h7 k hlt).1
        have c0 : rd H' b k = some (.slice (some ⟨B k, 0, none⟩) (rowOf ls k).length (d k)) := by
          rw [rd_rw hb]
          have := flatV_get (n := ls.length) (k := 1) (g := rowsV ls (fun i => some ⟨B i, 0, none⟩) d) hlt (show 0 < 1 by omega)
          rw [Nat.mul_one, Nat.add_zero] at this
          rw [List.getElem?_append_left (by rw [flatV_length]; omega), this]
          rfl
        simp (disch := omega) only [bsW, WOp, WOq, WV, bo, gdc, gw, bnd, ↓reduceIte, Nat.reduceEqDiff, rsvs, rsv, oneOf, rdN, ne_eq, Nat.reduceAdd, Nat.reduceMul, Nat.reduceLT, reduceCtorEq, Value.cells, setN, Value.oneCell', Nat.reduceLeDiff, undef, fcT, f0, f1, f5, c0, Nat.mul_one, b1]
        (repeat' (first | ((with_reducible refine gif_split (fun hs_ => ?_) (fun hs_ => ?_)) <;> (have hp_ := hs_; (try simp only [hpL, ne_eq] at hp_); (try simp (disch := omega) only [bsW, WOp, WOq, WV, bo, gdc, gw, bnd, ↓reduceIte, Nat.reduceEqDiff, rsvs, rsv, oneOf, rdN, ne_eq, Nat.reduceAdd, Nat.reduceMul, Nat.reduceLT, reduceCtorEq, Value.cells, setN, Value.oneCell', Nat.reduceLeDiff, undef, fcT, f0, f1, f5, c0, Nat.mul_one, hs_]))) | ((first | (with_reducible refine newB_i (fun nb_ hb_ => ?_)) | (with_reducible refine RgE_i (fun (hBd_ : Bd _ _) => ?_))); (try simp (disch := omega) only [bsW, WOp, WOq, WV, bo, gdc, gw, bnd, ↓reduceIte, Nat.reduceEqDiff, rsvs, rsv, oneOf, rdN, ne_eq, Nat.reduceAdd, Nat.reduceMul, Nat.reduceLT, reduceCtorEq, Value.cells, setN, Value.oneCell', Nat.reduceLeDiff, undef, fcT, f0, f1, f5, c0, Nat.mul_one])) | (with_reducible refine fun (hBd_ : Bd _ _) => ?_) | ((first | (with_reducible refine @And.intro (Sub _ _) _ ?_ ?_) | ((with_reducible refine @And.intro (Sub _ _ ∧ _) _ ?_ ?_); (with_reducible refine @And.intro (Sub _ _) _ ?_ ?_))); exact sbX) | ((with_reducible refine And.intro ?_ ?_); omega)))
        all_goals try (exfalso; omega)
        refine (markIntS _ (rowOf ls k).length _ ((t + llLen ls k : Nat) : Int) lo _ _ (hm k hlt) (by omega) (OwnR.sub (hI k hlt) (Sub.refl _) (by omega))).mono2 ?_
        rintro r2 H2 nx2 hx2 hM
        obtain ⟨rfl, _, hoth2⟩ := id hM
        have own2 := Marked.ownI (hI k hlt) hM
        simp (disch := omega) only [bsW, WOp, WOq, WV, bo, gdc, gw, bnd, ↓reduceIte, Nat.reduceEqDiff, rsvs, rsv, oneOf, rdN, ne_eq, Nat.reduceAdd, Nat.reduceMul, Nat.reduceLT, reduceCtorEq, Value.cells, setN, Value.oneCell', Nat.reduceLeDiff, undef, fcT, f0, f1, f5]
        refine hK _ _ _ ?_
        refine ⟨k + 1, by omega, by omega, by simp (disch := omega) only [bsW, ↓reduceIte, Nat.reduceEqDiff, ne_eq, reduceCtorEq, fcT, f0, f1, f5], ?_, by simp (disch := omega) only [bsW, ↓reduceIte, Nat.reduceEqDiff, ne_eq, reduceCtorEq, fcT, f0, f1, f5, Int.natCast_add, Int.natCast_one], by omega, ?_, fun i hi' => ?_, fun c hc hn' => ?_⟩
        · simp (disch := omega) only [bsW, WOp, WOq, WV, bo, gdc, gw, bnd, ↓reduceIte, Nat.reduceEqDiff, rsvs, rsv, oneOf, rdN, ne_eq, Nat.reduceAdd, Nat.reduceMul, Nat.reduceLT, reduceCtorEq, Value.cells, setN, Value.oneCell', Nat.reduceLeDiff, undef, fcT, f0, f1, f5]
          exact vi (by omega)
        · rw [hoth2 b (fun e => by cases e; exact hne rfl)]
          exact hb
        · by_cases hik : i = k
          · subst hik
            refine own2.congr fun q j hq hj => ?_
            have hj0 : j = 0 := by omega
            subst hj0
            unfold mixLL
            rw [if_pos (by omega), markLL_get hi' hq]
            simp only [mks]
            omega
          · have e : mixLL ls t (k + 1) i = mixLL ls t k i := by
              unfold mixLL
              by_cases h : i < k
              · rw [if_pos h, if_pos (by omega)]
              · rw [if_neg h, if_neg (by omega)]
            rw [e]
            exact OwnR.keep (hI i hi') (fun c hc => by
              cases hc
              rw [hoth2 (B i) (fun e => h8 i k hi' hlt hik (by simpa [ownBlk] using e))]) (Nat.le_refl _)
        · rw [hoth2 c (fun e => by cases e; exact hn' ⟨hbk1, hbk2⟩)]
          exact hoth c hc hn'
      · have hkn : k = ls.length := by simp at b1; omega
        subst hkn
        simp (disch := omega) only [bsW, WOp, WOq, WV, bo, gdc, gw, bnd, ↓reduceIte, Nat.reduceEqDiff, rsvs, rsv, oneOf, rdN, ne_eq, Nat.reduceAdd, Nat.reduceMul, Nat.reduceLT, reduceCtorEq, Value.cells, setN, Value.oneCell', Nat.reduceLeDiff, undef, fcT, f0, f1, f5, b1]
        refine ⟨vi (by omega), ⟨.inr ⟨b, cap, sp, B, d, by rw [markLL_len], h1, h2, by rw [markLL_len]; exact h3, h4, by rw [markLL_len]; exact h5, ?_, fun i hi' => ?_, fun i j hi' hj' => ?_⟩⟩, hoth⟩
        · rw [hb, markLL_len]
          congr 3
          refine flatV_congr fun i j hi' hj => ?_
          unfold rowsV
          rw [markLL_rlen hi']
        · rw [markLL_len] at hi'
          refine ⟨(h7 i hi').1, ?_⟩
          have := hI i hi'
          unfold mixLL at this
          rw [if_pos hi'] at this
          unfold OwnL
          rw [markLL_rlen hi']
          exact this
        · rw [markLL_len] at hi' hj'
          exact h8 i j hi' hj'
    · rintro fr H' nx' ⟨k, hmm, _⟩; omega
    · refine ⟨0, by omega, by omega, by simp (disch := omega) only [bsW, ↓reduceIte, Nat.reduceEqDiff, ne_eq, reduceCtorEq, fcT], by simp (disch := omega) only [bsW, ↓reduceIte, Nat.reduceEqDiff, ne_eq, reduceCtorEq, fcT, llLen, Nat.add_zero], by simp (disch := omega) only [bsW, ↓reduceIte, Nat.reduceEqDiff, ne_eq, reduceCtorEq, fcT, Int.natCast_zero], by omega, h6, fun i hi' => ?_, fun c _ _ => rfl⟩
      have := (h7 i hi').2
      unfold mixLL
      rw [if_neg (by omega)]
      exact this
theorem heldLLO (v : Value) (ls : List (List Int)) (t : Nat) (lo hi : Nat) (H : Hp) (nx : Nat) (hn : ls.length ≤ 1048576) (hm : ∀ i, i < ls.length → (rowOf ls i).length ≤ 1048576) (hL : llLen ls ls.length ≤ 4194304) (ht : t ≤ 1048576) (ho : OwnLL H lo hi (markLL ls t) 23 3 v) :
    PC Try.prog 24 #[v, .int .i64 t] H nx (.int .i64 (t + (llLen ls ls.length : Nat))) := by
  obtain ⟨A, c, rfl, hc, hR⟩ := ho.rd
  rw [markLL_len] at hc ⊢
  refine AC_of x_laws_heldIntSS rfl fun hB => ?_
  simp (disch := omega) only [bsW, WOp, WOq, WV, bo, gdc, gw, bnd, ↓reduceIte, Nat.reduceEqDiff, rsvs, rsv, oneOf, rdN, ne_eq, Nat.reduceAdd, Nat.reduceMul, Nat.reduceLT, reduceCtorEq, Value.cells, setN, Value.oneCell', Nat.reduceLeDiff, undef, fcT, c_laws_heldIntSS]
  refine LpB_rule (fun mm fr H' nx' => ∃ k : Nat, mm = ls.length - k + 1 ∧ k ≤ ls.length ∧ fr 0 = .slice A ls.length c ∧ fr 1 = .int .i64 ((t + llLen ls k : Nat) : Int) ∧ fr 5 = .int .i64 k ∧ nx ≤ nx' ∧ Sub H H') ?_ ?_ (ls.length + 1) ?_
  · rintro mm K hK fr H' nx' hB' ⟨k, hmm, hk, f0, f1, f5, hx, hs⟩
    simp (disch := omega) only [bsW, WOp, WOq, WV, bo, gdc, gw, bnd, ↓reduceIte, Nat.reduceEqDiff, rsvs, rsv, oneOf, rdN, ne_eq, Nat.reduceAdd, Nat.reduceMul, Nat.reduceLT, reduceCtorEq, Value.cells, setN, Value.oneCell', Nat.reduceLeDiff, undef, fcT, f0, f1, f5]
    refine gif_split (fun b1 => ?_) (fun b1 => ?_)
    · have hlt : k < ls.length := by simpa using b1
      have hL1 : llLen ls (k + 1) = llLen ls k + (rowOf ls k).length := rfl
      have hL2 := llLen_mono (ls := ls) (show k + 1 ≤ ls.length by omega)
      obtain ⟨b, off, Q, d, rfl, c0, hd, hRk⟩ := (hR.sub hs).at_ (k := k) (by rw [markLL_len]; exact hlt)
      rw [markLL_rlen hlt] at c0
      have hRk : Rd H' Q (rowOf ls k).length 1 (mks ((t + llLen ls k : Nat) : Int) 1) := by
        unfold RdL at hRk
        rw [markLL_rlen hlt] at hRk
        refine hRk.congr fun q j hq hj => ?_
        have hj0 : j = 0 := by omega
        subst hj0
        rw [markLL_get hlt hq]
        simp only [mks]
        omega
      simp (disch := omega) only [bsW, WOp, WOq, WV, bo, gdc, gw, bnd, ↓reduceIte, Nat.reduceEqDiff, rsvs, rsv, oneOf, rdN, ne_eq, Nat.reduceAdd, Nat.reduceMul, Nat.reduceLT, reduceCtorEq, Value.cells, setN, Value.oneCell', Nat.reduceLeDiff, undef, fcT, f0, f1, f5, c0, Nat.mul_one, b1]
      (repeat' (first | ((with_reducible refine gif_split (fun hs_ => ?_) (fun hs_ => ?_)) <;> (have hp_ := hs_; (try simp only [hpL, ne_eq] at hp_); (try simp (disch := omega) only [bsW, WOp, WOq, WV, bo, gdc, gw, bnd, ↓reduceIte, Nat.reduceEqDiff, rsvs, rsv, oneOf, rdN, ne_eq, Nat.reduceAdd, Nat.reduceMul, Nat.reduceLT, reduceCtorEq, Value.cells, setN, Value.oneCell', Nat.reduceLeDiff, undef, fcT, f0, f1, f5, c0, Nat.mul_one, hs_]))) | ((first | (with_reducible refine newB_i (fun nb_ hb_ => ?_)) | ((with_reducible show QC _ _ _ _ _ _); (first | (refine QC_i (heldIntS Q (rowOf ls k).length d _ _ _ (hm k hlt) (by omega) hRk) ?_))) | ((with_reducible show AC _ _ _ _ _ _); (first | (refine PC.ac (heldIntS Q (rowOf ls k).length d _ _ _ (hm k hlt) (by omega) hRk) ?_))) | (with_reducible refine RgE_i (fun (hBd_ : Bd _ _) => ?_))); (try simp (disch := omega) only [bsW, WOp, WOq, WV, bo, gdc, gw, bnd, ↓reduceIte, Nat.reduceEqDiff, rsvs, rsv, oneOf, rdN, ne_eq, Nat.reduceAdd, Nat.reduceMul, Nat.reduceLT, reduceCtorEq, Value.cells, setN, Value.oneCell', Nat.reduceLeDiff, undef, fcT, f0, f1, f5, c0, Nat.mul_one])) | (with_reducible refine fun (hBd_ : Bd _ _) => ?_) | ((first | (with_reducible refine @And.intro (Sub _ _) _ ?_ ?_) | ((with_reducible refine @And.intro (Sub _ _ ∧ _) _ ?_ ?_); (with_reducible refine @And.intro (Sub _ _) _ ?_ ?_))); exact sbX) | ((with_reducible refine And.intro ?_ ?_); omega)))
      all_goals try (exfalso; omega)
      all_goals try (exfalso; omega)
      refine hK _ _ _ ?_
      exact ⟨k + 1, by omega, by omega, by simp (disch := omega) only [bsW, ↓reduceIte, Nat.reduceEqDiff, ne_eq, reduceCtorEq, fcT, f0, f1, f5, c0, Nat.mul_one], (by simp (disch := omega) only [bsW, ↓reduceIte, Nat.reduceEqDiff, ne_eq, reduceCtorEq, fcT, f0, f1, f5, c0, Nat.mul_one]; exact vi (by omega)), by simp (disch := omega) only [bsW, ↓reduceIte, Nat.reduceEqDiff, ne_eq, reduceCtorEq, fcT, f0, f1, f5, c0, Nat.mul_one, Int.natCast_add, Int.natCast_one], by omega, hs⟩
    · have hkn : k = ls.length := by simp at b1; omega
      subst hkn
      simp (disch := omega) only [bsW, WOp, WOq, WV, bo, gdc, gw, bnd, ↓reduceIte, Nat.reduceEqDiff, rsvs, rsv, oneOf, rdN, ne_eq, Nat.reduceAdd, Nat.reduceMul, Nat.reduceLT, reduceCtorEq, Value.cells, setN, Value.oneCell', Nat.reduceLeDiff, undef, fcT, f0, f1, f5, b1]
      exact Is_e (vi (by omega)) hs
  · rintro fr H' nx' ⟨k, hmm, _⟩; omega
  · exact ⟨0, by omega, by omega, by simp (disch := omega) only [bsW, ↓reduceIte, Nat.reduceEqDiff, ne_eq, reduceCtorEq, fcT], by simp (disch := omega) only [bsW, ↓reduceIte, Nat.reduceEqDiff, ne_eq, reduceCtorEq, fcT, llLen, Nat.add_zero], by simp (disch := omega) only [bsW, ↓reduceIte, Nat.reduceEqDiff, ne_eq, reduceCtorEq, fcT, Int.natCast_zero], by omega, Sub.refl _⟩
end Go.Proofs.Ytnaldmmdhpobgaa
