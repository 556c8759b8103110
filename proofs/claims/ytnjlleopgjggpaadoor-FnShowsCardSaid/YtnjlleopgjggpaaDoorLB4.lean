/- The law FnShows: the call gives true; the card. -/
import Derived.Test.YtnjlleopgjggpaaDoorPX3
import Derived.Test.YtnjlleopgjggpaaDoorPU9
import Derived.Test.YtnjlleopgjggpaaDoorR13
import Derived.Test.YtnjlleopgjggpaaDoorR7
import Derived.Test.YtnjlleopgjggpaaDoorR2
import Derived.Test.YtnjlleopgjggpaaDoorE7
import Derived.Test.YtnjlleopgjggpaaDoorRows
import Derived.Test.YtnjlleopgjggpaaDoorCards
import Derived.Test.YtnjlleopgjggpaaDoorTie
set_option linter.unusedVariables false
set_option linter.unusedSimpArgs false
set_option maxRecDepth 100000
set_option maxHeartbeats 8000000
namespace Go.Proofs.YtnjlleopgjggpaaDoor
open Go Go.RowKit Go.Proofs Go.ChangeShapes Go.WideShapes Go.ChangeAt
theorem rInts (A B : Option Addr) (n c d : Nat) (f : Nat → Nat → Int) (H : Hp) (nx : Nat) (hn : n ≤ 17592186044416) (h : Rd H A n 1 f) (h' : Rd H B n 1 f) :
    PC Tryd.prog 12 #[.slice A n c, .slice B n d] H nx (.bool true) := by
  refine AC_of x_laws_rInts rfl fun hB => ?_
  simp (disch := omega) only [bsW, WOp, WOq, WV, bo, eqN, gdc, gw, bnd, ↓reduceIte, Nat.reduceEqDiff, rsvs, rsv, oneOf, rdN, ne_eq, Nat.reduceAdd, Nat.reduceMul, Nat.reduceLT, reduceCtorEq, Value.cells, setN, Value.oneCell', Nat.reduceLeDiff, undef, fcT, c_laws_rInts]
  refine LpE_rule (fun m fr H' nx' => ∃ k : Nat, m = n - k + 1 ∧ k ≤ n ∧ fr 0 = .slice A n c ∧ fr 1 = .slice B n d ∧ fr 5 = .int .i64 k ∧ Sub H H' ∧ nx ≤ nx') ?_ ?_ (n + 1) ?_
  · rintro m K hK fr H' nx' ⟨k, hm, hk, f0, f1, f5, hs, hx⟩
    simp (disch := omega) only [bsW, WOp, WOq, WV, bo, eqN, gdc, gw, bnd, ↓reduceIte, Nat.reduceEqDiff, rsvs, rsv, oneOf, rdN, ne_eq, Nat.reduceAdd, Nat.reduceMul, Nat.reduceLT, reduceCtorEq, Value.cells, setN, Value.oneCell', Nat.reduceLeDiff, undef, fcT, f0, f1, f5]
    refine gif_split (fun b1 => ?_) (fun b1 => ?_)
    · have hlt : k < n := by simpa using b1
      obtain ⟨b, off, rfl, hc⟩ := h.at_ (by omega)
      obtain ⟨b', off', rfl, hc'⟩ := h'.at_ (by omega)
      have c0 := rd_sub hs (hc k 0 hlt (by omega))
      have e0 := rd_sub hs (hc' k 0 hlt (by omega))
      simp only [Nat.add_zero] at c0 e0
      simp (disch := omega) only [bsW, WOp, WOq, WV, bo, eqN, gdc, gw, bnd, ↓reduceIte, Nat.reduceEqDiff, rsvs, rsv, oneOf, rdN, ne_eq, Nat.reduceAdd, Nat.reduceMul, Nat.reduceLT, reduceCtorEq, Value.cells, setN, Value.oneCell', Nat.reduceLeDiff, undef, fcT, f0, f1, f5, c0, e0, b1]
      (repeat' (first | ((with_reducible refine gif_split (fun hs_ => ?_) (fun hs_ => ?_)) <;> (have hp_ := hs_; (try simp only [hpL, ne_eq] at hp_); (try simp (disch := omega) only [bsW, WOp, WOq, WV, bo, eqN, gdc, gw, bnd, ↓reduceIte, Nat.reduceEqDiff, rsvs, rsv, oneOf, rdN, ne_eq, Nat.reduceAdd, Nat.reduceMul, Nat.reduceLT, reduceCtorEq, Value.cells, setN, Value.oneCell', Nat.reduceLeDiff, undef, fcT, f0, f1, f5, c0, e0, hs_]))) | ((first | (with_reducible refine newB_i (fun nb_ hb_ => ?_)) | (with_reducible refine RgE_i (fun (hBd_ : Bd _ _) => ?_))); (try simp (disch := omega) only [bsW, WOp, WOq, WV, bo, eqN, gdc, gw, bnd, ↓reduceIte, Nat.reduceEqDiff, rsvs, rsv, oneOf, rdN, ne_eq, Nat.reduceAdd, Nat.reduceMul, Nat.reduceLT, reduceCtorEq, Value.cells, setN, Value.oneCell', Nat.reduceLeDiff, undef, fcT, f0, f1, f5, c0, e0])) | (with_reducible refine fun (hBd_ : Bd _ _) => ?_) | ((first | (with_reducible refine @And.intro (Sub _ _) _ ?_ ?_) | ((with_reducible refine @And.intro (Sub _ _ ∧ _) _ ?_ ?_); (with_reducible refine @And.intro (Sub _ _) _ ?_ ?_))); exact sbX) | ((with_reducible refine And.intro ?_ ?_); omega)))
      refine hK _ _ _ ?_
      refine ⟨k + 1, by omega, by omega, by simp (disch := omega) only [bsW, ↓reduceIte, Nat.reduceEqDiff, ne_eq, reduceCtorEq, fcT, f0, f1, f5, c0, e0], by simp (disch := omega) only [bsW, ↓reduceIte, Nat.reduceEqDiff, ne_eq, reduceCtorEq, fcT, f0, f1, f5, c0, e0], by simp (disch := omega) only [bsW, ↓reduceIte, Nat.reduceEqDiff, ne_eq, reduceCtorEq, fcT, f0, f1, f5, c0, e0, Int.natCast_add, Int.natCast_one], hs, by omega⟩
    · simp (disch := omega) only [bsW, WOp, WOq, WV, bo, eqN, gdc, gw, bnd, ↓reduceIte, Nat.reduceEqDiff, rsvs, rsv, oneOf, rdN, ne_eq, Nat.reduceAdd, Nat.reduceMul, Nat.reduceLT, reduceCtorEq, Value.cells, setN, Value.oneCell', Nat.reduceLeDiff, undef, fcT, f0, f1, f5, b1]
      exact Is_i hs
  · rintro fr H' nx' ⟨k, hm, _⟩; omega
  · exact ⟨0, by omega, by omega, by simp (disch := omega) only [bsW, ↓reduceIte, Nat.reduceEqDiff, ne_eq, reduceCtorEq, fcT], by simp (disch := omega) only [bsW, ↓reduceIte, Nat.reduceEqDiff, ne_eq, reduceCtorEq, fcT], by simp (disch := omega) only [bsW, ↓reduceIte, Nat.reduceEqDiff, ne_eq, reduceCtorEq, fcT, Int.natCast_zero], Sub.refl _, by omega⟩
/-- What the last place was. -/
def lastOk (s : Shw) (m i : Nat) (last : Int) : Prop := last = 0 ∨ ∃ j, j + 1 = i ∧ last = plN s (rkF (betS s) m j) m
theorem sumF_bd {f : Nat → Int} : ∀ n, (∀ i, i < n → 0 ≤ f i ∧ f i ≤ 1000) → 0 ≤ sumF f n ∧ sumF f n ≤ 1000 * n
  | 0, _ => by simp [sumF]
  | n + 1, h => by
    have h1 := sumF_bd n (fun i hi => h i (by omega))
    have h2 := h n (by omega)
    simp only [sumF]
    omega
theorem rSum (A : Option Addr) (n c : Nat) (f : Nat → Nat → Int) (H : Hp) (nx : Nat) (hn : n ≤ 1000) (hb : ∀ i, i < n → 0 ≤ f i 0 ∧ f i 0 ≤ 1000) (h : Rd H A n 1 f) :
    PC Tryd.prog 50 #[.slice A n c] H nx (.int .i64 (sumF (fun j => f j 0) n)) := by
  refine AC_of x_laws_rSum rfl fun hB => ?_
  simp (disch := omega) only [bsW, WOp, WOq, WV, bo, eqN, gdc, gw, bnd, ↓reduceIte, Nat.reduceEqDiff, rsvs, rsv, oneOf, rdN, ne_eq, Nat.reduceAdd, Nat.reduceMul, Nat.reduceLT, reduceCtorEq, Value.cells, setN, Value.oneCell', Nat.reduceLeDiff, undef, fcT, c_laws_rSum]
  refine LpE_rule (fun m fr H' nx' => ∃ k : Nat, m = n - k + 1 ∧ k ≤ n ∧ fr 0 = .slice A n c ∧ fr 3 = .int .i64 (sumF (fun j => f j 0) k) ∧ fr 4 = .int .i64 k ∧ Sub H H' ∧ nx ≤ nx') ?_ ?_ (n + 1) ?_
  · rintro m K hK fr H' nx' ⟨k, hm, hk, f0, f3, f4, hs, hx⟩
    have hb1 := sumF_bd (f := fun j => f j 0) k (fun i hi => hb i (by omega))
    simp (disch := omega) only [bsW, WOp, WOq, WV, bo, eqN, gdc, gw, bnd, ↓reduceIte, Nat.reduceEqDiff, rsvs, rsv, oneOf, rdN, ne_eq, Nat.reduceAdd, Nat.reduceMul, Nat.reduceLT, reduceCtorEq, Value.cells, setN, Value.oneCell', Nat.reduceLeDiff, undef, fcT, f0, f3, f4]
    refine gif_split (fun b1 => ?_) (fun b1 => ?_)
    · have hlt : k < n := by simpa using b1
      obtain ⟨b, off, rfl, hc⟩ := h.at_ (by omega)
      have c0 := rd_sub hs (hc k 0 hlt (by omega))
      simp only [Nat.add_zero] at c0
      have hb2 := hb k hlt
      simp (disch := omega) only [bsW, WOp, WOq, WV, bo, eqN, gdc, gw, bnd, ↓reduceIte, Nat.reduceEqDiff, rsvs, rsv, oneOf, rdN, ne_eq, Nat.reduceAdd, Nat.reduceMul, Nat.reduceLT, reduceCtorEq, Value.cells, setN, Value.oneCell', Nat.reduceLeDiff, undef, fcT, f0, f3, f4, c0, b1]
      (repeat' (first | ((with_reducible refine gif_split (fun hs_ => ?_) (fun hs_ => ?_)) <;> (have hp_ := hs_; (try simp only [hpL, ne_eq] at hp_); (try simp (disch := omega) only [bsW, WOp, WOq, WV, bo, eqN, gdc, gw, bnd, ↓reduceIte, Nat.reduceEqDiff, rsvs, rsv, oneOf, rdN, ne_eq, Nat.reduceAdd, Nat.reduceMul, Nat.reduceLT, reduceCtorEq, Value.cells, setN, Value.oneCell', Nat.reduceLeDiff, undef, fcT, f0, f3, f4, c0, hs_]))) | ((first | (with_reducible refine newB_i (fun nb_ hb_ => ?_)) | (with_reducible refine RgE_i (fun (hBd_ : Bd _ _) => ?_))); (try simp (disch := omega) only [bsW, WOp, WOq, WV, bo, eqN, gdc, gw, bnd, ↓reduceIte, Nat.reduceEqDiff, rsvs, rsv, oneOf, rdN, ne_eq, Nat.reduceAdd, Nat.reduceMul, Nat.reduceLT, reduceCtorEq, Value.cells, setN, Value.oneCell', Nat.reduceLeDiff, undef, fcT, f0, f3, f4, c0])) | (with_reducible refine fun (hBd_ : Bd _ _) => ?_) | ((first | (with_reducible refine @And.intro (Sub _ _) _ ?_ ?_) | ((with_reducible refine @And.intro (Sub _ _ ∧ _) _ ?_ ?_); (with_reducible refine @And.intro (Sub _ _) _ ?_ ?_))); exact sbX) | ((with_reducible refine And.intro ?_ ?_); omega)))
      refine hK _ _ _ ?_
      refine ⟨k + 1, by omega, by omega, by simp (disch := omega) only [bsW, ↓reduceIte, Nat.reduceEqDiff, ne_eq, reduceCtorEq, fcT, f0, f3, f4, c0], by (simp (disch := omega) only [bsW, ↓reduceIte, Nat.reduceEqDiff, ne_eq, reduceCtorEq, fcT, f0, f3, f4, c0]) <;> rfl, by simp (disch := omega) only [bsW, ↓reduceIte, Nat.reduceEqDiff, ne_eq, reduceCtorEq, fcT, f0, f3, f4, c0, Int.natCast_add, Int.natCast_one], hs, by omega⟩
    · have hkn : k = n := by simp at b1; omega
      subst hkn
      simp (disch := omega) only [bsW, WOp, WOq, WV, bo, eqN, gdc, gw, bnd, ↓reduceIte, Nat.reduceEqDiff, rsvs, rsv, oneOf, rdN, ne_eq, Nat.reduceAdd, Nat.reduceMul, Nat.reduceLT, reduceCtorEq, Value.cells, setN, Value.oneCell', Nat.reduceLeDiff, undef, fcT, f0, f3, f4, b1]
      exact Is_i hs
  · rintro fr H' nx' ⟨k, hm, _⟩; omega
  · exact ⟨0, by omega, by omega, by simp (disch := omega) only [bsW, ↓reduceIte, Nat.reduceEqDiff, ne_eq, reduceCtorEq, fcT], by (simp (disch := omega) only [bsW, ↓reduceIte, Nat.reduceEqDiff, ne_eq, reduceCtorEq, fcT]) <;> rfl, by simp (disch := omega) only [bsW, ↓reduceIte, Nat.reduceEqDiff, ne_eq, reduceCtorEq, fcT, Int.natCast_zero], Sub.refl _, by omega⟩
theorem lawFnShows (A : Option Addr) (n c : Nat) (H : Hp) (nx : Nat) (gT : Nat) (tyT : TypeId) (hgT : gT = 0) (hT_ : H gT = some (.rw powCells tyT)) (hn : n ≤ 9223372036854775807) (hU : RdU H A n) :
    PC Tryd.prog 5 #[.slice A n c] H nx (.bool true) := by
  refine AC_of x_laws_FnShows rfl fun hB => ?_
  simp (disch := omega) only [bsW, WOp, WOq, WV, bo, eqN, gdc, gw, bnd, ↓reduceIte, Nat.reduceEqDiff, rsvs, rsv, oneOf, rdN, ne_eq, Nat.reduceAdd, Nat.reduceMul, Nat.reduceLT, reduceCtorEq, Value.cells, setN, Value.oneCell', Nat.reduceLeDiff, undef, fcT, c_laws_FnShows]
  (repeat' (first | ((with_reducible refine gif_split (fun hs_ => ?_) (fun hs_ => ?_)) <;> (have hp_ := hs_; (try simp only [hpL, ne_eq] at hp_); (try simp (disch := omega) only [bsW, WOp, WOq, WV, bo, eqN, gdc, gw, bnd, ↓reduceIte, Nat.reduceEqDiff, rsvs, rsv, oneOf, rdN, ne_eq, Nat.reduceAdd, Nat.reduceMul, Nat.reduceLT, reduceCtorEq, Value.cells, setN, Value.oneCell', Nat.reduceLeDiff, undef, fcT, hs_]))) | ((first | (with_reducible refine newB_i (fun nb_ hb_ => ?_)) | ((with_reducible show QC _ _ _ _ _ _); (first | (refine QC_i (rBig A n c _ _ hn) ?_))) | ((with_reducible show AC _ _ _ _ _ _); (first | (refine PC.ac (rBig A n c _ _ hn) ?_))) | (with_reducible refine RgE_i (fun (hBd_ : Bd _ _) => ?_))); (try simp (disch := omega) only [bsW, WOp, WOq, WV, bo, eqN, gdc, gw, bnd, ↓reduceIte, Nat.reduceEqDiff, rsvs, rsv, oneOf, rdN, ne_eq, Nat.reduceAdd, Nat.reduceMul, Nat.reduceLT, reduceCtorEq, Value.cells, setN, Value.oneCell', Nat.reduceLeDiff, undef, fcT])) | (with_reducible refine fun (hBd_ : Bd _ _) => ?_) | ((first | (with_reducible refine @And.intro (Sub _ _) _ ?_ ?_) | ((with_reducible refine @And.intro (Sub _ _ ∧ _) _ ?_ ?_); (with_reducible refine @And.intro (Sub _ _) _ ?_ ?_))); exact sbX) | ((with_reducible refine And.intro ?_ ?_); omega)))
  · exact Is_i (Sub.refl H)
  refine (DrawRankShow A n c H nx hn hU).monoC ?_
  rintro v1 H1 nx1 hB1 hx1 ⟨hs1, A1, m, c1, s, rfl, hm, hR⟩
  have hm20 := hm.1
  have hw := okS_sz hm
  (try (simp (disch := omega) only [bsW, WOp, WOq, WV, bo, eqN, gdc, gw, bnd, ↓reduceIte, Nat.reduceEqDiff, rsvs, rsv, oneOf, rdN, ne_eq, Nat.reduceAdd, Nat.reduceMul, Nat.reduceLT, reduceCtorEq, Value.cells, setN, Value.oneCell', Nat.reduceLeDiff, undef, fcT]))
  (repeat' (first | ((with_reducible refine gif_split (fun hs_ => ?_) (fun hs_ => ?_)) <;> (have hp_ := hs_; (try simp only [hpL, ne_eq] at hp_); (try simp (disch := omega) only [bsW, WOp, WOq, WV, bo, eqN, gdc, gw, bnd, ↓reduceIte, Nat.reduceEqDiff, rsvs, rsv, oneOf, rdN, ne_eq, Nat.reduceAdd, Nat.reduceMul, Nat.reduceLT, reduceCtorEq, Value.cells, setN, Value.oneCell', Nat.reduceLeDiff, undef, fcT, hs_]))) | ((first | (with_reducible refine newB_i (fun nb_ hb_ => ?_)) | (with_reducible refine RgE_i (fun (hBd_ : Bd _ _) => ?_))); (try simp (disch := omega) only [bsW, WOp, WOq, WV, bo, eqN, gdc, gw, bnd, ↓reduceIte, Nat.reduceEqDiff, rsvs, rsv, oneOf, rdN, ne_eq, Nat.reduceAdd, Nat.reduceMul, Nat.reduceLT, reduceCtorEq, Value.cells, setN, Value.oneCell', Nat.reduceLeDiff, undef, fcT])) | (with_reducible refine fun (hBd_ : Bd _ _) => ?_) | ((first | (with_reducible refine @And.intro (Sub _ _) _ ?_ ?_) | ((with_reducible refine @And.intro (Sub _ _ ∧ _) _ ?_ ?_); (with_reducible refine @And.intro (Sub _ _) _ ?_ ?_))); exact sbX) | ((with_reducible refine And.intro ?_ ?_); omega)))
  refine (RankShow A1 m c1 s H1 nx1 (by omega) hR hw).monoC ?_
  rintro v2 H2 nx2 hB2 hx2 ⟨w2, rfl, hO2, ht2⟩
  obtain ⟨A2, c2, rfl, hc2, hR2⟩ := hO2.rd
  (try (simp (disch := omega) only [bsW, WOp, WOq, WV, bo, eqN, gdc, gw, bnd, ↓reduceIte, Nat.reduceEqDiff, rsvs, rsv, oneOf, rdN, ne_eq, Nat.reduceAdd, Nat.reduceMul, Nat.reduceLT, reduceCtorEq, Value.cells, setN, Value.oneCell', Nat.reduceLeDiff, undef, fcT]))
  (repeat' (first | ((with_reducible refine gif_split (fun hs_ => ?_) (fun hs_ => ?_)) <;> (have hp_ := hs_; (try simp only [hpL, ne_eq] at hp_); (try simp (disch := omega) only [bsW, WOp, WOq, WV, bo, eqN, gdc, gw, bnd, ↓reduceIte, Nat.reduceEqDiff, rsvs, rsv, oneOf, rdN, ne_eq, Nat.reduceAdd, Nat.reduceMul, Nat.reduceLT, reduceCtorEq, Value.cells, setN, Value.oneCell', Nat.reduceLeDiff, undef, fcT, hs_]))) | ((first | (with_reducible refine newB_i (fun nb_ hb_ => ?_)) | (with_reducible refine RgE_i (fun (hBd_ : Bd _ _) => ?_))); (try simp (disch := omega) only [bsW, WOp, WOq, WV, bo, eqN, gdc, gw, bnd, ↓reduceIte, Nat.reduceEqDiff, rsvs, rsv, oneOf, rdN, ne_eq, Nat.reduceAdd, Nat.reduceMul, Nat.reduceLT, reduceCtorEq, Value.cells, setN, Value.oneCell', Nat.reduceLeDiff, undef, fcT])) | (with_reducible refine fun (hBd_ : Bd _ _) => ?_) | ((first | (with_reducible refine @And.intro (Sub _ _) _ ?_ ?_) | ((with_reducible refine @And.intro (Sub _ _ ∧ _) _ ?_ ?_); (with_reducible refine @And.intro (Sub _ _) _ ?_ ?_))); exact sbX) | ((with_reducible refine And.intro ?_ ?_); omega)))
  refine (sRankShow A1 m c1 s H2 nx2 (by omega) (hR.sub ht2) hw).monoC ?_
  rintro v3 H3 nx3 hB3 hx3 ⟨w3, rfl, hO3, ht3⟩
  obtain ⟨A3, c3, rfl, hc3, hR3⟩ := hO3.rd
  have hR2' := hR2.sub ht3
  have ht13 := ht2.trans ht3
  have hR' := hR.sub ht13
  have hs3 := hs1.trans ht13
  have hrn := rkN_le m s
  have hRI := rInts A2 A3 (rkN m s) c2 c3 (rkI m s) H3 nx3 (by omega) hR2' hR3
  have hP := fun (x : Int) => PlaceOf A1 m c1 s x H3 nx3 (by omega) hR' hw
  (try (simp (disch := omega) only [bsW, WOp, WOq, WV, bo, eqN, gdc, gw, bnd, ↓reduceIte, Nat.reduceEqDiff, rsvs, rsv, oneOf, rdN, ne_eq, Nat.reduceAdd, Nat.reduceMul, Nat.reduceLT, reduceCtorEq, Value.cells, setN, Value.oneCell', Nat.reduceLeDiff, undef, fcT, bne_self_eq_false]))
  (repeat' (first | ((with_reducible refine gif_split (fun hs_ => ?_) (fun hs_ => ?_)) <;> (have hp_ := hs_; (try simp only [hpL, ne_eq] at hp_); (try simp (disch := omega) only [bsW, WOp, WOq, WV, bo, eqN, gdc, gw, bnd, ↓reduceIte, Nat.reduceEqDiff, rsvs, rsv, oneOf, rdN, ne_eq, Nat.reduceAdd, Nat.reduceMul, Nat.reduceLT, reduceCtorEq, Value.cells, setN, Value.oneCell', Nat.reduceLeDiff, undef, fcT, bne_self_eq_false, hs_]))) | ((first | (with_reducible refine newB_i (fun nb_ hb_ => ?_)) | ((with_reducible show QC _ _ _ _ _ _); (first | (refine QC_i (hRI) ?_))) | ((with_reducible show AC _ _ _ _ _ _); (first | (refine PC.ac (hRI) ?_))) | (with_reducible refine RgE_i (fun (hBd_ : Bd _ _) => ?_))); (try simp (disch := omega) only [bsW, WOp, WOq, WV, bo, eqN, gdc, gw, bnd, ↓reduceIte, Nat.reduceEqDiff, rsvs, rsv, oneOf, rdN, ne_eq, Nat.reduceAdd, Nat.reduceMul, Nat.reduceLT, reduceCtorEq, Value.cells, setN, Value.oneCell', Nat.reduceLeDiff, undef, fcT, bne_self_eq_false])) | (with_reducible refine fun (hBd_ : Bd _ _) => ?_) | ((first | (with_reducible refine @And.intro (Sub _ _) _ ?_ ?_) | ((with_reducible refine @And.intro (Sub _ _ ∧ _) _ ?_ ?_); (with_reducible refine @And.intro (Sub _ _) _ ?_ ?_))); exact sbX) | ((with_reducible refine And.intro ?_ ?_); omega)))
  refine LpB_rule (fun mm fr H' nx' => ∃ (i : Nat) (last : Int), mm = rkN m s - i + 1 ∧ i ≤ rkN m s ∧ lastOk s m i last ∧ fr 0 = .slice A n c ∧ fr 3 = .slice A1 m c1 ∧ fr 4 = .slice A2 (rkN m s) c2 ∧ fr 5 = .bool (exsB m s) ∧ fr 8 = .int .i64 last ∧ fr 9 = .int .i64 i ∧ H' = H3 ∧ nx' = nx3) ?_ ?_ (rkN m s + 1) ?_
  · rintro mm K hK fr H' nx' hB' ⟨i, last, hmm, hi, hla, f0, f3, f4, f5, f8, f9, rfl, rfl⟩
    by_cases hlt : i < rkN m s
    · have hex : exsB m s = true := by
        cases e : exsB m s
        · have : rkN m s = 0 := if_neg (by rw [e]; simp)
          omega
        · rfl
      have hrm : rkN m s = m := if_pos hex
      have dl : decide ((i : Int) < (rkN m s : Int)) = true := decide_eq_true (by omega)
      obtain ⟨bq, oq, eQ, hq⟩ := hR2'.at_ (by omega)
      have q1 := hq i 0 hlt (by omega)
      rw [Nat.mul_one, Nat.add_zero] at q1
      have hPi := hP (rkI m s i 0)
      rw [vPlace_rank hex (by omega)] at hPi
      have hp1 := place_rank s m i (by omega)
      have hp2 : last ≤ plN s (rkF (betS s) m i) m := by
        rcases hla with rfl | ⟨j, hj, rfl⟩
        · omega
        · exact place_mono s m j i (by omega) (by omega)
      have hnew : lastOk s m (i + 1) (plN s (rkF (betS s) m i) m) := .inr ⟨i, rfl, rfl⟩
      generalize plN s (rkF (betS s) m i) m = p at *
      have e1 : decide (p < last) = false := decide_eq_false (by omega)
      have e2 : decide ((i : Int) + 1 < p) = false := decide_eq_false (by omega)
      by_cases hi0 : i = 0
      · have e3 : ((i : Int) == 0) = true := by simp [hi0]
        have e4 : (p != 1) = false := by
          have : p = 1 := by omega
          simp [this]
        (try (simp (disch := omega) only [bsW, WOp, WOq, WV, bo, eqN, gdc, gw, bnd, ↓reduceIte, Nat.reduceEqDiff, rsvs, rsv, oneOf, rdN, ne_eq, Nat.reduceAdd, Nat.reduceMul, Nat.reduceLT, reduceCtorEq, Value.cells, setN, Value.oneCell', Nat.reduceLeDiff, undef, fcT, f0, f3, f4, f5, f8, f9, dl, eQ, q1, e1, e2, e3, e4, Nat.mul_one]))
        (repeat' (first | ((with_reducible refine gif_split (fun hs_ => ?_) (fun hs_ => ?_)) <;> (have hp_ := hs_; (try simp only [hpL, ne_eq] at hp_); (try simp (disch := omega) only [bsW, WOp, WOq, WV, bo, eqN, gdc, gw, bnd, ↓reduceIte, Nat.reduceEqDiff, rsvs, rsv, oneOf, rdN, ne_eq, Nat.reduceAdd, Nat.reduceMul, Nat.reduceLT, reduceCtorEq, Value.cells, setN, Value.oneCell', Nat.reduceLeDiff, undef, fcT, f0, f3, f4, f5, f8, f9, dl, eQ, q1, e1, e2, e3, e4, Nat.mul_one, hs_]))) | ((first | (with_reducible refine newB_i (fun nb_ hb_ => ?_)) | ((with_reducible show QC _ _ _ _ _ _); (first | (refine QC_i (hPi) ?_))) | ((with_reducible show AC _ _ _ _ _ _); (first | (refine PC.ac (hPi) ?_))) | (with_reducible refine RgE_i (fun (hBd_ : Bd _ _) => ?_))); (try simp (disch := omega) only [bsW, WOp, WOq, WV, bo, eqN, gdc, gw, bnd, ↓reduceIte, Nat.reduceEqDiff, rsvs, rsv, oneOf, rdN, ne_eq, Nat.reduceAdd, Nat.reduceMul, Nat.reduceLT, reduceCtorEq, Value.cells, setN, Value.oneCell', Nat.reduceLeDiff, undef, fcT, f0, f3, f4, f5, f8, f9, dl, eQ, q1, e1, e2, e3, e4, Nat.mul_one])) | (with_reducible refine fun (hBd_ : Bd _ _) => ?_) | ((first | (with_reducible refine @And.intro (Sub _ _) _ ?_ ?_) | ((with_reducible refine @And.intro (Sub _ _ ∧ _) _ ?_ ?_); (with_reducible refine @And.intro (Sub _ _) _ ?_ ?_))); exact sbX) | ((with_reducible refine And.intro ?_ ?_); omega)))
        refine hK _ _ _ ?_
        exact ⟨i + 1, p, by omega, by omega, hnew, by simp (disch := omega) only [bsW, ↓reduceIte, Nat.reduceEqDiff, ne_eq, reduceCtorEq, fcT, f0, f3, f4, f5, f8, f9, dl, eQ, q1, e1, e2, e3, e4, Nat.mul_one], by simp (disch := omega) only [bsW, ↓reduceIte, Nat.reduceEqDiff, ne_eq, reduceCtorEq, fcT, f0, f3, f4, f5, f8, f9, dl, eQ, q1, e1, e2, e3, e4, Nat.mul_one], by (simp (disch := omega) only [bsW, ↓reduceIte, Nat.reduceEqDiff, ne_eq, reduceCtorEq, fcT, f0, f3, f4, f5, f8, f9, dl, eQ, q1, e1, e2, e3, e4, Nat.mul_one]), by simp (disch := omega) only [bsW, ↓reduceIte, Nat.reduceEqDiff, ne_eq, reduceCtorEq, fcT, f0, f3, f4, f5, f8, f9, dl, eQ, q1, e1, e2, e3, e4, Nat.mul_one], by simp (disch := omega) only [bsW, ↓reduceIte, Nat.reduceEqDiff, ne_eq, reduceCtorEq, fcT, f0, f3, f4, f5, f8, f9, dl, eQ, q1, e1, e2, e3, e4, Nat.mul_one], by simp (disch := omega) only [bsW, ↓reduceIte, Nat.reduceEqDiff, ne_eq, reduceCtorEq, fcT, f0, f3, f4, f5, f8, f9, dl, eQ, q1, e1, e2, e3, e4, Nat.mul_one, Int.natCast_add, Int.natCast_one], rfl, rfl⟩
      · have e3 : ((i : Int) == 0) = false := by simp [hi0]
        (try (simp (disch := omega) only [bsW, WOp, WOq, WV, bo, eqN, gdc, gw, bnd, ↓reduceIte, Nat.reduceEqDiff, rsvs, rsv, oneOf, rdN, ne_eq, Nat.reduceAdd, Nat.reduceMul, Nat.reduceLT, reduceCtorEq, Value.cells, setN, Value.oneCell', Nat.reduceLeDiff, undef, fcT, f0, f3, f4, f5, f8, f9, dl, eQ, q1, e1, e2, e3, Nat.mul_one]))
        (repeat' (first | ((with_reducible refine gif_split (fun hs_ => ?_) (fun hs_ => ?_)) <;> (have hp_ := hs_; (try simp only [hpL, ne_eq] at hp_); (try simp (disch := omega) only [bsW, WOp, WOq, WV, bo, eqN, gdc, gw, bnd, ↓reduceIte, Nat.reduceEqDiff, rsvs, rsv, oneOf, rdN, ne_eq, Nat.reduceAdd, Nat.reduceMul, Nat.reduceLT, reduceCtorEq, Value.cells, setN, Value.oneCell', Nat.reduceLeDiff, undef, fcT, f0, f3, f4, f5, f8, f9, dl, eQ, q1, e1, e2, e3, Nat.mul_one, hs_]))) | ((first | (with_reducible refine newB_i (fun nb_ hb_ => ?_)) | ((with_reducible show QC _ _ _ _ _ _); (first | (refine QC_i (hPi) ?_))) | ((with_reducible show AC _ _ _ _ _ _); (first | (refine PC.ac (hPi) ?_))) | (with_reducible refine RgE_i (fun (hBd_ : Bd _ _) => ?_))); (try simp (disch := omega) only [bsW, WOp, WOq, WV, bo, eqN, gdc, gw, bnd, ↓reduceIte, Nat.reduceEqDiff, rsvs, rsv, oneOf, rdN, ne_eq, Nat.reduceAdd, Nat.reduceMul, Nat.reduceLT, reduceCtorEq, Value.cells, setN, Value.oneCell', Nat.reduceLeDiff, undef, fcT, f0, f3, f4, f5, f8, f9, dl, eQ, q1, e1, e2, e3, Nat.mul_one])) | (with_reducible refine fun (hBd_ : Bd _ _) => ?_) | ((first | (with_reducible refine @And.intro (Sub _ _) _ ?_ ?_) | ((with_reducible refine @And.intro (Sub _ _ ∧ _) _ ?_ ?_); (with_reducible refine @And.intro (Sub _ _) _ ?_ ?_))); exact sbX) | ((with_reducible refine And.intro ?_ ?_); omega)))
        refine hK _ _ _ ?_
        exact ⟨i + 1, p, by omega, by omega, hnew, by simp (disch := omega) only [bsW, ↓reduceIte, Nat.reduceEqDiff, ne_eq, reduceCtorEq, fcT, f0, f3, f4, f5, f8, f9, dl, eQ, q1, e1, e2, e3, Nat.mul_one], by simp (disch := omega) only [bsW, ↓reduceIte, Nat.reduceEqDiff, ne_eq, reduceCtorEq, fcT, f0, f3, f4, f5, f8, f9, dl, eQ, q1, e1, e2, e3, Nat.mul_one], by (simp (disch := omega) only [bsW, ↓reduceIte, Nat.reduceEqDiff, ne_eq, reduceCtorEq, fcT, f0, f3, f4, f5, f8, f9, dl, eQ, q1, e1, e2, e3, Nat.mul_one]), by simp (disch := omega) only [bsW, ↓reduceIte, Nat.reduceEqDiff, ne_eq, reduceCtorEq, fcT, f0, f3, f4, f5, f8, f9, dl, eQ, q1, e1, e2, e3, Nat.mul_one], by simp (disch := omega) only [bsW, ↓reduceIte, Nat.reduceEqDiff, ne_eq, reduceCtorEq, fcT, f0, f3, f4, f5, f8, f9, dl, eQ, q1, e1, e2, e3, Nat.mul_one], by simp (disch := omega) only [bsW, ↓reduceIte, Nat.reduceEqDiff, ne_eq, reduceCtorEq, fcT, f0, f3, f4, f5, f8, f9, dl, eQ, q1, e1, e2, e3, Nat.mul_one, Int.natCast_add, Int.natCast_one], rfl, rfl⟩
    · have dl : decide ((i : Int) < (rkN m s : Int)) = false := decide_eq_false (by omega)
      (try (simp (disch := omega) only [bsW, WOp, WOq, WV, bo, eqN, gdc, gw, bnd, ↓reduceIte, Nat.reduceEqDiff, rsvs, rsv, oneOf, rdN, ne_eq, Nat.reduceAdd, Nat.reduceMul, Nat.reduceLT, reduceCtorEq, Value.cells, setN, Value.oneCell', Nat.reduceLeDiff, undef, fcT, f0, f3, f4, f5, f8, f9, dl]))
      (repeat' (first | ((with_reducible refine gif_split (fun hs_ => ?_) (fun hs_ => ?_)) <;> (have hp_ := hs_; (try simp only [hpL, ne_eq] at hp_); (try simp (disch := omega) only [bsW, WOp, WOq, WV, bo, eqN, gdc, gw, bnd, ↓reduceIte, Nat.reduceEqDiff, rsvs, rsv, oneOf, rdN, ne_eq, Nat.reduceAdd, Nat.reduceMul, Nat.reduceLT, reduceCtorEq, Value.cells, setN, Value.oneCell', Nat.reduceLeDiff, undef, fcT, f0, f3, f4, f5, f8, f9, dl, hs_]))) | ((first | (with_reducible refine newB_i (fun nb_ hb_ => ?_)) | (with_reducible refine RgE_i (fun (hBd_ : Bd _ _) => ?_))); (try simp (disch := omega) only [bsW, WOp, WOq, WV, bo, eqN, gdc, gw, bnd, ↓reduceIte, Nat.reduceEqDiff, rsvs, rsv, oneOf, rdN, ne_eq, Nat.reduceAdd, Nat.reduceMul, Nat.reduceLT, reduceCtorEq, Value.cells, setN, Value.oneCell', Nat.reduceLeDiff, undef, fcT, f0, f3, f4, f5, f8, f9, dl])) | (with_reducible refine fun (hBd_ : Bd _ _) => ?_) | ((first | (with_reducible refine @And.intro (Sub _ _) _ ?_ ?_) | ((with_reducible refine @And.intro (Sub _ _ ∧ _) _ ?_ ?_); (with_reducible refine @And.intro (Sub _ _) _ ?_ ?_))); exact sbX) | ((with_reducible refine And.intro ?_ ?_); omega)))
      refine (MedalCounts A1 m c1 s H' nx' (by omega) hR' hw).monoC ?_
      rintro v4 H4 nx4 hB4 hx4 ⟨w4, rfl, hO4, ht4⟩
      obtain ⟨A4, c4, rfl, hc4, hR4⟩ := hO4.rd
      (try (simp (disch := omega) only [bsW, WOp, WOq, WV, bo, eqN, gdc, gw, bnd, ↓reduceIte, Nat.reduceEqDiff, rsvs, rsv, oneOf, rdN, ne_eq, Nat.reduceAdd, Nat.reduceMul, Nat.reduceLT, reduceCtorEq, Value.cells, setN, Value.oneCell', Nat.reduceLeDiff, undef, fcT, f0, f3, f4, f5, f8, f9, dl]))
      (repeat' (first | ((with_reducible refine gif_split (fun hs_ => ?_) (fun hs_ => ?_)) <;> (have hp_ := hs_; (try simp only [hpL, ne_eq] at hp_); (try simp (disch := omega) only [bsW, WOp, WOq, WV, bo, eqN, gdc, gw, bnd, ↓reduceIte, Nat.reduceEqDiff, rsvs, rsv, oneOf, rdN, ne_eq, Nat.reduceAdd, Nat.reduceMul, Nat.reduceLT, reduceCtorEq, Value.cells, setN, Value.oneCell', Nat.reduceLeDiff, undef, fcT, f0, f3, f4, f5, f8, f9, dl, hs_]))) | ((first | (with_reducible refine newB_i (fun nb_ hb_ => ?_)) | (with_reducible refine RgE_i (fun (hBd_ : Bd _ _) => ?_))); (try simp (disch := omega) only [bsW, WOp, WOq, WV, bo, eqN, gdc, gw, bnd, ↓reduceIte, Nat.reduceEqDiff, rsvs, rsv, oneOf, rdN, ne_eq, Nat.reduceAdd, Nat.reduceMul, Nat.reduceLT, reduceCtorEq, Value.cells, setN, Value.oneCell', Nat.reduceLeDiff, undef, fcT, f0, f3, f4, f5, f8, f9, dl])) | (with_reducible refine fun (hBd_ : Bd _ _) => ?_) | ((first | (with_reducible refine @And.intro (Sub _ _) _ ?_ ?_) | ((with_reducible refine @And.intro (Sub _ _ ∧ _) _ ?_ ?_); (with_reducible refine @And.intro (Sub _ _) _ ?_ ?_))); exact sbX) | ((with_reducible refine And.intro ?_ ?_); omega)))
      refine (sMedalCounts A1 m c1 s H4 nx4 (by omega) (hR'.sub ht4) hw).monoC ?_
      rintro v5 H5 nx5 hB5 hx5 ⟨w5, rfl, hO5, ht5⟩
      obtain ⟨A5, c5, rfl, hc5, hR5⟩ := hO5.rd
      have hR4' := hR4.sub ht5
      have hsT := hs3.trans (ht4.trans ht5)
      have hsT1 := ht13.trans (ht4.trans ht5)
      have hmc : mcN m s ≤ 5 := by unfold mcN; split <;> omega
      have hRI5 := rInts A4 A5 (mcN m s) c4 c5 (fun j _ => cntS s j m) H5 nx5 (by omega) hR4' hR5
      cases hvs : exsB m s
      case' false =>
        rw [hvs] at f5
        (try (simp (disch := omega) only [bsW, WOp, WOq, WV, bo, eqN, gdc, gw, bnd, ↓reduceIte, Nat.reduceEqDiff, rsvs, rsv, oneOf, rdN, ne_eq, Nat.reduceAdd, Nat.reduceMul, Nat.reduceLT, reduceCtorEq, Value.cells, setN, Value.oneCell', Nat.reduceLeDiff, undef, fcT, f0, f3, f4, f5, f8, f9, hvs, bne_self_eq_false]))
        (repeat' (first | ((with_reducible refine gif_split (fun hs_ => ?_) (fun hs_ => ?_)) <;> (have hp_ := hs_; (try simp only [hpL, ne_eq] at hp_); (try simp (disch := omega) only [bsW, WOp, WOq, WV, bo, eqN, gdc, gw, bnd, ↓reduceIte, Nat.reduceEqDiff, rsvs, rsv, oneOf, rdN, ne_eq, Nat.reduceAdd, Nat.reduceMul, Nat.reduceLT, reduceCtorEq, Value.cells, setN, Value.oneCell', Nat.reduceLeDiff, undef, fcT, f0, f3, f4, f5, f8, f9, hvs, bne_self_eq_false, hs_]))) | ((first | (with_reducible refine newB_i (fun nb_ hb_ => ?_)) | ((with_reducible show QC _ _ _ _ _ _); (first | (refine QC_i (hRI5) ?_))) | ((with_reducible show AC _ _ _ _ _ _); (first | (refine PC.ac (hRI5) ?_))) | (with_reducible refine RgE_i (fun (hBd_ : Bd _ _) => ?_))); (try simp (disch := omega) only [bsW, WOp, WOq, WV, bo, eqN, gdc, gw, bnd, ↓reduceIte, Nat.reduceEqDiff, rsvs, rsv, oneOf, rdN, ne_eq, Nat.reduceAdd, Nat.reduceMul, Nat.reduceLT, reduceCtorEq, Value.cells, setN, Value.oneCell', Nat.reduceLeDiff, undef, fcT, f0, f3, f4, f5, f8, f9, hvs, bne_self_eq_false])) | (with_reducible refine fun (hBd_ : Bd _ _) => ?_) | ((first | (with_reducible refine @And.intro (Sub _ _) _ ?_ ?_) | ((with_reducible refine @And.intro (Sub _ _ ∧ _) _ ?_ ?_); (with_reducible refine @And.intro (Sub _ _) _ ?_ ?_))); exact sbX) | ((with_reducible refine And.intro ?_ ?_); omega)))
      case' true =>
        rw [hvs] at f5
        have hm5 : mcN m s = 5 := if_pos hvs
        rw [hm5] at hR4' hRI5
        have hSU := rSum A4 5 c4 (fun j _ => cntS s j m) H5 nx5 (by omega) (fun j hj => by have := cntS_bd s j m; omega) hR4'
        rw [cnt_sumF] at hSU
        (try (simp (disch := omega) only [bsW, WOp, WOq, WV, bo, eqN, gdc, gw, bnd, ↓reduceIte, Nat.reduceEqDiff, rsvs, rsv, oneOf, rdN, ne_eq, Nat.reduceAdd, Nat.reduceMul, Nat.reduceLT, reduceCtorEq, Value.cells, setN, Value.oneCell', Nat.reduceLeDiff, undef, fcT, f0, f3, f4, f5, f8, f9, hvs, hm5, bne_self_eq_false]))
        (repeat' (first | ((with_reducible refine gif_split (fun hs_ => ?_) (fun hs_ => ?_)) <;> (have hp_ := hs_; (try simp only [hpL, ne_eq] at hp_); (try simp (disch := omega) only [bsW, WOp, WOq, WV, bo, eqN, gdc, gw, bnd, ↓reduceIte, Nat.reduceEqDiff, rsvs, rsv, oneOf, rdN, ne_eq, Nat.reduceAdd, Nat.reduceMul, Nat.reduceLT, reduceCtorEq, Value.cells, setN, Value.oneCell', Nat.reduceLeDiff, undef, fcT, f0, f3, f4, f5, f8, f9, hvs, hm5, bne_self_eq_false, hs_]))) | ((first | (with_reducible refine newB_i (fun nb_ hb_ => ?_)) | ((with_reducible show QC _ _ _ _ _ _); (first | (refine QC_i (hRI5) ?_) | (refine QC_i (hSU) ?_))) | ((with_reducible show AC _ _ _ _ _ _); (first | (refine PC.ac (hRI5) ?_) | (refine PC.ac (hSU) ?_))) | (with_reducible refine RgE_i (fun (hBd_ : Bd _ _) => ?_))); (try simp (disch := omega) only [bsW, WOp, WOq, WV, bo, eqN, gdc, gw, bnd, ↓reduceIte, Nat.reduceEqDiff, rsvs, rsv, oneOf, rdN, ne_eq, Nat.reduceAdd, Nat.reduceMul, Nat.reduceLT, reduceCtorEq, Value.cells, setN, Value.oneCell', Nat.reduceLeDiff, undef, fcT, f0, f3, f4, f5, f8, f9, hvs, hm5, bne_self_eq_false])) | (with_reducible refine fun (hBd_ : Bd _ _) => ?_) | ((first | (with_reducible refine @And.intro (Sub _ _) _ ?_ ?_) | ((with_reducible refine @And.intro (Sub _ _ ∧ _) _ ?_ ?_); (with_reducible refine @And.intro (Sub _ _) _ ?_ ?_))); exact sbX) | ((with_reducible refine And.intro ?_ ?_); omega)))
      all_goals
        refine (DrawScoreOf A n c _ _ hn (hU.sub hsT)).monoC ?_
        rintro v6 H6 nx6 hB6 hx6 ⟨ht6, id, tt, fr6, B6, m6, d6, mk6, rfl, htt6, hm6, hR6⟩
        have hs6 := hsT.trans ht6
        have hsR : Sub H1 H6 := hsT1.trans ht6
        obtain ⟨a6, b6, md, u6, hva, hvm, hu6⟩ := score_ex id tt fr6 m6 mk6
        have hIs : ∀ H' nx', Sub H6 H' → PC Tryd.prog 52 #[.agg #[.int .i64 id, .string tt, .int .i64 fr6, .slice B6 m6 d6]] H' nx' (.tuple #[.int .i64 a6, .int .i64 b6, .bool u6]) := fun H' nx' hh => by
          have := ScoreOf id tt fr6 B6 m6 d6 mk6 H' nx' (by omega) (by omega) (hR6.sub hh)
          rwa [hva] at this
        have hSs : ∀ H' nx', Sub H6 H' → PC Tryd.prog 53 #[.agg #[.int .i64 id, .string tt, .int .i64 fr6, .slice B6 m6 d6]] H' nx' (.tuple #[.int .i64 a6, .int .i64 b6, .bool u6]) := fun H' nx' hh => by
          have := sScoreOf id tt fr6 B6 m6 d6 mk6 H' nx' (by omega) (by omega) (hR6.sub hh)
          rwa [hva] at this
        have hIm : ∀ H' nx', Sub H6 H' → PC Tryd.prog 54 #[.agg #[.int .i64 id, .string tt, .int .i64 fr6, .slice B6 m6 d6]] H' nx' (.tuple #[.int .i64 md, .bool u6]) := fun H' nx' hh => by
          have := MedalOf id tt fr6 B6 m6 d6 mk6 H' nx' (by omega) (by omega) (hR6.sub hh)
          rwa [hvm] at this
        have hSm : ∀ H' nx', Sub H6 H' → PC Tryd.prog 55 #[.agg #[.int .i64 id, .string tt, .int .i64 fr6, .slice B6 m6 d6]] H' nx' (.tuple #[.int .i64 md, .bool u6]) := fun H' nx' hh => by
          have := sMedalOf id tt fr6 B6 m6 d6 mk6 H' nx' (by omega) (by omega) (hR6.sub hh)
          rwa [hvm] at this
        cases u6
        case' false =>
          (try (simp (disch := omega) only [bsW, WOp, WOq, WV, bo, eqN, gdc, gw, bnd, ↓reduceIte, Nat.reduceEqDiff, rsvs, rsv, oneOf, rdN, ne_eq, Nat.reduceAdd, Nat.reduceMul, Nat.reduceLT, reduceCtorEq, Value.cells, setN, Value.oneCell', Nat.reduceLeDiff, undef, fcT, f0, f3, bne_self_eq_false]))
          (repeat' (first | ((with_reducible refine gif_split (fun hs_ => ?_) (fun hs_ => ?_)) <;> (have hp_ := hs_; (try simp only [hpL, ne_eq] at hp_); (try simp (disch := omega) only [bsW, WOp, WOq, WV, bo, eqN, gdc, gw, bnd, ↓reduceIte, Nat.reduceEqDiff, rsvs, rsv, oneOf, rdN, ne_eq, Nat.reduceAdd, Nat.reduceMul, Nat.reduceLT, reduceCtorEq, Value.cells, setN, Value.oneCell', Nat.reduceLeDiff, undef, fcT, f0, f3, bne_self_eq_false, hs_]))) | ((first | (with_reducible refine newB_i (fun nb_ hb_ => ?_)) | ((with_reducible show QC _ _ _ _ _ _); (first | (refine QC_i (hIs _ _ (sub_new hB6 (by omega))) ?_) | (refine QC_i (hSs _ _ (sub_new hB6 (by omega))) ?_) | (refine QC_i (hIm _ _ (sub_new hB6 (by omega))) ?_) | (refine QC_i (hSm _ _ (sub_new hB6 (by omega))) ?_))) | ((with_reducible show AC _ _ _ _ _ _); (first | (refine PC.ac (hIs _ _ (sub_new hB6 (by omega))) ?_) | (refine PC.ac (hSs _ _ (sub_new hB6 (by omega))) ?_) | (refine PC.ac (hIm _ _ (sub_new hB6 (by omega))) ?_) | (refine PC.ac (hSm _ _ (sub_new hB6 (by omega))) ?_))) | (with_reducible refine RgE_i (fun (hBd_ : Bd _ _) => ?_))); (try simp (disch := omega) only [bsW, WOp, WOq, WV, bo, eqN, gdc, gw, bnd, ↓reduceIte, Nat.reduceEqDiff, rsvs, rsv, oneOf, rdN, ne_eq, Nat.reduceAdd, Nat.reduceMul, Nat.reduceLT, reduceCtorEq, Value.cells, setN, Value.oneCell', Nat.reduceLeDiff, undef, fcT, f0, f3, bne_self_eq_false])) | (with_reducible refine fun (hBd_ : Bd _ _) => ?_) | ((first | (with_reducible refine @And.intro (Sub _ _) _ ?_ ?_) | ((with_reducible refine @And.intro (Sub _ _ ∧ _) _ ?_ ?_); (with_reducible refine @And.intro (Sub _ _) _ ?_ ?_))); exact sbX) | ((with_reducible refine And.intro ?_ ?_); omega)))
        case' true =>
          obtain ⟨ha0, ha1, hb0, hb1, q4, q0, q3, q2⟩ := hu6 rfl
          have e4 : (md == 4) = decide (85 * b6 ≤ a6) := by rw [Bool.eq_iff_iff, beq_iff_eq, decide_eq_true_iff]; exact q4
          have e0 : (md == 0) = decide (a6 < 40 * b6) := by rw [Bool.eq_iff_iff, beq_iff_eq, decide_eq_true_iff]; exact q0
          have e3 : decide (3 ≤ md) = decide (70 * b6 ≤ a6) := decide_eq_decide.2 q3
          have e2 : decide (2 ≤ md) = decide (55 * b6 ≤ a6) := decide_eq_decide.2 q2
          (try (simp (disch := omega) only [bsW, WOp, WOq, WV, bo, eqN, gdc, gw, bnd, ↓reduceIte, Nat.reduceEqDiff, rsvs, rsv, oneOf, rdN, ne_eq, Nat.reduceAdd, Nat.reduceMul, Nat.reduceLT, reduceCtorEq, Value.cells, setN, Value.oneCell', Nat.reduceLeDiff, undef, fcT, f0, f3, e4, e0, e3, e2, bne_self_eq_false]))
          (repeat' (first | ((with_reducible refine gif_split (fun hs_ => ?_) (fun hs_ => ?_)) <;> (have hp_ := hs_; (try simp only [hpL, ne_eq] at hp_); (try simp (disch := omega) only [bsW, WOp, WOq, WV, bo, eqN, gdc, gw, bnd, ↓reduceIte, Nat.reduceEqDiff, rsvs, rsv, oneOf, rdN, ne_eq, Nat.reduceAdd, Nat.reduceMul, Nat.reduceLT, reduceCtorEq, Value.cells, setN, Value.oneCell', Nat.reduceLeDiff, undef, fcT, f0, f3, e4, e0, e3, e2, bne_self_eq_false, hs_]))) | ((first | (with_reducible refine newB_i (fun nb_ hb_ => ?_)) | ((with_reducible show QC _ _ _ _ _ _); (first | (refine QC_i (hIs _ _ (sub_new hB6 (by omega))) ?_) | (refine QC_i (hSs _ _ (sub_new hB6 (by omega))) ?_) | (refine QC_i (hIm _ _ (sub_new hB6 (by omega))) ?_) | (refine QC_i (hSm _ _ (sub_new hB6 (by omega))) ?_))) | ((with_reducible show AC _ _ _ _ _ _); (first | (refine PC.ac (hIs _ _ (sub_new hB6 (by omega))) ?_) | (refine PC.ac (hSs _ _ (sub_new hB6 (by omega))) ?_) | (refine PC.ac (hIm _ _ (sub_new hB6 (by omega))) ?_) | (refine PC.ac (hSm _ _ (sub_new hB6 (by omega))) ?_))) | (with_reducible refine RgE_i (fun (hBd_ : Bd _ _) => ?_))); (try simp (disch := omega) only [bsW, WOp, WOq, WV, bo, eqN, gdc, gw, bnd, ↓reduceIte, Nat.reduceEqDiff, rsvs, rsv, oneOf, rdN, ne_eq, Nat.reduceAdd, Nat.reduceMul, Nat.reduceLT, reduceCtorEq, Value.cells, setN, Value.oneCell', Nat.reduceLeDiff, undef, fcT, f0, f3, e4, e0, e3, e2, bne_self_eq_false])) | (with_reducible refine fun (hBd_ : Bd _ _) => ?_) | ((first | (with_reducible refine @And.intro (Sub _ _) _ ?_ ?_) | ((with_reducible refine @And.intro (Sub _ _ ∧ _) _ ?_ ?_); (with_reducible refine @And.intro (Sub _ _) _ ?_ ?_))); exact sbX) | ((with_reducible refine And.intro ?_ ?_); omega)))
        all_goals
          refine (DrawPlaceOf A n c _ _ hn (hU.sub (sub_up2 hB hs6 (by omega)))).monoC ?_
          rintro v7 H7 nx7 hB7 hx7 ⟨ht7, A7, m7, c7, s7, x7, rfl, hm7, hR7⟩
          have z7 := ht7 nb_ _ (upd_same _ _ _)
          have ht67 : Sub H6 H7 := Sub.trans (sub_new hB6 (by omega)) ht7
          have hs7 : Sub H H7 := hs6.trans ht67
          have hm720 := hm7.1
          obtain ⟨p7, u7, hv7⟩ := vPlace_ex m7 s7 x7
          have hI7 := PlaceOf A7 m7 c7 s7 x7 H7 nx7 (by omega) hR7 (okS_sz hm7)
          have hS7 := sPlaceOf A7 m7 c7 s7 x7 H7 nx7 (by omega) hR7 (okS_sz hm7)
          rw [hv7] at hI7 hS7
          obtain ⟨s8, u8, hv8⟩ := vShowText_ex id tt fr6 m6 mk6
          have hI8 := ShowText gT tyT id tt fr6 B6 m6 d6 mk6 H7 nx7 hgT (hs7 _ _ hT_) (by omega) (by omega) (hR6.sub ht67)
          have hS8 := sShowText id tt fr6 B6 m6 d6 mk6 H7 nx7 (by omega) (by omega) (hR6.sub ht67)
          rw [hv8] at hI8 hS8
          have hI9 := AreExhibits A1 m c1 s H7 nx7 (by omega) (hR.sub (hsR.trans ht67)) (okS_sz hm)
          have hS9 := sAreExhibits A1 m c1 s H7 nx7 (by omega) (hR.sub (hsR.trans ht67)) (okS_sz hm)
          (try (simp (disch := omega) only [bsW, WOp, WOq, WV, bo, eqN, gdc, gw, bnd, ↓reduceIte, Nat.reduceEqDiff, rsvs, rsv, oneOf, rdN, ne_eq, Nat.reduceAdd, Nat.reduceMul, Nat.reduceLT, reduceCtorEq, Value.cells, setN, Value.oneCell', Nat.reduceLeDiff, undef, fcT, f0, f3, z7, rd_rw z7, beq_self_eq_true]))
          (repeat' (first | ((with_reducible refine gif_split (fun hs_ => ?_) (fun hs_ => ?_)) <;> (have hp_ := hs_; (try simp only [hpL, ne_eq] at hp_); (try simp (disch := omega) only [bsW, WOp, WOq, WV, bo, eqN, gdc, gw, bnd, ↓reduceIte, Nat.reduceEqDiff, rsvs, rsv, oneOf, rdN, ne_eq, Nat.reduceAdd, Nat.reduceMul, Nat.reduceLT, reduceCtorEq, Value.cells, setN, Value.oneCell', Nat.reduceLeDiff, undef, fcT, f0, f3, z7, rd_rw z7, beq_self_eq_true, hs_]))) | ((first | (with_reducible refine newB_i (fun nb_ hb_ => ?_)) | ((with_reducible show QC _ _ _ _ _ _); (first | (refine QC_i (hI7) ?_) | (refine QC_i (hS7) ?_) | (refine QC_i (hI8) ?_) | (refine QC_i (hS8) ?_) | (refine QC_i (hI9) ?_) | (refine QC_i (hS9) ?_))) | ((with_reducible show AC _ _ _ _ _ _); (first | (refine PC.ac (hI7) ?_) | (refine PC.ac (hS7) ?_) | (refine PC.ac (hI8) ?_) | (refine PC.ac (hS8) ?_) | (refine PC.ac (hI9) ?_) | (refine PC.ac (hS9) ?_))) | (with_reducible refine RgE_i (fun (hBd_ : Bd _ _) => ?_))); (try simp (disch := omega) only [bsW, WOp, WOq, WV, bo, eqN, gdc, gw, bnd, ↓reduceIte, Nat.reduceEqDiff, rsvs, rsv, oneOf, rdN, ne_eq, Nat.reduceAdd, Nat.reduceMul, Nat.reduceLT, reduceCtorEq, Value.cells, setN, Value.oneCell', Nat.reduceLeDiff, undef, fcT, f0, f3, z7, rd_rw z7, beq_self_eq_true])) | (with_reducible refine fun (hBd_ : Bd _ _) => ?_) | ((first | (with_reducible refine @And.intro (Sub _ _) _ ?_ ?_) | ((with_reducible refine @And.intro (Sub _ _ ∧ _) _ ?_ ?_); (with_reducible refine @And.intro (Sub _ _) _ ?_ ?_))); exact sbX) | ((with_reducible refine And.intro ?_ ?_); omega)))
          all_goals exact Is_i hs7
  · rintro fr H' nx' ⟨i, last, hmm, _⟩; omega
  · exact ⟨0, 0, by omega, by omega, .inl rfl, by simp (disch := omega) only [bsW, ↓reduceIte, Nat.reduceEqDiff, ne_eq, reduceCtorEq, fcT], by simp (disch := omega) only [bsW, ↓reduceIte, Nat.reduceEqDiff, ne_eq, reduceCtorEq, fcT], by simp (disch := omega) only [bsW, ↓reduceIte, Nat.reduceEqDiff, ne_eq, reduceCtorEq, fcT], by simp (disch := omega) only [bsW, ↓reduceIte, Nat.reduceEqDiff, ne_eq, reduceCtorEq, fcT], by simp (disch := omega) only [bsW, ↓reduceIte, Nat.reduceEqDiff, ne_eq, reduceCtorEq, fcT], by simp (disch := omega) only [bsW, ↓reduceIte, Nat.reduceEqDiff, ne_eq, reduceCtorEq, fcT, Int.natCast_zero], rfl, rfl⟩
theorem RdU.tr {H H' : Hp} {A : Option Addr} {n : Nat} (h : RdU H A n) (hrd : ∀ (b off : Nat) (v : Value), rd H b off = some v → rd H' b off = some v) : RdU H' A n :=
  ⟨fun hn => by
    obtain ⟨b, off, e, hc⟩ := h.at_ hn
    exact ⟨b, off, e, fun i hi => by
      obtain ⟨x, h1, h2⟩ := hc i hi
      exact ⟨x, hrd _ _ _ h1, h2⟩⟩⟩
theorem fnShows_mem : ((("internal/strconv.uint64pow10", Lib.tabData .u64 Lib.pow10Tab) : String × DataW Unit)) ∈ Rows.fnShowsRow.laid := (List.Mem.tail _ (List.Mem.tail _ (List.Mem.head _)))
theorem FnShows_pc {H : Type} (enc : TypeId × Value → H) : LaidPC enc Tryd.prog 5 Tryd.f5.params.toList 0 powCells := by
  intro W base args Hp0 tyT hBd hrd hT ha
  have hr : ArgsOK enc Tryd.prog W base Tryd.f5.params.toList args.toList := ha
  rw [Tryd.params5] at hr
  obtain ⟨u0, l0, e0, a0, hr⟩ := hr
  obtain ⟨A0, n0, c0, rfl, hz0, _, hR0⟩ := arg_bytes Tryd.underlying22 Tryd.underlying5 (by kernel_rfl) a0
  have hr : l0 = [] := hr
  have ea : args = #[.slice A0 n0 c0] := by
    apply Array.ext'
    rw [e0, hr]
  subst ea
  have hby0 : Tryd.prog.bytesOf 5 = 1 := by kernel_rfl
  rw [hby0] at hz0
  simp only [reachBytes] at hz0
  exact lawFnShows A0 n0 c0 _ _ _ tyT rfl hT (by omega) (hR0.tr hrd)
theorem FnShows_lifted (os : Os) (started : os.Started) (H : Type) (enc : TypeId × Value → H) :
    ReturnsInHanded {} Tryd.checked os 5 .any (fun w args => (Rows.fnShowsSpec.pre enc Tryd.prog Tryd.f5 Rows.fnShowsRow.domain false w args ∧ laidMetH Tryd.prog Rows.fnShowsRow.laid w) ∧ sizedMet enc Tryd.prog Tryd.f5 (OpenSpec.ofChange Rows.fnShowsSpec) false w args) (Rows.fnShowsSpec.post enc Tryd.prog Tryd.f5 false true false false) := by
  refine law_lifted_laid (C := Tryd.checked) (tb := 4) (laid := Rows.fnShowsRow.laid) (g := 0) (cs := powCells) x_laws_FnShows.call (by kernel_rfl) started (by kernel_rfl) (by kernel_rfl) Tryd.func5 rfl (by kernel_rfl) (by kernel_rfl) (by kernel_rfl) ?_
    (ChangeSpec.witness_shaped (enc := enc) (C := Tryd.checked) (os := os) (X := fun w _ => laidMetH Tryd.prog Rows.fnShowsRow.laid w) false (World.laidAll Tryd.prog os Rows.fnShowsRow.laid) #[.slice none 0 0] 8 (World.laidAll_os _ _ _)
      (World.shaped_of_ZipB (by kernel_rfl) (by kernel_rfl)) (by kernel_rfl) (by kernel_rfl) (by kernel_rfl)
      (by rw [MakeChecks.laidMetH_plain _ _ _ (by kernel_rfl)]; exact laidMet_laidAll _ (by kernel_rfl) (by kernel_rfl))) ?_ (FnShows_pc enc)
  · intro ds hd
    match ds, hd with
    | [d0], _ => rfl
  · intro W h
    rw [MakeChecks.laidMetH_plain _ _ _ (by kernel_rfl)] at h
    exact tab_heap (zs := Lib.pow10Tab) (by kernel_rfl) (by kernel_rfl) Tryd.underlying148 Tryd.underlying81 (by kernel_rfl) (by kernel_rfl) (by decide) fnShows_mem h
theorem FnShows_bare : Rows.FnShowsSaid :=
  OpenClaim.holds_of_wide 5 Tryd.f5 rfl rfl rfl rfl rfl rfl rfl ⟨rfl, rfl, rfl, rfl, rfl⟩ rfl rfl rfl rfl rfl (by kernel_rfl) Tryd.func5 (by kernel_rfl)
    (of_decide_eq_true (by kernel_rfl)) (by unfold Func.isWrapper; first | (rw [if_pos (by decide +kernel)]; kernel_rfl) | (rw [if_neg (by decide +kernel)]; exact ⟨rfl, rfl⟩))
    (fun os started H enc _ => FnShows_lifted os started H enc)
theorem FnShowsCardSaid_holds : Rows.FnShowsCardSaid :=
  Claim7.holds_tied_plain_at .later [] [.data, .data, .data] true (true, "89ca4e96d7ad3798ef225a974312c52e82142c0932466d444e9ad185470b833e") false FnShows_bare (fun _ h => by cases h) (by kernel_rfl) (fun _ h => by cases h) fnShows_row_tie rfl ⟨rfl, rfl⟩ (by kernel_rfl) rfl
    (fun f fn hf hfn => by
      obtain rfl : f = 5 := Option.some.inj ((show Tryd.prog.funcNamed Rows.fnShowsRow.func = some 5 by kernel_rfl).symm.trans hf) |>.symm
      obtain rfl : fn = Tryd.f5 := (Option.some.inj (Tryd.func5.symm.trans hfn)).symm
      exact ⟨by kernel_rfl, fun j t ht => by
        rw [Tryd.params5] at ht
        have hm : t ∈ [22] := by simpa using Array.mem_of_getElem? ht
        have hall : ([22].all fun u => !Tryd.prog.wantsStandIn u) = true := by kernel_rfl
        exact (show Tryd.prog.wantsStandIn t = false by simpa using List.all_eq_true.1 hall t hm)⟩)
    (by kernel_rfl)
end Go.Proofs.YtnjlleopgjggpaaDoor
