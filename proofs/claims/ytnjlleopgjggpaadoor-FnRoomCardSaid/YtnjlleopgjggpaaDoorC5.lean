/- The room: what a round asks. -/
import Derived.Test.YtnjlleopgjggpaaDoorC2
import Derived.Test.YtnjlleopgjggpaaDoorC3
import Derived.Test.YtnjlleopgjggpaaDoorD4
set_option linter.unusedVariables false
set_option linter.unusedSimpArgs false
set_option maxRecDepth 100000
set_option maxHeartbeats 1000000
namespace Go.Proofs.YtnjlleopgjggpaaDoor
open Go Go.RowKit Go.Proofs

theorem idxFuncAb2 (A : Option Addr) (n c : Nat) (f : Nat → Nat → Int) (g : Nat) (v0 v1 : Value) (p : Nat → Bool) (H : Hp) (nx : Nat) (hn : n ≤ 17592186044416) (h : Rd H A n 2 f)
    (hp : ∀ (k : Nat) (H' : Hp) (nx' : Nat), k < n → Sub H H' → nx ≤ nx' → PC Tryd.prog g #[.agg #[.int .i64 (f k 0), .int .i64 (f k 1)], v0, v1] H' nx' (.bool (p k))) :
    PC Tryd.prog 127 #[.slice A n c, .func (.func g) #[] #[v0, v1]] H nx (.int .i64 (idxOf p n)) := by
  refine AC_of x_slices_IndexFunc_Absentee rfl fun hB => ?_
  simp (disch := omega) only [bsW, WOp, WOq, WV, bo, eqN, gdc, gw, bnd, ↓reduceIte, Nat.reduceEqDiff, rsvs, rsv, oneOf, rdN, ne_eq, Nat.reduceAdd, Nat.reduceMul, Nat.reduceLT, reduceCtorEq, Value.cells, setN, Value.oneCell', Nat.reduceLeDiff, undef, fcT, c_slices_IndexFunc_Absentee]
  refine LpE_rule (fun m fr H' nx' => ∃ k : Nat, m = n - k + 1 ∧ k ≤ n ∧ fr 0 = .slice A n c ∧ fr 1 = .func (.func g) #[] #[v0, v1] ∧ fr 7 = .int .i64 n ∧ fr 8 = .int .i64 k ∧ Sub H H' ∧ nx ≤ nx' ∧ ∀ i, i < k → p i = false) ?_ ?_ (n + 1) ?_
  · rintro m K hK fr H' nx' ⟨k, hm, hk, f0, f1, f7, f8, hs, hx, hall⟩
    simp (disch := omega) only [bsW, WOp, WOq, WV, bo, eqN, gdc, gw, bnd, ↓reduceIte, Nat.reduceEqDiff, rsvs, rsv, oneOf, rdN, ne_eq, Nat.reduceAdd, Nat.reduceMul, Nat.reduceLT, reduceCtorEq, Value.cells, setN, Value.oneCell', Nat.reduceLeDiff, undef, fcT, f0, f1, f7, f8]
    refine gif_split (fun b1 => ?_) (fun b1 => ?_)
    · have hlt : k < n := by simpa using b1
      obtain ⟨b, off, rfl, hc⟩ := h.at_ (by omega)
      have c0 := rd_sub hs (hc k 0 hlt (by omega))
      have c1 := rd_sub hs (hc k 1 hlt (by omega))
      simp only [Nat.add_zero] at c0
      simp (disch := omega) only [bsW, WOp, WOq, WV, bo, eqN, gdc, gw, bnd, ↓reduceIte, Nat.reduceEqDiff, rsvs, rsv, oneOf, rdN, ne_eq, Nat.reduceAdd, Nat.reduceMul, Nat.reduceLT, reduceCtorEq, Value.cells, setN, Value.oneCell', Nat.reduceLeDiff, undef, fcT, f0, f1, f7, f8, c0, c1, b1]
      (repeat' (first | ((with_reducible refine gif_split (fun hs_ => ?_) (fun hs_ => ?_)) <;> (have hp_ := hs_; (try simp only [hpL, ne_eq] at hp_); (try simp (disch := omega) only [bsW, WOp, WOq, WV, bo, eqN, gdc, gw, bnd, ↓reduceIte, Nat.reduceEqDiff, rsvs, rsv, oneOf, rdN, ne_eq, Nat.reduceAdd, Nat.reduceMul, Nat.reduceLT, reduceCtorEq, Value.cells, setN, Value.oneCell', Nat.reduceLeDiff, undef, fcT, f0, f1, f7, f8, c0, c1, hs_]))) | ((first | (with_reducible refine newB_i (fun nb_ hb_ => ?_)) | ((with_reducible show QC _ _ _ _ _ _); (first | (refine QC_i (hp k _ _ hlt hs hx) ?_))) | ((with_reducible show AC _ _ _ _ _ _); (first | (refine PC.ac (hp k _ _ hlt hs hx) ?_))) | (with_reducible refine RgE_i (fun (hBd_ : Bd _ _) => ?_))); (try simp (disch := omega) only [bsW, WOp, WOq, WV, bo, eqN, gdc, gw, bnd, ↓reduceIte, Nat.reduceEqDiff, rsvs, rsv, oneOf, rdN, ne_eq, Nat.reduceAdd, Nat.reduceMul, Nat.reduceLT, reduceCtorEq, Value.cells, setN, Value.oneCell', Nat.reduceLeDiff, undef, fcT, f0, f1, f7, f8, c0, c1])) | (with_reducible refine fun (hBd_ : Bd _ _) => ?_) | ((first | (with_reducible refine @And.intro (Sub _ _) _ ?_ ?_) | ((with_reducible refine @And.intro (Sub _ _ ∧ _) _ ?_ ?_); (with_reducible refine @And.intro (Sub _ _) _ ?_ ?_))); exact sbX) | ((with_reducible refine And.intro ?_ ?_); omega)))
      · refine Is_e ?_ hs
        rw [idxOf_hit hlt hp_ hall]
      · refine hK _ _ _ ?_
        refine ⟨k + 1, by omega, by omega, by simp (disch := omega) only [bsW, ↓reduceIte, Nat.reduceEqDiff, ne_eq, reduceCtorEq, fcT, f0, f1, f7, f8, c0, c1], by simp (disch := omega) only [bsW, ↓reduceIte, Nat.reduceEqDiff, ne_eq, reduceCtorEq, fcT, f0, f1, f7, f8, c0, c1], by simp (disch := omega) only [bsW, ↓reduceIte, Nat.reduceEqDiff, ne_eq, reduceCtorEq, fcT, f0, f1, f7, f8, c0, c1], by simp (disch := omega) only [bsW, ↓reduceIte, Nat.reduceEqDiff, ne_eq, reduceCtorEq, fcT, f0, f1, f7, f8, c0, c1, Int.natCast_add, Int.natCast_one], hs, by omega, ?_⟩
        intro i hi
        rcases Nat.lt_succ_iff_lt_or_eq.1 hi with hi | rfl
        · exact hall i hi
        · simpa using hp_
    · simp (disch := omega) only [bsW, WOp, WOq, WV, bo, eqN, gdc, gw, bnd, ↓reduceIte, Nat.reduceEqDiff, rsvs, rsv, oneOf, rdN, ne_eq, Nat.reduceAdd, Nat.reduceMul, Nat.reduceLT, reduceCtorEq, Value.cells, setN, Value.oneCell', Nat.reduceLeDiff, undef, fcT, f0, f1, f7, f8, b1]
      have hkn : k = n := by simp at b1; omega
      subst hkn
      refine Is_e ?_ hs
      rw [idxOf_none hall]
  · rintro fr H' nx' ⟨k, hm, _⟩; omega
  · exact ⟨0, by omega, by omega, by simp (disch := omega) only [bsW, ↓reduceIte, Nat.reduceEqDiff, ne_eq, reduceCtorEq, fcT], by simp (disch := omega) only [bsW, ↓reduceIte, Nat.reduceEqDiff, ne_eq, reduceCtorEq, fcT], by simp (disch := omega) only [bsW, ↓reduceIte, Nat.reduceEqDiff, ne_eq, reduceCtorEq, fcT], by simp (disch := omega) only [bsW, ↓reduceIte, Nat.reduceEqDiff, ne_eq, reduceCtorEq, fcT, Int.natCast_zero], Sub.refl _, by omega, by intro i hi; omega⟩

def rmHit (g : Nat → Nat → Int) (bid who : Int) (i : Nat) : Bool := decide (bid ≤ g i 1) && (g i 0 != who)
def roomL (n : Nat) (f : Nat → Nat → Int) (m : Nat) (g : Nat → Nat → Int) : Nat → Int → Int → List Int → List Int × Int
  | 0, _, last, l => (l, last)
  | F + 1, bid, last, l => if idxOf (rmHit g bid (l.getLastD 0)) m < 0 then (l, last)
      else roomL n f m g F (nextB n f bid) bid (l ++ [g (idxOf (rmHit g bid (l.getLastD 0)) m).toNat 0])
theorem roomL_len (n : Nat) (f : Nat → Nat → Int) (m : Nat) (g : Nat → Nat → Int) : ∀ (F : Nat) (bid last : Int) (l : List Int), (roomL n f m g F bid last l).1.length ≤ l.length + F
  | 0, _, _, _ => Nat.le_refl _
  | F + 1, bid, last, l => by
    simp only [roomL]
    split
    · simp
    · have := roomL_len n f m g F (nextB n f bid) bid (l ++ [g (idxOf (rmHit g bid (l.getLastD 0)) m).toNat 0])
      simp only [List.length_append, List.length_singleton] at this
      omega
/-- The bidders and the last bid. -/
def room (n : Nat) (f : Nat → Nat → Int) (m : Nat) (g : Nat → Nat → Int) (start : Int) : List Int × Int := roomL n f m g 101 start 0 []
theorem room_len (n : Nat) (f : Nat → Nat → Int) (m : Nat) (g : Nat → Nat → Int) (start : Int) : (room n f m g start).1.length ≤ 101 := by
  have := roomL_len n f m g 101 start 0 []
  simpa [room] using this
/-- A row and a number. -/
def RowInt (H : Hp) (nx : Nat) (l : List Int) (ty : TypeId) (x : Int) (v : Value) (H' : Hp) (nx' : Nat) : Prop := ∃ w, v = .tuple #[w, .int .i64 x] ∧ NewL H nx l ty w H' nx'

theorem roomHit (x0 x1 bid : Int) (b1 b2 : Nat) (l : List Int) (lo nx2 : Nat) (w : Value) (H : Hp) (nx : Nat) (hx : x0 ≠ 0) (h1 : rd H b1 0 = some (.int .i64 bid)) (h2 : rd H b2 0 = some w) (hO : OwnL H lo nx2 l 3 w) (hl : l.length ≤ 1048576) :
    PC Tryd.prog 128 #[.agg #[.int .i64 x0, .int .i64 x1], .pointer (some ⟨b1, 0, none⟩), .pointer (some ⟨b2, 0, none⟩)] H nx (.bool (decide (bid ≤ x1) && (x0 != l.getLastD 0))) := by
  obtain ⟨A, c, rfl, hc, hR⟩ := hO.rd
  refine AC_of x_impl_roomBids_1 rfl fun hB => ?_
  have lt1 := rd_lt hB h1
  have lt2 := rd_lt hB h2
  rcases List.eq_nil_or_concat l with rfl | ⟨l', y, rfl⟩
  · simp (disch := omega) only [bsW, WOp, WOq, WV, bo, eqN, gdc, gw, bnd, ↓reduceIte, Nat.reduceEqDiff, rsvs, rsv, oneOf, rdN, ne_eq, Nat.reduceAdd, Nat.reduceMul, Nat.reduceLT, reduceCtorEq, Value.cells, setN, Value.oneCell', Nat.reduceLeDiff, undef, fcT, h1, h2, List.length_nil, c_impl_roomBids_1]
    (repeat' (first | ((with_reducible refine gif_split (fun hs_ => ?_) (fun hs_ => ?_)) <;> (have hp_ := hs_; (try simp only [hpL, ne_eq] at hp_); (try simp (disch := omega) only [bsW, WOp, WOq, WV, bo, eqN, gdc, gw, bnd, ↓reduceIte, Nat.reduceEqDiff, rsvs, rsv, oneOf, rdN, ne_eq, Nat.reduceAdd, Nat.reduceMul, Nat.reduceLT, reduceCtorEq, Value.cells, setN, Value.oneCell', Nat.reduceLeDiff, undef, fcT, h1, h2, List.length_nil, hs_]))) | ((first | (with_reducible refine newB_i (fun nb_ hb_ => ?_)) | (with_reducible refine RgE_i (fun (hBd_ : Bd _ _) => ?_))); (try simp (disch := omega) only [bsW, WOp, WOq, WV, bo, eqN, gdc, gw, bnd, ↓reduceIte, Nat.reduceEqDiff, rsvs, rsv, oneOf, rdN, ne_eq, Nat.reduceAdd, Nat.reduceMul, Nat.reduceLT, reduceCtorEq, Value.cells, setN, Value.oneCell', Nat.reduceLeDiff, undef, fcT, h1, h2, List.length_nil])) | (with_reducible refine fun (hBd_ : Bd _ _) => ?_) | ((first | (with_reducible refine @And.intro (Sub _ _) _ ?_ ?_) | ((with_reducible refine @And.intro (Sub _ _ ∧ _) _ ?_ ?_); (with_reducible refine @And.intro (Sub _ _) _ ?_ ?_))); exact sbX) | ((with_reducible refine And.intro ?_ ?_); omega)))
    all_goals first
      | (exfalso; omega)
      | (exfalso; simp_all; done)
      | (refine Is_e ?_ ?_
         · first
           | (simp_all; done)
           | (refine congrArg Value.bool ?_; rw [Bool.eq_iff_iff]; simp_all; exact ⟨fun e => Ne.symm e, fun e => Ne.symm e⟩)
         · (repeat (first | assumption | exact Sub.refl _ | (refine sub_up (nx := nx) ?_ hB ?_; omega))))
  · obtain ⟨b, off, rfl, hcc⟩ := hR.at_ (by simp)
    have hy : rowL (l'.concat y) l'.length 0 = y := by simp [rowL]
    have c0 := hcc l'.length 0 (by simp) (by omega)
    rw [hy] at c0
    have lt3 := rd_lt hB c0
    simp only [List.concat_eq_append, List.length_append, List.length_singleton, Nat.mul_one, Nat.add_zero] at *
    simp (disch := omega) only [bsW, WOp, WOq, WV, bo, eqN, gdc, gw, bnd, ↓reduceIte, Nat.reduceEqDiff, rsvs, rsv, oneOf, rdN, ne_eq, Nat.reduceAdd, Nat.reduceMul, Nat.reduceLT, reduceCtorEq, Value.cells, setN, Value.oneCell', Nat.reduceLeDiff, undef, fcT, h1, h2, c0, Nat.mul_one, Int.natCast_add, Int.natCast_one, Int.add_sub_cancel, c_impl_roomBids_1]
    (repeat' (first | ((with_reducible refine gif_split (fun hs_ => ?_) (fun hs_ => ?_)) <;> (have hp_ := hs_; (try simp only [hpL, ne_eq] at hp_); (try simp (disch := omega) only [bsW, WOp, WOq, WV, bo, eqN, gdc, gw, bnd, ↓reduceIte, Nat.reduceEqDiff, rsvs, rsv, oneOf, rdN, ne_eq, Nat.reduceAdd, Nat.reduceMul, Nat.reduceLT, reduceCtorEq, Value.cells, setN, Value.oneCell', Nat.reduceLeDiff, undef, fcT, h1, h2, c0, Nat.mul_one, Int.natCast_add, Int.natCast_one, Int.add_sub_cancel, hs_]))) | ((first | (with_reducible refine newB_i (fun nb_ hb_ => ?_)) | (with_reducible refine RgE_i (fun (hBd_ : Bd _ _) => ?_))); (try simp (disch := omega) only [bsW, WOp, WOq, WV, bo, eqN, gdc, gw, bnd, ↓reduceIte, Nat.reduceEqDiff, rsvs, rsv, oneOf, rdN, ne_eq, Nat.reduceAdd, Nat.reduceMul, Nat.reduceLT, reduceCtorEq, Value.cells, setN, Value.oneCell', Nat.reduceLeDiff, undef, fcT, h1, h2, c0, Nat.mul_one, Int.natCast_add, Int.natCast_one, Int.add_sub_cancel])) | (with_reducible refine fun (hBd_ : Bd _ _) => ?_) | ((first | (with_reducible refine @And.intro (Sub _ _) _ ?_ ?_) | ((with_reducible refine @And.intro (Sub _ _ ∧ _) _ ?_ ?_); (with_reducible refine @And.intro (Sub _ _) _ ?_ ?_))); exact sbX) | ((with_reducible refine And.intro ?_ ?_); omega)))
    all_goals first
      | (exfalso; omega)
      | (exfalso; simp_all; done)
      | (refine Is_e ?_ ?_
         · first
           | (simp_all; done)
           | (refine congrArg Value.bool ?_; rw [Bool.eq_iff_iff]; simp_all; exact ⟨fun e => Ne.symm e, fun e => Ne.symm e⟩)
         · (repeat (first | assumption | exact Sub.refl _ | (refine sub_up (nx := nx) ?_ hB ?_; omega))))
end Go.Proofs.YtnjlleopgjggpaaDoor
