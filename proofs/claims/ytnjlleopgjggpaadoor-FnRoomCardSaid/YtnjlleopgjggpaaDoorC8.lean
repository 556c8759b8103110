/- CouldWin: the program. -/
import Derived.Test.YtnjlleopgjggpaaDoorC7
set_option linter.unusedVariables false
set_option linter.unusedSimpArgs false
set_option maxRecDepth 100000
set_option maxHeartbeats 1000000
namespace Go.Proofs.YtnjlleopgjggpaaDoor
open Go Go.RowKit Go.Proofs

def winB (n : Nat) (f : Nat → Nat → Int) (m : Nat) (g : Nat → Nat → Int) (start : Int) (k : Nat) (most : Int) : Bool :=
  !(room n f m (set2 g k 1 most) start).1.isEmpty && ((room n f m (set2 g k 1 most) start).1.getLastD 0 == g k 0)
def cwGo (n : Nat) (f : Nat → Nat → Int) (m : Nat) (g : Nat → Nat → Int) (start : Int) (k : Nat) : Nat → Int → Option Int
  | 0, _ => none
  | F + 1, b => if b ≤ 20000 then (if winB n f m g start k b = true then some b else cwGo n f m g start k F (nextB n f b)) else none
def vOpt : Option Int → Value
  | some b => .tuple #[.int .i64 b, .bool true]
  | none => .tuple #[.int .i64 0, .bool false]
noncomputable def vCould (n : Nat) (f : Nat → Nat → Int) (m : Nat) (g : Nat → Nat → Int) (start bidder : Int) : Value :=
  if askB n f m g start = true ∧ 0 ≤ idxOf (fun j => g j 0 == bidder) m then vOpt (cwGo n f m g start (idxOf (fun j => g j 0 == bidder) m).toNat 101 start) else vOpt none
theorem abss_set {m : Nat} {g : Nat → Nat → Int} (h : abssOk m g) {k : Nat} {x : Int} (h0 : 0 ≤ x) (h1 : x ≤ 20000) : abssOk m (set2 g k 1 x) := by
  refine ⟨fun i hi => ?_, h.2⟩
  obtain ⟨a1, a2, a3⟩ := h.1 i hi
  refine ⟨by simpa [set2] using a1, ?_, fun j hj => by simpa [set2] using a3 j hj⟩
  by_cases e : i = k
  · subst e; simp only [set2, and_self, ↓reduceIte]; exact inR_true.2 ⟨h0, h1⟩
  · simpa [set2, e] using a2
theorem bidEq (x0 x1 y : Int) (b1 : Nat) (H : Hp) (nx : Nat) (h1 : rd H b1 0 = some (.int .i64 y)) :
    PC Tryd.prog 130 #[.agg #[.int .i64 x0, .int .i64 x1], .pointer (some ⟨b1, 0, none⟩)] H nx (.bool (x0 == y)) := by
  refine AC_of x_impl_couldWin_1 rfl fun hB => ?_
  have lt1 := rd_lt hB h1
  simp (disch := omega) only [bsW, WOp, WOq, WV, bo, eqN, gdc, gw, bnd, ↓reduceIte, Nat.reduceEqDiff, rsvs, rsv, oneOf, rdN, ne_eq, Nat.reduceAdd, Nat.reduceMul, Nat.reduceLT, reduceCtorEq, Value.cells, setN, Value.oneCell', Nat.reduceLeDiff, undef, fcT, h1, c_impl_couldWin_1]
  (repeat' (first | ((with_reducible refine gif_split (fun hs_ => ?_) (fun hs_ => ?_)) <;> (have hp_ := hs_; (try simp only [hpL, ne_eq] at hp_); (try simp (disch := omega) only [bsW, WOp, WOq, WV, bo, eqN, gdc, gw, bnd, ↓reduceIte, Nat.reduceEqDiff, rsvs, rsv, oneOf, rdN, ne_eq, Nat.reduceAdd, Nat.reduceMul, Nat.reduceLT, reduceCtorEq, Value.cells, setN, Value.oneCell', Nat.reduceLeDiff, undef, fcT, h1, hs_]))) | ((first | (with_reducible refine newB_i (fun nb_ hb_ => ?_)) | (with_reducible refine RgE_i (fun (hBd_ : Bd _ _) => ?_))); (try simp (disch := omega) only [bsW, WOp, WOq, WV, bo, eqN, gdc, gw, bnd, ↓reduceIte, Nat.reduceEqDiff, rsvs, rsv, oneOf, rdN, ne_eq, Nat.reduceAdd, Nat.reduceMul, Nat.reduceLT, reduceCtorEq, Value.cells, setN, Value.oneCell', Nat.reduceLeDiff, undef, fcT, h1])) | (with_reducible refine fun (hBd_ : Bd _ _) => ?_) | ((first | (with_reducible refine @And.intro (Sub _ _) _ ?_ ?_) | ((with_reducible refine @And.intro (Sub _ _ ∧ _) _ ?_ ?_); (with_reducible refine @And.intro (Sub _ _) _ ?_ ?_))); exact sbX) | ((with_reducible refine And.intro ?_ ?_); omega)))
  exact Is_e rfl (by (repeat (first | assumption | exact Sub.refl _ | (refine sub_up (nx := nx) ?_ hB ?_; omega))))

theorem couldWin (A B : Option Addr) (n c m d : Nat) (f g : Nat → Nat → Int) (start bidder : Int) (H : Hp) (nx : Nat) (hok : stepsOk n f) (hab : abssOk m g) (hs0 : 0 ≤ start) (hs1 : start ≤ 20000) (h : Rd H A n 2 f) (h' : Rd H B m 2 g) :
    PC Tryd.prog 74 #[.slice A n c, .slice B m d, .int .i64 start, .int .i64 bidder] H nx (if 0 ≤ idxOf (fun j => g j 0 == bidder) m then vOpt (cwGo n f m g start (idxOf (fun j => g j 0 == bidder) m).toNat 101 start) else vOpt none) := by
  have hm12 := hab.2
  have hn8 := inR_true.1 hok.2
  refine AC_of x_impl_couldWin rfl fun hB => ?_
  have hp : ∀ (b7 : Nat) (H1 : Hp), H1 b7 = some (.rw [.int .i64 bidder] 3) → ∀ (k : Nat) (H2 : Hp) (nx2 : Nat), k < m → Sub H1 H2 → nx ≤ nx2 → PC Tryd.prog 130 #[.agg #[.int .i64 (g k 0), .int .i64 (g k 1)], .pointer (some ⟨b7, 0, none⟩)] H2 nx2 (.bool (g k 0 == bidder)) := by
    intro b7 H1 e1 k H2 nx2 hk hs2 hx2
    exact bidEq _ _ _ _ _ _ (rd_sub hs2 (by rw [rd_rw e1]; rfl))
  simp (disch := omega) only [bsW, WOp, WOq, WV, bo, eqN, gdc, gw, bnd, ↓reduceIte, Nat.reduceEqDiff, rsvs, rsv, oneOf, rdN, ne_eq, Nat.reduceAdd, Nat.reduceMul, Nat.reduceLT, reduceCtorEq, Value.cells, setN, Value.oneCell', Nat.reduceLeDiff, undef, fcT, c_impl_couldWin]
  (repeat' (first | ((with_reducible refine gif_split (fun hs_ => ?_) (fun hs_ => ?_)) <;> (have hp_ := hs_; (try simp only [hpL, ne_eq] at hp_); (try simp (disch := omega) only [bsW, WOp, WOq, WV, bo, eqN, gdc, gw, bnd, ↓reduceIte, Nat.reduceEqDiff, rsvs, rsv, oneOf, rdN, ne_eq, Nat.reduceAdd, Nat.reduceMul, Nat.reduceLT, reduceCtorEq, Value.cells, setN, Value.oneCell', Nat.reduceLeDiff, undef, fcT, hs_]))) | ((first | (with_reducible refine newB_i (fun nb_ hb_ => ?_)) | ((with_reducible show QC _ _ _ _ _ _); (first | (refine QC_i (idxFuncAbs B m d g _ _ (fun j => g j 0 == bidder) _ _ (by omega) (h'.sub (by (repeat (first | assumption | exact Sub.refl _ | (refine sub_up (nx := nx) ?_ hB ?_; omega))))) (fun k H2 nx2 hk hs2 hx2 => hp _ _ (upd_same _ _ _) k H2 nx2 hk hs2 (by omega))) ?_))) | ((with_reducible show AC _ _ _ _ _ _); (first | (refine PC.ac (idxFuncAbs B m d g _ _ (fun j => g j 0 == bidder) _ _ (by omega) (h'.sub (by (repeat (first | assumption | exact Sub.refl _ | (refine sub_up (nx := nx) ?_ hB ?_; omega))))) (fun k H2 nx2 hk hs2 hx2 => hp _ _ (upd_same _ _ _) k H2 nx2 hk hs2 (by omega))) ?_))) | (with_reducible refine RgE_i (fun (hBd_ : Bd _ _) => ?_))); (try simp (disch := omega) only [bsW, WOp, WOq, WV, bo, eqN, gdc, gw, bnd, ↓reduceIte, Nat.reduceEqDiff, rsvs, rsv, oneOf, rdN, ne_eq, Nat.reduceAdd, Nat.reduceMul, Nat.reduceLT, reduceCtorEq, Value.cells, setN, Value.oneCell', Nat.reduceLeDiff, undef, fcT])) | (with_reducible refine fun (hBd_ : Bd _ _) => ?_) | ((first | (with_reducible refine @And.intro (Sub _ _) _ ?_ ?_) | ((with_reducible refine @And.intro (Sub _ _ ∧ _) _ ?_ ?_); (with_reducible refine @And.intro (Sub _ _) _ ?_ ?_))); exact sbX) | ((with_reducible refine And.intro ?_ ?_); omega)))
  · exact Is_e (by rw [if_neg (by omega)]; rfl) (by (repeat (first | assumption | exact Sub.refl _ | (refine sub_up (nx := nx) ?_ hB ?_; omega))))
  obtain ⟨k, he, hk, hkp, _⟩ : ∃ k : Nat, idxOf (fun j => g j 0 == bidder) m = k ∧ k < m ∧ (g k 0 == bidder) = true ∧ True := by
    rcases idxOf_cases (fun j => g j 0 == bidder) m with ⟨e, _⟩ | ⟨k, e, hk, hp2, _⟩
    · omega
    · exact ⟨k, e, hk, hp2, trivial⟩
  have hkb : g k 0 = bidder := by simpa using hkp
  rw [if_pos (by omega), he, Int.toNat_natCast]
  have hsb : Sub H (upd H nb_ (.rw [.int .i64 bidder] 3)) := by (repeat (first | assumption | exact Sub.refl _ | (refine sub_up (nx := nx) ?_ hB ?_; omega)))
  refine (cloneAb B m d g _ _ (by omega) (h'.sub hsb)).mono2 ?_
  rintro w H1 nx1 hx1 ⟨hO1, ht1⟩
  have e7 := ht1 _ _ (upd_same _ _ _)
  have hs1' := hsb.trans ht1
  simp (disch := omega) only [bsW, WOp, WOq, WV, bo, eqN, gdc, gw, bnd, ↓reduceIte, Nat.reduceEqDiff, rsvs, rsv, oneOf, rdN, ne_eq, Nat.reduceAdd, Nat.reduceMul, Nat.reduceLT, reduceCtorEq, Value.cells, setN, Value.oneCell', Nat.reduceLeDiff, undef, fcT]
  refine LpB_rule (fun mm fr H' nx' => ∃ (F : Nat) (b : Int) (g' : Nat → Nat → Int), mm = F + 1 ∧
     fr 0 = .slice A n c ∧ fr 2 = .int .i64 start ∧ fr 7 = .pointer (some ⟨nb_, 0, none⟩) ∧ fr 10 = .int .i64 k ∧ fr 11 = w ∧ fr 12 = .int .i64 b ∧
     0 ≤ b ∧ b ≤ 25000 ∧ 20000 < b + 200 * F ∧ cwGo n f m g start k F b = cwGo n f m g start k 101 start ∧
     H' nb_ = some (.rw [.int .i64 bidder] 3) ∧ OwnR H' (nb_ + 1) nx' m 2 g' 40 w ∧ (∀ i j, i < m → j < 2 → ¬ (i = k ∧ j = 1) → g' i j = g i j) ∧ Sub H H' ∧ nb_ + 1 ≤ nx') ?_ ?_ (101 + 1) ?_
  · rintro mm K hK fr H' nx' hB' ⟨F, b, g', hmm, f0, f2, f7, f10, f11, f12, hb0, hb1, hF, hcw, e7', hO, hg', hs, hx⟩
    simp (disch := omega) only [bsW, WOp, WOq, WV, bo, eqN, gdc, gw, bnd, ↓reduceIte, Nat.reduceEqDiff, rsvs, rsv, oneOf, rdN, ne_eq, Nat.reduceAdd, Nat.reduceMul, Nat.reduceLT, reduceCtorEq, Value.cells, setN, Value.oneCell', Nat.reduceLeDiff, undef, fcT, f0, f2, f7, f10, f11, f12]
    refine gif_split (fun b1 => ?_) (fun b1 => ?_)
    · have hble : b ≤ 20000 := by simpa using b1
      obtain ⟨F, rfl⟩ : ∃ F', F = F' + 1 := ⟨F - 1, by omega⟩
      have hbd := nextB_bd hok hb0 (b := b)
      have hw := hO
      rcases hO.ex with ⟨rfl, h0⟩ | ⟨q, cap, sp, rfl, hq1, hq2, hq3, hq4, hq5, hq6⟩
      · omega
      simp (disch := omega) only [bsW, WOp, WOq, WV, bo, eqN, gdc, gw, bnd, ↓reduceIte, Nat.reduceEqDiff, rsvs, rsv, oneOf, rdN, ne_eq, Nat.reduceAdd, Nat.reduceMul, Nat.reduceLT, reduceCtorEq, Value.cells, setN, Value.oneCell', Nat.reduceLeDiff, undef, fcT, f0, f2, f7, f10, f11, f12, hq3, List.length_append, flat_length, b1]
      (repeat' (first | ((with_reducible refine gif_split (fun hs_ => ?_) (fun hs_ => ?_)) <;> (have hp_ := hs_; (try simp only [hpL, ne_eq] at hp_); (try simp (disch := omega) only [bsW, WOp, WOq, WV, bo, eqN, gdc, gw, bnd, ↓reduceIte, Nat.reduceEqDiff, rsvs, rsv, oneOf, rdN, ne_eq, Nat.reduceAdd, Nat.reduceMul, Nat.reduceLT, reduceCtorEq, Value.cells, setN, Value.oneCell', Nat.reduceLeDiff, undef, fcT, f0, f2, f7, f10, f11, f12, hq3, List.length_append, flat_length, hs_]))) | ((first | (with_reducible refine newB_i (fun nb_ hb_ => ?_)) | (with_reducible refine RgE_i (fun (hBd_ : Bd _ _) => ?_))); (try simp (disch := omega) only [bsW, WOp, WOq, WV, bo, eqN, gdc, gw, bnd, ↓reduceIte, Nat.reduceEqDiff, rsvs, rsv, oneOf, rdN, ne_eq, Nat.reduceAdd, Nat.reduceMul, Nat.reduceLT, reduceCtorEq, Value.cells, setN, Value.oneCell', Nat.reduceLeDiff, undef, fcT, f0, f2, f7, f10, f11, f12, hq3, List.length_append, flat_length])) | (with_reducible refine fun (hBd_ : Bd _ _) => ?_) | ((first | (with_reducible refine @And.intro (Sub _ _) _ ?_ ?_) | ((with_reducible refine @And.intro (Sub _ _ ∧ _) _ ?_ ?_); (with_reducible refine @And.intro (Sub _ _) _ ?_ ?_))); exact sbX) | ((with_reducible refine And.intro ?_ ?_); omega)))
      all_goals try (exfalso; omega)
      rw [flat_set_sp hk (by omega)]
      have hRd : Rd (upd H' q (.rw (flat m 2 (set2 g' k 1 b) ++ sp) 40)) (some ⟨q, 0, none⟩) m 2 (set2 g k 1 b) := by
        refine (Rd.rw_ (upd_same _ _ _)).congr fun i j hi hj => ?_
        simp only [set2]
        split
        · rfl
        · rename_i hne; exact hg' i j hi hj hne
      have hsq : Sub H (upd H' q (.rw (flat m 2 (set2 g' k 1 b) ++ sp) 40)) := sub_up (nx := nx) (by omega) hB hs
      refine (roomBids A _ n c m cap f (set2 g k 1 b) start _ nx' hok (abss_set hab hb0 hble) hs0 hs1 (h.sub hsq) hRd).mono2 ?_
      rintro v2 H2 nx2 hx2 ⟨w2, rfl, hO2, ht2⟩
      have e72 : H2 nb_ = some (.rw [.int .i64 bidder] 3) := ht2 _ _ (by rw [upd_ne (by omega)]; exact e7')
      have r7 : rd H2 nb_ 0 = some (.int .i64 bidder) := by rw [rd_rw e72]; rfl
      have hq3' := ht2 _ _ (upd_same _ _ _)
      have hs2 := hsq.trans ht2
      have hlen := room_len n f m (set2 g k 1 b) start
      have hwin : winB n f m g start k b = (!(room n f m (set2 g k 1 b) start).1.isEmpty && ((room n f m (set2 g k 1 b) start).1.getLastD 0 == g k 0)) := rfl
      obtain ⟨A2, c2, rfl, hc2, hR2⟩ := hO2.rd
      have hgo : cwGo n f m g start k (F + 1) b = if winB n f m g start k b = true then some b else cwGo n f m g start k F (nextB n f b) := by simp only [cwGo]; rw [if_pos hble]
      rw [hgo] at hcw
      have hnext : OwnR H2 (nb_ + 1) nx2 m 2 (set2 g' k 1 b) 40 (.slice (some ⟨q, 0, none⟩) m cap) := ⟨.inr ⟨q, cap, sp, rfl, hq1, by omega, hq3', hq4, hq5, hq6⟩⟩
      have hng : ∀ i j, i < m → j < 2 → ¬ (i = k ∧ j = 1) → set2 g' k 1 b i j = g i j := fun i j hi hj hne => by simp only [set2]; rw [if_neg hne]; exact hg' i j hi hj hne
      generalize hl : (room n f m (set2 g k 1 b) start).1 = l at *
      rcases List.eq_nil_or_concat l with rfl | ⟨l', y, rfl⟩
      · have hwf : winB n f m g start k b = false := by rw [hwin]; simp
        rw [hwf, if_neg (by simp)] at hcw
        simp (disch := omega) only [bsW, WOp, WOq, WV, bo, eqN, gdc, gw, bnd, ↓reduceIte, Nat.reduceEqDiff, rsvs, rsv, oneOf, rdN, ne_eq, Nat.reduceAdd, Nat.reduceMul, Nat.reduceLT, reduceCtorEq, Value.cells, setN, Value.oneCell', Nat.reduceLeDiff, undef, fcT, f0, f2, f7, f10, f11, f12, r7, List.length_nil, Int.natCast_zero]
        (repeat' (first | ((with_reducible refine gif_split (fun hs_ => ?_) (fun hs_ => ?_)) <;> (have hp_ := hs_; (try simp only [hpL, ne_eq] at hp_); (try simp (disch := omega) only [bsW, WOp, WOq, WV, bo, eqN, gdc, gw, bnd, ↓reduceIte, Nat.reduceEqDiff, rsvs, rsv, oneOf, rdN, ne_eq, Nat.reduceAdd, Nat.reduceMul, Nat.reduceLT, reduceCtorEq, Value.cells, setN, Value.oneCell', Nat.reduceLeDiff, undef, fcT, f0, f2, f7, f10, f11, f12, r7, List.length_nil, Int.natCast_zero, hs_]))) | ((first | (with_reducible refine newB_i (fun nb_ hb_ => ?_)) | ((with_reducible show QC _ _ _ _ _ _); (first | (refine QC_i (nextBid A n c f b _ _ hok hb0 (by omega) (h.sub (by (repeat (first | assumption | exact Sub.refl _ | (refine sub_up (nx := nx) ?_ hB ?_; omega)))))) ?_))) | ((with_reducible show AC _ _ _ _ _ _); (first | (refine PC.ac (nextBid A n c f b _ _ hok hb0 (by omega) (h.sub (by (repeat (first | assumption | exact Sub.refl _ | (refine sub_up (nx := nx) ?_ hB ?_; omega)))))) ?_))) | (with_reducible refine RgE_i (fun (hBd_ : Bd _ _) => ?_))); (try simp (disch := omega) only [bsW, WOp, WOq, WV, bo, eqN, gdc, gw, bnd, ↓reduceIte, Nat.reduceEqDiff, rsvs, rsv, oneOf, rdN, ne_eq, Nat.reduceAdd, Nat.reduceMul, Nat.reduceLT, reduceCtorEq, Value.cells, setN, Value.oneCell', Nat.reduceLeDiff, undef, fcT, f0, f2, f7, f10, f11, f12, r7, List.length_nil, Int.natCast_zero])) | (with_reducible refine fun (hBd_ : Bd _ _) => ?_) | ((first | (with_reducible refine @And.intro (Sub _ _) _ ?_ ?_) | ((with_reducible refine @And.intro (Sub _ _ ∧ _) _ ?_ ?_); (with_reducible refine @And.intro (Sub _ _) _ ?_ ?_))); exact sbX) | ((with_reducible refine And.intro ?_ ?_); omega)))
        all_goals try (exfalso; simp_all; done)
        refine hK _ _ _ ?_
        exact ⟨F, nextB n f b, _, by omega, by simp (disch := omega) only [bsW, ↓reduceIte, Nat.reduceEqDiff, ne_eq, reduceCtorEq, fcT, f0, f2, f7, f10, f11, f12, r7, List.length_nil, Int.natCast_zero], by simp (disch := omega) only [bsW, ↓reduceIte, Nat.reduceEqDiff, ne_eq, reduceCtorEq, fcT, f0, f2, f7, f10, f11, f12, r7, List.length_nil, Int.natCast_zero], by simp (disch := omega) only [bsW, ↓reduceIte, Nat.reduceEqDiff, ne_eq, reduceCtorEq, fcT, f0, f2, f7, f10, f11, f12, r7, List.length_nil, Int.natCast_zero], by simp (disch := omega) only [bsW, ↓reduceIte, Nat.reduceEqDiff, ne_eq, reduceCtorEq, fcT, f0, f2, f7, f10, f11, f12, r7, List.length_nil, Int.natCast_zero], by simp (disch := omega) only [bsW, ↓reduceIte, Nat.reduceEqDiff, ne_eq, reduceCtorEq, fcT, f0, f2, f7, f10, f11, f12, r7, List.length_nil, Int.natCast_zero], by simp (disch := omega) only [bsW, ↓reduceIte, Nat.reduceEqDiff, ne_eq, reduceCtorEq, fcT, f0, f2, f7, f10, f11, f12, r7, List.length_nil, Int.natCast_zero], by omega, by omega, by omega, hcw, e72, hnext, hng, hs2, by omega⟩
      · obtain ⟨b2, off, rfl, hcc⟩ := hR2.at_ (by simp)
        have hy : rowL (l'.concat y) l'.length 0 = y := by simp [rowL]
        have c0 := hcc l'.length 0 (by simp) (by omega)
        rw [hy] at c0
        have hwf : winB n f m g start k b = (y == bidder) := by rw [hwin, hkb]; simp
        rw [hwf] at hcw
        simp only [List.concat_eq_append, List.length_append, List.length_singleton, Nat.mul_one, Nat.add_zero] at *
        simp (disch := omega) only [bsW, WOp, WOq, WV, bo, eqN, gdc, gw, bnd, ↓reduceIte, Nat.reduceEqDiff, rsvs, rsv, oneOf, rdN, ne_eq, Nat.reduceAdd, Nat.reduceMul, Nat.reduceLT, reduceCtorEq, Value.cells, setN, Value.oneCell', Nat.reduceLeDiff, undef, fcT, f0, f2, f7, f10, f11, f12, r7, c0, Nat.mul_one, Int.natCast_add, Int.natCast_one, Int.add_sub_cancel]
        (repeat' (first | ((with_reducible refine gif_split (fun hs_ => ?_) (fun hs_ => ?_)) <;> (have hp_ := hs_; (try simp only [hpL, ne_eq] at hp_); (try simp (disch := omega) only [bsW, WOp, WOq, WV, bo, eqN, gdc, gw, bnd, ↓reduceIte, Nat.reduceEqDiff, rsvs, rsv, oneOf, rdN, ne_eq, Nat.reduceAdd, Nat.reduceMul, Nat.reduceLT, reduceCtorEq, Value.cells, setN, Value.oneCell', Nat.reduceLeDiff, undef, fcT, f0, f2, f7, f10, f11, f12, r7, c0, Nat.mul_one, Int.natCast_add, Int.natCast_one, Int.add_sub_cancel, hs_]))) | ((first | (with_reducible refine newB_i (fun nb_ hb_ => ?_)) | ((with_reducible show QC _ _ _ _ _ _); (first | (refine QC_i (nextBid A n c f b _ _ hok hb0 (by omega) (h.sub (by (repeat (first | assumption | exact Sub.refl _ | (refine sub_up (nx := nx) ?_ hB ?_; omega)))))) ?_))) | ((with_reducible show AC _ _ _ _ _ _); (first | (refine PC.ac (nextBid A n c f b _ _ hok hb0 (by omega) (h.sub (by (repeat (first | assumption | exact Sub.refl _ | (refine sub_up (nx := nx) ?_ hB ?_; omega)))))) ?_))) | (with_reducible refine RgE_i (fun (hBd_ : Bd _ _) => ?_))); (try simp (disch := omega) only [bsW, WOp, WOq, WV, bo, eqN, gdc, gw, bnd, ↓reduceIte, Nat.reduceEqDiff, rsvs, rsv, oneOf, rdN, ne_eq, Nat.reduceAdd, Nat.reduceMul, Nat.reduceLT, reduceCtorEq, Value.cells, setN, Value.oneCell', Nat.reduceLeDiff, undef, fcT, f0, f2, f7, f10, f11, f12, r7, c0, Nat.mul_one, Int.natCast_add, Int.natCast_one, Int.add_sub_cancel])) | (with_reducible refine fun (hBd_ : Bd _ _) => ?_) | ((first | (with_reducible refine @And.intro (Sub _ _) _ ?_ ?_) | ((with_reducible refine @And.intro (Sub _ _ ∧ _) _ ?_ ?_); (with_reducible refine @And.intro (Sub _ _) _ ?_ ?_))); exact sbX) | ((with_reducible refine And.intro ?_ ?_); omega)))
        all_goals try (exfalso; omega)
        · rw [if_pos (by simpa using hp_)] at hcw
          exact Is_e (by rw [← hcw]; rfl) hs2
        · rw [if_neg (by simpa using hp_)] at hcw
          refine hK _ _ _ ?_
          exact ⟨F, nextB n f b, _, by omega, by simp (disch := omega) only [bsW, ↓reduceIte, Nat.reduceEqDiff, ne_eq, reduceCtorEq, fcT, f0, f2, f7, f10, f11, f12, r7, c0, Nat.mul_one, Int.natCast_add, Int.natCast_one, Int.add_sub_cancel], by simp (disch := omega) only [bsW, ↓reduceIte, Nat.reduceEqDiff, ne_eq, reduceCtorEq, fcT, f0, f2, f7, f10, f11, f12, r7, c0, Nat.mul_one, Int.natCast_add, Int.natCast_one, Int.add_sub_cancel], by simp (disch := omega) only [bsW, ↓reduceIte, Nat.reduceEqDiff, ne_eq, reduceCtorEq, fcT, f0, f2, f7, f10, f11, f12, r7, c0, Nat.mul_one, Int.natCast_add, Int.natCast_one, Int.add_sub_cancel], by simp (disch := omega) only [bsW, ↓reduceIte, Nat.reduceEqDiff, ne_eq, reduceCtorEq, fcT, f0, f2, f7, f10, f11, f12, r7, c0, Nat.mul_one, Int.natCast_add, Int.natCast_one, Int.add_sub_cancel], by simp (disch := omega) only [bsW, ↓reduceIte, Nat.reduceEqDiff, ne_eq, reduceCtorEq, fcT, f0, f2, f7, f10, f11, f12, r7, c0, Nat.mul_one, Int.natCast_add, Int.natCast_one, Int.add_sub_cancel], by simp (disch := omega) only [bsW, ↓reduceIte, Nat.reduceEqDiff, ne_eq, reduceCtorEq, fcT, f0, f2, f7, f10, f11, f12, r7, c0, Nat.mul_one, Int.natCast_add, Int.natCast_one, Int.add_sub_cancel], by omega, by omega, by omega, hcw, e72, hnext, hng, hs2, by omega⟩
    · simp (disch := omega) only [bsW, WOp, WOq, WV, bo, eqN, gdc, gw, bnd, ↓reduceIte, Nat.reduceEqDiff, rsvs, rsv, oneOf, rdN, ne_eq, Nat.reduceAdd, Nat.reduceMul, Nat.reduceLT, reduceCtorEq, Value.cells, setN, Value.oneCell', Nat.reduceLeDiff, undef, fcT, f0, f2, f7, f10, f11, f12, b1]
      have hble : ¬ b ≤ 20000 := by simpa using b1
      refine Is_e ?_ hs
      rw [← hcw]
      cases F with
      | zero => rfl
      | succ F => simp only [cwGo]; rw [if_neg hble]; rfl
  · rintro fr H' nx' ⟨F, b, g', hm, _⟩; omega
  · exact ⟨101, start, g, rfl, by simp (disch := omega) only [bsW, ↓reduceIte, Nat.reduceEqDiff, ne_eq, reduceCtorEq, fcT], by simp (disch := omega) only [bsW, ↓reduceIte, Nat.reduceEqDiff, ne_eq, reduceCtorEq, fcT], by simp (disch := omega) only [bsW, ↓reduceIte, Nat.reduceEqDiff, ne_eq, reduceCtorEq, fcT], by simp (disch := omega) only [bsW, ↓reduceIte, Nat.reduceEqDiff, ne_eq, reduceCtorEq, fcT, he], by simp (disch := omega) only [bsW, ↓reduceIte, Nat.reduceEqDiff, ne_eq, reduceCtorEq, fcT], by simp (disch := omega) only [bsW, ↓reduceIte, Nat.reduceEqDiff, ne_eq, reduceCtorEq, fcT], hs0, by omega, by omega, rfl, e7, hO1, fun i j _ _ _ => rfl, hs1', by omega⟩
end Go.Proofs.YtnjlleopgjggpaaDoor
