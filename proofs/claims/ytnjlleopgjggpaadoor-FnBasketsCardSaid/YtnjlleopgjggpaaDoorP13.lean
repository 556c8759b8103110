/- Items with a price, the dearest one. -/
import Derived.Test.YtnjlleopgjggpaaDoorP3
import Derived.Test.YtnjlleopgjggpaaDoorP12
set_option linter.unusedVariables false
set_option linter.unusedSimpArgs false
set_option maxRecDepth 100000
set_option maxHeartbeats 1000000
namespace Go.Proofs.YtnjlleopgjggpaaDoor
open Go Go.RowKit Go.Proofs

theorem sub_oth2 {H H5 H6 H7 : Hp} {lo nx nx5 n k : Nat} {f : Nat → Nat → Int} {ty : TypeId} {v : Value} (hO : OwnR H7 lo nx5 n k f ty v) (hlo : nx ≤ lo) (hB : Bd H nx) (hs : Sub H H5) (h : ∀ c, some c ≠ ownBlk v → H6 c = H5 c) : Sub H H6 := fun c o e => by
  have h1 := hB c o e
  rw [h c (fun e2 => by have := (hO.blk e2).1; omega)]
  exact hs c o e
noncomputable def pY (n : Nat) (f : Nat → Nat → Int) (year : Int) (item : Int) : Int := priceV n f item year
theorem itemsPriced (A : Option Addr) (n c : Nat) (f : Nat → Nat → Int) (year : Int) (H : Hp) (nx : Nat) (hok : prsOk n f) (hy : 0 ≤ year ∧ year ≤ 4000) (h : Rd H A n 3 f) :
    AC Tryd.prog 86 #[.slice A n c, .int .i64 year] H nx (NewL H nx (itP (pY n f year) f n) 3) := by
  have hn := hok.2
  refine AC_of x_impl_itemsPriced rfl fun hB => ?_
  simp (disch := omega) only [bsW, WOp, WOq, WV, bo, eqN, gdc, gw, bnd, ↓reduceIte, Nat.reduceEqDiff, rsvs, rsv, oneOf, rdN, ne_eq, Nat.reduceAdd, Nat.reduceMul, Nat.reduceLT, reduceCtorEq, Value.cells, setN, Value.oneCell', Nat.reduceLeDiff, undef, fcT, c_impl_itemsPriced]
  refine LpE_rule (fun m fr H' nx' => ∃ (k : Nat) (w : Value), m = n - k + 1 ∧ k ≤ n ∧ fr 0 = .slice A n c ∧ fr 1 = .int .i64 year ∧ fr 5 = w ∧ fr 10 = .slice A n c ∧ fr 11 = .int .i64 n ∧ fr 12 = .int .i64 k ∧ OwnL H' nx nx' (rawL (pY n f year) f k) 3 w ∧ Sub H H' ∧ nx ≤ nx') ?_ ?_ (n + 1) ?_
  · rintro m K hK fr H' nx' ⟨k, w, hm, hk, f0, f1, f5, f10, f11, f12, hO, hs, hx⟩
    simp (disch := omega) only [bsW, WOp, WOq, WV, bo, eqN, gdc, gw, bnd, ↓reduceIte, Nat.reduceEqDiff, rsvs, rsv, oneOf, rdN, ne_eq, Nat.reduceAdd, Nat.reduceMul, Nat.reduceLT, reduceCtorEq, Value.cells, setN, Value.oneCell', Nat.reduceLeDiff, undef, fcT, f0, f1, f5, f10, f11, f12]
    have hrl := rawL_len (pY n f year) f k
    refine gif_split (fun b1 => ?_) (fun b1 => ?_)
    · have hlt : k < n := by simpa using b1
      obtain ⟨b, off, rfl, hc⟩ := h.at_ (by omega)
      have hb := rd_lt hB (hc k 0 hlt (by omega))
      have c0 := rd_sub hs (hc k 0 hlt (by omega))
      have c1 := rd_sub hs (hc k 1 hlt (by omega))
      have c2 := rd_sub hs (hc k 2 hlt (by omega))
      simp only [Nat.add_zero] at c0
      have hr : rawL (pY n f year) f (k + 1) = if 0 < priceV n f (f k 0) year then rawL (pY n f year) f k ++ [f k 0] else rawL (pY n f year) f k := rfl
      simp (disch := omega) only [bsW, WOp, WOq, WV, bo, eqN, gdc, gw, bnd, ↓reduceIte, Nat.reduceEqDiff, rsvs, rsv, oneOf, rdN, ne_eq, Nat.reduceAdd, Nat.reduceMul, Nat.reduceLT, reduceCtorEq, Value.cells, setN, Value.oneCell', Nat.reduceLeDiff, undef, fcT, f0, f1, f5, f10, f11, f12, c0, c1, c2, b1]
      (repeat' (first | ((with_reducible refine gif_split (fun hs_ => ?_) (fun hs_ => ?_)) <;> (have hp_ := hs_; (try simp only [hpL, ne_eq] at hp_); (try simp (disch := omega) only [bsW, WOp, WOq, WV, bo, eqN, gdc, gw, bnd, ↓reduceIte, Nat.reduceEqDiff, rsvs, rsv, oneOf, rdN, ne_eq, Nat.reduceAdd, Nat.reduceMul, Nat.reduceLT, reduceCtorEq, Value.cells, setN, Value.oneCell', Nat.reduceLeDiff, undef, fcT, f0, f1, f5, f10, f11, f12, c0, c1, c2, hs_]))) | ((first | (with_reducible refine newB_i (fun nb_ hb_ => ?_)) | ((with_reducible show QC _ _ _ _ _ _); (first | (refine QC_i (priceIn _ n c f (f k 0) year _ _ hok hy (h.sub (by (repeat (first | assumption | exact Sub.refl _ | (refine sub_up (nx := nx) ?_ hB ?_; omega)))))) ?_))) | ((with_reducible show AC _ _ _ _ _ _); (first | (refine PC.ac (priceIn _ n c f (f k 0) year _ _ hok hy (h.sub (by (repeat (first | assumption | exact Sub.refl _ | (refine sub_up (nx := nx) ?_ hB ?_; omega)))))) ?_))) | (with_reducible refine RgE_i (fun (hBd_ : Bd _ _) => ?_))); (try simp (disch := omega) only [bsW, WOp, WOq, WV, bo, eqN, gdc, gw, bnd, ↓reduceIte, Nat.reduceEqDiff, rsvs, rsv, oneOf, rdN, ne_eq, Nat.reduceAdd, Nat.reduceMul, Nat.reduceLT, reduceCtorEq, Value.cells, setN, Value.oneCell', Nat.reduceLeDiff, undef, fcT, f0, f1, f5, f10, f11, f12, c0, c1, c2])) | (with_reducible refine fun (hBd_ : Bd _ _) => ?_) | ((first | (with_reducible refine @And.intro (Sub _ _) _ ?_ ?_) | ((with_reducible refine @And.intro (Sub _ _ ∧ _) _ ?_ ?_); (with_reducible refine @And.intro (Sub _ _) _ ?_ ?_))); exact sbX) | ((with_reducible refine And.intro ?_ ?_); omega)))
      all_goals try (exfalso; omega)
      · rw [if_pos hp_] at hr
        refine app_oneL (x := f k 0) (by simp (disch := omega) only [bsW, WOp, WOq, WV, bo, eqN, gdc, gw, bnd, ↓reduceIte, Nat.reduceEqDiff, rsvs, rsv, oneOf, rdN, ne_eq, Nat.reduceAdd, Nat.reduceMul, Nat.reduceLT, reduceCtorEq, Value.cells, setN, Value.oneCell', Nat.reduceLeDiff, undef, fcT, f0, f1, f5, f10, f11, f12, c0, c1, c2]) (by simp (disch := omega) only [bsW, WOp, WOq, WV, bo, eqN, gdc, gw, bnd, ↓reduceIte, Nat.reduceEqDiff, rsvs, rsv, oneOf, rdN, ne_eq, Nat.reduceAdd, Nat.reduceMul, Nat.reduceLT, reduceCtorEq, Value.cells, setN, Value.oneCell', Nat.reduceLeDiff, undef, fcT, f0, f1, f5, f10, f11, f12, c0, c1, c2]) (by simp (disch := omega) only [bsW, WOp, WOq, WV, bo, eqN, gdc, gw, bnd, ↓reduceIte, Nat.reduceEqDiff, rsvs, rsv, oneOf, rdN, ne_eq, Nat.reduceAdd, Nat.reduceMul, Nat.reduceLT, reduceCtorEq, Value.cells, setN, Value.oneCell', Nat.reduceLeDiff, undef, fcT, f0, f1, f5, f10, f11, f12, c0, c1, c2]) (by simp (disch := omega) only [bsW, WOp, WOq, WV, bo, eqN, gdc, gw, bnd, ↓reduceIte, Nat.reduceEqDiff, rsvs, rsv, oneOf, rdN, ne_eq, Nat.reduceAdd, Nat.reduceMul, Nat.reduceLT, reduceCtorEq, Value.cells, setN, Value.oneCell', Nat.reduceLeDiff, undef, fcT, f0, f1, f5, f10, f11, f12, c0, c1, c2]) ((hO.new (by omega)).new (by omega)) (upd_same _ _ _) (by omega) (by omega) ?_
        rintro v' b' o nx2 hb' hn2 hown' hO2
        have hlo : nx ≤ b' := by
          rcases hb' with e | e
          · exact (hO.blk e).1
          · omega
        simp (disch := omega) only [bsW, WOp, WOq, WV, bo, eqN, gdc, gw, bnd, ↓reduceIte, Nat.reduceEqDiff, rsvs, rsv, oneOf, rdN, ne_eq, Nat.reduceAdd, Nat.reduceMul, Nat.reduceLT, reduceCtorEq, Value.cells, setN, Value.oneCell', Nat.reduceLeDiff, undef, fcT, f0, f1, f5, f10, f11, f12, c0, c1, c2]
        refine hK _ _ _ ?_
        exact ⟨k + 1, v', by omega, by omega, by simp (disch := omega) only [bsW, ↓reduceIte, Nat.reduceEqDiff, ne_eq, reduceCtorEq, fcT, f0, f1, f5, f10, f11, f12, c0, c1, c2], by simp (disch := omega) only [bsW, ↓reduceIte, Nat.reduceEqDiff, ne_eq, reduceCtorEq, fcT, f0, f1, f5, f10, f11, f12, c0, c1, c2], by simp (disch := omega) only [bsW, ↓reduceIte, Nat.reduceEqDiff, ne_eq, reduceCtorEq, fcT, f0, f1, f5, f10, f11, f12, c0, c1, c2], by simp (disch := omega) only [bsW, ↓reduceIte, Nat.reduceEqDiff, ne_eq, reduceCtorEq, fcT, f0, f1, f5, f10, f11, f12, c0, c1, c2], by simp (disch := omega) only [bsW, ↓reduceIte, Nat.reduceEqDiff, ne_eq, reduceCtorEq, fcT, f0, f1, f5, f10, f11, f12, c0, c1, c2], by simp (disch := omega) only [bsW, ↓reduceIte, Nat.reduceEqDiff, ne_eq, reduceCtorEq, fcT, f0, f1, f5, f10, f11, f12, c0, c1, c2, Int.natCast_add, Int.natCast_one], by rw [hr]; exact hO2, by (repeat (first | assumption | exact Sub.refl _ | (refine sub_up (nx := nx) ?_ hB ?_; omega))), by omega⟩
      · rw [if_neg hp_] at hr
        refine hK _ _ _ ?_
        exact ⟨k + 1, w, by omega, by omega, by simp (disch := omega) only [bsW, ↓reduceIte, Nat.reduceEqDiff, ne_eq, reduceCtorEq, fcT, f0, f1, f5, f10, f11, f12, c0, c1, c2], by simp (disch := omega) only [bsW, ↓reduceIte, Nat.reduceEqDiff, ne_eq, reduceCtorEq, fcT, f0, f1, f5, f10, f11, f12, c0, c1, c2], by simp (disch := omega) only [bsW, ↓reduceIte, Nat.reduceEqDiff, ne_eq, reduceCtorEq, fcT, f0, f1, f5, f10, f11, f12, c0, c1, c2], by simp (disch := omega) only [bsW, ↓reduceIte, Nat.reduceEqDiff, ne_eq, reduceCtorEq, fcT, f0, f1, f5, f10, f11, f12, c0, c1, c2], by simp (disch := omega) only [bsW, ↓reduceIte, Nat.reduceEqDiff, ne_eq, reduceCtorEq, fcT, f0, f1, f5, f10, f11, f12, c0, c1, c2], by simp (disch := omega) only [bsW, ↓reduceIte, Nat.reduceEqDiff, ne_eq, reduceCtorEq, fcT, f0, f1, f5, f10, f11, f12, c0, c1, c2, Int.natCast_add, Int.natCast_one], by rw [hr]; exact hO.new (by omega), by (repeat (first | assumption | exact Sub.refl _ | (refine sub_up (nx := nx) ?_ hB ?_; omega))), by omega⟩
    · have hkn : k = n := by simp at b1; omega
      subst hkn
      simp (disch := omega) only [bsW, WOp, WOq, WV, bo, eqN, gdc, gw, bnd, ↓reduceIte, Nat.reduceEqDiff, rsvs, rsv, oneOf, rdN, ne_eq, Nat.reduceAdd, Nat.reduceMul, Nat.reduceLT, reduceCtorEq, Value.cells, setN, Value.oneCell', Nat.reduceLeDiff, undef, fcT, f0, f1, f5, f10, f11, f12, b1]
      refine (compactInt w _ _ nx H' nx' (by omega) hO).mono2 ?_
      rintro v2 H2 nx2 hx2 ⟨hO2, hoth⟩
      simp (disch := omega) only [bsW, WOp, WOq, WV, bo, eqN, gdc, gw, bnd, ↓reduceIte, Nat.reduceEqDiff, rsvs, rsv, oneOf, rdN, ne_eq, Nat.reduceAdd, Nat.reduceMul, Nat.reduceLT, reduceCtorEq, Value.cells, setN, Value.oneCell', Nat.reduceLeDiff, undef, fcT, f0, f1, f5, f10, f11, f12]
      rw [raw_it] at hO2
      exact ⟨hO2, sub_oth2 hO (Nat.le_refl _) hB hs hoth⟩
  · rintro fr H' nx' ⟨k, w, hm, _⟩; omega
  · exact ⟨0, _, by omega, by omega, by simp (disch := omega) only [bsW, ↓reduceIte, Nat.reduceEqDiff, ne_eq, reduceCtorEq, fcT], by simp (disch := omega) only [bsW, ↓reduceIte, Nat.reduceEqDiff, ne_eq, reduceCtorEq, fcT], by simp (disch := omega) only [bsW, ↓reduceIte, Nat.reduceEqDiff, ne_eq, reduceCtorEq, fcT], by simp (disch := omega) only [bsW, ↓reduceIte, Nat.reduceEqDiff, ne_eq, reduceCtorEq, fcT], by simp (disch := omega) only [bsW, ↓reduceIte, Nat.reduceEqDiff, ne_eq, reduceCtorEq, fcT], by simp (disch := omega) only [bsW, ↓reduceIte, Nat.reduceEqDiff, ne_eq, reduceCtorEq, fcT, Int.natCast_zero], .nil, Sub.refl _, by omega⟩

noncomputable def itAll (n : Nat) (f : Nat → Nat → Int) (year : Int) : List Int := if prsB n f = true ∧ inR year 1840 2100 = true then itP (pY n f year) f n else []
noncomputable def askP (n : Nat) (f : Nat → Nat → Int) (year : Int) : Bool := prsB n f && inR year 1840 2100
theorem itAll_len (n : Nat) (f : Nat → Nat → Int) (year : Int) : (itAll n f year).length ≤ 15 := by
  unfold itAll
  split
  · rename_i h
    have := (prsB_iff.1 h.1).2
    have := itP_len (pY n f year) f n
    omega
  · simp
theorem yr2 {y : Int} (h : inR y 1840 2100 = true) : 0 ≤ y ∧ y ≤ 4000 := by have := inR_true.1 h; omega
/-- A new row of ints and a flag. -/
def LFlag (H : Hp) (nx : Nat) (l : List Int) (ty : TypeId) (ok : Bool) (v : Value) (H' : Hp) (nx' : Nat) : Prop := ∃ w, v = .tuple #[w, .bool ok] ∧ OwnL H' nx nx' l ty w ∧ Sub H H'
theorem ItemsPriced (A : Option Addr) (n c : Nat) (f : Nat → Nat → Int) (year : Int) (H : Hp) (nx : Nat) (hn : n ≤ 17592186044416) (h : Rd H A n 3 f) :
    AC Tryd.prog 26 #[.slice A n c, .int .i64 year] H nx (LFlag H nx (itAll n f year) 3 (askP n f year)) := by
  refine AC_of x_impl_ItemsPriced rfl fun hB => ?_
  simp (disch := omega) only [bsW, WOp, WOq, WV, bo, eqN, gdc, gw, bnd, ↓reduceIte, Nat.reduceEqDiff, rsvs, rsv, oneOf, rdN, ne_eq, Nat.reduceAdd, Nat.reduceMul, Nat.reduceLT, reduceCtorEq, Value.cells, setN, Value.oneCell', Nat.reduceLeDiff, undef, fcT, c_impl_ItemsPriced]
  (repeat' (first | ((with_reducible refine gif_split (fun hs_ => ?_) (fun hs_ => ?_)) <;> (have hp_ := hs_; (try simp only [hpL, ne_eq] at hp_); (try simp (disch := omega) only [bsW, WOp, WOq, WV, bo, eqN, gdc, gw, bnd, ↓reduceIte, Nat.reduceEqDiff, rsvs, rsv, oneOf, rdN, ne_eq, Nat.reduceAdd, Nat.reduceMul, Nat.reduceLT, reduceCtorEq, Value.cells, setN, Value.oneCell', Nat.reduceLeDiff, undef, fcT, hs_]))) | ((first | (with_reducible refine newB_i (fun nb_ hb_ => ?_)) | ((with_reducible show QC _ _ _ _ _ _); (first | (refine QC_i (arePrices A n c f _ _ hn h) ?_) | (refine QC_i (isYear _ _ _) ?_))) | ((with_reducible show AC _ _ _ _ _ _); (first | (refine PC.ac (arePrices A n c f _ _ hn h) ?_) | (refine PC.ac (isYear _ _ _) ?_))) | (with_reducible refine RgE_i (fun (hBd_ : Bd _ _) => ?_))); (try simp (disch := omega) only [bsW, WOp, WOq, WV, bo, eqN, gdc, gw, bnd, ↓reduceIte, Nat.reduceEqDiff, rsvs, rsv, oneOf, rdN, ne_eq, Nat.reduceAdd, Nat.reduceMul, Nat.reduceLT, reduceCtorEq, Value.cells, setN, Value.oneCell', Nat.reduceLeDiff, undef, fcT])) | (with_reducible refine fun (hBd_ : Bd _ _) => ?_) | ((first | (with_reducible refine @And.intro (Sub _ _) _ ?_ ?_) | ((with_reducible refine @And.intro (Sub _ _ ∧ _) _ ?_ ?_); (with_reducible refine @And.intro (Sub _ _) _ ?_ ?_))); exact sbX) | ((with_reducible refine And.intro ?_ ?_); omega)))
  all_goals try (exfalso; omega)
  all_goals try (
    have e1 : askP n f year = false := by simp_all [askP]
    have e2 : itAll n f year = [] := if_neg (by simp_all)
    rw [e1, e2]
    exact ⟨_, rfl, .nil, Sub.refl _⟩)
  have hp : prsB n f = true := by with_reducible assumption
  have hyy : inR year 1840 2100 = true := by with_reducible assumption
  refine (itemsPriced A n c f year H nx (prsB_iff.1 hp) (yr2 hyy) h).mono2 ?_
  rintro v2 H2 nx2 hx2 ⟨hO2, ht⟩
  simp (disch := omega) only [bsW, WOp, WOq, WV, bo, eqN, gdc, gw, bnd, ↓reduceIte, Nat.reduceEqDiff, rsvs, rsv, oneOf, rdN, ne_eq, Nat.reduceAdd, Nat.reduceMul, Nat.reduceLT, reduceCtorEq, Value.cells, setN, Value.oneCell', Nat.reduceLeDiff, undef, fcT]
  rw [show askP n f year = true by simp [askP, hp, hyy], show itAll n f year = _ from if_pos ⟨hp, hyy⟩]
  exact ⟨_, rfl, hO2, ht⟩
theorem sItemsPriced (A : Option Addr) (n c : Nat) (f : Nat → Nat → Int) (year : Int) (H : Hp) (nx : Nat) (hn : n ≤ 17592186044416) (h : Rd H A n 3 f) :
    AC Tryd.prog 27 #[.slice A n c, .int .i64 year] H nx (LFlag H nx (itAll n f year) 3 (askP n f year)) := by
  refine AC_of x_spec_ItemsPriced rfl fun hB => ?_
  simp (disch := omega) only [bsW, WOp, WOq, WV, bo, eqN, gdc, gw, bnd, ↓reduceIte, Nat.reduceEqDiff, rsvs, rsv, oneOf, rdN, ne_eq, Nat.reduceAdd, Nat.reduceMul, Nat.reduceLT, reduceCtorEq, Value.cells, setN, Value.oneCell', Nat.reduceLeDiff, undef, fcT, c_spec_ItemsPriced]
  (repeat' (first | ((with_reducible refine gif_split (fun hs_ => ?_) (fun hs_ => ?_)) <;> (have hp_ := hs_; (try simp only [hpL, ne_eq] at hp_); (try simp (disch := omega) only [bsW, WOp, WOq, WV, bo, eqN, gdc, gw, bnd, ↓reduceIte, Nat.reduceEqDiff, rsvs, rsv, oneOf, rdN, ne_eq, Nat.reduceAdd, Nat.reduceMul, Nat.reduceLT, reduceCtorEq, Value.cells, setN, Value.oneCell', Nat.reduceLeDiff, undef, fcT, hs_]))) | ((first | (with_reducible refine newB_i (fun nb_ hb_ => ?_)) | ((with_reducible show QC _ _ _ _ _ _); (first | (refine QC_i (l24Good A n c f _ _ hn (h.sub (by (repeat (first | assumption | exact Sub.refl _ | (refine sub_up (nx := nx) ?_ hB ?_; omega)))))) ?_) | (refine QC_i (l24Year _ _ _) ?_))) | ((with_reducible show AC _ _ _ _ _ _); (first | (refine PC.ac (l24Good A n c f _ _ hn (h.sub (by (repeat (first | assumption | exact Sub.refl _ | (refine sub_up (nx := nx) ?_ hB ?_; omega)))))) ?_) | (refine PC.ac (l24Year _ _ _) ?_))) | (with_reducible refine RgE_i (fun (hBd_ : Bd _ _) => ?_))); (try simp (disch := omega) only [bsW, WOp, WOq, WV, bo, eqN, gdc, gw, bnd, ↓reduceIte, Nat.reduceEqDiff, rsvs, rsv, oneOf, rdN, ne_eq, Nat.reduceAdd, Nat.reduceMul, Nat.reduceLT, reduceCtorEq, Value.cells, setN, Value.oneCell', Nat.reduceLeDiff, undef, fcT])) | (with_reducible refine fun (hBd_ : Bd _ _) => ?_) | ((first | (with_reducible refine @And.intro (Sub _ _) _ ?_ ?_) | ((with_reducible refine @And.intro (Sub _ _ ∧ _) _ ?_ ?_); (with_reducible refine @And.intro (Sub _ _) _ ?_ ?_))); exact sbX) | ((with_reducible refine And.intro ?_ ?_); omega)))
  all_goals try (exfalso; omega)
  all_goals try (
    have e1 : askP n f year = false := by simp_all [askP]
    have e2 : itAll n f year = [] := if_neg (by simp_all)
    rw [e1, e2]
    exact ⟨_, rfl, .empty (by assumption) (by omega) (upd_same _ _ _), by (repeat (first | assumption | exact Sub.refl _ | (refine sub_up (nx := nx) ?_ hB ?_; omega)))⟩)
  have hp : prsB n f = true := by with_reducible assumption
  have hyy : inR year 1840 2100 = true := by with_reducible assumption
  have hok := prsB_iff.1 hp
  have hn15 := hok.2
  rw [show askP n f year = true by simp [askP, hp, hyy], show itAll n f year = _ from if_pos ⟨hp, hyy⟩]
  refine LpE_rule (fun m fr H' nx' => ∃ (k : Nat) (w : Value), m = n - k + 1 ∧ k ≤ n ∧ fr 0 = .slice A n c ∧ fr 1 = .int .i64 year ∧ fr 6 = w ∧ fr 7 = .int .i64 k ∧ OwnL H' nx nx' (itP (pY n f year) f k) 3 w ∧ Sub H H' ∧ nx ≤ nx') ?_ ?_ (n + 1) ?_
  · rintro m K hK fr H' nx' ⟨k, w, hm, hk, f0, f1, f6, f7, hO, hs, hx⟩
    have hrl := itP_len (pY n f year) f k
    simp (disch := omega) only [bsW, WOp, WOq, WV, bo, eqN, gdc, gw, bnd, ↓reduceIte, Nat.reduceEqDiff, rsvs, rsv, oneOf, rdN, ne_eq, Nat.reduceAdd, Nat.reduceMul, Nat.reduceLT, reduceCtorEq, Value.cells, setN, Value.oneCell', Nat.reduceLeDiff, undef, fcT, f0, f1, f6, f7]
    refine gif_split (fun b1 => ?_) (fun b1 => ?_)
    · have hlt : k < n := by simpa using b1
      obtain ⟨b, off, rfl, hc⟩ := h.at_ (by omega)
      have hb := rd_lt hB (hc k 0 hlt (by omega))
      have c0 := rd_sub hs (hc k 0 hlt (by omega))
      have c1 := rd_sub hs (hc k 1 hlt (by omega))
      have c2 := rd_sub hs (hc k 2 hlt (by omega))
      simp only [Nat.add_zero] at c0
      simp (disch := omega) only [bsW, WOp, WOq, WV, bo, eqN, gdc, gw, bnd, ↓reduceIte, Nat.reduceEqDiff, rsvs, rsv, oneOf, rdN, ne_eq, Nat.reduceAdd, Nat.reduceMul, Nat.reduceLT, reduceCtorEq, Value.cells, setN, Value.oneCell', Nat.reduceLeDiff, undef, fcT, f0, f1, f6, f7, c0, c1, c2, b1]
      (repeat' (first | ((with_reducible refine gif_split (fun hs_ => ?_) (fun hs_ => ?_)) <;> (have hp_ := hs_; (try simp only [hpL, ne_eq] at hp_); (try simp (disch := omega) only [bsW, WOp, WOq, WV, bo, eqN, gdc, gw, bnd, ↓reduceIte, Nat.reduceEqDiff, rsvs, rsv, oneOf, rdN, ne_eq, Nat.reduceAdd, Nat.reduceMul, Nat.reduceLT, reduceCtorEq, Value.cells, setN, Value.oneCell', Nat.reduceLeDiff, undef, fcT, f0, f1, f6, f7, c0, c1, c2, hs_]))) | ((first | (with_reducible refine newB_i (fun nb_ hb_ => ?_)) | ((with_reducible show QC _ _ _ _ _ _); (first | (refine QC_i (l24Price _ n c f (f k 0) year _ _ hok (yr2 hyy) (h.sub hs)) ?_))) | ((with_reducible show AC _ _ _ _ _ _); (first | (refine PC.ac (l24Price _ n c f (f k 0) year _ _ hok (yr2 hyy) (h.sub hs)) ?_))) | (with_reducible refine RgE_i (fun (hBd_ : Bd _ _) => ?_))); (try simp (disch := omega) only [bsW, WOp, WOq, WV, bo, eqN, gdc, gw, bnd, ↓reduceIte, Nat.reduceEqDiff, rsvs, rsv, oneOf, rdN, ne_eq, Nat.reduceAdd, Nat.reduceMul, Nat.reduceLT, reduceCtorEq, Value.cells, setN, Value.oneCell', Nat.reduceLeDiff, undef, fcT, f0, f1, f6, f7, c0, c1, c2])) | (with_reducible refine fun (hBd_ : Bd _ _) => ?_) | ((first | (with_reducible refine @And.intro (Sub _ _) _ ?_ ?_) | ((with_reducible refine @And.intro (Sub _ _ ∧ _) _ ?_ ?_); (with_reducible refine @And.intro (Sub _ _) _ ?_ ?_))); exact sbX) | ((with_reducible refine And.intro ?_ ?_); omega)))
      all_goals try (exfalso; omega)
      · have hput := it_put hok (pY n f year) hlt hp_
        refine (l1Put w _ (f k 0) nx H' nx' hx (by omega) hO).mono2 ?_
        rintro v2 H2 nx2 hx2 ⟨hO2, ht⟩
        rw [hput] at hO2
        simp (disch := omega) only [bsW, WOp, WOq, WV, bo, eqN, gdc, gw, bnd, ↓reduceIte, Nat.reduceEqDiff, rsvs, rsv, oneOf, rdN, ne_eq, Nat.reduceAdd, Nat.reduceMul, Nat.reduceLT, reduceCtorEq, Value.cells, setN, Value.oneCell', Nat.reduceLeDiff, undef, fcT, f0, f1, f6, f7, c0, c1, c2]
        refine hK _ _ _ ?_
        exact ⟨k + 1, v2, by omega, by omega, by simp (disch := omega) only [bsW, ↓reduceIte, Nat.reduceEqDiff, ne_eq, reduceCtorEq, fcT, f0, f1, f6, f7, c0, c1, c2], by simp (disch := omega) only [bsW, ↓reduceIte, Nat.reduceEqDiff, ne_eq, reduceCtorEq, fcT, f0, f1, f6, f7, c0, c1, c2], by simp (disch := omega) only [bsW, ↓reduceIte, Nat.reduceEqDiff, ne_eq, reduceCtorEq, fcT, f0, f1, f6, f7, c0, c1, c2], by simp (disch := omega) only [bsW, ↓reduceIte, Nat.reduceEqDiff, ne_eq, reduceCtorEq, fcT, f0, f1, f6, f7, c0, c1, c2, Int.natCast_add, Int.natCast_one], hO2, hs.trans ht, by omega⟩
      · have hsame : itP (pY n f year) f (k + 1) = itP (pY n f year) f k := by simp only [itP]; exact if_neg (fun hh => hp_ hh.1)
        refine hK _ _ _ ?_
        exact ⟨k + 1, w, by omega, by omega, by simp (disch := omega) only [bsW, ↓reduceIte, Nat.reduceEqDiff, ne_eq, reduceCtorEq, fcT, f0, f1, f6, f7, c0, c1, c2], by simp (disch := omega) only [bsW, ↓reduceIte, Nat.reduceEqDiff, ne_eq, reduceCtorEq, fcT, f0, f1, f6, f7, c0, c1, c2], by simp (disch := omega) only [bsW, ↓reduceIte, Nat.reduceEqDiff, ne_eq, reduceCtorEq, fcT, f0, f1, f6, f7, c0, c1, c2], by simp (disch := omega) only [bsW, ↓reduceIte, Nat.reduceEqDiff, ne_eq, reduceCtorEq, fcT, f0, f1, f6, f7, c0, c1, c2, Int.natCast_add, Int.natCast_one], by rw [hsame]; exact hO, hs, by omega⟩
    · have hkn : k = n := by simp at b1; omega
      subst hkn
      simp (disch := omega) only [bsW, WOp, WOq, WV, bo, eqN, gdc, gw, bnd, ↓reduceIte, Nat.reduceEqDiff, rsvs, rsv, oneOf, rdN, ne_eq, Nat.reduceAdd, Nat.reduceMul, Nat.reduceLT, reduceCtorEq, Value.cells, setN, Value.oneCell', Nat.reduceLeDiff, undef, fcT, f0, f1, f6, f7, b1]
      exact ⟨_, rfl, hO, hs⟩
  · rintro fr H' nx' ⟨k, w, hm, _⟩; omega
  · exact ⟨0, _, by omega, by omega, by simp (disch := omega) only [bsW, ↓reduceIte, Nat.reduceEqDiff, ne_eq, reduceCtorEq, fcT], by simp (disch := omega) only [bsW, ↓reduceIte, Nat.reduceEqDiff, ne_eq, reduceCtorEq, fcT], by simp (disch := omega) only [bsW, ↓reduceIte, Nat.reduceEqDiff, ne_eq, reduceCtorEq, fcT], by simp (disch := omega) only [bsW, ↓reduceIte, Nat.reduceEqDiff, ne_eq, reduceCtorEq, fcT, Int.natCast_zero], .empty (by assumption) (by omega) (upd_same _ _ _), by (repeat (first | assumption | exact Sub.refl _ | (refine sub_up (nx := nx) ?_ hB ?_; omega))), by omega⟩

noncomputable def vDear (n : Nat) (f : Nat → Nat → Int) (year : Int) : Value :=
  if prsB n f = true ∧ inR year 1840 2100 = true then .tuple #[.int .i64 (dGo (pY n f year) f n).1, .int .i64 (dGo (pY n f year) f n).2, .bool (decide (0 < (dGo (pY n f year) f n).1))] else .tuple #[.int .i64 0, .int .i64 0, .bool false]
theorem DearestIn (A : Option Addr) (n c : Nat) (f : Nat → Nat → Int) (year : Int) (H : Hp) (nx : Nat) (hn : n ≤ 17592186044416) (h : Rd H A n 3 f) :
    PC Tryd.prog 28 #[.slice A n c, .int .i64 year] H nx (vDear n f year) := by
  refine AC_of x_impl_DearestIn rfl fun hB => ?_
  simp (disch := omega) only [bsW, WOp, WOq, WV, bo, eqN, gdc, gw, bnd, ↓reduceIte, Nat.reduceEqDiff, rsvs, rsv, oneOf, rdN, ne_eq, Nat.reduceAdd, Nat.reduceMul, Nat.reduceLT, reduceCtorEq, Value.cells, setN, Value.oneCell', Nat.reduceLeDiff, undef, fcT, c_impl_DearestIn]
  (repeat' (first | ((with_reducible refine gif_split (fun hs_ => ?_) (fun hs_ => ?_)) <;> (have hp_ := hs_; (try simp only [hpL, ne_eq] at hp_); (try simp (disch := omega) only [bsW, WOp, WOq, WV, bo, eqN, gdc, gw, bnd, ↓reduceIte, Nat.reduceEqDiff, rsvs, rsv, oneOf, rdN, ne_eq, Nat.reduceAdd, Nat.reduceMul, Nat.reduceLT, reduceCtorEq, Value.cells, setN, Value.oneCell', Nat.reduceLeDiff, undef, fcT, hs_]))) | ((first | (with_reducible refine newB_i (fun nb_ hb_ => ?_)) | ((with_reducible show QC _ _ _ _ _ _); (first | (refine QC_i (arePrices A n c f _ _ hn h) ?_) | (refine QC_i (isYear _ _ _) ?_))) | ((with_reducible show AC _ _ _ _ _ _); (first | (refine PC.ac (arePrices A n c f _ _ hn h) ?_) | (refine PC.ac (isYear _ _ _) ?_))) | (with_reducible refine RgE_i (fun (hBd_ : Bd _ _) => ?_))); (try simp (disch := omega) only [bsW, WOp, WOq, WV, bo, eqN, gdc, gw, bnd, ↓reduceIte, Nat.reduceEqDiff, rsvs, rsv, oneOf, rdN, ne_eq, Nat.reduceAdd, Nat.reduceMul, Nat.reduceLT, reduceCtorEq, Value.cells, setN, Value.oneCell', Nat.reduceLeDiff, undef, fcT])) | (with_reducible refine fun (hBd_ : Bd _ _) => ?_) | ((first | (with_reducible refine @And.intro (Sub _ _) _ ?_ ?_) | ((with_reducible refine @And.intro (Sub _ _ ∧ _) _ ?_ ?_); (with_reducible refine @And.intro (Sub _ _) _ ?_ ?_))); exact sbX) | ((with_reducible refine And.intro ?_ ?_); omega)))
  all_goals try (exfalso; omega)
  all_goals try (exact Is_e (by rw [vDear, if_neg (by simp_all)]) (Sub.refl H))
  have hp : prsB n f = true := by with_reducible assumption
  have hyy : inR year 1840 2100 = true := by with_reducible assumption
  have hok := prsB_iff.1 hp
  have hn15 := hok.2
  have hil := itP_len (pY n f year) f n
  have hv : vDear n f year = .tuple #[.int .i64 (lGo (pY n f year) (itP (pY n f year) f n) (itP (pY n f year) f n).length).1, .int .i64 (lGo (pY n f year) (itP (pY n f year) f n) (itP (pY n f year) f n).length).2, .bool (decide (0 < (lGo (pY n f year) (itP (pY n f year) f n) (itP (pY n f year) f n).length).1))] := by
    rw [vDear, if_pos ⟨hp, hyy⟩, dGo_eq]
  rw [hv]
  refine (itemsPriced A n c f year H nx hok (yr2 hyy) h).mono2 ?_
  rintro v2 H2 nx2 hx2 ⟨hO2, ht⟩
  obtain ⟨A2, c2, rfl, hc2, hR2⟩ := hO2.rd
  generalize itP (pY n f year) f n = l at *
  simp (disch := omega) only [bsW, WOp, WOq, WV, bo, eqN, gdc, gw, bnd, ↓reduceIte, Nat.reduceEqDiff, rsvs, rsv, oneOf, rdN, ne_eq, Nat.reduceAdd, Nat.reduceMul, Nat.reduceLT, reduceCtorEq, Value.cells, setN, Value.oneCell', Nat.reduceLeDiff, undef, fcT]
  refine LpE_rule (fun m fr H' nx' => ∃ k : Nat, m = l.length - k + 1 ∧ k ≤ l.length ∧ fr 0 = .slice A n c ∧ fr 1 = .int .i64 year ∧ fr 7 = .int .i64 (lGo (pY n f year) l k).1 ∧ fr 8 = .int .i64 (lGo (pY n f year) l k).2 ∧ fr 23 = .slice A2 l.length c2 ∧ fr 24 = .int .i64 l.length ∧ fr 25 = .int .i64 k ∧ Sub H2 H' ∧ nx ≤ nx') ?_ ?_ (l.length + 1) ?_
  · rintro m K hK fr H' nx' ⟨k, hm, hk, f0, f1, f7, f8, f23, f24, f25, hs, hx⟩
    simp (disch := omega) only [bsW, WOp, WOq, WV, bo, eqN, gdc, gw, bnd, ↓reduceIte, Nat.reduceEqDiff, rsvs, rsv, oneOf, rdN, ne_eq, Nat.reduceAdd, Nat.reduceMul, Nat.reduceLT, reduceCtorEq, Value.cells, setN, Value.oneCell', Nat.reduceLeDiff, undef, fcT, f0, f1, f7, f8, f23, f24, f25]
    refine gif_split (fun b1 => ?_) (fun b1 => ?_)
    · have hlt : k < l.length := by simpa using b1
      obtain ⟨b, off, rfl, hc⟩ := hR2.at_ (by omega)
      have c0 := rd_sub hs (hc k 0 hlt (by omega))
      simp only [Nat.add_zero, Nat.mul_one] at c0
      have hgo : lGo (pY n f year) l (k + 1) = if (lGo (pY n f year) l k).2 < priceV n f (l.getD k 0) year then (l.getD k 0, priceV n f (l.getD k 0) year) else lGo (pY n f year) l k := rfl
      have hr : rowL l k 0 = l.getD k 0 := rfl
      rw [hr] at c0
      simp (disch := omega) only [bsW, WOp, WOq, WV, bo, eqN, gdc, gw, bnd, ↓reduceIte, Nat.reduceEqDiff, rsvs, rsv, oneOf, rdN, ne_eq, Nat.reduceAdd, Nat.reduceMul, Nat.reduceLT, reduceCtorEq, Value.cells, setN, Value.oneCell', Nat.reduceLeDiff, undef, fcT, f0, f1, f7, f8, f23, f24, f25, c0, Nat.mul_one, b1]
      (repeat' (first | ((with_reducible refine gif_split (fun hs_ => ?_) (fun hs_ => ?_)) <;> (have hp_ := hs_; (try simp only [hpL, ne_eq] at hp_); (try simp (disch := omega) only [bsW, WOp, WOq, WV, bo, eqN, gdc, gw, bnd, ↓reduceIte, Nat.reduceEqDiff, rsvs, rsv, oneOf, rdN, ne_eq, Nat.reduceAdd, Nat.reduceMul, Nat.reduceLT, reduceCtorEq, Value.cells, setN, Value.oneCell', Nat.reduceLeDiff, undef, fcT, f0, f1, f7, f8, f23, f24, f25, c0, Nat.mul_one, hs_]))) | ((first | (with_reducible refine newB_i (fun nb_ hb_ => ?_)) | ((with_reducible show QC _ _ _ _ _ _); (first | (refine QC_i (priceIn A n c f (l.getD k 0) year _ _ hok (yr2 hyy) (h.sub (ht.trans hs))) ?_))) | ((with_reducible show AC _ _ _ _ _ _); (first | (refine PC.ac (priceIn A n c f (l.getD k 0) year _ _ hok (yr2 hyy) (h.sub (ht.trans hs))) ?_))) | (with_reducible refine RgE_i (fun (hBd_ : Bd _ _) => ?_))); (try simp (disch := omega) only [bsW, WOp, WOq, WV, bo, eqN, gdc, gw, bnd, ↓reduceIte, Nat.reduceEqDiff, rsvs, rsv, oneOf, rdN, ne_eq, Nat.reduceAdd, Nat.reduceMul, Nat.reduceLT, reduceCtorEq, Value.cells, setN, Value.oneCell', Nat.reduceLeDiff, undef, fcT, f0, f1, f7, f8, f23, f24, f25, c0, Nat.mul_one])) | (with_reducible refine fun (hBd_ : Bd _ _) => ?_) | ((first | (with_reducible refine @And.intro (Sub _ _) _ ?_ ?_) | ((with_reducible refine @And.intro (Sub _ _ ∧ _) _ ?_ ?_); (with_reducible refine @And.intro (Sub _ _) _ ?_ ?_))); exact sbX) | ((with_reducible refine And.intro ?_ ?_); omega)))
      all_goals try (exfalso; omega)
      · rw [if_pos hp_] at hgo
        refine hK _ _ _ ?_
        exact ⟨k + 1, by omega, by omega, by simp (disch := omega) only [bsW, ↓reduceIte, Nat.reduceEqDiff, ne_eq, reduceCtorEq, fcT, f0, f1, f7, f8, f23, f24, f25, c0, Nat.mul_one], by simp (disch := omega) only [bsW, ↓reduceIte, Nat.reduceEqDiff, ne_eq, reduceCtorEq, fcT, f0, f1, f7, f8, f23, f24, f25, c0, Nat.mul_one], by rw [hgo]; simp (disch := omega) only [bsW, ↓reduceIte, Nat.reduceEqDiff, ne_eq, reduceCtorEq, fcT, f0, f1, f7, f8, f23, f24, f25, c0, Nat.mul_one], by rw [hgo]; simp (disch := omega) only [bsW, ↓reduceIte, Nat.reduceEqDiff, ne_eq, reduceCtorEq, fcT, f0, f1, f7, f8, f23, f24, f25, c0, Nat.mul_one], by simp (disch := omega) only [bsW, ↓reduceIte, Nat.reduceEqDiff, ne_eq, reduceCtorEq, fcT, f0, f1, f7, f8, f23, f24, f25, c0, Nat.mul_one], by simp (disch := omega) only [bsW, ↓reduceIte, Nat.reduceEqDiff, ne_eq, reduceCtorEq, fcT, f0, f1, f7, f8, f23, f24, f25, c0, Nat.mul_one], by simp (disch := omega) only [bsW, ↓reduceIte, Nat.reduceEqDiff, ne_eq, reduceCtorEq, fcT, f0, f1, f7, f8, f23, f24, f25, c0, Nat.mul_one, Int.natCast_add, Int.natCast_one], hs, by omega⟩
      · rw [if_neg hp_] at hgo
        refine hK _ _ _ ?_
        exact ⟨k + 1, by omega, by omega, by simp (disch := omega) only [bsW, ↓reduceIte, Nat.reduceEqDiff, ne_eq, reduceCtorEq, fcT, f0, f1, f7, f8, f23, f24, f25, c0, Nat.mul_one], by simp (disch := omega) only [bsW, ↓reduceIte, Nat.reduceEqDiff, ne_eq, reduceCtorEq, fcT, f0, f1, f7, f8, f23, f24, f25, c0, Nat.mul_one], by rw [hgo]; simp (disch := omega) only [bsW, ↓reduceIte, Nat.reduceEqDiff, ne_eq, reduceCtorEq, fcT, f0, f1, f7, f8, f23, f24, f25, c0, Nat.mul_one], by rw [hgo]; simp (disch := omega) only [bsW, ↓reduceIte, Nat.reduceEqDiff, ne_eq, reduceCtorEq, fcT, f0, f1, f7, f8, f23, f24, f25, c0, Nat.mul_one], by simp (disch := omega) only [bsW, ↓reduceIte, Nat.reduceEqDiff, ne_eq, reduceCtorEq, fcT, f0, f1, f7, f8, f23, f24, f25, c0, Nat.mul_one], by simp (disch := omega) only [bsW, ↓reduceIte, Nat.reduceEqDiff, ne_eq, reduceCtorEq, fcT, f0, f1, f7, f8, f23, f24, f25, c0, Nat.mul_one], by simp (disch := omega) only [bsW, ↓reduceIte, Nat.reduceEqDiff, ne_eq, reduceCtorEq, fcT, f0, f1, f7, f8, f23, f24, f25, c0, Nat.mul_one, Int.natCast_add, Int.natCast_one], hs, by omega⟩
    · have hkn : k = l.length := by simp at b1; omega
      subst hkn
      simp (disch := omega) only [bsW, WOp, WOq, WV, bo, eqN, gdc, gw, bnd, ↓reduceIte, Nat.reduceEqDiff, rsvs, rsv, oneOf, rdN, ne_eq, Nat.reduceAdd, Nat.reduceMul, Nat.reduceLT, reduceCtorEq, Value.cells, setN, Value.oneCell', Nat.reduceLeDiff, undef, fcT, f0, f1, f7, f8, f23, f24, f25, b1]
      exact Is_e rfl (ht.trans hs)
  · rintro fr H' nx' ⟨k, hm, _⟩; omega
  · exact ⟨0, by omega, by omega, by simp (disch := omega) only [bsW, ↓reduceIte, Nat.reduceEqDiff, ne_eq, reduceCtorEq, fcT], by simp (disch := omega) only [bsW, ↓reduceIte, Nat.reduceEqDiff, ne_eq, reduceCtorEq, fcT], by simp (disch := omega) only [bsW, ↓reduceIte, Nat.reduceEqDiff, ne_eq, reduceCtorEq, fcT]; rfl, by simp (disch := omega) only [bsW, ↓reduceIte, Nat.reduceEqDiff, ne_eq, reduceCtorEq, fcT]; rfl, by simp (disch := omega) only [bsW, ↓reduceIte, Nat.reduceEqDiff, ne_eq, reduceCtorEq, fcT], by simp (disch := omega) only [bsW, ↓reduceIte, Nat.reduceEqDiff, ne_eq, reduceCtorEq, fcT], by simp (disch := omega) only [bsW, ↓reduceIte, Nat.reduceEqDiff, ne_eq, reduceCtorEq, fcT, Int.natCast_zero], Sub.refl _, by omega⟩
theorem sDearestIn (A : Option Addr) (n c : Nat) (f : Nat → Nat → Int) (year : Int) (H : Hp) (nx : Nat) (hn : n ≤ 17592186044416) (h : Rd H A n 3 f) :
    PC Tryd.prog 29 #[.slice A n c, .int .i64 year] H nx (vDear n f year) := by
  refine AC_of x_spec_DearestIn rfl fun hB => ?_
  simp (disch := omega) only [bsW, WOp, WOq, WV, bo, eqN, gdc, gw, bnd, ↓reduceIte, Nat.reduceEqDiff, rsvs, rsv, oneOf, rdN, ne_eq, Nat.reduceAdd, Nat.reduceMul, Nat.reduceLT, reduceCtorEq, Value.cells, setN, Value.oneCell', Nat.reduceLeDiff, undef, fcT, c_spec_DearestIn]
  (repeat' (first | ((with_reducible refine gif_split (fun hs_ => ?_) (fun hs_ => ?_)) <;> (have hp_ := hs_; (try simp only [hpL, ne_eq] at hp_); (try simp (disch := omega) only [bsW, WOp, WOq, WV, bo, eqN, gdc, gw, bnd, ↓reduceIte, Nat.reduceEqDiff, rsvs, rsv, oneOf, rdN, ne_eq, Nat.reduceAdd, Nat.reduceMul, Nat.reduceLT, reduceCtorEq, Value.cells, setN, Value.oneCell', Nat.reduceLeDiff, undef, fcT, hs_]))) | ((first | (with_reducible refine newB_i (fun nb_ hb_ => ?_)) | ((with_reducible show QC _ _ _ _ _ _); (first | (refine QC_i (l24Good A n c f _ _ hn h) ?_) | (refine QC_i (l24Year _ _ _) ?_))) | ((with_reducible show AC _ _ _ _ _ _); (first | (refine PC.ac (l24Good A n c f _ _ hn h) ?_) | (refine PC.ac (l24Year _ _ _) ?_))) | (with_reducible refine RgE_i (fun (hBd_ : Bd _ _) => ?_))); (try simp (disch := omega) only [bsW, WOp, WOq, WV, bo, eqN, gdc, gw, bnd, ↓reduceIte, Nat.reduceEqDiff, rsvs, rsv, oneOf, rdN, ne_eq, Nat.reduceAdd, Nat.reduceMul, Nat.reduceLT, reduceCtorEq, Value.cells, setN, Value.oneCell', Nat.reduceLeDiff, undef, fcT])) | (with_reducible refine fun (hBd_ : Bd _ _) => ?_) | ((first | (with_reducible refine @And.intro (Sub _ _) _ ?_ ?_) | ((with_reducible refine @And.intro (Sub _ _ ∧ _) _ ?_ ?_); (with_reducible refine @And.intro (Sub _ _) _ ?_ ?_))); exact sbX) | ((with_reducible refine And.intro ?_ ?_); omega)))
  all_goals try (exfalso; omega)
  all_goals try (exact Is_e (by rw [vDear, if_neg (by simp_all)]) (Sub.refl H))
  have hp : prsB n f = true := by with_reducible assumption
  have hyy : inR year 1840 2100 = true := by with_reducible assumption
  have hok := prsB_iff.1 hp
  have hn15 := hok.2
  rw [show vDear n f year = _ from if_pos ⟨hp, hyy⟩]
  refine LpE_rule (fun m fr H' nx' => ∃ k : Nat, m = n - k + 1 ∧ k ≤ n ∧ fr 0 = .slice A n c ∧ fr 1 = .int .i64 year ∧ fr 7 = .int .i64 (dGo (pY n f year) f k).1 ∧ fr 8 = .int .i64 (dGo (pY n f year) f k).2 ∧ fr 9 = .int .i64 k ∧ Sub H H' ∧ nx ≤ nx') ?_ ?_ (n + 1) ?_
  · rintro m K hK fr H' nx' ⟨k, hm, hk, f0, f1, f7, f8, f9, hs, hx⟩
    simp (disch := omega) only [bsW, WOp, WOq, WV, bo, eqN, gdc, gw, bnd, ↓reduceIte, Nat.reduceEqDiff, rsvs, rsv, oneOf, rdN, ne_eq, Nat.reduceAdd, Nat.reduceMul, Nat.reduceLT, reduceCtorEq, Value.cells, setN, Value.oneCell', Nat.reduceLeDiff, undef, fcT, f0, f1, f7, f8, f9]
    refine gif_split (fun b1 => ?_) (fun b1 => ?_)
    · have hlt : k < n := by simpa using b1
      obtain ⟨b, off, rfl, hc⟩ := h.at_ (by omega)
      have c0 := rd_sub hs (hc k 0 hlt (by omega))
      have c1 := rd_sub hs (hc k 1 hlt (by omega))
      have c2 := rd_sub hs (hc k 2 hlt (by omega))
      simp only [Nat.add_zero] at c0
      have hgo : dGo (pY n f year) f (k + 1) = if (dGo (pY n f year) f k).2 < priceV n f (f k 0) year then (f k 0, priceV n f (f k 0) year) else dGo (pY n f year) f k := rfl
      simp (disch := omega) only [bsW, WOp, WOq, WV, bo, eqN, gdc, gw, bnd, ↓reduceIte, Nat.reduceEqDiff, rsvs, rsv, oneOf, rdN, ne_eq, Nat.reduceAdd, Nat.reduceMul, Nat.reduceLT, reduceCtorEq, Value.cells, setN, Value.oneCell', Nat.reduceLeDiff, undef, fcT, f0, f1, f7, f8, f9, c0, c1, c2, b1]
      (repeat' (first | ((with_reducible refine gif_split (fun hs_ => ?_) (fun hs_ => ?_)) <;> (have hp_ := hs_; (try simp only [hpL, ne_eq] at hp_); (try simp (disch := omega) only [bsW, WOp, WOq, WV, bo, eqN, gdc, gw, bnd, ↓reduceIte, Nat.reduceEqDiff, rsvs, rsv, oneOf, rdN, ne_eq, Nat.reduceAdd, Nat.reduceMul, Nat.reduceLT, reduceCtorEq, Value.cells, setN, Value.oneCell', Nat.reduceLeDiff, undef, fcT, f0, f1, f7, f8, f9, c0, c1, c2, hs_]))) | ((first | (with_reducible refine newB_i (fun nb_ hb_ => ?_)) | ((with_reducible show QC _ _ _ _ _ _); (first | (refine QC_i (l24Price _ n c f (f k 0) year _ _ hok (yr2 hyy) (h.sub hs)) ?_))) | ((with_reducible show AC _ _ _ _ _ _); (first | (refine PC.ac (l24Price _ n c f (f k 0) year _ _ hok (yr2 hyy) (h.sub hs)) ?_))) | (with_reducible refine RgE_i (fun (hBd_ : Bd _ _) => ?_))); (try simp (disch := omega) only [bsW, WOp, WOq, WV, bo, eqN, gdc, gw, bnd, ↓reduceIte, Nat.reduceEqDiff, rsvs, rsv, oneOf, rdN, ne_eq, Nat.reduceAdd, Nat.reduceMul, Nat.reduceLT, reduceCtorEq, Value.cells, setN, Value.oneCell', Nat.reduceLeDiff, undef, fcT, f0, f1, f7, f8, f9, c0, c1, c2])) | (with_reducible refine fun (hBd_ : Bd _ _) => ?_) | ((first | (with_reducible refine @And.intro (Sub _ _) _ ?_ ?_) | ((with_reducible refine @And.intro (Sub _ _ ∧ _) _ ?_ ?_); (with_reducible refine @And.intro (Sub _ _) _ ?_ ?_))); exact sbX) | ((with_reducible refine And.intro ?_ ?_); omega)))
      all_goals try (exfalso; omega)
      · rw [if_pos hp_] at hgo
        refine hK _ _ _ ?_
        exact ⟨k + 1, by omega, by omega, by simp (disch := omega) only [bsW, ↓reduceIte, Nat.reduceEqDiff, ne_eq, reduceCtorEq, fcT, f0, f1, f7, f8, f9, c0, c1, c2], by simp (disch := omega) only [bsW, ↓reduceIte, Nat.reduceEqDiff, ne_eq, reduceCtorEq, fcT, f0, f1, f7, f8, f9, c0, c1, c2], by rw [hgo]; simp (disch := omega) only [bsW, ↓reduceIte, Nat.reduceEqDiff, ne_eq, reduceCtorEq, fcT, f0, f1, f7, f8, f9, c0, c1, c2], by rw [hgo]; simp (disch := omega) only [bsW, ↓reduceIte, Nat.reduceEqDiff, ne_eq, reduceCtorEq, fcT, f0, f1, f7, f8, f9, c0, c1, c2], by simp (disch := omega) only [bsW, ↓reduceIte, Nat.reduceEqDiff, ne_eq, reduceCtorEq, fcT, f0, f1, f7, f8, f9, c0, c1, c2, Int.natCast_add, Int.natCast_one], hs, by omega⟩
      · rw [if_neg hp_] at hgo
        refine hK _ _ _ ?_
        exact ⟨k + 1, by omega, by omega, by simp (disch := omega) only [bsW, ↓reduceIte, Nat.reduceEqDiff, ne_eq, reduceCtorEq, fcT, f0, f1, f7, f8, f9, c0, c1, c2], by simp (disch := omega) only [bsW, ↓reduceIte, Nat.reduceEqDiff, ne_eq, reduceCtorEq, fcT, f0, f1, f7, f8, f9, c0, c1, c2], by rw [hgo]; simp (disch := omega) only [bsW, ↓reduceIte, Nat.reduceEqDiff, ne_eq, reduceCtorEq, fcT, f0, f1, f7, f8, f9, c0, c1, c2], by rw [hgo]; simp (disch := omega) only [bsW, ↓reduceIte, Nat.reduceEqDiff, ne_eq, reduceCtorEq, fcT, f0, f1, f7, f8, f9, c0, c1, c2], by simp (disch := omega) only [bsW, ↓reduceIte, Nat.reduceEqDiff, ne_eq, reduceCtorEq, fcT, f0, f1, f7, f8, f9, c0, c1, c2, Int.natCast_add, Int.natCast_one], hs, by omega⟩
    · have hkn : k = n := by simp at b1; omega
      subst hkn
      simp (disch := omega) only [bsW, WOp, WOq, WV, bo, eqN, gdc, gw, bnd, ↓reduceIte, Nat.reduceEqDiff, rsvs, rsv, oneOf, rdN, ne_eq, Nat.reduceAdd, Nat.reduceMul, Nat.reduceLT, reduceCtorEq, Value.cells, setN, Value.oneCell', Nat.reduceLeDiff, undef, fcT, f0, f1, f7, f8, f9, b1]
      exact Is_e rfl hs
  · rintro fr H' nx' ⟨k, hm, _⟩; omega
  · exact ⟨0, by omega, by omega, by simp (disch := omega) only [bsW, ↓reduceIte, Nat.reduceEqDiff, ne_eq, reduceCtorEq, fcT], by simp (disch := omega) only [bsW, ↓reduceIte, Nat.reduceEqDiff, ne_eq, reduceCtorEq, fcT], by simp (disch := omega) only [bsW, ↓reduceIte, Nat.reduceEqDiff, ne_eq, reduceCtorEq, fcT]; rfl, by simp (disch := omega) only [bsW, ↓reduceIte, Nat.reduceEqDiff, ne_eq, reduceCtorEq, fcT]; rfl, by simp (disch := omega) only [bsW, ↓reduceIte, Nat.reduceEqDiff, ne_eq, reduceCtorEq, fcT, Int.natCast_zero], Sub.refl _, by omega⟩
end Go.Proofs.YtnjlleopgjggpaaDoor
