/- The room, the reference. -/
import Derived.Test.YtnjlleopgjggpaaDoorC5
set_option linter.unusedVariables false
set_option linter.unusedSimpArgs false
set_option maxRecDepth 100000
set_option maxHeartbeats 1000000
namespace Go.Proofs.YtnjlleopgjggpaaDoor
open Go Go.RowKit Go.Proofs

theorem l22Room (A B : Option Addr) (n c m d : Nat) (f g : Nat → Nat → Int) (start : Int) (H : Hp) (nx : Nat) (hok : stepsOk n f) (hab : abssOk m g) (hs0 : 0 ≤ start) (hs1 : start ≤ 20000) (h : Rd H A n 2 f) (h' : Rd H B m 2 g) :
    AC Tryd.prog 71 #[.slice A n c, .slice B m d, .int .i64 start] H nx (RowInt H nx (room n f m g start).1 3 (room n f m g start).2) := by
  have hm12 := hab.2
  have hn8 := inR_true.1 hok.2
  refine AC_of x_spec_l22Room rfl fun hB => ?_
  simp (disch := omega) only [bsW, WOp, WOq, WV, bo, eqN, gdc, gw, bnd, ↓reduceIte, Nat.reduceEqDiff, rsvs, rsv, oneOf, rdN, ne_eq, Nat.reduceAdd, Nat.reduceMul, Nat.reduceLT, reduceCtorEq, Value.cells, setN, Value.oneCell', Nat.reduceLeDiff, undef, fcT, c_spec_l22Room]
  (repeat' (first | ((with_reducible refine gif_split (fun hs_ => ?_) (fun hs_ => ?_)) <;> (have hp_ := hs_; (try simp only [hpL, ne_eq] at hp_); (try simp (disch := omega) only [bsW, WOp, WOq, WV, bo, eqN, gdc, gw, bnd, ↓reduceIte, Nat.reduceEqDiff, rsvs, rsv, oneOf, rdN, ne_eq, Nat.reduceAdd, Nat.reduceMul, Nat.reduceLT, reduceCtorEq, Value.cells, setN, Value.oneCell', Nat.reduceLeDiff, undef, fcT, hs_]))) | ((first | (with_reducible refine newB_i (fun nb_ hb_ => ?_)) | (with_reducible refine RgE_i (fun (hBd_ : Bd _ _) => ?_))); (try simp (disch := omega) only [bsW, WOp, WOq, WV, bo, eqN, gdc, gw, bnd, ↓reduceIte, Nat.reduceEqDiff, rsvs, rsv, oneOf, rdN, ne_eq, Nat.reduceAdd, Nat.reduceMul, Nat.reduceLT, reduceCtorEq, Value.cells, setN, Value.oneCell', Nat.reduceLeDiff, undef, fcT])) | (with_reducible refine fun (hBd_ : Bd _ _) => ?_) | ((first | (with_reducible refine @And.intro (Sub _ _) _ ?_ ?_) | ((with_reducible refine @And.intro (Sub _ _ ∧ _) _ ?_ ?_); (with_reducible refine @And.intro (Sub _ _) _ ?_ ?_))); exact sbX) | ((with_reducible refine And.intro ?_ ?_); omega)))
  refine LpE_rule (fun mm fr H' nx' => ∃ (F : Nat) (bid last : Int) (l : List Int) (w : Value), mm = F + 1 ∧
     fr 0 = .slice A n c ∧ fr 1 = .slice B m d ∧ fr 8 = w ∧ fr 9 = .int .i64 bid ∧ fr 10 = .int .i64 last ∧ fr 11 = .int .i64 (l.getLastD 0) ∧
     0 ≤ bid ∧ bid ≤ 25000 ∧ 20000 < bid + 200 * F ∧ l.length + F ≤ 101 ∧ roomL n f m g F bid last l = room n f m g start ∧
     OwnL H' nx nx' l 3 w ∧ Sub H H' ∧ nx ≤ nx') ?_ ?_ (101 + 1) ?_
  · rintro mm K hK fr H' nx' ⟨F, bid, last, l, w, hmm, f0, f1, f8, f9, f10, f11, hb0, hb1, hF, hl, hroom, hO, hs, hx⟩
    simp (disch := omega) only [bsW, WOp, WOq, WV, bo, eqN, gdc, gw, bnd, ↓reduceIte, Nat.reduceEqDiff, rsvs, rsv, oneOf, rdN, ne_eq, Nat.reduceAdd, Nat.reduceMul, Nat.reduceLT, reduceCtorEq, Value.cells, setN, Value.oneCell', Nat.reduceLeDiff, undef, fcT, f0, f1, f8, f9, f10, f11]
    refine LpE_rule (fun m2 fr' H2 nx2 => ∃ (k : Nat) (x : Int), m2 = k + 1 ∧ k ≤ m ∧ fr' 0 = .slice A n c ∧ fr' 1 = .slice B m d ∧ fr' 8 = w ∧ fr' 9 = .int .i64 bid ∧ fr' 10 = .int .i64 last ∧ fr' 11 = .int .i64 (l.getLastD 0) ∧
      fr' 12 = .int .i64 x ∧ fr' 13 = .int .i64 ((k : Int) - 1) ∧ H2 = H' ∧ nx2 = nx' ∧
      ((x = 0 ∧ ∀ j, k ≤ j → j < m → rmHit g bid (l.getLastD 0) j = false) ∨ ∃ i, k ≤ i ∧ i < m ∧ rmHit g bid (l.getLastD 0) i = true ∧ x = g i 0 ∧ ∀ j, k ≤ j → j < i → rmHit g bid (l.getLastD 0) j = false)) ?_ ?_ (m + 1) ?_
    · rintro m2 K2 hK2 fr' H2 nx2 ⟨k, x, hm2, hk, g0, g1, g8, g9, g10, g11, g12, g13, rfl, rfl, hcase⟩
      rcases Nat.eq_zero_or_pos k with hk0 | hk0
      · subst hk0
        have g13 : fr' 13 = .int .i64 (-1) := by rw [g13]; exact vi (by omega)
        rcases hcase with ⟨rfl, hno⟩ | ⟨i, _, hi, hit, rfl, hbef⟩
        · have he : idxOf (rmHit g bid (l.getLastD 0)) m = -1 := idxOf_none fun j hj => hno j (by omega) hj
          simp (disch := omega) only [bsW, WOp, WOq, WV, bo, eqN, gdc, gw, bnd, ↓reduceIte, Nat.reduceEqDiff, rsvs, rsv, oneOf, rdN, ne_eq, Nat.reduceAdd, Nat.reduceMul, Nat.reduceLT, reduceCtorEq, Value.cells, setN, Value.oneCell', Nat.reduceLeDiff, undef, fcT, g0, g1, g8, g9, g10, g11, g12, g13]
          (repeat' (first | ((with_reducible refine gif_split (fun hs_ => ?_) (fun hs_ => ?_)) <;> (have hp_ := hs_; (try simp only [hpL, ne_eq] at hp_); (try simp (disch := omega) only [bsW, WOp, WOq, WV, bo, eqN, gdc, gw, bnd, ↓reduceIte, Nat.reduceEqDiff, rsvs, rsv, oneOf, rdN, ne_eq, Nat.reduceAdd, Nat.reduceMul, Nat.reduceLT, reduceCtorEq, Value.cells, setN, Value.oneCell', Nat.reduceLeDiff, undef, fcT, g0, g1, g8, g9, g10, g11, g12, g13, hs_]))) | ((first | (with_reducible refine newB_i (fun nb_ hb_ => ?_)) | (with_reducible refine RgE_i (fun (hBd_ : Bd _ _) => ?_))); (try simp (disch := omega) only [bsW, WOp, WOq, WV, bo, eqN, gdc, gw, bnd, ↓reduceIte, Nat.reduceEqDiff, rsvs, rsv, oneOf, rdN, ne_eq, Nat.reduceAdd, Nat.reduceMul, Nat.reduceLT, reduceCtorEq, Value.cells, setN, Value.oneCell', Nat.reduceLeDiff, undef, fcT, g0, g1, g8, g9, g10, g11, g12, g13])) | (with_reducible refine fun (hBd_ : Bd _ _) => ?_) | ((first | (with_reducible refine @And.intro (Sub _ _) _ ?_ ?_) | ((with_reducible refine @And.intro (Sub _ _ ∧ _) _ ?_ ?_); (with_reducible refine @And.intro (Sub _ _) _ ?_ ?_))); exact sbX) | ((with_reducible refine And.intro ?_ ?_); omega)))
          all_goals try (exfalso; omega)
          have : room n f m g start = (l, last) := by
            rw [← hroom]
            cases F with
            | zero => rfl
            | succ F => simp only [roomL]; rw [if_pos (by omega)]
          rw [this]
          exact ⟨_, rfl, hO, hs⟩
        · have he : idxOf (rmHit g bid (l.getLastD 0)) m = i := idxOf_hit hi hit fun j hj => hbef j (by omega) hj
          have hg := inR_true.1 (hab.1 i hi).2.1
          have hg0 := inR_true.1 (hab.1 i hi).1
          have hbk : bid ≤ g i 1 := by
            simp only [rmHit, Bool.and_eq_true, decide_eq_true_eq] at hit
            exact hit.1
          obtain ⟨F, rfl⟩ : ∃ F', F = F' + 1 := ⟨F - 1, by omega⟩
          have hbd := nextB_bd hok hb0 (b := bid)
          simp (disch := omega) only [bsW, WOp, WOq, WV, bo, eqN, gdc, gw, bnd, ↓reduceIte, Nat.reduceEqDiff, rsvs, rsv, oneOf, rdN, ne_eq, Nat.reduceAdd, Nat.reduceMul, Nat.reduceLT, reduceCtorEq, Value.cells, setN, Value.oneCell', Nat.reduceLeDiff, undef, fcT, g0, g1, g8, g9, g10, g11, g12, g13]
          (repeat' (first | ((with_reducible refine gif_split (fun hs_ => ?_) (fun hs_ => ?_)) <;> (have hp_ := hs_; (try simp only [hpL, ne_eq] at hp_); (try simp (disch := omega) only [bsW, WOp, WOq, WV, bo, eqN, gdc, gw, bnd, ↓reduceIte, Nat.reduceEqDiff, rsvs, rsv, oneOf, rdN, ne_eq, Nat.reduceAdd, Nat.reduceMul, Nat.reduceLT, reduceCtorEq, Value.cells, setN, Value.oneCell', Nat.reduceLeDiff, undef, fcT, g0, g1, g8, g9, g10, g11, g12, g13, hs_]))) | ((first | (with_reducible refine newB_i (fun nb_ hb_ => ?_)) | (with_reducible refine RgE_i (fun (hBd_ : Bd _ _) => ?_))); (try simp (disch := omega) only [bsW, WOp, WOq, WV, bo, eqN, gdc, gw, bnd, ↓reduceIte, Nat.reduceEqDiff, rsvs, rsv, oneOf, rdN, ne_eq, Nat.reduceAdd, Nat.reduceMul, Nat.reduceLT, reduceCtorEq, Value.cells, setN, Value.oneCell', Nat.reduceLeDiff, undef, fcT, g0, g1, g8, g9, g10, g11, g12, g13])) | (with_reducible refine fun (hBd_ : Bd _ _) => ?_) | ((first | (with_reducible refine @And.intro (Sub _ _) _ ?_ ?_) | ((with_reducible refine @And.intro (Sub _ _ ∧ _) _ ?_ ?_); (with_reducible refine @And.intro (Sub _ _) _ ?_ ?_))); exact sbX) | ((with_reducible refine And.intro ?_ ?_); omega)))
          all_goals try (exfalso; omega)
          refine app_oneL (x := g i 0) (by simp (disch := omega) only [bsW, WOp, WOq, WV, bo, eqN, gdc, gw, bnd, ↓reduceIte, Nat.reduceEqDiff, rsvs, rsv, oneOf, rdN, ne_eq, Nat.reduceAdd, Nat.reduceMul, Nat.reduceLT, reduceCtorEq, Value.cells, setN, Value.oneCell', Nat.reduceLeDiff, undef, fcT, g0, g1, g8, g9, g10, g11, g12, g13]) (by simp (disch := omega) only [bsW, WOp, WOq, WV, bo, eqN, gdc, gw, bnd, ↓reduceIte, Nat.reduceEqDiff, rsvs, rsv, oneOf, rdN, ne_eq, Nat.reduceAdd, Nat.reduceMul, Nat.reduceLT, reduceCtorEq, Value.cells, setN, Value.oneCell', Nat.reduceLeDiff, undef, fcT, g0, g1, g8, g9, g10, g11, g12, g13]) (by simp (disch := omega) only [bsW, WOp, WOq, WV, bo, eqN, gdc, gw, bnd, ↓reduceIte, Nat.reduceEqDiff, rsvs, rsv, oneOf, rdN, ne_eq, Nat.reduceAdd, Nat.reduceMul, Nat.reduceLT, reduceCtorEq, Value.cells, setN, Value.oneCell', Nat.reduceLeDiff, undef, fcT, g0, g1, g8, g9, g10, g11, g12, g13]) (by simp (disch := omega) only [bsW, WOp, WOq, WV, bo, eqN, gdc, gw, bnd, ↓reduceIte, Nat.reduceEqDiff, rsvs, rsv, oneOf, rdN, ne_eq, Nat.reduceAdd, Nat.reduceMul, Nat.reduceLT, reduceCtorEq, Value.cells, setN, Value.oneCell', Nat.reduceLeDiff, undef, fcT, g0, g1, g8, g9, g10, g11, g12, g13]) (hO.new (by assumption)) (upd_same _ _ _) (by omega) (by omega) ?_
          rintro v' b' o nx3 hb' hn2 hown' hO2
          have hlo : nx ≤ b' := by
            rcases hb' with e | e
            · exact (hO.blk e).1
            · omega
          simp (disch := omega) only [bsW, WOp, WOq, WV, bo, eqN, gdc, gw, bnd, ↓reduceIte, Nat.reduceEqDiff, rsvs, rsv, oneOf, rdN, ne_eq, Nat.reduceAdd, Nat.reduceMul, Nat.reduceLT, reduceCtorEq, Value.cells, setN, Value.oneCell', Nat.reduceLeDiff, undef, fcT, g0, g1, g8, g9, g10, g11, g12, g13]
          (repeat' (first | ((with_reducible refine gif_split (fun hs_ => ?_) (fun hs_ => ?_)) <;> (have hp_ := hs_; (try simp only [hpL, ne_eq] at hp_); (try simp (disch := omega) only [bsW, WOp, WOq, WV, bo, eqN, gdc, gw, bnd, ↓reduceIte, Nat.reduceEqDiff, rsvs, rsv, oneOf, rdN, ne_eq, Nat.reduceAdd, Nat.reduceMul, Nat.reduceLT, reduceCtorEq, Value.cells, setN, Value.oneCell', Nat.reduceLeDiff, undef, fcT, g0, g1, g8, g9, g10, g11, g12, g13, hs_]))) | ((first | (with_reducible refine newB_i (fun nb_ hb_ => ?_)) | ((with_reducible show QC _ _ _ _ _ _); (first | (refine QC_i (l22Next A n c f bid _ _ hok hb0 (by omega) (h.sub (by (repeat (first | assumption | exact Sub.refl _ | (refine sub_up (nx := nx) ?_ hB ?_; omega)))))) ?_))) | ((with_reducible show AC _ _ _ _ _ _); (first | (refine PC.ac (l22Next A n c f bid _ _ hok hb0 (by omega) (h.sub (by (repeat (first | assumption | exact Sub.refl _ | (refine sub_up (nx := nx) ?_ hB ?_; omega)))))) ?_))) | (with_reducible refine RgE_i (fun (hBd_ : Bd _ _) => ?_))); (try simp (disch := omega) only [bsW, WOp, WOq, WV, bo, eqN, gdc, gw, bnd, ↓reduceIte, Nat.reduceEqDiff, rsvs, rsv, oneOf, rdN, ne_eq, Nat.reduceAdd, Nat.reduceMul, Nat.reduceLT, reduceCtorEq, Value.cells, setN, Value.oneCell', Nat.reduceLeDiff, undef, fcT, g0, g1, g8, g9, g10, g11, g12, g13])) | (with_reducible refine fun (hBd_ : Bd _ _) => ?_) | ((first | (with_reducible refine @And.intro (Sub _ _) _ ?_ ?_) | ((with_reducible refine @And.intro (Sub _ _ ∧ _) _ ?_ ?_); (with_reducible refine @And.intro (Sub _ _) _ ?_ ?_))); exact sbX) | ((with_reducible refine And.intro ?_ ?_); omega)))
          all_goals try (exfalso; omega)
          refine hK _ _ _ ?_
          refine ⟨F, nextB n f bid, bid, l ++ [g i 0], v', by omega, by simp (disch := omega) only [bsW, ↓reduceIte, Nat.reduceEqDiff, ne_eq, reduceCtorEq, fcT, g0, g1, g8, g9, g10, g11, g12, g13], by simp (disch := omega) only [bsW, ↓reduceIte, Nat.reduceEqDiff, ne_eq, reduceCtorEq, fcT, g0, g1, g8, g9, g10, g11, g12, g13], by simp (disch := omega) only [bsW, ↓reduceIte, Nat.reduceEqDiff, ne_eq, reduceCtorEq, fcT, g0, g1, g8, g9, g10, g11, g12, g13], by simp (disch := omega) only [bsW, ↓reduceIte, Nat.reduceEqDiff, ne_eq, reduceCtorEq, fcT, g0, g1, g8, g9, g10, g11, g12, g13], by simp (disch := omega) only [bsW, ↓reduceIte, Nat.reduceEqDiff, ne_eq, reduceCtorEq, fcT, g0, g1, g8, g9, g10, g11, g12, g13], by simp (disch := omega) only [bsW, ↓reduceIte, Nat.reduceEqDiff, ne_eq, reduceCtorEq, fcT, g0, g1, g8, g9, g10, g11, g12, g13]; exact vi (by simp), by omega, by omega, by omega, by simp; omega, ?_, hO2, by (repeat (first | assumption | exact Sub.refl _ | (refine sub_up (nx := nx) ?_ hB ?_; omega))), by omega⟩
          rw [← hroom]
          simp only [roomL]
          rw [if_neg (by omega), he, Int.toNat_natCast]
      · obtain ⟨k, rfl⟩ : ∃ k', k = k' + 1 := ⟨k - 1, by omega⟩
        obtain ⟨gb, goff, rfl, gc⟩ := h'.at_ (by omega)
        have c0 := rd_sub hs (gc k 0 (by omega) (by omega))
        have c1 := rd_sub hs (gc k 1 (by omega) (by omega))
        simp only [Nat.add_zero] at c0
        have g13 : fr' 13 = .int .i64 (k : Int) := by rw [g13]; exact vi (by omega)
        simp (disch := omega) only [bsW, WOp, WOq, WV, bo, eqN, gdc, gw, bnd, ↓reduceIte, Nat.reduceEqDiff, rsvs, rsv, oneOf, rdN, ne_eq, Nat.reduceAdd, Nat.reduceMul, Nat.reduceLT, reduceCtorEq, Value.cells, setN, Value.oneCell', Nat.reduceLeDiff, undef, fcT, g0, g1, g8, g9, g10, g11, g12, g13, c0, c1]
        (repeat' (first | ((with_reducible refine gif_split (fun hs_ => ?_) (fun hs_ => ?_)) <;> (have hp_ := hs_; (try simp only [hpL, ne_eq] at hp_); (try simp (disch := omega) only [bsW, WOp, WOq, WV, bo, eqN, gdc, gw, bnd, ↓reduceIte, Nat.reduceEqDiff, rsvs, rsv, oneOf, rdN, ne_eq, Nat.reduceAdd, Nat.reduceMul, Nat.reduceLT, reduceCtorEq, Value.cells, setN, Value.oneCell', Nat.reduceLeDiff, undef, fcT, g0, g1, g8, g9, g10, g11, g12, g13, c0, c1, hs_]))) | ((first | (with_reducible refine newB_i (fun nb_ hb_ => ?_)) | (with_reducible refine RgE_i (fun (hBd_ : Bd _ _) => ?_))); (try simp (disch := omega) only [bsW, WOp, WOq, WV, bo, eqN, gdc, gw, bnd, ↓reduceIte, Nat.reduceEqDiff, rsvs, rsv, oneOf, rdN, ne_eq, Nat.reduceAdd, Nat.reduceMul, Nat.reduceLT, reduceCtorEq, Value.cells, setN, Value.oneCell', Nat.reduceLeDiff, undef, fcT, g0, g1, g8, g9, g10, g11, g12, g13, c0, c1])) | (with_reducible refine fun (hBd_ : Bd _ _) => ?_) | ((first | (with_reducible refine @And.intro (Sub _ _) _ ?_ ?_) | ((with_reducible refine @And.intro (Sub _ _ ∧ _) _ ?_ ?_); (with_reducible refine @And.intro (Sub _ _) _ ?_ ?_))); exact sbX) | ((with_reducible refine And.intro ?_ ?_); omega)))
        all_goals try (exfalso; omega)
        all_goals first
          | (refine hK2 _ _ _ ?_
             refine ⟨k, g k 0, by omega, by omega, by simp (disch := omega) only [bsW, ↓reduceIte, Nat.reduceEqDiff, ne_eq, reduceCtorEq, fcT, g0, g1, g8, g9, g10, g11, g12, g13, c0, c1], by simp (disch := omega) only [bsW, ↓reduceIte, Nat.reduceEqDiff, ne_eq, reduceCtorEq, fcT, g0, g1, g8, g9, g10, g11, g12, g13, c0, c1], by simp (disch := omega) only [bsW, ↓reduceIte, Nat.reduceEqDiff, ne_eq, reduceCtorEq, fcT, g0, g1, g8, g9, g10, g11, g12, g13, c0, c1], by simp (disch := omega) only [bsW, ↓reduceIte, Nat.reduceEqDiff, ne_eq, reduceCtorEq, fcT, g0, g1, g8, g9, g10, g11, g12, g13, c0, c1], by simp (disch := omega) only [bsW, ↓reduceIte, Nat.reduceEqDiff, ne_eq, reduceCtorEq, fcT, g0, g1, g8, g9, g10, g11, g12, g13, c0, c1], by simp (disch := omega) only [bsW, ↓reduceIte, Nat.reduceEqDiff, ne_eq, reduceCtorEq, fcT, g0, g1, g8, g9, g10, g11, g12, g13, c0, c1], by simp (disch := omega) only [bsW, ↓reduceIte, Nat.reduceEqDiff, ne_eq, reduceCtorEq, fcT, g0, g1, g8, g9, g10, g11, g12, g13, c0, c1], by simp (disch := omega) only [bsW, ↓reduceIte, Nat.reduceEqDiff, ne_eq, reduceCtorEq, fcT, g0, g1, g8, g9, g10, g11, g12, g13, c0, c1], rfl, rfl, .inr ⟨k, Nat.le_refl _, by omega, ?_, rfl, fun j h1 h2 => by omega⟩⟩
             simp only [rmHit, Bool.and_eq_true, decide_eq_true_eq, bne_iff_ne]
             exact ⟨by assumption, by assumption⟩)
          | (refine hK2 _ _ _ ?_
             have hno : rmHit g bid (l.getLastD 0) k = false := by
               simp only [rmHit, Bool.and_eq_false_iff, decide_eq_false_iff_not, bne_eq_false_iff_eq]
               first
               | exact .inl hp_
               | exact .inr hp_
             refine ⟨k, x, by omega, by omega, by simp (disch := omega) only [bsW, ↓reduceIte, Nat.reduceEqDiff, ne_eq, reduceCtorEq, fcT, g0, g1, g8, g9, g10, g11, g12, g13, c0, c1], by simp (disch := omega) only [bsW, ↓reduceIte, Nat.reduceEqDiff, ne_eq, reduceCtorEq, fcT, g0, g1, g8, g9, g10, g11, g12, g13, c0, c1], by simp (disch := omega) only [bsW, ↓reduceIte, Nat.reduceEqDiff, ne_eq, reduceCtorEq, fcT, g0, g1, g8, g9, g10, g11, g12, g13, c0, c1], by simp (disch := omega) only [bsW, ↓reduceIte, Nat.reduceEqDiff, ne_eq, reduceCtorEq, fcT, g0, g1, g8, g9, g10, g11, g12, g13, c0, c1], by simp (disch := omega) only [bsW, ↓reduceIte, Nat.reduceEqDiff, ne_eq, reduceCtorEq, fcT, g0, g1, g8, g9, g10, g11, g12, g13, c0, c1], by simp (disch := omega) only [bsW, ↓reduceIte, Nat.reduceEqDiff, ne_eq, reduceCtorEq, fcT, g0, g1, g8, g9, g10, g11, g12, g13, c0, c1], by simp (disch := omega) only [bsW, ↓reduceIte, Nat.reduceEqDiff, ne_eq, reduceCtorEq, fcT, g0, g1, g8, g9, g10, g11, g12, g13, c0, c1], by simp (disch := omega) only [bsW, ↓reduceIte, Nat.reduceEqDiff, ne_eq, reduceCtorEq, fcT, g0, g1, g8, g9, g10, g11, g12, g13, c0, c1], rfl, rfl, ?_⟩
             rcases hcase with ⟨e, hn⟩ | ⟨i, h1, h2, h3, h4, h5⟩
             · refine .inl ⟨e, fun j h1 h2 => ?_⟩
               rcases Nat.eq_or_lt_of_le h1 with rfl | h1
               · exact hno
               · exact hn j h1 h2
             · refine .inr ⟨i, by omega, h2, h3, h4, fun j h6 h7 => ?_⟩
               rcases Nat.eq_or_lt_of_le h6 with rfl | h6
               · exact hno
               · exact h5 j h6 h7)
    · rintro fr' H2 nx2 ⟨k, x, hm, _⟩; omega
    · exact ⟨m, 0, rfl, Nat.le_refl _, by simp (disch := omega) only [bsW, ↓reduceIte, Nat.reduceEqDiff, ne_eq, reduceCtorEq, fcT, f0, f1, f8, f9, f10, f11], by simp (disch := omega) only [bsW, ↓reduceIte, Nat.reduceEqDiff, ne_eq, reduceCtorEq, fcT, f0, f1, f8, f9, f10, f11], by simp (disch := omega) only [bsW, ↓reduceIte, Nat.reduceEqDiff, ne_eq, reduceCtorEq, fcT, f0, f1, f8, f9, f10, f11], by simp (disch := omega) only [bsW, ↓reduceIte, Nat.reduceEqDiff, ne_eq, reduceCtorEq, fcT, f0, f1, f8, f9, f10, f11], by simp (disch := omega) only [bsW, ↓reduceIte, Nat.reduceEqDiff, ne_eq, reduceCtorEq, fcT, f0, f1, f8, f9, f10, f11], by simp (disch := omega) only [bsW, ↓reduceIte, Nat.reduceEqDiff, ne_eq, reduceCtorEq, fcT, f0, f1, f8, f9, f10, f11], by simp (disch := omega) only [bsW, ↓reduceIte, Nat.reduceEqDiff, ne_eq, reduceCtorEq, fcT, f0, f1, f8, f9, f10, f11], by simp (disch := omega) only [bsW, ↓reduceIte, Nat.reduceEqDiff, ne_eq, reduceCtorEq, fcT, f0, f1, f8, f9, f10, f11], rfl, rfl, .inl ⟨rfl, fun j h1 h2 => by omega⟩⟩
  · rintro fr H' nx' ⟨F, bid, last, l, w, hm, _⟩; omega
  · refine ⟨101, start, 0, [], _, rfl, by simp (disch := omega) only [bsW, ↓reduceIte, Nat.reduceEqDiff, ne_eq, reduceCtorEq, fcT], by simp (disch := omega) only [bsW, ↓reduceIte, Nat.reduceEqDiff, ne_eq, reduceCtorEq, fcT], by simp (disch := omega) only [bsW, ↓reduceIte, Nat.reduceEqDiff, ne_eq, reduceCtorEq, fcT], by simp (disch := omega) only [bsW, ↓reduceIte, Nat.reduceEqDiff, ne_eq, reduceCtorEq, fcT], by simp (disch := omega) only [bsW, ↓reduceIte, Nat.reduceEqDiff, ne_eq, reduceCtorEq, fcT], by simp (disch := omega) only [bsW, ↓reduceIte, Nat.reduceEqDiff, ne_eq, reduceCtorEq, fcT]; rfl, hs0, by omega, by omega, by simp, rfl, OwnL.empty (by assumption) (by omega) (upd_same _ _ _), by (repeat (first | assumption | exact Sub.refl _ | (refine sub_up (nx := nx) ?_ hB ?_; omega))), by omega⟩
end Go.Proofs.YtnjlleopgjggpaaDoor
