/- The room, the program. -/
import Derived.Test.YtnjlleopgjggpaaDoorC5
set_option linter.unusedVariables false
set_option linter.unusedSimpArgs false
set_option maxRecDepth 100000
set_option maxHeartbeats 1000000
namespace Go.Proofs.YtnjlleopgjggpaaDoor
open Go Go.RowKit Go.Proofs

theorem roomBids (A B : Option Addr) (n c m d : Nat) (f g : Nat → Nat → Int) (start : Int) (H : Hp) (nx : Nat) (hok : stepsOk n f) (hab : abssOk m g) (hs0 : 0 ≤ start) (hs1 : start ≤ 20000) (h : Rd H A n 2 f) (h' : Rd H B m 2 g) :
    AC Tryd.prog 69 #[.slice A n c, .slice B m d, .int .i64 start] H nx (RowInt H nx (room n f m g start).1 3 (room n f m g start).2) := by
  have hm12 := hab.2
  have hn8 := inR_true.1 hok.2
  refine AC_of x_impl_roomBids rfl fun hB => ?_
  simp (disch := omega) only [bsW, WOp, WOq, WV, bo, eqN, gdc, gw, bnd, ↓reduceIte, Nat.reduceEqDiff, rsvs, rsv, oneOf, rdN, ne_eq, Nat.reduceAdd, Nat.reduceMul, Nat.reduceLT, reduceCtorEq, Value.cells, setN, Value.oneCell', Nat.reduceLeDiff, undef, fcT, c_impl_roomBids]
  (repeat' (first | ((with_reducible refine gif_split (fun hs_ => ?_) (fun hs_ => ?_)) <;> (have hp_ := hs_; (try simp only [hpL, ne_eq] at hp_); (try simp (disch := omega) only [bsW, WOp, WOq, WV, bo, eqN, gdc, gw, bnd, ↓reduceIte, Nat.reduceEqDiff, rsvs, rsv, oneOf, rdN, ne_eq, Nat.reduceAdd, Nat.reduceMul, Nat.reduceLT, reduceCtorEq, Value.cells, setN, Value.oneCell', Nat.reduceLeDiff, undef, fcT, hs_]))) | ((first | (with_reducible refine newB_i (fun nb_ hb_ => ?_)) | (with_reducible refine RgE_i (fun (hBd_ : Bd _ _) => ?_))); (try simp (disch := omega) only [bsW, WOp, WOq, WV, bo, eqN, gdc, gw, bnd, ↓reduceIte, Nat.reduceEqDiff, rsvs, rsv, oneOf, rdN, ne_eq, Nat.reduceAdd, Nat.reduceMul, Nat.reduceLT, reduceCtorEq, Value.cells, setN, Value.oneCell', Nat.reduceLeDiff, undef, fcT])) | (with_reducible refine fun (hBd_ : Bd _ _) => ?_) | ((first | (with_reducible refine @And.intro (Sub _ _) _ ?_ ?_) | ((with_reducible refine @And.intro (Sub _ _ ∧ _) _ ?_ ?_); (with_reducible refine @And.intro (Sub _ _) _ ?_ ?_))); exact sbX) | ((with_reducible refine And.intro ?_ ?_); omega)))
  rename_i b8 hb8
  refine LpE_rule (fun mm fr H' nx' => ∃ (F : Nat) (bid last : Int) (l : List Int) (w : Value) (b10 : Nat), mm = F + 1 ∧
     fr 0 = .slice A n c ∧ fr 1 = .slice B m d ∧ fr 8 = .pointer (some ⟨b8, 0, none⟩) ∧ fr 9 = .int .i64 last ∧ fr 10 = .pointer (some ⟨b10, 0, none⟩) ∧
     0 ≤ bid ∧ bid ≤ 25000 ∧ 20000 < bid + 200 * F ∧ l.length + F ≤ 101 ∧ roomL n f m g F bid last l = room n f m g start ∧
     H' b8 = some (.rw [w] 30) ∧ H' b10 = some (.rw [.int .i64 bid] 3) ∧ OwnL H' nx nx' l 3 w ∧ nx ≤ b8 ∧ b8 < nx' ∧ nx ≤ b10 ∧ b10 < nx' ∧ b8 ≠ b10 ∧ (∀ c, some c = ownBlk w → c ≠ b8 ∧ c ≠ b10) ∧ Sub H H' ∧ nx ≤ nx') ?_ ?_ (101 + 1) ?_
  · rintro mm K hK fr H' nx' ⟨F, bid, last, l, w, b10, hmm, f0, f1, f8, f9, f10, hb0, hb1, hF, hl, hroom, e8, e10, hO, l8, u8, l10, u10, hne, hown, hs, hx⟩
    have r8 : rd H' b8 0 = some w := by rw [rd_rw e8]; rfl
    have r10 : rd H' b10 0 = some (.int .i64 bid) := by rw [rd_rw e10]; rfl
    have hp : ∀ (k : Nat) (H2 : Hp) (nx2 : Nat), k < m → Sub H' H2 → nx' ≤ nx2 → PC Tryd.prog 128 #[.agg #[.int .i64 (g k 0), .int .i64 (g k 1)], .pointer (some ⟨b10, 0, none⟩), .pointer (some ⟨b8, 0, none⟩)] H2 nx2 (.bool (rmHit g bid (l.getLastD 0) k)) := by
      intro k H2 nx2 hk hs2 hx2
      have := inR_true.1 (hab.1 k hk).1
      exact roomHit _ _ _ _ _ l nx nx' w H2 nx2 (by omega) (rd_sub hs2 r10) (rd_sub hs2 r8) (hO.sub hs2 (Nat.le_refl _)) (by omega)
    rcases idxOf_cases (rmHit g bid (l.getLastD 0)) m with ⟨he, _⟩ | ⟨k, he, hk, hit, _⟩
    · simp (disch := omega) only [bsW, WOp, WOq, WV, bo, eqN, gdc, gw, bnd, ↓reduceIte, Nat.reduceEqDiff, rsvs, rsv, oneOf, rdN, ne_eq, Nat.reduceAdd, Nat.reduceMul, Nat.reduceLT, reduceCtorEq, Value.cells, setN, Value.oneCell', Nat.reduceLeDiff, undef, fcT, f0, f1, f8, f9, f10, r8, r10, he]
      (repeat' (first | ((with_reducible refine gif_split (fun hs_ => ?_) (fun hs_ => ?_)) <;> (have hp_ := hs_; (try simp only [hpL, ne_eq] at hp_); (try simp (disch := omega) only [bsW, WOp, WOq, WV, bo, eqN, gdc, gw, bnd, ↓reduceIte, Nat.reduceEqDiff, rsvs, rsv, oneOf, rdN, ne_eq, Nat.reduceAdd, Nat.reduceMul, Nat.reduceLT, reduceCtorEq, Value.cells, setN, Value.oneCell', Nat.reduceLeDiff, undef, fcT, f0, f1, f8, f9, f10, r8, r10, he, hs_]))) | ((first | (with_reducible refine newB_i (fun nb_ hb_ => ?_)) | ((with_reducible show QC _ _ _ _ _ _); (first | (refine QC_i (idxFuncAb2 B m d g _ _ _ (rmHit g bid (l.getLastD 0)) _ _ (by omega) (h'.sub hs) hp) ?_))) | ((with_reducible show AC _ _ _ _ _ _); (first | (refine PC.ac (idxFuncAb2 B m d g _ _ _ (rmHit g bid (l.getLastD 0)) _ _ (by omega) (h'.sub hs) hp) ?_))) | (with_reducible refine RgE_i (fun (hBd_ : Bd _ _) => ?_))); (try simp (disch := omega) only [bsW, WOp, WOq, WV, bo, eqN, gdc, gw, bnd, ↓reduceIte, Nat.reduceEqDiff, rsvs, rsv, oneOf, rdN, ne_eq, Nat.reduceAdd, Nat.reduceMul, Nat.reduceLT, reduceCtorEq, Value.cells, setN, Value.oneCell', Nat.reduceLeDiff, undef, fcT, f0, f1, f8, f9, f10, r8, r10, he])) | (with_reducible refine fun (hBd_ : Bd _ _) => ?_) | ((first | (with_reducible refine @And.intro (Sub _ _) _ ?_ ?_) | ((with_reducible refine @And.intro (Sub _ _ ∧ _) _ ?_ ?_); (with_reducible refine @And.intro (Sub _ _) _ ?_ ?_))); exact sbX) | ((with_reducible refine And.intro ?_ ?_); omega)))
      all_goals try (exfalso; omega)
      have : room n f m g start = (l, last) := by
        rw [← hroom]
        cases F with
        | zero => rfl
        | succ F => simp only [roomL]; rw [if_pos (by omega)]
      rw [this]
      exact ⟨_, rfl, hO, hs⟩
    · have hg := inR_true.1 (hab.1 k hk).2.1
      have hbk : bid ≤ g k 1 := by
        simp only [rmHit, Bool.and_eq_true, decide_eq_true_eq] at hit
        exact hit.1
      obtain ⟨F, rfl⟩ : ∃ F', F = F' + 1 := ⟨F - 1, by omega⟩
      have hbd := nextB_bd hok hb0 (b := bid)
      obtain ⟨gb, goff, rfl, gc⟩ := h'.at_ (by omega)
      have c0 := rd_sub hs (gc k 0 hk (by omega))
      simp only [Nat.add_zero] at c0
      have hgb := hB gb
      simp (disch := omega) only [bsW, WOp, WOq, WV, bo, eqN, gdc, gw, bnd, ↓reduceIte, Nat.reduceEqDiff, rsvs, rsv, oneOf, rdN, ne_eq, Nat.reduceAdd, Nat.reduceMul, Nat.reduceLT, reduceCtorEq, Value.cells, setN, Value.oneCell', Nat.reduceLeDiff, undef, fcT, f0, f1, f8, f9, f10, r8, r10, he, c0]
      (repeat' (first | ((with_reducible refine gif_split (fun hs_ => ?_) (fun hs_ => ?_)) <;> (have hp_ := hs_; (try simp only [hpL, ne_eq] at hp_); (try simp (disch := omega) only [bsW, WOp, WOq, WV, bo, eqN, gdc, gw, bnd, ↓reduceIte, Nat.reduceEqDiff, rsvs, rsv, oneOf, rdN, ne_eq, Nat.reduceAdd, Nat.reduceMul, Nat.reduceLT, reduceCtorEq, Value.cells, setN, Value.oneCell', Nat.reduceLeDiff, undef, fcT, f0, f1, f8, f9, f10, r8, r10, he, c0, hs_]))) | ((first | (with_reducible refine newB_i (fun nb_ hb_ => ?_)) | ((with_reducible show QC _ _ _ _ _ _); (first | (refine QC_i (idxFuncAb2 _ m d g _ _ _ (rmHit g bid (l.getLastD 0)) _ _ (by omega) (h'.sub hs) hp) ?_))) | ((with_reducible show AC _ _ _ _ _ _); (first | (refine PC.ac (idxFuncAb2 _ m d g _ _ _ (rmHit g bid (l.getLastD 0)) _ _ (by omega) (h'.sub hs) hp) ?_)))); (try simp (disch := omega) only [bsW, WOp, WOq, WV, bo, eqN, gdc, gw, bnd, ↓reduceIte, Nat.reduceEqDiff, rsvs, rsv, oneOf, rdN, ne_eq, Nat.reduceAdd, Nat.reduceMul, Nat.reduceLT, reduceCtorEq, Value.cells, setN, Value.oneCell', Nat.reduceLeDiff, undef, fcT, f0, f1, f8, f9, f10, r8, r10, he, c0])) | (with_reducible refine fun (hBd_ : Bd _ _) => ?_) | ((first | (with_reducible refine @And.intro (Sub _ _) _ ?_ ?_) | ((with_reducible refine @And.intro (Sub _ _ ∧ _) _ ?_ ?_); (with_reducible refine @And.intro (Sub _ _) _ ?_ ?_))); exact sbX) | ((with_reducible refine And.intro ?_ ?_); omega)))
      · exfalso; omega
      refine RgE_w (H0 := H') (Sub.refl _) (fun hBd => ?_)
      simp (disch := omega) only [bsW, WOp, WOq, WV, bo, eqN, gdc, gw, bnd, ↓reduceIte, Nat.reduceEqDiff, rsvs, rsv, oneOf, rdN, ne_eq, Nat.reduceAdd, Nat.reduceMul, Nat.reduceLT, reduceCtorEq, Value.cells, setN, Value.oneCell', Nat.reduceLeDiff, undef, fcT, f0, f1, f8, f9, f10, r8, r10, he, c0]
      (repeat' (first | ((with_reducible refine gif_split (fun hs_ => ?_) (fun hs_ => ?_)) <;> (have hp_ := hs_; (try simp only [hpL, ne_eq] at hp_); (try simp (disch := omega) only [bsW, WOp, WOq, WV, bo, eqN, gdc, gw, bnd, ↓reduceIte, Nat.reduceEqDiff, rsvs, rsv, oneOf, rdN, ne_eq, Nat.reduceAdd, Nat.reduceMul, Nat.reduceLT, reduceCtorEq, Value.cells, setN, Value.oneCell', Nat.reduceLeDiff, undef, fcT, f0, f1, f8, f9, f10, r8, r10, he, c0, hs_]))) | ((first | (with_reducible refine newB_i (fun nb_ hb_ => ?_)) | ((with_reducible show QC _ _ _ _ _ _); (first | (refine QC_i (idxFuncAb2 _ m d g _ _ _ (rmHit g bid (l.getLastD 0)) _ _ (by omega) (h'.sub hs) hp) ?_))) | ((with_reducible show AC _ _ _ _ _ _); (first | (refine PC.ac (idxFuncAb2 _ m d g _ _ _ (rmHit g bid (l.getLastD 0)) _ _ (by omega) (h'.sub hs) hp) ?_))) | (with_reducible refine RgE_i (fun (hBd_ : Bd _ _) => ?_))); (try simp (disch := omega) only [bsW, WOp, WOq, WV, bo, eqN, gdc, gw, bnd, ↓reduceIte, Nat.reduceEqDiff, rsvs, rsv, oneOf, rdN, ne_eq, Nat.reduceAdd, Nat.reduceMul, Nat.reduceLT, reduceCtorEq, Value.cells, setN, Value.oneCell', Nat.reduceLeDiff, undef, fcT, f0, f1, f8, f9, f10, r8, r10, he, c0])) | (with_reducible refine fun (hBd_ : Bd _ _) => ?_) | ((first | (with_reducible refine @And.intro (Sub _ _) _ ?_ ?_) | ((with_reducible refine @And.intro (Sub _ _ ∧ _) _ ?_ ?_); (with_reducible refine @And.intro (Sub _ _) _ ?_ ?_))); exact sbX) | ((with_reducible refine And.intro ?_ ?_); omega)))
      refine app_oneL (x := g k 0) (by simp (disch := omega) only [bsW, WOp, WOq, WV, bo, eqN, gdc, gw, bnd, ↓reduceIte, Nat.reduceEqDiff, rsvs, rsv, oneOf, rdN, ne_eq, Nat.reduceAdd, Nat.reduceMul, Nat.reduceLT, reduceCtorEq, Value.cells, setN, Value.oneCell', Nat.reduceLeDiff, undef, fcT, f0, f1, f8, f9, f10, r8, r10, he, c0]) (by simp (disch := omega) only [bsW, WOp, WOq, WV, bo, eqN, gdc, gw, bnd, ↓reduceIte, Nat.reduceEqDiff, rsvs, rsv, oneOf, rdN, ne_eq, Nat.reduceAdd, Nat.reduceMul, Nat.reduceLT, reduceCtorEq, Value.cells, setN, Value.oneCell', Nat.reduceLeDiff, undef, fcT, f0, f1, f8, f9, f10, r8, r10, he, c0]) (by simp (disch := omega) only [bsW, WOp, WOq, WV, bo, eqN, gdc, gw, bnd, ↓reduceIte, Nat.reduceEqDiff, rsvs, rsv, oneOf, rdN, ne_eq, Nat.reduceAdd, Nat.reduceMul, Nat.reduceLT, reduceCtorEq, Value.cells, setN, Value.oneCell', Nat.reduceLeDiff, undef, fcT, f0, f1, f8, f9, f10, r8, r10, he, c0]) (by simp (disch := omega) only [bsW, WOp, WOq, WV, bo, eqN, gdc, gw, bnd, ↓reduceIte, Nat.reduceEqDiff, rsvs, rsv, oneOf, rdN, ne_eq, Nat.reduceAdd, Nat.reduceMul, Nat.reduceLT, reduceCtorEq, Value.cells, setN, Value.oneCell', Nat.reduceLeDiff, undef, fcT, f0, f1, f8, f9, f10, r8, r10, he, c0]) (hO.new (by assumption)) (upd_same _ _ _) (by omega) (by omega) ?_
      rintro v' b' o nx2 hb' hn2 hown' hO2
      have hne8 : b' ≠ b8 := by
        rcases hb' with e | e
        · exact (hown _ e).1
        · omega
      have hne10 : b' ≠ b10 := by
        rcases hb' with e | e
        · exact (hown _ e).2
        · omega
      have hlo : nx ≤ b' := by
        rcases hb' with e | e
        · exact (hO.blk e).1
        · omega
      have hlt2 := (hO2.blk hown').2
      obtain ⟨A', c', rfl, hc', _⟩ := hO2.rd
      have hown2 : ∀ c, some c = ownBlk (Value.slice A' (l ++ [g k 0]).length c') → c = b' := fun c hc => by rw [← hown'] at hc; cases hc; rfl
      simp (disch := omega) only [bsW, WOp, WOq, WV, bo, eqN, gdc, gw, bnd, ↓reduceIte, Nat.reduceEqDiff, rsvs, rsv, oneOf, rdN, ne_eq, Nat.reduceAdd, Nat.reduceMul, Nat.reduceLT, reduceCtorEq, Value.cells, setN, Value.oneCell', Nat.reduceLeDiff, undef, fcT, f0, f1, f8, f9, f10, r10, e8, e10]
      (repeat' (first | ((with_reducible refine gif_split (fun hs_ => ?_) (fun hs_ => ?_)) <;> (have hp_ := hs_; (try simp only [hpL, ne_eq] at hp_); (try simp (disch := omega) only [bsW, WOp, WOq, WV, bo, eqN, gdc, gw, bnd, ↓reduceIte, Nat.reduceEqDiff, rsvs, rsv, oneOf, rdN, ne_eq, Nat.reduceAdd, Nat.reduceMul, Nat.reduceLT, reduceCtorEq, Value.cells, setN, Value.oneCell', Nat.reduceLeDiff, undef, fcT, f0, f1, f8, f9, f10, r10, e8, e10, hs_]))) | ((first | (with_reducible refine newB_i (fun nb_ hb_ => ?_)) | ((with_reducible show QC _ _ _ _ _ _); (first | (refine QC_i (nextBid A n c f bid _ _ hok hb0 (by omega) (h.sub (by (repeat (first | assumption | exact Sub.refl _ | (refine sub_up (nx := nx) ?_ hB ?_; omega)))))) ?_))) | ((with_reducible show AC _ _ _ _ _ _); (first | (refine PC.ac (nextBid A n c f bid _ _ hok hb0 (by omega) (h.sub (by (repeat (first | assumption | exact Sub.refl _ | (refine sub_up (nx := nx) ?_ hB ?_; omega)))))) ?_))) | (with_reducible refine RgE_i (fun (hBd_ : Bd _ _) => ?_))); (try simp (disch := omega) only [bsW, WOp, WOq, WV, bo, eqN, gdc, gw, bnd, ↓reduceIte, Nat.reduceEqDiff, rsvs, rsv, oneOf, rdN, ne_eq, Nat.reduceAdd, Nat.reduceMul, Nat.reduceLT, reduceCtorEq, Value.cells, setN, Value.oneCell', Nat.reduceLeDiff, undef, fcT, f0, f1, f8, f9, f10, r10, e8, e10])) | (with_reducible refine fun (hBd_ : Bd _ _) => ?_) | ((first | (with_reducible refine @And.intro (Sub _ _) _ ?_ ?_) | ((with_reducible refine @And.intro (Sub _ _ ∧ _) _ ?_ ?_); (with_reducible refine @And.intro (Sub _ _) _ ?_ ?_))); exact sbX) | ((with_reducible refine And.intro ?_ ?_); omega)))
      all_goals try (exfalso; omega)
      refine hK _ _ _ ?_
      refine ⟨F, nextB n f bid, bid, l ++ [g k 0], .slice A' (l ++ [g k 0]).length c', nb_, by omega, by simp (disch := omega) only [bsW, ↓reduceIte, Nat.reduceEqDiff, ne_eq, reduceCtorEq, fcT, f0, f1, f8, f9, f10, r10, e8, e10], by simp (disch := omega) only [bsW, ↓reduceIte, Nat.reduceEqDiff, ne_eq, reduceCtorEq, fcT, f0, f1, f8, f9, f10, r10, e8, e10], by simp (disch := omega) only [bsW, ↓reduceIte, Nat.reduceEqDiff, ne_eq, reduceCtorEq, fcT, f0, f1, f8, f9, f10, r10, e8, e10], by simp (disch := omega) only [bsW, ↓reduceIte, Nat.reduceEqDiff, ne_eq, reduceCtorEq, fcT, f0, f1, f8, f9, f10, r10, e8, e10], by simp (disch := omega) only [bsW, ↓reduceIte, Nat.reduceEqDiff, ne_eq, reduceCtorEq, fcT, f0, f1, f8, f9, f10, r10, e8, e10], by omega, by omega, by omega, by simp; omega, ?_, by simp (disch := omega) only [bsW, ↓reduceIte, Nat.reduceEqDiff, ne_eq, reduceCtorEq, fcT, f0, f1, f8, f9, f10, r10, e8, e10], by simp (disch := omega) only [bsW, ↓reduceIte, Nat.reduceEqDiff, ne_eq, reduceCtorEq, fcT, f0, f1, f8, f9, f10, r10, e8, e10], ?_, l8, by omega, by omega, by omega, by omega, ?_, by (repeat (first | assumption | exact Sub.refl _ | (refine sub_up (nx := nx) ?_ hB ?_; omega))), by omega⟩
      · rw [← hroom]
        simp only [roomL]
        rw [if_neg (by omega), he, Int.toNat_natCast]
      · refine hO2.keep (fun c hc => ?_) (by omega)
        have := hown2 c hc
        subst this
        simp (disch := omega) only [bsW, WOp, WOq, WV, bo, eqN, gdc, gw, bnd, ↓reduceIte, Nat.reduceEqDiff, rsvs, rsv, oneOf, rdN, ne_eq, Nat.reduceAdd, Nat.reduceMul, Nat.reduceLT, reduceCtorEq, Value.cells, setN, Value.oneCell', Nat.reduceLeDiff, undef, fcT, f0, f1, f8, f9, f10, r10, e8, e10]
      · intro c hc
        have := hown2 c hc
        omega
  · rintro fr H' nx' ⟨F, bid, last, l, w, b10, hm, _⟩; omega
  · refine ⟨101, start, 0, [], .slice none 0 0, nb_, rfl, by simp (disch := omega) only [bsW, ↓reduceIte, Nat.reduceEqDiff, ne_eq, reduceCtorEq, fcT], by simp (disch := omega) only [bsW, ↓reduceIte, Nat.reduceEqDiff, ne_eq, reduceCtorEq, fcT], by simp (disch := omega) only [bsW, ↓reduceIte, Nat.reduceEqDiff, ne_eq, reduceCtorEq, fcT], by simp (disch := omega) only [bsW, ↓reduceIte, Nat.reduceEqDiff, ne_eq, reduceCtorEq, fcT], by simp (disch := omega) only [bsW, ↓reduceIte, Nat.reduceEqDiff, ne_eq, reduceCtorEq, fcT], hs0, by omega, by omega, by simp, rfl, by simp (disch := omega) only [bsW, ↓reduceIte, Nat.reduceEqDiff, ne_eq, reduceCtorEq, fcT], by simp (disch := omega) only [bsW, ↓reduceIte, Nat.reduceEqDiff, ne_eq, reduceCtorEq, fcT], .nil, by omega, by omega, by omega, by omega, by omega, (by intro c hc; cases hc), by (repeat (first | assumption | exact Sub.refl _ | (refine sub_up (nx := nx) ?_ hB ?_; omega))), by omega⟩
end Go.Proofs.YtnjlleopgjggpaaDoor
