/- Marks of exhibits, in their rows. -/
import Derived.Test.YtmmbolempcpcjaaS23b
set_option linter.unusedVariables false
set_option linter.unusedSimpArgs false
set_option maxRecDepth 100000
set_option maxHeartbeats 1000000
namespace Go.Proofs.Ytmmbolempcpcjaa
open Go Go.RowKit Go.Proofs

/-- The exhibits, the first k of them marked from t on. -/
def mixS (s : Shw) (t k : Nat) : Shw where
  id i := if i < k then (markS s t).id i else s.id i
  title i := if i < k then (markS s t).title i else s.title i
  fr i := if i < k then (markS s t).fr i else s.fr i
  m := s.m
  mks i q := if i < k then (markS s t).mks i q else s.mks i q
theorem mixS_lt {s : Shw} {t k i : Nat} (h : i < k) : (mixS s t k).id i = (markS s t).id i ∧ (mixS s t k).title i = (markS s t).title i ∧ (mixS s t k).fr i = (markS s t).fr i ∧ (mixS s t k).mks i = (markS s t).mks i := by
  refine ⟨if_pos h, if_pos h, if_pos h, ?_⟩
  funext q
  exact if_pos h
theorem mixS_ne {s : Shw} {t k i : Nat} (h : i ≠ k) : (mixS s t (k + 1)).id i = (mixS s t k).id i ∧ (mixS s t (k + 1)).title i = (mixS s t k).title i ∧ (mixS s t (k + 1)).fr i = (mixS s t k).fr i ∧ (mixS s t (k + 1)).mks i = (mixS s t k).mks i := by
  have e : (i < k + 1) = (i < k) := by simp; omega
  refine ⟨?_, ?_, ?_, ?_⟩
  · simp [mixS, e]
  · simp [mixS, e]
  · simp [mixS, e]
  · funext q; simp [mixS, e]
theorem markTextI (x : Int) (k : Nat) (H : Hp) (nx : Nat) (h : x = (k : Int)) (hk : k ≤ 1099511627776) : PC Try.prog 70 #[.int .i64 x] H nx (.string (mkT k)) := by
  subst h
  exact markText k H nx hk
theorem markShI (v : Value) (n : Nat) (s : Shw) (t : Nat) (lo hi : Nat) (H : Hp) (nx : Nat) (hn : n ≤ 1048576) (hm : ∀ i, i < n → s.m i ≤ 1048576) (hL : shLen s n ≤ 4194304) (ht : t ≤ 1048576) (ho : OwnSh H lo hi n s 35 3 v) (hhi : hi ≤ nx) :
    AC Try.prog 34 #[v, .int .i64 t] H nx (MarkI (fun H' => OwnSh H' lo hi n (markS s t) 35 3 v) H lo hi nx (.int .i64 (t + (shLen s n : Nat)))) := by
  rcases ho.ex with ⟨rfl, rfl⟩ | ⟨b, cap, sp, B, d, rfl, h1, h2, h3, h4, h5, h6, h7, h8⟩
  · refine AC_of x_laws_markShowFrameS rfl fun hB => ?_
    simp (disch := omega) only [bsW, WOp, WOq, WV, bo, gdc, gw, bnd, ↓reduceIte, Nat.reduceEqDiff, rsvs, rsv, oneOf, rdN, ne_eq, Nat.reduceAdd, Nat.reduceMul, Nat.reduceLT, reduceCtorEq, Value.cells, setN, Value.oneCell', Nat.reduceLeDiff, undef, fcT, c_laws_markShowFrameS]
    refine LpE_rule (fun mm fr H' nx' => mm = 1 ∧ fr 0 = .slice none 0 0 ∧ fr 1 = .int .i64 t ∧ fr 5 = .int .i64 0 ∧ H' = H ∧ nx' = nx) ?_ ?_ 1 ?_
    · rintro mm K hK fr H' nx' ⟨hmm, f0, f1, f5, rfl, rfl⟩
      simp (disch := omega) only [bsW, WOp, WOq, WV, bo, gdc, gw, bnd, ↓reduceIte, Nat.reduceEqDiff, rsvs, rsv, oneOf, rdN, ne_eq, Nat.reduceAdd, Nat.reduceMul, Nat.reduceLT, reduceCtorEq, Value.cells, setN, Value.oneCell', Nat.reduceLeDiff, undef, fcT, f0, f1, f5]
      (repeat' (first | ((with_reducible refine gif_split (fun hs_ => ?_) (fun hs_ => ?_)) <;> (have hp_ := hs_; (try simp only [decide_eq_true_eq, decide_eq_false_iff_not, beq_iff_eq, bne_iff_ne, beq_eq_false_iff_ne, Bool.not_eq_true, Bool.and_eq_true, Bool.or_eq_true, Bool.and_eq_false_iff, Bool.or_eq_false_iff, bne_eq_false_iff_eq, ne_eq] at hp_); (try simp (disch := omega) only [bsW, WOp, WOq, WV, bo, gdc, gw, bnd, ↓reduceIte, Nat.reduceEqDiff, rsvs, rsv, oneOf, rdN, ne_eq, Nat.reduceAdd, Nat.reduceMul, Nat.reduceLT, reduceCtorEq, Value.cells, setN, Value.oneCell', Nat.reduceLeDiff, undef, fcT, f0, f1, f5, hs_]))) | ((with_reducible refine newB_i (fun nb_ hb_ => ?_)); (try simp (disch := omega) only [bsW, WOp, WOq, WV, bo, gdc, gw, bnd, ↓reduceIte, Nat.reduceEqDiff, rsvs, rsv, oneOf, rdN, ne_eq, Nat.reduceAdd, Nat.reduceMul, Nat.reduceLT, reduceCtorEq, Value.cells, setN, Value.oneCell', Nat.reduceLeDiff, undef, fcT, f0, f1, f5])) | (with_reducible refine fun (hBd_ : Bd _ _) => ?_) | ((with_reducible refine @And.intro (Sub _ _) _ ?_ ?_); (first | exact Sub.refl _ | exact sub_del _ _ | exact sub_del_upd (Sub.refl _) | exact sub_del_upd (by with_reducible assumption) | with_reducible assumption | exact Sub.trans (sub_del _ _) (by with_reducible assumption) | exact sub_new (by with_reducible assumption) (by with_reducible assumption) | exact sub_up2 (by with_reducible assumption) (by with_reducible assumption) (by omega))) | ((with_reducible refine @And.intro (Sub _ _ ∧ _) _ ?_ ?_); (with_reducible refine @And.intro (Sub _ _) _ ?_ ?_); (first | exact Sub.refl _ | exact sub_del _ _ | exact sub_del_upd (Sub.refl _) | exact sub_del_upd (by with_reducible assumption) | with_reducible assumption | exact Sub.trans (sub_del _ _) (by with_reducible assumption) | exact sub_new (by with_reducible assumption) (by with_reducible assumption) | exact sub_up2 (by with_reducible assumption) (by with_reducible assumption) (by omega))) | ((with_reducible refine And.intro ?_ ?_); omega)))
      all_goals try (exfalso; omega)
      exact ⟨vi (by simp [shLen]), .nil, fun c _ _ => rfl⟩
    · rintro fr H' nx' ⟨hmm, _⟩; omega
    · exact ⟨rfl, by simp (disch := omega) only [bsW, WOp, WOq, WV, bo, gdc, gw, bnd, ↓reduceIte, Nat.reduceEqDiff, rsvs, rsv, oneOf, rdN, ne_eq, Nat.reduceAdd, Nat.reduceMul, Nat.reduceLT, reduceCtorEq, Value.cells, setN, Value.oneCell', Nat.reduceLeDiff, undef, fcT], by simp (disch := omega) only [bsW, WOp, WOq, WV, bo, gdc, gw, bnd, ↓reduceIte, Nat.reduceEqDiff, rsvs, rsv, oneOf, rdN, ne_eq, Nat.reduceAdd, Nat.reduceMul, Nat.reduceLT, reduceCtorEq, Value.cells, setN, Value.oneCell', Nat.reduceLeDiff, undef, fcT], by simp (disch := omega) only [bsW, WOp, WOq, WV, bo, gdc, gw, bnd, ↓reduceIte, Nat.reduceEqDiff, rsvs, rsv, oneOf, rdN, ne_eq, Nat.reduceAdd, Nat.reduceMul, Nat.reduceLT, reduceCtorEq, Value.cells, setN, Value.oneCell', Nat.reduceLeDiff, undef, fcT], rfl, rfl⟩
  · have hBi : ∀ i, i < n → lo ≤ B i ∧ B i < hi := fun i hi' => (h7 i hi').2.blk rfl
    refine AC_of x_laws_markShowFrameS rfl fun hB => ?_
    simp (disch := omega) only [bsW, WOp, WOq, WV, bo, gdc, gw, bnd, ↓reduceIte, Nat.reduceEqDiff, rsvs, rsv, oneOf, rdN, ne_eq, Nat.reduceAdd, Nat.reduceMul, Nat.reduceLT, reduceCtorEq, Value.cells, setN, Value.oneCell', Nat.reduceLeDiff, undef, fcT, c_laws_markShowFrameS]
    refine LpB_rule (fun mm fr H' nx' => ∃ k : Nat, mm = n - k + 1 ∧ k ≤ n ∧ fr 0 = .slice (some ⟨b, 0, none⟩) n cap ∧ fr 1 = .int .i64 ((t + shLen s k : Nat) : Int) ∧ fr 5 = .int .i64 k ∧ nx ≤ nx' ∧
      H' b = some (.rw (flatV n 4 ((mixS s t k).cells (fun i => some ⟨B i, 0, none⟩) d) ++ sp) 35) ∧ (∀ i, i < n → OwnR H' lo hi (s.m i) 1 (fun q _ => (mixS s t k).mks i q) 3 (.slice (some ⟨B i, 0, none⟩) (s.m i) (d i))) ∧
      (∀ c, c < nx → ¬ (lo ≤ c ∧ c < hi) → H' c = H c)) ?_ ?_ (n + 1) ?_
    · rintro mm K hK fr H' nx' hB' ⟨k, hmm, hk, f0, f1, f5, hx, hb, hI, hoth⟩
      simp (disch := omega) only [bsW, WOp, WOq, WV, bo, gdc, gw, bnd, ↓reduceIte, Nat.reduceEqDiff, rsvs, rsv, oneOf, rdN, ne_eq, Nat.reduceAdd, Nat.reduceMul, Nat.reduceLT, reduceCtorEq, Value.cells, setN, Value.oneCell', Nat.reduceLeDiff, undef, fcT, f0, f1, f5]
      refine gif_split (fun b1 => ?_) (fun b1 => ?_)
      · have hlt : k < n := by simpa using b1
        have hL1 : shLen s (k + 1) = shLen s k + 3 + s.m k := rfl
        have hL2 := shLen_mono (s := s) (show k + 1 ≤ n by omega)
        have hk4 : k * 4 + 3 < n * 4 := by omega
        obtain ⟨hbk1, hbk2⟩ := hBi k hlt
        have hne := (h7 k hlt).1
        have z4 : (flatV n 4 ((mixS s t k).cells (fun i => some ⟨B i, 0, none⟩) d) ++ sp).length = n * 4 + sp.length := by rw [List.length_append, flatV_length]
        have g3 : ∀ (g : Nat → Nat → Value) (sp : List Value), (flatV n 4 g ++ sp)[k * 4 + 3]? = some (g k 3) := fun g sp => by
          rw [List.getElem?_append_left (by rw [flatV_length]; omega), flatV_get hlt (by omega)]
        have e3 : ∀ (g : Nat → Nat → Value) (x y z : Value), setV (setV (setV g k 0 x) k 1 y) k 2 z k 3 = g k 3 := fun g x y z => by simp [setV]
        have c3 : (mixS s t k).cells (fun i => some ⟨B i, 0, none⟩) d k 3 = .slice (some ⟨B k, 0, none⟩) (s.m k) (d k) := by simp [Shw.cells, mixS]
        simp (disch := omega) only [bsW, WOp, WOq, WV, bo, gdc, gw, bnd, ↓reduceIte, Nat.reduceEqDiff, rsvs, rsv, oneOf, rdN, ne_eq, Nat.reduceAdd, Nat.reduceMul, Nat.reduceLT, reduceCtorEq, Value.cells, setN, Value.oneCell', Nat.reduceLeDiff, undef, fcT, e3, c3, f0, f1, f5, hb, z4, rd_upd_same, rdB_rw, flatV_set0 hlt (show 0 < 4 by omega), flatV_set hlt (show 1 < 4 by omega), flatV_set hlt (show 2 < 4 by omega), g3, List.length_append, flatV_length, List.length_set, Nat.add_zero, b1]
        (repeat' (first | ((with_reducible refine gif_split (fun hs_ => ?_) (fun hs_ => ?_)) <;> (have hp_ := hs_; (try simp only [decide_eq_true_eq, decide_eq_false_iff_not, beq_iff_eq, bne_iff_ne, beq_eq_false_iff_ne, Bool.not_eq_true, Bool.and_eq_true, Bool.or_eq_true, Bool.and_eq_false_iff, Bool.or_eq_false_iff, bne_eq_false_iff_eq, ne_eq] at hp_); (try simp (disch := omega) only [bsW, WOp, WOq, WV, bo, gdc, gw, bnd, ↓reduceIte, Nat.reduceEqDiff, rsvs, rsv, oneOf, rdN, ne_eq, Nat.reduceAdd, Nat.reduceMul, Nat.reduceLT, reduceCtorEq, Value.cells, setN, Value.oneCell', Nat.reduceLeDiff, undef, fcT, e3, c3, f0, f1, f5, hb, z4, rd_upd_same, rdB_rw, flatV_set0 hlt (show 0 < 4 by omega), flatV_set hlt (show 1 < 4 by omega), flatV_set hlt (show 2 < 4 by omega), g3, List.length_append, flatV_length, List.length_set, Nat.add_zero, hs_]))) | ((with_reducible refine newB_i (fun nb_ hb_ => ?_)); (try simp (disch := omega) only [bsW, WOp, WOq, WV, bo, gdc, gw, bnd, ↓reduceIte, Nat.reduceEqDiff, rsvs, rsv, oneOf, rdN, ne_eq, Nat.reduceAdd, Nat.reduceMul, Nat.reduceLT, reduceCtorEq, Value.cells, setN, Value.oneCell', Nat.reduceLeDiff, undef, fcT, e3, c3, f0, f1, f5, hb, z4, rd_upd_same, rdB_rw, flatV_set0 hlt (show 0 < 4 by omega), flatV_set hlt (show 1 < 4 by omega), flatV_set hlt (show 2 < 4 by omega), g3, List.length_append, flatV_length, List.length_set, Nat.add_zero])) | ((first | ((with_reducible show QC _ _ _ _ _ _); (first | (refine QC_i (markTextI _ (t + shLen s k + 1) _ _ (by omega) (by omega)) ?_))) | ((with_reducible show AC _ _ _ _ _ _); (first | (refine PC.ac (markTextI _ (t + shLen s k + 1) _ _ (by omega) (by omega)) ?_)))); (try simp (disch := omega) only [bsW, WOp, WOq, WV, bo, gdc, gw, bnd, ↓reduceIte, Nat.reduceEqDiff, rsvs, rsv, oneOf, rdN, ne_eq, Nat.reduceAdd, Nat.reduceMul, Nat.reduceLT, reduceCtorEq, Value.cells, setN, Value.oneCell', Nat.reduceLeDiff, undef, fcT, e3, c3, f0, f1, f5, hb, z4, rd_upd_same, rdB_rw, flatV_set0 hlt (show 0 < 4 by omega), flatV_set hlt (show 1 < 4 by omega), flatV_set hlt (show 2 < 4 by omega), g3, List.length_append, flatV_length, List.length_set, Nat.add_zero])) | (with_reducible refine fun (hBd_ : Bd _ _) => ?_) | ((with_reducible refine @And.intro (Sub _ _) _ ?_ ?_); (first | exact Sub.refl _ | exact sub_del _ _ | exact sub_del_upd (Sub.refl _) | exact sub_del_upd (by with_reducible assumption) | with_reducible assumption | exact Sub.trans (sub_del _ _) (by with_reducible assumption) | exact sub_new (by with_reducible assumption) (by with_reducible assumption) | exact sub_up2 (by with_reducible assumption) (by with_reducible assumption) (by omega))) | ((with_reducible refine @And.intro (Sub _ _ ∧ _) _ ?_ ?_); (with_reducible refine @And.intro (Sub _ _) _ ?_ ?_); (first | exact Sub.refl _ | exact sub_del _ _ | exact sub_del_upd (Sub.refl _) | exact sub_del_upd (by with_reducible assumption) | with_reducible assumption | exact Sub.trans (sub_del _ _) (by with_reducible assumption) | exact sub_new (by with_reducible assumption) (by with_reducible assumption) | exact sub_up2 (by with_reducible assumption) (by with_reducible assumption) (by omega))) | ((with_reducible refine And.intro ?_ ?_); omega)))
        all_goals try (exfalso; omega)
        have hIk := OwnR.keep (H' := upd H' b (.rw (flatV n 4 (setV (setV (setV ((mixS s t k).cells (fun i => some ⟨B i, 0, none⟩) d) k 0 (.int .i64 ((t + shLen s k : Nat) : Int))) k 1 (.string (mkT (t + shLen s k + 1)))) k 2 (.int .i64 (((t + shLen s k : Nat) : Int) + 1 + 1))) ++ sp) 35)) (hI k hlt) (fun c hc => by cases hc; exact upd_ne hne) (Nat.le_refl _)
        refine (markIntS _ (s.m k) _ _ lo _ _ (hm k hlt) (by omega) (OwnR.sub hIk (Sub.refl _) (by omega))).mono2 ?_
        rintro r2 H2 nx2 hx2 hM
        obtain ⟨rfl, _, hoth2⟩ := id hM
        have own2 := Marked.ownI hIk hM
        have eb := (hoth2 b (fun e => by cases e; exact hne rfl)).trans (upd_same _ _ _)
        simp (disch := omega) only [bsW, WOp, WOq, WV, bo, gdc, gw, bnd, ↓reduceIte, Nat.reduceEqDiff, rsvs, rsv, oneOf, rdN, ne_eq, Nat.reduceAdd, Nat.reduceMul, Nat.reduceLT, reduceCtorEq, Value.cells, setN, Value.oneCell', Nat.reduceLeDiff, undef, fcT, f0, f1, f5]
        refine hK _ _ _ ?_
        refine ⟨k + 1, by omega, by omega, by simp (disch := omega) only [bsW, WOp, WOq, WV, bo, gdc, gw, bnd, ↓reduceIte, Nat.reduceEqDiff, rsvs, rsv, oneOf, rdN, ne_eq, Nat.reduceAdd, Nat.reduceMul, Nat.reduceLT, reduceCtorEq, Value.cells, setN, Value.oneCell', Nat.reduceLeDiff, undef, fcT, f0, f1, f5], ?_, by simp (disch := omega) only [bsW, WOp, WOq, WV, bo, gdc, gw, bnd, ↓reduceIte, Nat.reduceEqDiff, rsvs, rsv, oneOf, rdN, ne_eq, Nat.reduceAdd, Nat.reduceMul, Nat.reduceLT, reduceCtorEq, Value.cells, setN, Value.oneCell', Nat.reduceLeDiff, undef, fcT, f0, f1, f5, Int.natCast_add, Int.natCast_one], by omega, ?_, fun i hi' => ?_, fun c hc hn' => ?_⟩
        · simp (disch := omega) only [bsW, WOp, WOq, WV, bo, gdc, gw, bnd, ↓reduceIte, Nat.reduceEqDiff, rsvs, rsv, oneOf, rdN, ne_eq, Nat.reduceAdd, Nat.reduceMul, Nat.reduceLT, reduceCtorEq, Value.cells, setN, Value.oneCell', Nat.reduceLeDiff, undef, fcT, f0, f1, f5]
          exact vi (by omega)
        · rw [eb]
          congr 3
          refine flatV_congr fun i j hi' hj => ?_
          by_cases hik : i = k
          · subst hik
            obtain ⟨a1, a2, a3, a4⟩ := mixS_lt (s := s) (t := t) (show i < i + 1 by omega)
            match j, hj with
            | 0, _ => simp [setV, Shw.cells, a1, markS]
            | 1, _ => simp [setV, Shw.cells, a2, markS]
            | 2, _ => simp [setV, Shw.cells, a3, markS]; omega
            | 3, _ => simp [setV, Shw.cells, mixS]
          · obtain ⟨a1, a2, a3, a4⟩ := mixS_ne (s := s) (t := t) hik
            match j, hj with
            | 0, _ => simp [setV, Shw.cells, a1, hik]
            | 1, _ => simp [setV, Shw.cells, a2, hik]
            | 2, _ => simp [setV, Shw.cells, a3, hik]
            | 3, _ => simp [setV, Shw.cells, mixS, hik]
        · by_cases hik : i = k
          · subst hik
            refine own2.congr fun q j hq hj => ?_
            obtain ⟨_, _, _, a4⟩ := mixS_lt (s := s) (t := t) (show i < i + 1 by omega)
            rw [a4]
            simp only [mks, markS]
            omega
          · obtain ⟨_, _, _, a4⟩ := mixS_ne (s := s) (t := t) hik
            rw [a4]
            exact OwnR.keep (hI i hi') (fun c hc => by
              cases hc
              rw [hoth2 (B i) (fun e => h8 i k hi' hlt hik (by simpa [ownBlk] using e)), upd_ne (h7 i hi').1]) (Nat.le_refl _)
        · rw [hoth2 c (fun e => by cases e; exact hn' ⟨hbk1, hbk2⟩), upd_ne (fun e => by subst e; exact hn' ⟨h1, h2⟩)]
          exact hoth c hc hn'
      · have hkn : k = n := by simp at b1; omega
        subst hkn
        simp (disch := omega) only [bsW, WOp, WOq, WV, bo, gdc, gw, bnd, ↓reduceIte, Nat.reduceEqDiff, rsvs, rsv, oneOf, rdN, ne_eq, Nat.reduceAdd, Nat.reduceMul, Nat.reduceLT, reduceCtorEq, Value.cells, setN, Value.oneCell', Nat.reduceLeDiff, undef, fcT, f0, f1, f5, b1]
        refine ⟨vi (by omega), ⟨.inr ⟨b, cap, sp, B, d, rfl, h1, h2, h3, h4, h5, ?_, fun i hi' => ⟨(h7 i hi').1, ?_⟩, h8⟩⟩, hoth⟩
        · rw [hb]
          congr 3
          refine flatV_congr fun i j hi' hj => ?_
          obtain ⟨a1, a2, a3, a4⟩ := mixS_lt (s := s) (t := t) hi'
          match j, hj with
          | 0, _ => simp [Shw.cells, a1]
          | 1, _ => simp [Shw.cells, a2]
          | 2, _ => simp [Shw.cells, a3]
          | 3, _ => simp [Shw.cells, mixS, markS]
        · have := hI i hi'
          obtain ⟨a1, a2, a3, a4⟩ := mixS_lt (s := s) (t := t) hi'
          rw [a4] at this
          exact this
    · rintro fr H' nx' ⟨k, hmm, _⟩; omega
    · refine ⟨0, by omega, by omega, by simp (disch := omega) only [bsW, WOp, WOq, WV, bo, gdc, gw, bnd, ↓reduceIte, Nat.reduceEqDiff, rsvs, rsv, oneOf, rdN, ne_eq, Nat.reduceAdd, Nat.reduceMul, Nat.reduceLT, reduceCtorEq, Value.cells, setN, Value.oneCell', Nat.reduceLeDiff, undef, fcT], by simp (disch := omega) only [bsW, WOp, WOq, WV, bo, gdc, gw, bnd, ↓reduceIte, Nat.reduceEqDiff, rsvs, rsv, oneOf, rdN, ne_eq, Nat.reduceAdd, Nat.reduceMul, Nat.reduceLT, reduceCtorEq, Value.cells, setN, Value.oneCell', Nat.reduceLeDiff, undef, fcT, shLen, Nat.add_zero], by simp (disch := omega) only [bsW, WOp, WOq, WV, bo, gdc, gw, bnd, ↓reduceIte, Nat.reduceEqDiff, rsvs, rsv, oneOf, rdN, ne_eq, Nat.reduceAdd, Nat.reduceMul, Nat.reduceLT, reduceCtorEq, Value.cells, setN, Value.oneCell', Nat.reduceLeDiff, undef, fcT, Int.natCast_zero], by omega, ?_, fun i hi' => ?_, fun c _ _ => rfl⟩
      · rw [h6]
        congr 3
      · exact (h7 i hi').2
theorem heldShO (v : Value) (n : Nat) (s : Shw) (t : Nat) (lo hi : Nat) (H : Hp) (nx : Nat) (hn : n ≤ 1048576) (hm : ∀ i, i < n → s.m i ≤ 1048576) (hL : shLen s n ≤ 4194304) (ht : t ≤ 1048576) (ho : OwnSh H lo hi n (markS s t) 35 3 v) :
    PC Try.prog 35 #[v, .int .i64 t] H nx (.int .i64 (t + (shLen s n : Nat))) := by
  obtain ⟨A, c, rfl, hc, hR⟩ := ho.rd
  refine AC_of x_laws_heldShowFrameS rfl fun hB => ?_
  simp (disch := omega) only [bsW, WOp, WOq, WV, bo, gdc, gw, bnd, ↓reduceIte, Nat.reduceEqDiff, rsvs, rsv, oneOf, rdN, ne_eq, Nat.reduceAdd, Nat.reduceMul, Nat.reduceLT, reduceCtorEq, Value.cells, setN, Value.oneCell', Nat.reduceLeDiff, undef, fcT, c_laws_heldShowFrameS]
  refine LpB_rule (fun mm fr H' nx' => ∃ k : Nat, mm = n - k + 1 ∧ k ≤ n ∧ fr 0 = .slice A n c ∧ fr 1 = .int .i64 ((t + shLen s k : Nat) : Int) ∧ fr 5 = .int .i64 k ∧ nx ≤ nx' ∧ Sub H H') ?_ ?_ (n + 1) ?_
  · rintro mm K hK fr H' nx' hB' ⟨k, hmm, hk, f0, f1, f5, hx, hs⟩
    simp (disch := omega) only [bsW, WOp, WOq, WV, bo, gdc, gw, bnd, ↓reduceIte, Nat.reduceEqDiff, rsvs, rsv, oneOf, rdN, ne_eq, Nat.reduceAdd, Nat.reduceMul, Nat.reduceLT, reduceCtorEq, Value.cells, setN, Value.oneCell', Nat.reduceLeDiff, undef, fcT, f0, f1, f5]
    refine gif_split (fun b1 => ?_) (fun b1 => ?_)
    · have hlt : k < n := by simpa using b1
      have hL1 : shLen s (k + 1) = shLen s k + 3 + s.m k := rfl
      have hL2 := shLen_mono (s := s) (show k + 1 ≤ n by omega)
      obtain ⟨b, off, B, d, rfl, c0, c1, c2, c3, hd, hRk⟩ := (hR.sub hs).at_ hlt
      have c0 : rd H' b (off + k * 4) = some (.int .i64 ((t + shLen s k : Nat) : Int)) := c0
      have c1 : rd H' b (off + k * 4 + 1) = some (.string (mkT (t + shLen s k + 1))) := c1
      have c2 : rd H' b (off + k * 4 + 2) = some (.int .i64 (((t + shLen s k : Nat) : Int) + 1 + 1)) := by rw [c2]; simp only [markS]; congr 2; try omega
      have c3 : rd H' b (off + k * 4 + 3) = some (.slice B (s.m k) d) := c3
      have hRk : Rd H' B (s.m k) 1 (mks (((t + shLen s k : Nat) : Int) + 1 + 1 + 1) 1) := hRk.congr fun q j hq hj => by simp only [markS, mks]; omega
      simp (disch := omega) only [bsW, WOp, WOq, WV, bo, gdc, gw, bnd, ↓reduceIte, Nat.reduceEqDiff, rsvs, rsv, oneOf, rdN, ne_eq, Nat.reduceAdd, Nat.reduceMul, Nat.reduceLT, reduceCtorEq, Value.cells, setN, Value.oneCell', Nat.reduceLeDiff, undef, fcT, f0, f1, f5, c0, c1, c2, c3, bne_self_eq_false, beq_self_eq_true, Bool.not_true, b1]
      (repeat' (first | ((with_reducible refine gif_split (fun hs_ => ?_) (fun hs_ => ?_)) <;> (have hp_ := hs_; (try simp only [decide_eq_true_eq, decide_eq_false_iff_not, beq_iff_eq, bne_iff_ne, beq_eq_false_iff_ne, Bool.not_eq_true, Bool.and_eq_true, Bool.or_eq_true, Bool.and_eq_false_iff, Bool.or_eq_false_iff, bne_eq_false_iff_eq, ne_eq] at hp_); (try simp (disch := omega) only [bsW, WOp, WOq, WV, bo, gdc, gw, bnd, ↓reduceIte, Nat.reduceEqDiff, rsvs, rsv, oneOf, rdN, ne_eq, Nat.reduceAdd, Nat.reduceMul, Nat.reduceLT, reduceCtorEq, Value.cells, setN, Value.oneCell', Nat.reduceLeDiff, undef, fcT, f0, f1, f5, c0, c1, c2, c3, bne_self_eq_false, beq_self_eq_true, Bool.not_true, hs_]))) | ((with_reducible refine newB_i (fun nb_ hb_ => ?_)); (try simp (disch := omega) only [bsW, WOp, WOq, WV, bo, gdc, gw, bnd, ↓reduceIte, Nat.reduceEqDiff, rsvs, rsv, oneOf, rdN, ne_eq, Nat.reduceAdd, Nat.reduceMul, Nat.reduceLT, reduceCtorEq, Value.cells, setN, Value.oneCell', Nat.reduceLeDiff, undef, fcT, f0, f1, f5, c0, c1, c2, c3, bne_self_eq_false, beq_self_eq_true, Bool.not_true])) | ((first | ((with_reducible show QC _ _ _ _ _ _); (first | (refine QC_i (markTextI _ (t + shLen s k + 1) _ _ (by omega) (by omega)) ?_) | (refine QC_i (heldIntS B (s.m k) d _ _ _ (hm k hlt) (by omega) (hRk.sub (by (repeat (first | assumption | exact Sub.refl _ | (refine sub_up (nx := nx) ?_ hB ?_; omega)))))) ?_))) | ((with_reducible show AC _ _ _ _ _ _); (first | (refine PC.ac (markTextI _ (t + shLen s k + 1) _ _ (by omega) (by omega)) ?_) | (refine PC.ac (heldIntS B (s.m k) d _ _ _ (hm k hlt) (by omega) (hRk.sub (by (repeat (first | assumption | exact Sub.refl _ | (refine sub_up (nx := nx) ?_ hB ?_; omega)))))) ?_)))); (try simp (disch := omega) only [bsW, WOp, WOq, WV, bo, gdc, gw, bnd, ↓reduceIte, Nat.reduceEqDiff, rsvs, rsv, oneOf, rdN, ne_eq, Nat.reduceAdd, Nat.reduceMul, Nat.reduceLT, reduceCtorEq, Value.cells, setN, Value.oneCell', Nat.reduceLeDiff, undef, fcT, f0, f1, f5, c0, c1, c2, c3, bne_self_eq_false, beq_self_eq_true, Bool.not_true])) | (with_reducible refine fun (hBd_ : Bd _ _) => ?_) | ((with_reducible refine @And.intro (Sub _ _) _ ?_ ?_); (first | exact Sub.refl _ | exact sub_del _ _ | exact sub_del_upd (Sub.refl _) | exact sub_del_upd (by with_reducible assumption) | with_reducible assumption | exact Sub.trans (sub_del _ _) (by with_reducible assumption) | exact sub_new (by with_reducible assumption) (by with_reducible assumption) | exact sub_up2 (by with_reducible assumption) (by with_reducible assumption) (by omega))) | ((with_reducible refine @And.intro (Sub _ _ ∧ _) _ ?_ ?_); (with_reducible refine @And.intro (Sub _ _) _ ?_ ?_); (first | exact Sub.refl _ | exact sub_del _ _ | exact sub_del_upd (Sub.refl _) | exact sub_del_upd (by with_reducible assumption) | with_reducible assumption | exact Sub.trans (sub_del _ _) (by with_reducible assumption) | exact sub_new (by with_reducible assumption) (by with_reducible assumption) | exact sub_up2 (by with_reducible assumption) (by with_reducible assumption) (by omega))) | ((with_reducible refine And.intro ?_ ?_); omega)))
      all_goals try (exfalso; omega)
      refine hK _ _ _ ?_
      exact ⟨k + 1, by omega, by omega, by simp (disch := omega) only [bsW, WOp, WOq, WV, bo, gdc, gw, bnd, ↓reduceIte, Nat.reduceEqDiff, rsvs, rsv, oneOf, rdN, ne_eq, Nat.reduceAdd, Nat.reduceMul, Nat.reduceLT, reduceCtorEq, Value.cells, setN, Value.oneCell', Nat.reduceLeDiff, undef, fcT, f0, f1, f5, c0, c1, c2, c3, bne_self_eq_false, beq_self_eq_true, Bool.not_true], (by simp (disch := omega) only [bsW, WOp, WOq, WV, bo, gdc, gw, bnd, ↓reduceIte, Nat.reduceEqDiff, rsvs, rsv, oneOf, rdN, ne_eq, Nat.reduceAdd, Nat.reduceMul, Nat.reduceLT, reduceCtorEq, Value.cells, setN, Value.oneCell', Nat.reduceLeDiff, undef, fcT, f0, f1, f5, c0, c1, c2, c3, bne_self_eq_false, beq_self_eq_true, Bool.not_true]; exact vi (by omega)), by simp (disch := omega) only [bsW, WOp, WOq, WV, bo, gdc, gw, bnd, ↓reduceIte, Nat.reduceEqDiff, rsvs, rsv, oneOf, rdN, ne_eq, Nat.reduceAdd, Nat.reduceMul, Nat.reduceLT, reduceCtorEq, Value.cells, setN, Value.oneCell', Nat.reduceLeDiff, undef, fcT, f0, f1, f5, c0, c1, c2, c3, bne_self_eq_false, beq_self_eq_true, Bool.not_true, Int.natCast_add, Int.natCast_one], by omega, hs⟩
    · have hkn : k = n := by simp at b1; omega
      subst hkn
      simp (disch := omega) only [bsW, WOp, WOq, WV, bo, gdc, gw, bnd, ↓reduceIte, Nat.reduceEqDiff, rsvs, rsv, oneOf, rdN, ne_eq, Nat.reduceAdd, Nat.reduceMul, Nat.reduceLT, reduceCtorEq, Value.cells, setN, Value.oneCell', Nat.reduceLeDiff, undef, fcT, f0, f1, f5, b1]
      exact Is_e (vi (by omega)) hs
  · rintro fr H' nx' ⟨k, hmm, _⟩; omega
  · exact ⟨0, by omega, by omega, by simp (disch := omega) only [bsW, WOp, WOq, WV, bo, gdc, gw, bnd, ↓reduceIte, Nat.reduceEqDiff, rsvs, rsv, oneOf, rdN, ne_eq, Nat.reduceAdd, Nat.reduceMul, Nat.reduceLT, reduceCtorEq, Value.cells, setN, Value.oneCell', Nat.reduceLeDiff, undef, fcT], by simp (disch := omega) only [bsW, WOp, WOq, WV, bo, gdc, gw, bnd, ↓reduceIte, Nat.reduceEqDiff, rsvs, rsv, oneOf, rdN, ne_eq, Nat.reduceAdd, Nat.reduceMul, Nat.reduceLT, reduceCtorEq, Value.cells, setN, Value.oneCell', Nat.reduceLeDiff, undef, fcT, shLen, Nat.add_zero], by simp (disch := omega) only [bsW, WOp, WOq, WV, bo, gdc, gw, bnd, ↓reduceIte, Nat.reduceEqDiff, rsvs, rsv, oneOf, rdN, ne_eq, Nat.reduceAdd, Nat.reduceMul, Nat.reduceLT, reduceCtorEq, Value.cells, setN, Value.oneCell', Nat.reduceLeDiff, undef, fcT, Int.natCast_zero], by omega, Sub.refl _⟩
theorem eqShO (v w : Value) (n : Nat) (s : Shw) (lo hi lo2 hi2 : Nat) (H : Hp) (nx : Nat) (hn : n ≤ 17592186044416) (hm : ∀ i, i < n → s.m i ≤ 17592186044416) (h : OwnSh H lo hi n s 35 3 v) (h' : OwnSh H lo2 hi2 n s 35 3 w) :
    PC Try.prog 18 #[v, w] H nx (.bool true) := by
  obtain ⟨A, c, rfl, _, hR⟩ := h.rd
  obtain ⟨A2, c2, rfl, _, hR2⟩ := h'.rd
  exact eqShowFrameS A A2 n c c2 s H nx hn hm hR hR2
theorem toShI (A : Option Addr) (n c : Nat) (s : Shw) (H : Hp) (nx : Nat) (hn : n ≤ 1048576) (hm : ∀ i, i < n → s.m i ≤ 1048576) (h : RdS H A n s) :
    AC Try.prog 16 #[.slice A n c] H nx (NewI (fun hi v H' => OwnSh H' nx hi n s 35 3 v) H) := by
  refine AC_of x_laws_toShowFrameS rfl fun hB => ?_
  simp (disch := omega) only [bsW, WOp, WOq, WV, bo, gdc, gw, bnd, ↓reduceIte, Nat.reduceEqDiff, rsvs, rsv, oneOf, rdN, ne_eq, Nat.reduceAdd, Nat.reduceMul, Nat.reduceLT, reduceCtorEq, Value.cells, setN, Value.oneCell', Nat.reduceLeDiff, undef, fcT, c_laws_toShowFrameS]
  refine ⟨by omega, newB_i fun nb hnb => ?_⟩
  rw [mkRow_flatV _ n 4 (by omega) rfl]
  simp (disch := omega) only [bsW, WOp, WOq, WV, bo, gdc, gw, bnd, ↓reduceIte, Nat.reduceEqDiff, rsvs, rsv, oneOf, rdN, ne_eq, Nat.reduceAdd, Nat.reduceMul, Nat.reduceLT, reduceCtorEq, Value.cells, setN, Value.oneCell', Nat.reduceLeDiff, undef, fcT]
  refine LpE_rule (fun m fr H' nx' => ∃ (k : Nat) (B : Nat → Nat) (g : Nat → Nat → Value), m = n - k + 1 ∧ k ≤ n ∧ fr 0 = .slice A n c ∧ fr 3 = .slice (some ⟨nb, 0, none⟩) n n ∧ fr 4 = .int .i64 k ∧ Sub H H' ∧ nb + 1 ≤ nx' ∧
    H' nb = some (.rw (flatV n 4 g) 35) ∧ (∀ i j, i < k → j < 4 → g i j = s.cells (fun i => some ⟨B i, 0, none⟩) s.m i j) ∧ (∀ i, i < k → nb < B i ∧ B i < nx' ∧ H' (B i) = some (.rw (flat (s.m i) 1 (fun r _ => s.mks i r)) 3)) ∧ ∀ i j, i < k → j < k → i ≠ j → B i ≠ B j) ?_ ?_ (n + 1) ?_
  · rintro m K hK fr H' nx' ⟨k, B, g, hm', hk, f0, f3, f4, hs, hx, hb, hg, hB2, hB3⟩
    simp (disch := omega) only [bsW, WOp, WOq, WV, bo, gdc, gw, bnd, ↓reduceIte, Nat.reduceEqDiff, rsvs, rsv, oneOf, rdN, ne_eq, Nat.reduceAdd, Nat.reduceMul, Nat.reduceLT, reduceCtorEq, Value.cells, setN, Value.oneCell', Nat.reduceLeDiff, undef, fcT, f0, f3, f4]
    refine gif_split (fun b1 => ?_) (fun b1 => ?_)
    · have hlt : k < n := by simpa using b1
      obtain ⟨b, off, P1, d1, rfl, c0, c1, c2, c3, hd, hR⟩ := (h.sub hs).at_ hlt
      simp (disch := omega) only [bsW, WOp, WOq, WV, bo, gdc, gw, bnd, ↓reduceIte, Nat.reduceEqDiff, rsvs, rsv, oneOf, rdN, ne_eq, Nat.reduceAdd, Nat.reduceMul, Nat.reduceLT, reduceCtorEq, Value.cells, setN, Value.oneCell', Nat.reduceLeDiff, undef, fcT, f0, f3, f4, c0, c1, c2, c3, b1]
      (repeat' (first | ((with_reducible refine gif_split (fun hs_ => ?_) (fun hs_ => ?_)) <;> (have hp_ := hs_; (try simp only [decide_eq_true_eq, decide_eq_false_iff_not, beq_iff_eq, bne_iff_ne, beq_eq_false_iff_ne, Bool.not_eq_true, Bool.and_eq_true, Bool.or_eq_true, Bool.and_eq_false_iff, Bool.or_eq_false_iff, bne_eq_false_iff_eq, ne_eq] at hp_); (try simp (disch := omega) only [bsW, WOp, WOq, WV, bo, gdc, gw, bnd, ↓reduceIte, Nat.reduceEqDiff, rsvs, rsv, oneOf, rdN, ne_eq, Nat.reduceAdd, Nat.reduceMul, Nat.reduceLT, reduceCtorEq, Value.cells, setN, Value.oneCell', Nat.reduceLeDiff, undef, fcT, f0, f3, f4, c0, c1, c2, c3, hs_]))) | ((with_reducible refine newB_i (fun nb_ hb_ => ?_)); (try simp (disch := omega) only [bsW, WOp, WOq, WV, bo, gdc, gw, bnd, ↓reduceIte, Nat.reduceEqDiff, rsvs, rsv, oneOf, rdN, ne_eq, Nat.reduceAdd, Nat.reduceMul, Nat.reduceLT, reduceCtorEq, Value.cells, setN, Value.oneCell', Nat.reduceLeDiff, undef, fcT, f0, f3, f4, c0, c1, c2, c3])) | (with_reducible refine fun (hBd_ : Bd _ _) => ?_) | ((with_reducible refine @And.intro (Sub _ _) _ ?_ ?_); (first | exact Sub.refl _ | exact sub_del _ _ | exact sub_del_upd (Sub.refl _) | exact sub_del_upd (by with_reducible assumption) | with_reducible assumption | exact Sub.trans (sub_del _ _) (by with_reducible assumption) | exact sub_new (by with_reducible assumption) (by with_reducible assumption) | exact sub_up2 (by with_reducible assumption) (by with_reducible assumption) (by omega))) | ((with_reducible refine @And.intro (Sub _ _ ∧ _) _ ?_ ?_); (with_reducible refine @And.intro (Sub _ _) _ ?_ ?_); (first | exact Sub.refl _ | exact sub_del _ _ | exact sub_del_upd (Sub.refl _) | exact sub_del_upd (by with_reducible assumption) | with_reducible assumption | exact Sub.trans (sub_del _ _) (by with_reducible assumption) | exact sub_new (by with_reducible assumption) (by with_reducible assumption) | exact sub_up2 (by with_reducible assumption) (by with_reducible assumption) (by omega))) | ((with_reducible refine And.intro ?_ ?_); omega)))
      all_goals try (exfalso; omega)
      refine (toShowFrame (s.id k) (s.title k) (s.fr k) P1 (s.m k) d1 (s.mks k) _ _ (hm k hlt) hR).mono2 ?_
      rintro v1 H1 nx1 hx1 ⟨⟨q, rfl, hq1, hq2, hq3⟩, ht1⟩
      have hb1 := ht1 _ _ hb
      simp (disch := omega) only [bsW, WOp, WOq, WV, bo, gdc, gw, bnd, ↓reduceIte, Nat.reduceEqDiff, rsvs, rsv, oneOf, rdN, ne_eq, Nat.reduceAdd, Nat.reduceMul, Nat.reduceLT, reduceCtorEq, Value.cells, setN, Value.oneCell', Nat.reduceLeDiff, undef, fcT, f0, f3, f4, hb1, flatV_length]
      (repeat' (first | ((with_reducible refine gif_split (fun hs_ => ?_) (fun hs_ => ?_)) <;> (have hp_ := hs_; (try simp only [decide_eq_true_eq, decide_eq_false_iff_not, beq_iff_eq, bne_iff_ne, beq_eq_false_iff_ne, Bool.not_eq_true, Bool.and_eq_true, Bool.or_eq_true, Bool.and_eq_false_iff, Bool.or_eq_false_iff, bne_eq_false_iff_eq, ne_eq] at hp_); (try simp (disch := omega) only [bsW, WOp, WOq, WV, bo, gdc, gw, bnd, ↓reduceIte, Nat.reduceEqDiff, rsvs, rsv, oneOf, rdN, ne_eq, Nat.reduceAdd, Nat.reduceMul, Nat.reduceLT, reduceCtorEq, Value.cells, setN, Value.oneCell', Nat.reduceLeDiff, undef, fcT, f0, f3, f4, hb1, flatV_length, hs_]))) | ((with_reducible refine newB_i (fun nb_ hb_ => ?_)); (try simp (disch := omega) only [bsW, WOp, WOq, WV, bo, gdc, gw, bnd, ↓reduceIte, Nat.reduceEqDiff, rsvs, rsv, oneOf, rdN, ne_eq, Nat.reduceAdd, Nat.reduceMul, Nat.reduceLT, reduceCtorEq, Value.cells, setN, Value.oneCell', Nat.reduceLeDiff, undef, fcT, f0, f3, f4, hb1, flatV_length])) | (with_reducible refine fun (hBd_ : Bd _ _) => ?_) | ((with_reducible refine @And.intro (Sub _ _) _ ?_ ?_); (first | exact Sub.refl _ | exact sub_del _ _ | exact sub_del_upd (Sub.refl _) | exact sub_del_upd (by with_reducible assumption) | with_reducible assumption | exact Sub.trans (sub_del _ _) (by with_reducible assumption) | exact sub_new (by with_reducible assumption) (by with_reducible assumption) | exact sub_up2 (by with_reducible assumption) (by with_reducible assumption) (by omega))) | ((with_reducible refine @And.intro (Sub _ _ ∧ _) _ ?_ ?_); (with_reducible refine @And.intro (Sub _ _) _ ?_ ?_); (first | exact Sub.refl _ | exact sub_del _ _ | exact sub_del_upd (Sub.refl _) | exact sub_del_upd (by with_reducible assumption) | with_reducible assumption | exact Sub.trans (sub_del _ _) (by with_reducible assumption) | exact sub_new (by with_reducible assumption) (by with_reducible assumption) | exact sub_up2 (by with_reducible assumption) (by with_reducible assumption) (by omega))) | ((with_reducible refine And.intro ?_ ?_); omega)))
      all_goals try (exfalso; omega)
      refine hK _ _ _ ?_
      refine ⟨k + 1, fun i => if i = k then q else B i, setV (setV (setV (setV g k 0 (.int .i64 (s.id k))) k 1 (.string (s.title k))) k 2 (.int .i64 (s.fr k))) k 3 (.slice (some ⟨q, 0, none⟩) (s.m k) (s.m k)), by omega, by omega, by simp (disch := omega) only [bsW, WOp, WOq, WV, bo, gdc, gw, bnd, ↓reduceIte, Nat.reduceEqDiff, rsvs, rsv, oneOf, rdN, ne_eq, Nat.reduceAdd, Nat.reduceMul, Nat.reduceLT, reduceCtorEq, Value.cells, setN, Value.oneCell', Nat.reduceLeDiff, undef, fcT, f0, f3, f4, hb1, flatV_length], by simp (disch := omega) only [bsW, WOp, WOq, WV, bo, gdc, gw, bnd, ↓reduceIte, Nat.reduceEqDiff, rsvs, rsv, oneOf, rdN, ne_eq, Nat.reduceAdd, Nat.reduceMul, Nat.reduceLT, reduceCtorEq, Value.cells, setN, Value.oneCell', Nat.reduceLeDiff, undef, fcT, f0, f3, f4, hb1, flatV_length], by simp (disch := omega) only [bsW, WOp, WOq, WV, bo, gdc, gw, bnd, ↓reduceIte, Nat.reduceEqDiff, rsvs, rsv, oneOf, rdN, ne_eq, Nat.reduceAdd, Nat.reduceMul, Nat.reduceLT, reduceCtorEq, Value.cells, setN, Value.oneCell', Nat.reduceLeDiff, undef, fcT, f0, f3, f4, hb1, flatV_length, Int.natCast_add, Int.natCast_one], sub_upd_old (hs.trans ht1) (none_of_bd hB hnb), by omega, ?_, fun i j hi hj => ?_, fun i hi => ?_, fun i j hi hj hij => ?_⟩
      · rw [upd_same]
        have e : ∀ (f : Nat → Nat → Value), flatV n 4 f = flatV n 4 f ++ [] := fun f => (List.append_nil _).symm
        (try simp only [setN, Nat.add_zero])
        rw [e g, flatV_set0 hlt (by omega), flatV_set hlt (by omega), flatV_set hlt (by omega), flatV_set hlt (by omega), List.append_nil]
      · by_cases hik : i = k
        · subst hik
          match j, hj with
          | 0, _ => simp [setV, Shw.cells]
          | 1, _ => simp [setV, Shw.cells]
          | 2, _ => simp [setV, Shw.cells]
          | 3, _ => simp [setV, Shw.cells]
        · have := hg i j (by omega) hj
          match j, hj with
          | 0, _ => simpa [setV, Shw.cells, hik] using this
          | 1, _ => simpa [setV, Shw.cells, hik] using this
          | 2, _ => simpa [setV, Shw.cells, hik] using this
          | 3, _ => simpa [setV, Shw.cells, hik] using this
      · by_cases hik : i = k
        · subst hik
          simp only [if_true]
          exact ⟨by omega, by omega, by rw [upd_ne (by omega)]; exact hq3⟩
        · obtain ⟨e1, e2, e3⟩ := hB2 i (by omega)
          simp only [if_neg hik]
          exact ⟨e1, by omega, by rw [upd_ne (by omega)]; exact ht1 _ _ e3⟩
      · by_cases hik : i = k
        · subst hik
          have := hB2 j (by omega)
          simp only [if_true, if_neg (Ne.symm hij)]
          omega
        · by_cases hjk : j = k
          · subst hjk
            have := hB2 i (by omega)
            simp only [if_true, if_neg hij]
            omega
          · simp only [if_neg hik, if_neg hjk]
            exact hB3 i j (by omega) (by omega) hij
    · simp (disch := omega) only [bsW, WOp, WOq, WV, bo, gdc, gw, bnd, ↓reduceIte, Nat.reduceEqDiff, rsvs, rsv, oneOf, rdN, ne_eq, Nat.reduceAdd, Nat.reduceMul, Nat.reduceLT, reduceCtorEq, Value.cells, setN, Value.oneCell', Nat.reduceLeDiff, undef, fcT, f0, f3, f4, b1]
      have hkn : k = n := by simp at b1; omega
      subst hkn
      refine ⟨⟨.inr ⟨nb, k, [], B, s.m, rfl, hnb, by omega, Nat.le_refl _, by unfold maxLen; omega, by simp, ?_, fun i hi => ?_, hB3⟩⟩, hs⟩
      · rw [hb, List.append_nil]
        congr 2
        exact flatV_congr fun i j hi hj => hg i j hi hj
      · obtain ⟨e1, e2, e3⟩ := hB2 i hi
        exact ⟨by omega, .full (by omega) e2 e3 (by have := hm i hi; unfold maxLen; omega)⟩
  · rintro fr H' nx' ⟨k, B, g, hm', _⟩; omega
  · refine ⟨0, fun _ => 0, _, by omega, by omega, by simp (disch := omega) only [bsW, WOp, WOq, WV, bo, gdc, gw, bnd, ↓reduceIte, Nat.reduceEqDiff, rsvs, rsv, oneOf, rdN, ne_eq, Nat.reduceAdd, Nat.reduceMul, Nat.reduceLT, reduceCtorEq, Value.cells, setN, Value.oneCell', Nat.reduceLeDiff, undef, fcT], by simp (disch := omega) only [bsW, WOp, WOq, WV, bo, gdc, gw, bnd, ↓reduceIte, Nat.reduceEqDiff, rsvs, rsv, oneOf, rdN, ne_eq, Nat.reduceAdd, Nat.reduceMul, Nat.reduceLT, reduceCtorEq, Value.cells, setN, Value.oneCell', Nat.reduceLeDiff, undef, fcT], by simp (disch := omega) only [bsW, WOp, WOq, WV, bo, gdc, gw, bnd, ↓reduceIte, Nat.reduceEqDiff, rsvs, rsv, oneOf, rdN, ne_eq, Nat.reduceAdd, Nat.reduceMul, Nat.reduceLT, reduceCtorEq, Value.cells, setN, Value.oneCell', Nat.reduceLeDiff, undef, fcT, Int.natCast_zero], ?_, by omega, upd_same _ _ _, fun i j hi => by omega, fun i hi => by omega, fun i j hi => by omega⟩
    exact sub_upd_old (Sub.refl _) (none_of_bd hB hnb)
end Go.Proofs.Ytmmbolempcpcjaa
