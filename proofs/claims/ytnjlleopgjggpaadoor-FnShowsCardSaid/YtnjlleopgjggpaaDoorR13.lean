/- Exhibits: their rank, the reference. -/
import Derived.Test.YtnjlleopgjggpaaDoorR11
import Derived.Test.YtnjlleopgjggpaaDoorD10
import Derived.Test.YtnjlleopgjggpaaDoorD8
import Derived.Test.YtnjlleopgjggpaaDoorR12
set_option linter.unusedVariables false
set_option linter.unusedSimpArgs false
set_option maxRecDepth 100000
set_option maxHeartbeats 4000000
namespace Go.Proofs.YtnjlleopgjggpaaDoor
open Go Go.RowKit Go.Proofs

theorem RdV.of4 {H : Hp} {b k : Nat} {ty : TypeId} (l : List Value) (hl : l.length = k) (h : H b = some (.rw l ty)) : RdV H (some ⟨b, 0, none⟩) 1 k (fun _ q => l.getD q undef) :=
  ⟨fun _ => ⟨b, 0, rfl, fun i j hi hj => by
    rw [rd_rw h, show 0 + i * k + j = j by rw [show i = 0 by omega]; omega, List.getD_eq_getElem?_getD, List.getElem?_eq_getElem (by omega)]
    rfl⟩⟩
def insV (G : Nat → Nat → Value) (j : Nat) (e : Nat → Value) : Nat → Nat → Value := fun p q => if p < j then G p q else if p = j then e q else G (p - 1) q
theorem insV_cat {G : Nat → Nat → Value} {e : Nat → Value} {j k p q : Nat} (hj : j ≤ k) (hp : p < k + 1) : catV (j + 1) (catV j G (fun _ q => e q)) (fun p q => G (j + p) q) p q = insV G j e p q := by
  unfold catV insV
  by_cases h1 : p < j
  · rw [if_pos (show p < j + 1 by omega), if_pos h1, if_pos h1]
  · by_cases h2 : p = j
    · rw [if_pos (show p < j + 1 by omega), if_neg h1, if_neg h1, if_pos h2]
    · rw [if_neg (show ¬ p < j + 1 by omega), if_neg h1, if_neg h2]
      show G (j + (p - (j + 1))) q = G (p - 1) q
      rw [show j + (p - (j + 1)) = p - 1 by omega]
structure RkI (S O : Value) (k j : Nat) (G : Nat → Nat → Value) (e : Nat → Value) (lo : Nat) (H : Hp) (nx : Nat) (fr2 : Fr) (H2 : Hp) (nx2 : Nat) : Prop where
  g0 : fr2 0 = S
  g4 : fr2 4 = O
  g6 : fr2 6 = .int .i64 k
  own : ∃ w, fr2 5 = w ∧ OwnV H2 lo nx2 (k + 1) 4 (insV G j e) 72 w
  s : Sub H H2
  hx : nx ≤ nx2
theorem rankReg (b off n c : Nat) (O : Value) (A5 : Option Addr) (k c5 j : Nat) (G : Nat → Nat → Value) (e0 : Int) (e1 : ByteArray) (e2 : Int) (e3 : Value) (lo : Nat) (fr : Fr) (H : Hp) (nx : Nat) (hB : Bd H nx) (hlo : lo ≤ nx)
    (f0 : fr 0 = .slice (some ⟨b, off, none⟩) n c) (f4 : fr 4 = O) (f5 : fr 5 = .slice A5 k c5) (f6 : fr 6 = .int .i64 k) (f7 : fr 7 = .int .i64 j) (hk : k < n) (hn : n ≤ 10) (hj : j ≤ k) (hc5 : k ≤ c5) (hR5 : RdV H A5 k 4 G) (hG : oneG k 4 G) (h3 : e3.oneCell' = true)
    (c0 : rd H b (off + k * 4) = some (.int .i64 e0)) (c1 : rd H b (off + k * 4 + 1) = some (.string e1)) (c2 : rd H b (off + k * 4 + 2) = some (.int .i64 e2)) (c3 : rd H b (off + k * 4 + 3) = some e3) :
    V Tryd.prog c_spec_RankShow_r0 (thn (RkI (.slice (some ⟨b, off, none⟩) n c) O k j G (fun q => [Value.int .i64 e0, .string e1, .int .i64 e2, e3].getD q undef) lo H nx) (fun _ _ _ _ => False)) fr H nx := by
  have t1 : ((j : Int)).toNat = j := by omega
  have hRb : RdV H (cutA A5 c5 j 4) (k - j) 4 (fun p q => G (j + p) q) := by
    by_cases e : j = k
    · rw [show k - j = 0 by omega]; exact RdV.zero
    · obtain ⟨b5, o5, rfl, _⟩ := hR5.at_ (by omega)
      rw [cutA_pos (show j < c5 by omega)]
      exact hR5.drop hj
  have hGa : oneG j 4 G := fun i q hi hq => hG i q (by omega) hq
  have hGb : oneG (k - j) 4 (fun p q => G (j + p) q) := fun i q hi hq => hG (j + i) q (by omega) hq
  have hE1 : oneG 1 4 (fun _ q => [Value.int .i64 e0, .string e1, .int .i64 e2, e3].getD q undef) := fun i q hi hq => by
    match q, hq with
    | 0, _ => rfl
    | 1, _ => rfl
    | 2, _ => rfl
    | 3, _ => exact h3
  simp (disch := omega) only [bsW, WOp, WOq, WV, bo, eqN, gdc, gw, bnd, ↓reduceIte, Nat.reduceEqDiff, rsvs, rsv, oneOf, rdN, ne_eq, Nat.reduceAdd, Nat.reduceMul, Nat.reduceLT, reduceCtorEq, Value.cells, setN, Value.oneCell', Nat.reduceLeDiff, undef, fcT, f0, f4, f5, f6, f7, t1, cutA_zero, c0, c1, c2, c3, c_spec_RankShow_r0]
  (repeat' (first | ((with_reducible refine gif_split (fun hs_ => ?_) (fun hs_ => ?_)) <;> (have hp_ := hs_; (try simp only [hpL, ne_eq] at hp_); (try simp (disch := omega) only [bsW, WOp, WOq, WV, bo, eqN, gdc, gw, bnd, ↓reduceIte, Nat.reduceEqDiff, rsvs, rsv, oneOf, rdN, ne_eq, Nat.reduceAdd, Nat.reduceMul, Nat.reduceLT, reduceCtorEq, Value.cells, setN, Value.oneCell', Nat.reduceLeDiff, undef, fcT, f0, f4, f5, f6, f7, t1, cutA_zero, c0, c1, c2, c3, hs_]))) | ((first | (with_reducible refine newB_i (fun nb_ hb_ => ?_)) | (with_reducible refine RgE_i (fun (hBd_ : Bd _ _) => ?_))); (try simp (disch := omega) only [bsW, WOp, WOq, WV, bo, eqN, gdc, gw, bnd, ↓reduceIte, Nat.reduceEqDiff, rsvs, rsv, oneOf, rdN, ne_eq, Nat.reduceAdd, Nat.reduceMul, Nat.reduceLT, reduceCtorEq, Value.cells, setN, Value.oneCell', Nat.reduceLeDiff, undef, fcT, f0, f4, f5, f6, f7, t1, cutA_zero, c0, c1, c2, c3])) | (with_reducible refine fun (hBd_ : Bd _ _) => ?_) | ((first | (with_reducible refine @And.intro (Sub _ _) _ ?_ ?_) | ((with_reducible refine @And.intro (Sub _ _ ∧ _) _ ?_ ?_); (with_reducible refine @And.intro (Sub _ _) _ ?_ ?_))); exact sbX) | ((with_reducible refine And.intro ?_ ?_); omega) | (with_reducible refine And.intro ?_ ?_)))
  · have hbA := hb_
    generalize hHx : (upd H nb_ (.rw [] 72)) = Hx at *
    have zA : Hx nb_ = some (.rw [] 72) := by rw [← hHx]; exact upd_same _ _ _
    have hsx : Sub H Hx := by rw [← hHx]; exact sub_up2 hB (Sub.refl _) (by omega)
    have hBx : Bd Hx (nb_ + 1) := by rw [← hHx]; exact Bd.up hB (by omega)
    generalize nb_ = bA at *
    refine app_anyV (k := 4) (bytes := 56) (lo := nx) (n := 0) (f := G) (by simp (disch := omega) only [bsW, WOp, WOq, WV, bo, eqN, gdc, gw, bnd, ↓reduceIte, Nat.reduceEqDiff, rsvs, rsv, oneOf, rdN, ne_eq, Nat.reduceAdd, Nat.reduceMul, Nat.reduceLT, reduceCtorEq, Value.cells, setN, Value.oneCell', Nat.reduceLeDiff, undef, fcT, f0, f4, f5, f6, f7, t1, cutA_zero, c0, c1, c2, c3]) (by simp (disch := omega) only [bsW, WOp, WOq, WV, bo, eqN, gdc, gw, bnd, ↓reduceIte, Nat.reduceEqDiff, rsvs, rsv, oneOf, rdN, ne_eq, Nat.reduceAdd, Nat.reduceMul, Nat.reduceLT, reduceCtorEq, Value.cells, setN, Value.oneCell', Nat.reduceLeDiff, undef, fcT, f0, f4, f5, f6, f7, t1, cutA_zero, c0, c1, c2, c3]) (by simp (disch := omega) only [bsW, WOp, WOq, WV, bo, eqN, gdc, gw, bnd, ↓reduceIte, Nat.reduceEqDiff, rsvs, rsv, oneOf, rdN, ne_eq, Nat.reduceAdd, Nat.reduceMul, Nat.reduceLT, reduceCtorEq, Value.cells, setN, Value.oneCell', Nat.reduceLeDiff, undef, fcT, f0, f4, f5, f6, f7, t1, cutA_zero, c0, c1, c2, c3]) ⟨_, qz72, rfl⟩ (by omega) (.empty (by omega) (by omega) zA) ((hR5.take hj).sub hsx) hGa (by omega) (by omega) (by unfold maxLen; omega) ?_
    rintro v1 H1 nx1 hO1 hlo1 hoth1 hx1 hB1 hat1
    replace hO1 := hO1.congr (g := G) (fun i q hi hq => by unfold catV; rw [if_neg (by omega), Nat.sub_zero])
    rw [Nat.zero_add] at hO1
    have hs1 : Sub H H1 := fun q o e => by have := hB q o e; rw [hlo1 q this]; exact hsx q o e
    replace hB1 := hB1 hBx
    (try (simp (disch := omega) only [bsW, WOp, WOq, WV, bo, eqN, gdc, gw, bnd, ↓reduceIte, Nat.reduceEqDiff, rsvs, rsv, oneOf, rdN, ne_eq, Nat.reduceAdd, Nat.reduceMul, Nat.reduceLT, reduceCtorEq, Value.cells, setN, Value.oneCell', Nat.reduceLeDiff, undef, fcT, f0, f4, f5, f6, f7, t1, cutA_zero, c0, c1, c2, c3]))
    (repeat' (first | ((with_reducible refine gif_split (fun hs_ => ?_) (fun hs_ => ?_)) <;> (have hp_ := hs_; (try simp only [hpL, ne_eq] at hp_); (try simp (disch := omega) only [bsW, WOp, WOq, WV, bo, eqN, gdc, gw, bnd, ↓reduceIte, Nat.reduceEqDiff, rsvs, rsv, oneOf, rdN, ne_eq, Nat.reduceAdd, Nat.reduceMul, Nat.reduceLT, reduceCtorEq, Value.cells, setN, Value.oneCell', Nat.reduceLeDiff, undef, fcT, f0, f4, f5, f6, f7, t1, cutA_zero, c0, c1, c2, c3, hs_]))) | ((first | (with_reducible refine newB_i (fun nb_ hb_ => ?_)) | (with_reducible refine RgE_i (fun (hBd_ : Bd _ _) => ?_))); (try simp (disch := omega) only [bsW, WOp, WOq, WV, bo, eqN, gdc, gw, bnd, ↓reduceIte, Nat.reduceEqDiff, rsvs, rsv, oneOf, rdN, ne_eq, Nat.reduceAdd, Nat.reduceMul, Nat.reduceLT, reduceCtorEq, Value.cells, setN, Value.oneCell', Nat.reduceLeDiff, undef, fcT, f0, f4, f5, f6, f7, t1, cutA_zero, c0, c1, c2, c3])) | (with_reducible refine fun (hBd_ : Bd _ _) => ?_) | ((first | (with_reducible refine @And.intro (Sub _ _) _ ?_ ?_) | ((with_reducible refine @And.intro (Sub _ _ ∧ _) _ ?_ ?_); (with_reducible refine @And.intro (Sub _ _) _ ?_ ?_))); exact sbX) | ((with_reducible refine And.intro ?_ ?_); omega)))
    all_goals try (exfalso; omega)
    have hbE := hb_
    have zE1 : upd H1 nb_ (.rw [.int .i64 e0, .string e1, .int .i64 e2, e3] 72) nb_ = some (.rw [.int .i64 e0, .string e1, .int .i64 e2, e3] 72) := upd_same _ _ _
    have hs1b : Sub H (upd H1 nb_ (.rw [.int .i64 e0, .string e1, .int .i64 e2, e3] 72)) := sub_up2 hB hs1 (by omega)
    have hB1b : Bd (upd H1 nb_ (.rw [.int .i64 e0, .string e1, .int .i64 e2, e3] 72)) (nb_ + 1) := Bd.up hB1 (by omega)
    replace hO1 := hO1.new (b := nb_) (o := .rw [.int .i64 e0, .string e1, .int .i64 e2, e3] 72) (by omega)
    generalize (upd H1 nb_ (.rw [.int .i64 e0, .string e1, .int .i64 e2, e3] 72)) = H1b at *
    generalize nb_ = bE at *
    refine app_anyV (k := 4) (bytes := 56) (lo := nx) (n := j) (f := G) (g := (fun _ q => [Value.int .i64 e0, .string e1, .int .i64 e2, e3].getD q undef)) (by simp (disch := omega) only [bsW, WOp, WOq, WV, bo, eqN, gdc, gw, bnd, ↓reduceIte, Nat.reduceEqDiff, rsvs, rsv, oneOf, rdN, ne_eq, Nat.reduceAdd, Nat.reduceMul, Nat.reduceLT, reduceCtorEq, Value.cells, setN, Value.oneCell', Nat.reduceLeDiff, undef, fcT, f0, f4, f5, f6, f7, t1, cutA_zero, c0, c1, c2, c3]) (by simp (disch := omega) only [bsW, WOp, WOq, WV, bo, eqN, gdc, gw, bnd, ↓reduceIte, Nat.reduceEqDiff, rsvs, rsv, oneOf, rdN, ne_eq, Nat.reduceAdd, Nat.reduceMul, Nat.reduceLT, reduceCtorEq, Value.cells, setN, Value.oneCell', Nat.reduceLeDiff, undef, fcT, f0, f4, f5, f6, f7, t1, cutA_zero, c0, c1, c2, c3]) (by simp (disch := omega) only [bsW, WOp, WOq, WV, bo, eqN, gdc, gw, bnd, ↓reduceIte, Nat.reduceEqDiff, rsvs, rsv, oneOf, rdN, ne_eq, Nat.reduceAdd, Nat.reduceMul, Nat.reduceLT, reduceCtorEq, Value.cells, setN, Value.oneCell', Nat.reduceLeDiff, undef, fcT, f0, f4, f5, f6, f7, t1, cutA_zero, c0, c1, c2, c3]) ⟨_, qz72, rfl⟩ (by omega) hO1 (RdV.of4 _ rfl zE1) hE1 (by omega) (by omega) (by unfold maxLen; omega) ?_
    rintro v2 H2 nx2 hO2 hlo2 hoth2 hx2 hB2 hat2
    have hs2 : Sub H H2 := fun q o e => by have := hB q o e; rw [hlo2 q this]; exact hs1b q o e
    replace hB2 := hB2 hB1b
    (try (simp (disch := omega) only [bsW, WOp, WOq, WV, bo, eqN, gdc, gw, bnd, ↓reduceIte, Nat.reduceEqDiff, rsvs, rsv, oneOf, rdN, ne_eq, Nat.reduceAdd, Nat.reduceMul, Nat.reduceLT, reduceCtorEq, Value.cells, setN, Value.oneCell', Nat.reduceLeDiff, undef, fcT, f0, f4, f5, f6, f7, t1, cutA_zero]))
    (repeat' (first | ((with_reducible refine gif_split (fun hs_ => ?_) (fun hs_ => ?_)) <;> (have hp_ := hs_; (try simp only [hpL, ne_eq] at hp_); (try simp (disch := omega) only [bsW, WOp, WOq, WV, bo, eqN, gdc, gw, bnd, ↓reduceIte, Nat.reduceEqDiff, rsvs, rsv, oneOf, rdN, ne_eq, Nat.reduceAdd, Nat.reduceMul, Nat.reduceLT, reduceCtorEq, Value.cells, setN, Value.oneCell', Nat.reduceLeDiff, undef, fcT, f0, f4, f5, f6, f7, t1, cutA_zero, hs_]))) | ((first | (with_reducible refine newB_i (fun nb_ hb_ => ?_)) | (with_reducible refine RgE_i (fun (hBd_ : Bd _ _) => ?_))); (try simp (disch := omega) only [bsW, WOp, WOq, WV, bo, eqN, gdc, gw, bnd, ↓reduceIte, Nat.reduceEqDiff, rsvs, rsv, oneOf, rdN, ne_eq, Nat.reduceAdd, Nat.reduceMul, Nat.reduceLT, reduceCtorEq, Value.cells, setN, Value.oneCell', Nat.reduceLeDiff, undef, fcT, f0, f4, f5, f6, f7, t1, cutA_zero])) | (with_reducible refine fun (hBd_ : Bd _ _) => ?_) | ((first | (with_reducible refine @And.intro (Sub _ _) _ ?_ ?_) | ((with_reducible refine @And.intro (Sub _ _ ∧ _) _ ?_ ?_); (with_reducible refine @And.intro (Sub _ _) _ ?_ ?_))); exact sbX) | ((with_reducible refine And.intro ?_ ?_); omega)))
    all_goals try (exfalso; omega)
    refine app_anyV (k := 4) (bytes := 56) (lo := nx) (n := j + 1) (f := catV j G (fun _ q => [Value.int .i64 e0, .string e1, .int .i64 e2, e3].getD q undef)) (g := fun p q => G (j + p) q) (by simp (disch := omega) only [bsW, WOp, WOq, WV, bo, eqN, gdc, gw, bnd, ↓reduceIte, Nat.reduceEqDiff, rsvs, rsv, oneOf, rdN, ne_eq, Nat.reduceAdd, Nat.reduceMul, Nat.reduceLT, reduceCtorEq, Value.cells, setN, Value.oneCell', Nat.reduceLeDiff, undef, fcT, f0, f4, f5, f6, f7, t1, cutA_zero]) (by simp (disch := omega) only [bsW, WOp, WOq, WV, bo, eqN, gdc, gw, bnd, ↓reduceIte, Nat.reduceEqDiff, rsvs, rsv, oneOf, rdN, ne_eq, Nat.reduceAdd, Nat.reduceMul, Nat.reduceLT, reduceCtorEq, Value.cells, setN, Value.oneCell', Nat.reduceLeDiff, undef, fcT, f0, f4, f5, f6, f7, t1, cutA_zero]) (by simp (disch := omega) only [bsW, WOp, WOq, WV, bo, eqN, gdc, gw, bnd, ↓reduceIte, Nat.reduceEqDiff, rsvs, rsv, oneOf, rdN, ne_eq, Nat.reduceAdd, Nat.reduceMul, Nat.reduceLT, reduceCtorEq, Value.cells, setN, Value.oneCell', Nat.reduceLeDiff, undef, fcT, f0, f4, f5, f6, f7, t1, cutA_zero]) ⟨_, qz72, rfl⟩ (by omega) hO2 (hRb.sub hs2) hGb (by omega) (by omega) (by unfold maxLen; omega) ?_
    rintro v3 H3 nx3 hO3 hlo3 hoth3 hx3 hB3 hat3
    have hs3 : Sub H H3 := fun q o e => by have := hB q o e; rw [hlo3 q this]; exact hs2 q o e
    rw [show j + 1 + (k - j) = k + 1 by omega] at hO3
    (try (simp (disch := omega) only [bsW, WOp, WOq, WV, bo, eqN, gdc, gw, bnd, ↓reduceIte, Nat.reduceEqDiff, rsvs, rsv, oneOf, rdN, ne_eq, Nat.reduceAdd, Nat.reduceMul, Nat.reduceLT, reduceCtorEq, Value.cells, setN, Value.oneCell', Nat.reduceLeDiff, undef, fcT, f0, f4, f5, f6, f7, t1, cutA_zero]))
    (repeat' (first | ((with_reducible refine gif_split (fun hs_ => ?_) (fun hs_ => ?_)) <;> (have hp_ := hs_; (try simp only [hpL, ne_eq] at hp_); (try simp (disch := omega) only [bsW, WOp, WOq, WV, bo, eqN, gdc, gw, bnd, ↓reduceIte, Nat.reduceEqDiff, rsvs, rsv, oneOf, rdN, ne_eq, Nat.reduceAdd, Nat.reduceMul, Nat.reduceLT, reduceCtorEq, Value.cells, setN, Value.oneCell', Nat.reduceLeDiff, undef, fcT, f0, f4, f5, f6, f7, t1, cutA_zero, hs_]))) | ((first | (with_reducible refine newB_i (fun nb_ hb_ => ?_)) | (with_reducible refine RgE_i (fun (hBd_ : Bd _ _) => ?_))); (try simp (disch := omega) only [bsW, WOp, WOq, WV, bo, eqN, gdc, gw, bnd, ↓reduceIte, Nat.reduceEqDiff, rsvs, rsv, oneOf, rdN, ne_eq, Nat.reduceAdd, Nat.reduceMul, Nat.reduceLT, reduceCtorEq, Value.cells, setN, Value.oneCell', Nat.reduceLeDiff, undef, fcT, f0, f4, f5, f6, f7, t1, cutA_zero])) | (with_reducible refine fun (hBd_ : Bd _ _) => ?_) | ((first | (with_reducible refine @And.intro (Sub _ _) _ ?_ ?_) | ((with_reducible refine @And.intro (Sub _ _ ∧ _) _ ?_ ?_); (with_reducible refine @And.intro (Sub _ _) _ ?_ ?_))); exact sbX) | ((with_reducible refine And.intro ?_ ?_); omega)))
    all_goals try (exfalso; omega)
    refine ⟨by simp (disch := omega) only [bsW, ↓reduceIte, Nat.reduceEqDiff, ne_eq, reduceCtorEq, fcT, f0, f4, f5, f6, f7, t1, cutA_zero], by simp (disch := omega) only [bsW, ↓reduceIte, Nat.reduceEqDiff, ne_eq, reduceCtorEq, fcT, f0, f4, f5, f6, f7, t1, cutA_zero], by simp (disch := omega) only [bsW, ↓reduceIte, Nat.reduceEqDiff, ne_eq, reduceCtorEq, fcT, f0, f4, f5, f6, f7, t1, cutA_zero], ⟨v3, by simp (disch := omega) only [bsW, ↓reduceIte, Nat.reduceEqDiff, ne_eq, reduceCtorEq, fcT, f0, f4, f5, f6, f7, t1, cutA_zero], (hO3.congr (fun p q hp hq => insV_cat hj hp)).lo hlo⟩, hs3, by omega⟩
  · rename_i bA hbA
    have hbE := hb_
    generalize nb_ = bE at *
    generalize hHx : (upd (upd H bA (.rw [] 72)) bE (.rw [.int .i64 e0, .string e1, .int .i64 e2, e3] 72)) = Hx at *
    have zA : Hx bA = some (.rw [] 72) := by rw [← hHx]; first | exact upd_same _ _ _ | (rw [upd_ne (by omega)]; exact upd_same _ _ _)
    have zE : Hx bE = some (.rw [.int .i64 e0, .string e1, .int .i64 e2, e3] 72) := by rw [← hHx]; first | exact upd_same _ _ _ | (rw [upd_ne (by omega)]; exact upd_same _ _ _)
    have hsx : Sub H Hx := by rw [← hHx]; exact sub_up2 hB (sub_up2 hB (Sub.refl _) (by omega)) (by omega)
    have hBx : Bd Hx (bE + 1) := by rw [← hHx]; exact Bd.up (Bd.up hB (by omega)) (by omega)
    refine app_anyV (k := 4) (bytes := 56) (lo := nx) (n := 0) (f := G) (by simp (disch := omega) only [bsW, WOp, WOq, WV, bo, eqN, gdc, gw, bnd, ↓reduceIte, Nat.reduceEqDiff, rsvs, rsv, oneOf, rdN, ne_eq, Nat.reduceAdd, Nat.reduceMul, Nat.reduceLT, reduceCtorEq, Value.cells, setN, Value.oneCell', Nat.reduceLeDiff, undef, fcT, f0, f4, f5, f6, f7, t1, cutA_zero]) (by simp (disch := omega) only [bsW, WOp, WOq, WV, bo, eqN, gdc, gw, bnd, ↓reduceIte, Nat.reduceEqDiff, rsvs, rsv, oneOf, rdN, ne_eq, Nat.reduceAdd, Nat.reduceMul, Nat.reduceLT, reduceCtorEq, Value.cells, setN, Value.oneCell', Nat.reduceLeDiff, undef, fcT, f0, f4, f5, f6, f7, t1, cutA_zero]) (by simp (disch := omega) only [bsW, WOp, WOq, WV, bo, eqN, gdc, gw, bnd, ↓reduceIte, Nat.reduceEqDiff, rsvs, rsv, oneOf, rdN, ne_eq, Nat.reduceAdd, Nat.reduceMul, Nat.reduceLT, reduceCtorEq, Value.cells, setN, Value.oneCell', Nat.reduceLeDiff, undef, fcT, f0, f4, f5, f6, f7, t1, cutA_zero]) ⟨_, qz72, rfl⟩ (by omega) (.empty (by omega) (by omega) zA) ((hR5.take hj).sub hsx) hGa (by omega) (by omega) (by unfold maxLen; omega) ?_
    rintro v1 H1 nx1 hO1 hlo1 hoth1 hx1 hB1 hat1
    replace hO1 := hO1.congr (g := G) (fun i q hi hq => by unfold catV; rw [if_neg (by omega), Nat.sub_zero])
    rw [Nat.zero_add] at hO1
    have hs1 : Sub H H1 := fun q o e => by have := hB q o e; rw [hlo1 q this]; exact hsx q o e
    replace hB1 := hB1 hBx
    have zE1 : H1 bE = some (.rw [.int .i64 e0, .string e1, .int .i64 e2, e3] 72) := (hoth1 bE (fun e => by
        have e2 : bE = bA := by simpa [ownBlk] using e
        omega) (by omega)).trans zE
    (try (simp (disch := omega) only [bsW, WOp, WOq, WV, bo, eqN, gdc, gw, bnd, ↓reduceIte, Nat.reduceEqDiff, rsvs, rsv, oneOf, rdN, ne_eq, Nat.reduceAdd, Nat.reduceMul, Nat.reduceLT, reduceCtorEq, Value.cells, setN, Value.oneCell', Nat.reduceLeDiff, undef, fcT, f0, f4, f5, f6, f7, t1, cutA_zero, c0, c1, c2, c3]))
    (repeat' (first | ((with_reducible refine gif_split (fun hs_ => ?_) (fun hs_ => ?_)) <;> (have hp_ := hs_; (try simp only [hpL, ne_eq] at hp_); (try simp (disch := omega) only [bsW, WOp, WOq, WV, bo, eqN, gdc, gw, bnd, ↓reduceIte, Nat.reduceEqDiff, rsvs, rsv, oneOf, rdN, ne_eq, Nat.reduceAdd, Nat.reduceMul, Nat.reduceLT, reduceCtorEq, Value.cells, setN, Value.oneCell', Nat.reduceLeDiff, undef, fcT, f0, f4, f5, f6, f7, t1, cutA_zero, c0, c1, c2, c3, hs_]))) | ((first | (with_reducible refine newB_i (fun nb_ hb_ => ?_)) | (with_reducible refine RgE_i (fun (hBd_ : Bd _ _) => ?_))); (try simp (disch := omega) only [bsW, WOp, WOq, WV, bo, eqN, gdc, gw, bnd, ↓reduceIte, Nat.reduceEqDiff, rsvs, rsv, oneOf, rdN, ne_eq, Nat.reduceAdd, Nat.reduceMul, Nat.reduceLT, reduceCtorEq, Value.cells, setN, Value.oneCell', Nat.reduceLeDiff, undef, fcT, f0, f4, f5, f6, f7, t1, cutA_zero, c0, c1, c2, c3])) | (with_reducible refine fun (hBd_ : Bd _ _) => ?_) | ((first | (with_reducible refine @And.intro (Sub _ _) _ ?_ ?_) | ((with_reducible refine @And.intro (Sub _ _ ∧ _) _ ?_ ?_); (with_reducible refine @And.intro (Sub _ _) _ ?_ ?_))); exact sbX) | ((with_reducible refine And.intro ?_ ?_); omega)))
    all_goals try (exfalso; omega)
    refine app_anyV (k := 4) (bytes := 56) (lo := nx) (n := j) (f := G) (g := (fun _ q => [Value.int .i64 e0, .string e1, .int .i64 e2, e3].getD q undef)) (by simp (disch := omega) only [bsW, WOp, WOq, WV, bo, eqN, gdc, gw, bnd, ↓reduceIte, Nat.reduceEqDiff, rsvs, rsv, oneOf, rdN, ne_eq, Nat.reduceAdd, Nat.reduceMul, Nat.reduceLT, reduceCtorEq, Value.cells, setN, Value.oneCell', Nat.reduceLeDiff, undef, fcT, f0, f4, f5, f6, f7, t1, cutA_zero, c0, c1, c2, c3]) (by simp (disch := omega) only [bsW, WOp, WOq, WV, bo, eqN, gdc, gw, bnd, ↓reduceIte, Nat.reduceEqDiff, rsvs, rsv, oneOf, rdN, ne_eq, Nat.reduceAdd, Nat.reduceMul, Nat.reduceLT, reduceCtorEq, Value.cells, setN, Value.oneCell', Nat.reduceLeDiff, undef, fcT, f0, f4, f5, f6, f7, t1, cutA_zero, c0, c1, c2, c3]) (by simp (disch := omega) only [bsW, WOp, WOq, WV, bo, eqN, gdc, gw, bnd, ↓reduceIte, Nat.reduceEqDiff, rsvs, rsv, oneOf, rdN, ne_eq, Nat.reduceAdd, Nat.reduceMul, Nat.reduceLT, reduceCtorEq, Value.cells, setN, Value.oneCell', Nat.reduceLeDiff, undef, fcT, f0, f4, f5, f6, f7, t1, cutA_zero, c0, c1, c2, c3]) ⟨_, qz72, rfl⟩ (by omega) hO1 (RdV.of4 _ rfl zE1) hE1 (by omega) (by omega) (by unfold maxLen; omega) ?_
    rintro v2 H2 nx2 hO2 hlo2 hoth2 hx2 hB2 hat2
    have hs2 : Sub H H2 := fun q o e => by have := hB q o e; rw [hlo2 q this]; exact hs1 q o e
    replace hB2 := hB2 hB1
    (try (simp (disch := omega) only [bsW, WOp, WOq, WV, bo, eqN, gdc, gw, bnd, ↓reduceIte, Nat.reduceEqDiff, rsvs, rsv, oneOf, rdN, ne_eq, Nat.reduceAdd, Nat.reduceMul, Nat.reduceLT, reduceCtorEq, Value.cells, setN, Value.oneCell', Nat.reduceLeDiff, undef, fcT, f0, f4, f5, f6, f7, t1, cutA_zero]))
    (repeat' (first | ((with_reducible refine gif_split (fun hs_ => ?_) (fun hs_ => ?_)) <;> (have hp_ := hs_; (try simp only [hpL, ne_eq] at hp_); (try simp (disch := omega) only [bsW, WOp, WOq, WV, bo, eqN, gdc, gw, bnd, ↓reduceIte, Nat.reduceEqDiff, rsvs, rsv, oneOf, rdN, ne_eq, Nat.reduceAdd, Nat.reduceMul, Nat.reduceLT, reduceCtorEq, Value.cells, setN, Value.oneCell', Nat.reduceLeDiff, undef, fcT, f0, f4, f5, f6, f7, t1, cutA_zero, hs_]))) | ((first | (with_reducible refine newB_i (fun nb_ hb_ => ?_)) | (with_reducible refine RgE_i (fun (hBd_ : Bd _ _) => ?_))); (try simp (disch := omega) only [bsW, WOp, WOq, WV, bo, eqN, gdc, gw, bnd, ↓reduceIte, Nat.reduceEqDiff, rsvs, rsv, oneOf, rdN, ne_eq, Nat.reduceAdd, Nat.reduceMul, Nat.reduceLT, reduceCtorEq, Value.cells, setN, Value.oneCell', Nat.reduceLeDiff, undef, fcT, f0, f4, f5, f6, f7, t1, cutA_zero])) | (with_reducible refine fun (hBd_ : Bd _ _) => ?_) | ((first | (with_reducible refine @And.intro (Sub _ _) _ ?_ ?_) | ((with_reducible refine @And.intro (Sub _ _ ∧ _) _ ?_ ?_); (with_reducible refine @And.intro (Sub _ _) _ ?_ ?_))); exact sbX) | ((with_reducible refine And.intro ?_ ?_); omega)))
    all_goals try (exfalso; omega)
    refine app_anyV (k := 4) (bytes := 56) (lo := nx) (n := j + 1) (f := catV j G (fun _ q => [Value.int .i64 e0, .string e1, .int .i64 e2, e3].getD q undef)) (g := fun p q => G (j + p) q) (by simp (disch := omega) only [bsW, WOp, WOq, WV, bo, eqN, gdc, gw, bnd, ↓reduceIte, Nat.reduceEqDiff, rsvs, rsv, oneOf, rdN, ne_eq, Nat.reduceAdd, Nat.reduceMul, Nat.reduceLT, reduceCtorEq, Value.cells, setN, Value.oneCell', Nat.reduceLeDiff, undef, fcT, f0, f4, f5, f6, f7, t1, cutA_zero]) (by simp (disch := omega) only [bsW, WOp, WOq, WV, bo, eqN, gdc, gw, bnd, ↓reduceIte, Nat.reduceEqDiff, rsvs, rsv, oneOf, rdN, ne_eq, Nat.reduceAdd, Nat.reduceMul, Nat.reduceLT, reduceCtorEq, Value.cells, setN, Value.oneCell', Nat.reduceLeDiff, undef, fcT, f0, f4, f5, f6, f7, t1, cutA_zero]) (by simp (disch := omega) only [bsW, WOp, WOq, WV, bo, eqN, gdc, gw, bnd, ↓reduceIte, Nat.reduceEqDiff, rsvs, rsv, oneOf, rdN, ne_eq, Nat.reduceAdd, Nat.reduceMul, Nat.reduceLT, reduceCtorEq, Value.cells, setN, Value.oneCell', Nat.reduceLeDiff, undef, fcT, f0, f4, f5, f6, f7, t1, cutA_zero]) ⟨_, qz72, rfl⟩ (by omega) hO2 (hRb.sub hs2) hGb (by omega) (by omega) (by unfold maxLen; omega) ?_
    rintro v3 H3 nx3 hO3 hlo3 hoth3 hx3 hB3 hat3
    have hs3 : Sub H H3 := fun q o e => by have := hB q o e; rw [hlo3 q this]; exact hs2 q o e
    rw [show j + 1 + (k - j) = k + 1 by omega] at hO3
    (try (simp (disch := omega) only [bsW, WOp, WOq, WV, bo, eqN, gdc, gw, bnd, ↓reduceIte, Nat.reduceEqDiff, rsvs, rsv, oneOf, rdN, ne_eq, Nat.reduceAdd, Nat.reduceMul, Nat.reduceLT, reduceCtorEq, Value.cells, setN, Value.oneCell', Nat.reduceLeDiff, undef, fcT, f0, f4, f5, f6, f7, t1, cutA_zero]))
    (repeat' (first | ((with_reducible refine gif_split (fun hs_ => ?_) (fun hs_ => ?_)) <;> (have hp_ := hs_; (try simp only [hpL, ne_eq] at hp_); (try simp (disch := omega) only [bsW, WOp, WOq, WV, bo, eqN, gdc, gw, bnd, ↓reduceIte, Nat.reduceEqDiff, rsvs, rsv, oneOf, rdN, ne_eq, Nat.reduceAdd, Nat.reduceMul, Nat.reduceLT, reduceCtorEq, Value.cells, setN, Value.oneCell', Nat.reduceLeDiff, undef, fcT, f0, f4, f5, f6, f7, t1, cutA_zero, hs_]))) | ((first | (with_reducible refine newB_i (fun nb_ hb_ => ?_)) | (with_reducible refine RgE_i (fun (hBd_ : Bd _ _) => ?_))); (try simp (disch := omega) only [bsW, WOp, WOq, WV, bo, eqN, gdc, gw, bnd, ↓reduceIte, Nat.reduceEqDiff, rsvs, rsv, oneOf, rdN, ne_eq, Nat.reduceAdd, Nat.reduceMul, Nat.reduceLT, reduceCtorEq, Value.cells, setN, Value.oneCell', Nat.reduceLeDiff, undef, fcT, f0, f4, f5, f6, f7, t1, cutA_zero])) | (with_reducible refine fun (hBd_ : Bd _ _) => ?_) | ((first | (with_reducible refine @And.intro (Sub _ _) _ ?_ ?_) | ((with_reducible refine @And.intro (Sub _ _ ∧ _) _ ?_ ?_); (with_reducible refine @And.intro (Sub _ _) _ ?_ ?_))); exact sbX) | ((with_reducible refine And.intro ?_ ?_); omega)))
    all_goals try (exfalso; omega)
    refine ⟨by simp (disch := omega) only [bsW, ↓reduceIte, Nat.reduceEqDiff, ne_eq, reduceCtorEq, fcT, f0, f4, f5, f6, f7, t1, cutA_zero], by simp (disch := omega) only [bsW, ↓reduceIte, Nat.reduceEqDiff, ne_eq, reduceCtorEq, fcT, f0, f4, f5, f6, f7, t1, cutA_zero], by simp (disch := omega) only [bsW, ↓reduceIte, Nat.reduceEqDiff, ne_eq, reduceCtorEq, fcT, f0, f4, f5, f6, f7, t1, cutA_zero], ⟨v3, by simp (disch := omega) only [bsW, ↓reduceIte, Nat.reduceEqDiff, ne_eq, reduceCtorEq, fcT, f0, f4, f5, f6, f7, t1, cutA_zero], (hO3.congr (fun p q hp hq => insV_cat hj hp)).lo hlo⟩, hs3, by omega⟩
  · rename_i bE hbE
    have hbA := hb_
    generalize nb_ = bA at *
    generalize hHx : (upd (upd H bE (.rw [.int .i64 e0, .string e1, .int .i64 e2, e3] 72)) bA (.rw [] 72)) = Hx at *
    have zA : Hx bA = some (.rw [] 72) := by rw [← hHx]; first | exact upd_same _ _ _ | (rw [upd_ne (by omega)]; exact upd_same _ _ _)
    have zE : Hx bE = some (.rw [.int .i64 e0, .string e1, .int .i64 e2, e3] 72) := by rw [← hHx]; first | exact upd_same _ _ _ | (rw [upd_ne (by omega)]; exact upd_same _ _ _)
    have hsx : Sub H Hx := by rw [← hHx]; exact sub_up2 hB (sub_up2 hB (Sub.refl _) (by omega)) (by omega)
    have hBx : Bd Hx (bA + 1) := by rw [← hHx]; exact Bd.up (Bd.up hB (by omega)) (by omega)
    refine app_anyV (k := 4) (bytes := 56) (lo := nx) (n := 0) (f := G) (by simp (disch := omega) only [bsW, WOp, WOq, WV, bo, eqN, gdc, gw, bnd, ↓reduceIte, Nat.reduceEqDiff, rsvs, rsv, oneOf, rdN, ne_eq, Nat.reduceAdd, Nat.reduceMul, Nat.reduceLT, reduceCtorEq, Value.cells, setN, Value.oneCell', Nat.reduceLeDiff, undef, fcT, f0, f4, f5, f6, f7, t1, cutA_zero]) (by simp (disch := omega) only [bsW, WOp, WOq, WV, bo, eqN, gdc, gw, bnd, ↓reduceIte, Nat.reduceEqDiff, rsvs, rsv, oneOf, rdN, ne_eq, Nat.reduceAdd, Nat.reduceMul, Nat.reduceLT, reduceCtorEq, Value.cells, setN, Value.oneCell', Nat.reduceLeDiff, undef, fcT, f0, f4, f5, f6, f7, t1, cutA_zero]) (by simp (disch := omega) only [bsW, WOp, WOq, WV, bo, eqN, gdc, gw, bnd, ↓reduceIte, Nat.reduceEqDiff, rsvs, rsv, oneOf, rdN, ne_eq, Nat.reduceAdd, Nat.reduceMul, Nat.reduceLT, reduceCtorEq, Value.cells, setN, Value.oneCell', Nat.reduceLeDiff, undef, fcT, f0, f4, f5, f6, f7, t1, cutA_zero]) ⟨_, qz72, rfl⟩ (by omega) (.empty (by omega) (by omega) zA) ((hR5.take hj).sub hsx) hGa (by omega) (by omega) (by unfold maxLen; omega) ?_
    rintro v1 H1 nx1 hO1 hlo1 hoth1 hx1 hB1 hat1
    replace hO1 := hO1.congr (g := G) (fun i q hi hq => by unfold catV; rw [if_neg (by omega), Nat.sub_zero])
    rw [Nat.zero_add] at hO1
    have hs1 : Sub H H1 := fun q o e => by have := hB q o e; rw [hlo1 q this]; exact hsx q o e
    replace hB1 := hB1 hBx
    have zE1 : H1 bE = some (.rw [.int .i64 e0, .string e1, .int .i64 e2, e3] 72) := (hoth1 bE (fun e => by
        have e2 : bE = bA := by simpa [ownBlk] using e
        omega) (by omega)).trans zE
    (try (simp (disch := omega) only [bsW, WOp, WOq, WV, bo, eqN, gdc, gw, bnd, ↓reduceIte, Nat.reduceEqDiff, rsvs, rsv, oneOf, rdN, ne_eq, Nat.reduceAdd, Nat.reduceMul, Nat.reduceLT, reduceCtorEq, Value.cells, setN, Value.oneCell', Nat.reduceLeDiff, undef, fcT, f0, f4, f5, f6, f7, t1, cutA_zero, c0, c1, c2, c3]))
    (repeat' (first | ((with_reducible refine gif_split (fun hs_ => ?_) (fun hs_ => ?_)) <;> (have hp_ := hs_; (try simp only [hpL, ne_eq] at hp_); (try simp (disch := omega) only [bsW, WOp, WOq, WV, bo, eqN, gdc, gw, bnd, ↓reduceIte, Nat.reduceEqDiff, rsvs, rsv, oneOf, rdN, ne_eq, Nat.reduceAdd, Nat.reduceMul, Nat.reduceLT, reduceCtorEq, Value.cells, setN, Value.oneCell', Nat.reduceLeDiff, undef, fcT, f0, f4, f5, f6, f7, t1, cutA_zero, c0, c1, c2, c3, hs_]))) | ((first | (with_reducible refine newB_i (fun nb_ hb_ => ?_)) | (with_reducible refine RgE_i (fun (hBd_ : Bd _ _) => ?_))); (try simp (disch := omega) only [bsW, WOp, WOq, WV, bo, eqN, gdc, gw, bnd, ↓reduceIte, Nat.reduceEqDiff, rsvs, rsv, oneOf, rdN, ne_eq, Nat.reduceAdd, Nat.reduceMul, Nat.reduceLT, reduceCtorEq, Value.cells, setN, Value.oneCell', Nat.reduceLeDiff, undef, fcT, f0, f4, f5, f6, f7, t1, cutA_zero, c0, c1, c2, c3])) | (with_reducible refine fun (hBd_ : Bd _ _) => ?_) | ((first | (with_reducible refine @And.intro (Sub _ _) _ ?_ ?_) | ((with_reducible refine @And.intro (Sub _ _ ∧ _) _ ?_ ?_); (with_reducible refine @And.intro (Sub _ _) _ ?_ ?_))); exact sbX) | ((with_reducible refine And.intro ?_ ?_); omega)))
    all_goals try (exfalso; omega)
    refine app_anyV (k := 4) (bytes := 56) (lo := nx) (n := j) (f := G) (g := (fun _ q => [Value.int .i64 e0, .string e1, .int .i64 e2, e3].getD q undef)) (by simp (disch := omega) only [bsW, WOp, WOq, WV, bo, eqN, gdc, gw, bnd, ↓reduceIte, Nat.reduceEqDiff, rsvs, rsv, oneOf, rdN, ne_eq, Nat.reduceAdd, Nat.reduceMul, Nat.reduceLT, reduceCtorEq, Value.cells, setN, Value.oneCell', Nat.reduceLeDiff, undef, fcT, f0, f4, f5, f6, f7, t1, cutA_zero, c0, c1, c2, c3]) (by simp (disch := omega) only [bsW, WOp, WOq, WV, bo, eqN, gdc, gw, bnd, ↓reduceIte, Nat.reduceEqDiff, rsvs, rsv, oneOf, rdN, ne_eq, Nat.reduceAdd, Nat.reduceMul, Nat.reduceLT, reduceCtorEq, Value.cells, setN, Value.oneCell', Nat.reduceLeDiff, undef, fcT, f0, f4, f5, f6, f7, t1, cutA_zero, c0, c1, c2, c3]) (by simp (disch := omega) only [bsW, WOp, WOq, WV, bo, eqN, gdc, gw, bnd, ↓reduceIte, Nat.reduceEqDiff, rsvs, rsv, oneOf, rdN, ne_eq, Nat.reduceAdd, Nat.reduceMul, Nat.reduceLT, reduceCtorEq, Value.cells, setN, Value.oneCell', Nat.reduceLeDiff, undef, fcT, f0, f4, f5, f6, f7, t1, cutA_zero, c0, c1, c2, c3]) ⟨_, qz72, rfl⟩ (by omega) hO1 (RdV.of4 _ rfl zE1) hE1 (by omega) (by omega) (by unfold maxLen; omega) ?_
    rintro v2 H2 nx2 hO2 hlo2 hoth2 hx2 hB2 hat2
    have hs2 : Sub H H2 := fun q o e => by have := hB q o e; rw [hlo2 q this]; exact hs1 q o e
    replace hB2 := hB2 hB1
    (try (simp (disch := omega) only [bsW, WOp, WOq, WV, bo, eqN, gdc, gw, bnd, ↓reduceIte, Nat.reduceEqDiff, rsvs, rsv, oneOf, rdN, ne_eq, Nat.reduceAdd, Nat.reduceMul, Nat.reduceLT, reduceCtorEq, Value.cells, setN, Value.oneCell', Nat.reduceLeDiff, undef, fcT, f0, f4, f5, f6, f7, t1, cutA_zero]))
    (repeat' (first | ((with_reducible refine gif_split (fun hs_ => ?_) (fun hs_ => ?_)) <;> (have hp_ := hs_; (try simp only [hpL, ne_eq] at hp_); (try simp (disch := omega) only [bsW, WOp, WOq, WV, bo, eqN, gdc, gw, bnd, ↓reduceIte, Nat.reduceEqDiff, rsvs, rsv, oneOf, rdN, ne_eq, Nat.reduceAdd, Nat.reduceMul, Nat.reduceLT, reduceCtorEq, Value.cells, setN, Value.oneCell', Nat.reduceLeDiff, undef, fcT, f0, f4, f5, f6, f7, t1, cutA_zero, hs_]))) | ((first | (with_reducible refine newB_i (fun nb_ hb_ => ?_)) | (with_reducible refine RgE_i (fun (hBd_ : Bd _ _) => ?_))); (try simp (disch := omega) only [bsW, WOp, WOq, WV, bo, eqN, gdc, gw, bnd, ↓reduceIte, Nat.reduceEqDiff, rsvs, rsv, oneOf, rdN, ne_eq, Nat.reduceAdd, Nat.reduceMul, Nat.reduceLT, reduceCtorEq, Value.cells, setN, Value.oneCell', Nat.reduceLeDiff, undef, fcT, f0, f4, f5, f6, f7, t1, cutA_zero])) | (with_reducible refine fun (hBd_ : Bd _ _) => ?_) | ((first | (with_reducible refine @And.intro (Sub _ _) _ ?_ ?_) | ((with_reducible refine @And.intro (Sub _ _ ∧ _) _ ?_ ?_); (with_reducible refine @And.intro (Sub _ _) _ ?_ ?_))); exact sbX) | ((with_reducible refine And.intro ?_ ?_); omega)))
    all_goals try (exfalso; omega)
    refine app_anyV (k := 4) (bytes := 56) (lo := nx) (n := j + 1) (f := catV j G (fun _ q => [Value.int .i64 e0, .string e1, .int .i64 e2, e3].getD q undef)) (g := fun p q => G (j + p) q) (by simp (disch := omega) only [bsW, WOp, WOq, WV, bo, eqN, gdc, gw, bnd, ↓reduceIte, Nat.reduceEqDiff, rsvs, rsv, oneOf, rdN, ne_eq, Nat.reduceAdd, Nat.reduceMul, Nat.reduceLT, reduceCtorEq, Value.cells, setN, Value.oneCell', Nat.reduceLeDiff, undef, fcT, f0, f4, f5, f6, f7, t1, cutA_zero]) (by simp (disch := omega) only [bsW, WOp, WOq, WV, bo, eqN, gdc, gw, bnd, ↓reduceIte, Nat.reduceEqDiff, rsvs, rsv, oneOf, rdN, ne_eq, Nat.reduceAdd, Nat.reduceMul, Nat.reduceLT, reduceCtorEq, Value.cells, setN, Value.oneCell', Nat.reduceLeDiff, undef, fcT, f0, f4, f5, f6, f7, t1, cutA_zero]) (by simp (disch := omega) only [bsW, WOp, WOq, WV, bo, eqN, gdc, gw, bnd, ↓reduceIte, Nat.reduceEqDiff, rsvs, rsv, oneOf, rdN, ne_eq, Nat.reduceAdd, Nat.reduceMul, Nat.reduceLT, reduceCtorEq, Value.cells, setN, Value.oneCell', Nat.reduceLeDiff, undef, fcT, f0, f4, f5, f6, f7, t1, cutA_zero]) ⟨_, qz72, rfl⟩ (by omega) hO2 (hRb.sub hs2) hGb (by omega) (by omega) (by unfold maxLen; omega) ?_
    rintro v3 H3 nx3 hO3 hlo3 hoth3 hx3 hB3 hat3
    have hs3 : Sub H H3 := fun q o e => by have := hB q o e; rw [hlo3 q this]; exact hs2 q o e
    rw [show j + 1 + (k - j) = k + 1 by omega] at hO3
    (try (simp (disch := omega) only [bsW, WOp, WOq, WV, bo, eqN, gdc, gw, bnd, ↓reduceIte, Nat.reduceEqDiff, rsvs, rsv, oneOf, rdN, ne_eq, Nat.reduceAdd, Nat.reduceMul, Nat.reduceLT, reduceCtorEq, Value.cells, setN, Value.oneCell', Nat.reduceLeDiff, undef, fcT, f0, f4, f5, f6, f7, t1, cutA_zero]))
    (repeat' (first | ((with_reducible refine gif_split (fun hs_ => ?_) (fun hs_ => ?_)) <;> (have hp_ := hs_; (try simp only [hpL, ne_eq] at hp_); (try simp (disch := omega) only [bsW, WOp, WOq, WV, bo, eqN, gdc, gw, bnd, ↓reduceIte, Nat.reduceEqDiff, rsvs, rsv, oneOf, rdN, ne_eq, Nat.reduceAdd, Nat.reduceMul, Nat.reduceLT, reduceCtorEq, Value.cells, setN, Value.oneCell', Nat.reduceLeDiff, undef, fcT, f0, f4, f5, f6, f7, t1, cutA_zero, hs_]))) | ((first | (with_reducible refine newB_i (fun nb_ hb_ => ?_)) | (with_reducible refine RgE_i (fun (hBd_ : Bd _ _) => ?_))); (try simp (disch := omega) only [bsW, WOp, WOq, WV, bo, eqN, gdc, gw, bnd, ↓reduceIte, Nat.reduceEqDiff, rsvs, rsv, oneOf, rdN, ne_eq, Nat.reduceAdd, Nat.reduceMul, Nat.reduceLT, reduceCtorEq, Value.cells, setN, Value.oneCell', Nat.reduceLeDiff, undef, fcT, f0, f4, f5, f6, f7, t1, cutA_zero])) | (with_reducible refine fun (hBd_ : Bd _ _) => ?_) | ((first | (with_reducible refine @And.intro (Sub _ _) _ ?_ ?_) | ((with_reducible refine @And.intro (Sub _ _ ∧ _) _ ?_ ?_); (with_reducible refine @And.intro (Sub _ _) _ ?_ ?_))); exact sbX) | ((with_reducible refine And.intro ?_ ?_); omega)))
    all_goals try (exfalso; omega)
    refine ⟨by simp (disch := omega) only [bsW, ↓reduceIte, Nat.reduceEqDiff, ne_eq, reduceCtorEq, fcT, f0, f4, f5, f6, f7, t1, cutA_zero], by simp (disch := omega) only [bsW, ↓reduceIte, Nat.reduceEqDiff, ne_eq, reduceCtorEq, fcT, f0, f4, f5, f6, f7, t1, cutA_zero], by simp (disch := omega) only [bsW, ↓reduceIte, Nat.reduceEqDiff, ne_eq, reduceCtorEq, fcT, f0, f4, f5, f6, f7, t1, cutA_zero], ⟨v3, by simp (disch := omega) only [bsW, ↓reduceIte, Nat.reduceEqDiff, ne_eq, reduceCtorEq, fcT, f0, f4, f5, f6, f7, t1, cutA_zero], (hO3.congr (fun p q hp hq => insV_cat hj hp)).lo hlo⟩, hs3, by omega⟩

theorem sRankShow (A : Option Addr) (n c : Nat) (s : Shw) (H : Hp) (nx : Nat) (hn : n ≤ 17592186044416) (h : RdS H A n s) (hw : szOk n s) :
    AC Tryd.prog 46 #[.slice A n c] H nx (RowFlag H nx (rkN n s) 1 (rkI n s) 3 (exsB n s)) := by
  refine AC_of x_spec_RankShow rfl fun hB => ?_
  simp (disch := omega) only [bsW, WOp, WOq, WV, bo, eqN, gdc, gw, bnd, ↓reduceIte, Nat.reduceEqDiff, rsvs, rsv, oneOf, rdN, ne_eq, Nat.reduceAdd, Nat.reduceMul, Nat.reduceLT, reduceCtorEq, Value.cells, setN, Value.oneCell', Nat.reduceLeDiff, undef, fcT, c_spec_RankShow]
  refine newB_i (fun nb_ hb_ => ?_)
  have hs0 : Sub H (upd H nb_ (.rw [] 3)) := sub_up (nx := nx) (by omega) hB (Sub.refl _)
  have hB0 : Bd (upd H nb_ (.rw [] 3)) (nb_ + 1) := Bd.up hB (by omega)
  have zO : (upd H nb_ (.rw [] 3)) nb_ = some (.rw [] 3) := upd_same _ _ _
  have hbO := hb_
  simp (disch := omega) only [bsW, WOp, WOq, WV, bo, eqN, gdc, gw, bnd, ↓reduceIte, Nat.reduceEqDiff, rsvs, rsv, oneOf, rdN, ne_eq, Nat.reduceAdd, Nat.reduceMul, Nat.reduceLT, reduceCtorEq, Value.cells, setN, Value.oneCell', Nat.reduceLeDiff, undef, fcT]
  generalize (upd H nb_ (.rw [] 3)) = H0 at *
  generalize nb_ = bO at *
  have h0 := h.sub hs0
  cases hv : exsB n s
  · (try (simp (disch := omega) only [bsW, WOp, WOq, WV, bo, eqN, gdc, gw, bnd, ↓reduceIte, Nat.reduceEqDiff, rsvs, rsv, oneOf, rdN, ne_eq, Nat.reduceAdd, Nat.reduceMul, Nat.reduceLT, reduceCtorEq, Value.cells, setN, Value.oneCell', Nat.reduceLeDiff, undef, fcT, hv, Bool.not_false]))
    (repeat' (first | ((with_reducible refine gif_split (fun hs_ => ?_) (fun hs_ => ?_)) <;> (have hp_ := hs_; (try simp only [hpL, ne_eq] at hp_); (try simp (disch := omega) only [bsW, WOp, WOq, WV, bo, eqN, gdc, gw, bnd, ↓reduceIte, Nat.reduceEqDiff, rsvs, rsv, oneOf, rdN, ne_eq, Nat.reduceAdd, Nat.reduceMul, Nat.reduceLT, reduceCtorEq, Value.cells, setN, Value.oneCell', Nat.reduceLeDiff, undef, fcT, hv, Bool.not_false, hs_]))) | ((first | (with_reducible refine newB_i (fun nb_ hb_ => ?_)) | ((with_reducible show QC _ _ _ _ _ _); (first | (refine QC_i (l23Good A n c s _ _ hn h0 hw) ?_))) | ((with_reducible show AC _ _ _ _ _ _); (first | (refine PC.ac (l23Good A n c s _ _ hn h0 hw) ?_))) | (with_reducible refine RgE_i (fun (hBd_ : Bd _ _) => ?_))); (try simp (disch := omega) only [bsW, WOp, WOq, WV, bo, eqN, gdc, gw, bnd, ↓reduceIte, Nat.reduceEqDiff, rsvs, rsv, oneOf, rdN, ne_eq, Nat.reduceAdd, Nat.reduceMul, Nat.reduceLT, reduceCtorEq, Value.cells, setN, Value.oneCell', Nat.reduceLeDiff, undef, fcT, hv, Bool.not_false])) | (with_reducible refine fun (hBd_ : Bd _ _) => ?_) | ((first | (with_reducible refine @And.intro (Sub _ _) _ ?_ ?_) | ((with_reducible refine @And.intro (Sub _ _ ∧ _) _ ?_ ?_); (with_reducible refine @And.intro (Sub _ _) _ ?_ ?_))); exact sbX) | ((with_reducible refine And.intro ?_ ?_); omega)))
    all_goals try (exfalso; omega)
    have e2 : rkN n s = 0 := if_neg (by rw [hv]; simp)
    rw [e2]
    exact ⟨_, rfl, .empty (by omega) (by omega) zO, hs0⟩
  have hn10 := exs_n hv
  have e2 : rkN n s = n := if_pos hv
  rw [e2]
  obtain ⟨B, d, hV, hrows⟩ := h0.ex
  have hone : ∀ (m : Nat) (L : Nat → Nat), oneG m 4 (fun p j => s.cells B d (L p) j) := fun m L i j _ hj => by
    match j, hj with
    | 0, _ => rfl
    | 1, _ => rfl
    | 2, _ => rfl
    | 3, _ => rfl
  (try (simp (disch := omega) only [bsW, WOp, WOq, WV, bo, eqN, gdc, gw, bnd, ↓reduceIte, Nat.reduceEqDiff, rsvs, rsv, oneOf, rdN, ne_eq, Nat.reduceAdd, Nat.reduceMul, Nat.reduceLT, reduceCtorEq, Value.cells, setN, Value.oneCell', Nat.reduceLeDiff, undef, fcT, hv, Bool.not_true]))
  (repeat' (first | ((with_reducible refine gif_split (fun hs_ => ?_) (fun hs_ => ?_)) <;> (have hp_ := hs_; (try simp only [hpL, ne_eq] at hp_); (try simp (disch := omega) only [bsW, WOp, WOq, WV, bo, eqN, gdc, gw, bnd, ↓reduceIte, Nat.reduceEqDiff, rsvs, rsv, oneOf, rdN, ne_eq, Nat.reduceAdd, Nat.reduceMul, Nat.reduceLT, reduceCtorEq, Value.cells, setN, Value.oneCell', Nat.reduceLeDiff, undef, fcT, hv, Bool.not_true, hs_]))) | ((first | (with_reducible refine newB_i (fun nb_ hb_ => ?_)) | ((with_reducible show QC _ _ _ _ _ _); (first | (refine QC_i (l23Good A n c s _ _ hn h0 hw) ?_))) | ((with_reducible show AC _ _ _ _ _ _); (first | (refine PC.ac (l23Good A n c s _ _ hn h0 hw) ?_))) | (with_reducible refine RgE_i (fun (hBd_ : Bd _ _) => ?_))); (try simp (disch := omega) only [bsW, WOp, WOq, WV, bo, eqN, gdc, gw, bnd, ↓reduceIte, Nat.reduceEqDiff, rsvs, rsv, oneOf, rdN, ne_eq, Nat.reduceAdd, Nat.reduceMul, Nat.reduceLT, reduceCtorEq, Value.cells, setN, Value.oneCell', Nat.reduceLeDiff, undef, fcT, hv, Bool.not_true])) | (with_reducible refine fun (hBd_ : Bd _ _) => ?_) | ((first | (with_reducible refine @And.intro (Sub _ _) _ ?_ ?_) | ((with_reducible refine @And.intro (Sub _ _ ∧ _) _ ?_ ?_); (with_reducible refine @And.intro (Sub _ _) _ ?_ ?_))); exact sbX) | ((with_reducible refine And.intro ?_ ?_); omega)))
  all_goals try (exfalso; omega)
  have hs1 : Sub H0 (upd H0 nb_ (.rw [] 72)) := sub_up (nx := bO + 1) (by omega) hB0 (Sub.refl _)
  have zE : (upd H0 nb_ (.rw [] 72)) nb_ = some (.rw [] 72) := upd_same _ _ _
  have hbE := hb_
  generalize (upd H0 nb_ (.rw [] 72)) = H1 at *
  generalize nb_ = bE at *
  refine LpB_rule (fun mm fr H' nx' => ∃ (k : Nat) (w : Value), mm = n - k + 1 ∧ k ≤ n ∧ fr 0 = .slice A n c ∧ fr 4 = .slice (some ⟨bO, 0, none⟩) 0 0 ∧ fr 5 = w ∧ fr 6 = .int .i64 k ∧
    OwnV H' (bO + 1) nx' k 4 (fun p j => s.cells B d (rkF (betS s) k p) j) 72 w ∧ Sub H0 H' ∧ bO + 1 ≤ nx') ?_ ?_ (n + 1) ?_
  · rintro mm K hK fr H' nx' hB' ⟨k, w, hmm, hk, f0, f4, f5, f6, hO, hs, hx⟩
    simp (disch := omega) only [bsW, WOp, WOq, WV, bo, eqN, gdc, gw, bnd, ↓reduceIte, Nat.reduceEqDiff, rsvs, rsv, oneOf, rdN, ne_eq, Nat.reduceAdd, Nat.reduceMul, Nat.reduceLT, reduceCtorEq, Value.cells, setN, Value.oneCell', Nat.reduceLeDiff, undef, fcT, f0, f4, f5, f6]
    refine gif_split (fun b1 => ?_) (fun b1 => ?_)
    · have hlt : k < n := by simpa using b1
      have hL := rkF_lt (betS s) k
      obtain ⟨A5, c5, rfl, hc5, hR5⟩ := hO.rd
      obtain ⟨b, off, rfl, hcl⟩ := (hV.sub hs).at_ (show 0 < n by omega)
      have c0 := hcl k 0 hlt (by omega)
      have c1 := hcl k 1 hlt (by omega)
      have c2 := hcl k 2 hlt (by omega)
      have c3 := hcl k 3 hlt (by omega)
      simp only [Nat.add_zero, Shw.cells] at c0 c1 c2 c3
      have xk := exs_at hv hlt
      have hMk := ((hrows k hlt).2).sub hs
      simp (disch := omega) only [bsW, WOp, WOq, WV, bo, eqN, gdc, gw, bnd, ↓reduceIte, Nat.reduceEqDiff, rsvs, rsv, oneOf, rdN, ne_eq, Nat.reduceAdd, Nat.reduceMul, Nat.reduceLT, reduceCtorEq, Value.cells, setN, Value.oneCell', Nat.reduceLeDiff, undef, fcT, f0, f4, f5, f6, b1]
      refine LpB_rule (fun mm2 fr2 H2 nx2 => ∃ j : Nat, mm2 = j + 1 ∧ j ≤ k ∧ fr2 0 = .slice (some ⟨b, off, none⟩) n c ∧ fr2 4 = .slice (some ⟨bO, 0, none⟩) 0 0 ∧ fr2 5 = .slice A5 k c5 ∧ fr2 6 = .int .i64 k ∧ fr2 7 = .int .i64 j ∧ (∀ p, j ≤ p → p < k → betS s k (rkF (betS s) k p) = true) ∧ H2 = H' ∧ nx2 = nx') ?_ ?_ (k + 1) ?_
      · rintro mm2 K2 hK2 fr2 H2 nx2 hB2 ⟨j, hmm2, hj, g0, g4, g5, g6, g7, hall, rfl, rfl⟩
        have hrk : (0 < j → betS s k (rkF (betS s) k (j - 1)) = false) → ∀ p q, p < k + 1 → q < 4 → insV (fun p j => s.cells B d (rkF (betS s) k p) j) j (fun q => [Value.int .i64 (s.id k), .string (s.title k), .int .i64 (s.fr k), .slice (B k) (s.m k) (d k)].getD q undef) p q = s.cells B d (rkF (betS s) (k + 1) p) q := fun hx p q hp hq => by
          have e : rkF (betS s) (k + 1) = insAt (rkF (betS s) k) k j := by
            show insAt (rkF (betS s) k) k (insK (betS s) (rkF (betS s) k) k k) = _
            rw [insK_at k hj hall hx]
          rw [e]
          unfold insV insAt
          by_cases h1 : p < j
          · rw [if_pos h1, if_pos h1]
          · rw [if_neg h1, if_neg h1]
            by_cases h2 : p = j
            · rw [if_pos h2, if_pos h2]
              match q, hq with
              | 0, _ => rfl
              | 1, _ => rfl
              | 2, _ => rfl
              | 3, _ => rfl
            · rw [if_neg h2, if_neg h2]
        by_cases hj0 : j = 0
        · subst hj0
          simp (disch := omega) only [bsW, WOp, WOq, WV, bo, eqN, gdc, gw, bnd, ↓reduceIte, Nat.reduceEqDiff, rsvs, rsv, oneOf, rdN, ne_eq, Nat.reduceAdd, Nat.reduceMul, Nat.reduceLT, reduceCtorEq, Value.cells, setN, Value.oneCell', Nat.reduceLeDiff, undef, fcT, g0, g4, g5, g6, g7, Int.natCast_zero, Int.lt_irrefl, decide_false]
          (repeat' (first | ((with_reducible refine gif_split (fun hs_ => ?_) (fun hs_ => ?_)) <;> (have hp_ := hs_; (try simp only [hpL, ne_eq] at hp_); (try simp (disch := omega) only [bsW, WOp, WOq, WV, bo, eqN, gdc, gw, bnd, ↓reduceIte, Nat.reduceEqDiff, rsvs, rsv, oneOf, rdN, ne_eq, Nat.reduceAdd, Nat.reduceMul, Nat.reduceLT, reduceCtorEq, Value.cells, setN, Value.oneCell', Nat.reduceLeDiff, undef, fcT, g0, g4, g5, g6, g7, Int.natCast_zero, Int.lt_irrefl, decide_false, hs_]))) | ((first | (with_reducible refine newB_i (fun nb_ hb_ => ?_)) | (with_reducible refine RgE_i (fun (hBd_ : Bd _ _) => ?_))); (try simp (disch := omega) only [bsW, WOp, WOq, WV, bo, eqN, gdc, gw, bnd, ↓reduceIte, Nat.reduceEqDiff, rsvs, rsv, oneOf, rdN, ne_eq, Nat.reduceAdd, Nat.reduceMul, Nat.reduceLT, reduceCtorEq, Value.cells, setN, Value.oneCell', Nat.reduceLeDiff, undef, fcT, g0, g4, g5, g6, g7, Int.natCast_zero, Int.lt_irrefl, decide_false])) | (with_reducible refine fun (hBd_ : Bd _ _) => ?_) | ((first | (with_reducible refine @And.intro (Sub _ _) _ ?_ ?_) | ((with_reducible refine @And.intro (Sub _ _ ∧ _) _ ?_ ?_); (with_reducible refine @And.intro (Sub _ _) _ ?_ ?_))); exact sbX) | ((with_reducible refine And.intro ?_ ?_); omega)))
          all_goals try (exfalso; omega)
          refine V_mono _ (Q := thn (RkI (.slice (some ⟨b, off, none⟩) n c) (.slice (some ⟨bO, 0, none⟩) 0 0) k 0 (fun p j => s.cells B d (rkF (betS s) k p) j) (fun q => [Value.int .i64 (s.id k), .string (s.title k), .int .i64 (s.fr k), .slice (B k) (s.m k) (d k)].getD q undef) (bO + 1) H2 nx2) (fun _ _ _ _ => False)) ?_ (rankReg b off n c _ _ k c5 0 _ _ _ _ _ _ _ H2 nx2 hB2 (by omega) (by simp (disch := omega) only [bsW, WOp, WOq, WV, bo, eqN, gdc, gw, bnd, ↓reduceIte, Nat.reduceEqDiff, rsvs, rsv, oneOf, rdN, ne_eq, Nat.reduceAdd, Nat.reduceMul, Nat.reduceLT, reduceCtorEq, Value.cells, setN, Value.oneCell', Nat.reduceLeDiff, undef, fcT, g0, g4, g5, g6, g7, Int.natCast_zero, Int.lt_irrefl, decide_false]) (by simp (disch := omega) only [bsW, WOp, WOq, WV, bo, eqN, gdc, gw, bnd, ↓reduceIte, Nat.reduceEqDiff, rsvs, rsv, oneOf, rdN, ne_eq, Nat.reduceAdd, Nat.reduceMul, Nat.reduceLT, reduceCtorEq, Value.cells, setN, Value.oneCell', Nat.reduceLeDiff, undef, fcT, g0, g4, g5, g6, g7, Int.natCast_zero, Int.lt_irrefl, decide_false]) (by simp (disch := omega) only [bsW, WOp, WOq, WV, bo, eqN, gdc, gw, bnd, ↓reduceIte, Nat.reduceEqDiff, rsvs, rsv, oneOf, rdN, ne_eq, Nat.reduceAdd, Nat.reduceMul, Nat.reduceLT, reduceCtorEq, Value.cells, setN, Value.oneCell', Nat.reduceLeDiff, undef, fcT, g0, g4, g5, g6, g7, Int.natCast_zero, Int.lt_irrefl, decide_false]) (by simp (disch := omega) only [bsW, WOp, WOq, WV, bo, eqN, gdc, gw, bnd, ↓reduceIte, Nat.reduceEqDiff, rsvs, rsv, oneOf, rdN, ne_eq, Nat.reduceAdd, Nat.reduceMul, Nat.reduceLT, reduceCtorEq, Value.cells, setN, Value.oneCell', Nat.reduceLeDiff, undef, fcT, g0, g4, g5, g6, g7, Int.natCast_zero, Int.lt_irrefl, decide_false]) (by simp (disch := omega) only [bsW, WOp, WOq, WV, bo, eqN, gdc, gw, bnd, ↓reduceIte, Nat.reduceEqDiff, rsvs, rsv, oneOf, rdN, ne_eq, Nat.reduceAdd, Nat.reduceMul, Nat.reduceLT, reduceCtorEq, Value.cells, setN, Value.oneCell', Nat.reduceLeDiff, undef, fcT, g0, g4, g5, g6, g7, Int.natCast_zero, Int.lt_irrefl, decide_false, Int.natCast_zero]) hlt hn10 (by omega) hc5 hR5 (hone k _) rfl c0 c1 c2 c3)
          rintro ex fr3 H3 nx3 hI
          cases ex <;> try exact hI.elim
          obtain ⟨m0, m4, m6, ⟨w3, m5, hO3⟩, hs3, hx3⟩ := hI
          (try (simp (disch := omega) only [bsW, WOp, WOq, WV, bo, eqN, gdc, gw, bnd, ↓reduceIte, Nat.reduceEqDiff, rsvs, rsv, oneOf, rdN, ne_eq, Nat.reduceAdd, Nat.reduceMul, Nat.reduceLT, reduceCtorEq, Value.cells, setN, Value.oneCell', Nat.reduceLeDiff, undef, fcT, m0, m4, m5, m6]))
          (repeat' (first | ((with_reducible refine gif_split (fun hs_ => ?_) (fun hs_ => ?_)) <;> (have hp_ := hs_; (try simp only [hpL, ne_eq] at hp_); (try simp (disch := omega) only [bsW, WOp, WOq, WV, bo, eqN, gdc, gw, bnd, ↓reduceIte, Nat.reduceEqDiff, rsvs, rsv, oneOf, rdN, ne_eq, Nat.reduceAdd, Nat.reduceMul, Nat.reduceLT, reduceCtorEq, Value.cells, setN, Value.oneCell', Nat.reduceLeDiff, undef, fcT, m0, m4, m5, m6, hs_]))) | ((first | (with_reducible refine newB_i (fun nb_ hb_ => ?_)) | (with_reducible refine RgE_i (fun (hBd_ : Bd _ _) => ?_))); (try simp (disch := omega) only [bsW, WOp, WOq, WV, bo, eqN, gdc, gw, bnd, ↓reduceIte, Nat.reduceEqDiff, rsvs, rsv, oneOf, rdN, ne_eq, Nat.reduceAdd, Nat.reduceMul, Nat.reduceLT, reduceCtorEq, Value.cells, setN, Value.oneCell', Nat.reduceLeDiff, undef, fcT, m0, m4, m5, m6])) | (with_reducible refine fun (hBd_ : Bd _ _) => ?_) | ((first | (with_reducible refine @And.intro (Sub _ _) _ ?_ ?_) | ((with_reducible refine @And.intro (Sub _ _ ∧ _) _ ?_ ?_); (with_reducible refine @And.intro (Sub _ _) _ ?_ ?_))); exact sbX) | ((with_reducible refine And.intro ?_ ?_); omega)))
          all_goals try (exfalso; omega)
          refine hK _ _ _ ?_
          exact ⟨k + 1, w3, by omega, by omega, by simp (disch := omega) only [bsW, ↓reduceIte, Nat.reduceEqDiff, ne_eq, reduceCtorEq, fcT, m0, m4, m5, m6], by simp (disch := omega) only [bsW, ↓reduceIte, Nat.reduceEqDiff, ne_eq, reduceCtorEq, fcT, m0, m4, m5, m6], by simp (disch := omega) only [bsW, ↓reduceIte, Nat.reduceEqDiff, ne_eq, reduceCtorEq, fcT, m0, m4, m5, m6], by simp (disch := omega) only [bsW, ↓reduceIte, Nat.reduceEqDiff, ne_eq, reduceCtorEq, fcT, m0, m4, m5, m6, Int.natCast_add, Int.natCast_one], hO3.congr (fun p q hp hq => hrk (fun h => by omega) p q hp hq), hs.trans hs3, by omega⟩
        obtain ⟨j, rfl⟩ : ∃ i, j = i + 1 := ⟨j - 1, by omega⟩
        have hrj := hL j (by omega)
        obtain ⟨b5, o5, rfl, hc5'⟩ := hR5.at_ (show 0 < k by omega)
        have k0 := hc5' j 0 (by omega) (by omega)
        have k1 := hc5' j 1 (by omega) (by omega)
        have k2 := hc5' j 2 (by omega) (by omega)
        have k3 := hc5' j 3 (by omega) (by omega)
        simp only [Nat.add_zero, Shw.cells] at k0 k1 k2 k3
        have xj := exs_at hv (show rkF (betS s) k j < n by omega)
        have hMj := ((hrows _ (show rkF (betS s) k j < n by omega)).2).sub hs
        have t2 : (((j + 1 : Nat) : Int) - 1).toNat = j := by omega
        have t4 : ((j : Int)).toNat = j := by omega
        have w1 : IntKind.i64.wrap (((j + 1 : Nat) : Int) - 1) = (j : Int) := by rw [IntKind.wrap_i64]; omega
        have gt1 : decide ((0 : Int) < ((j + 1 : Nat) : Int)) = true := by rw [decide_eq_true_iff]; omega
        simp (disch := omega) only [bsW, WOp, WOq, WV, bo, eqN, gdc, gw, bnd, ↓reduceIte, Nat.reduceEqDiff, rsvs, rsv, oneOf, rdN, ne_eq, Nat.reduceAdd, Nat.reduceMul, Nat.reduceLT, reduceCtorEq, Value.cells, setN, Value.oneCell', Nat.reduceLeDiff, undef, fcT, g0, g4, g5, g6, g7, gt1, t2, t4, w1, c0, c1, c2, c3, k0, k1, k2, k3, Int.toNat_natCast]
        (repeat' (first | ((with_reducible refine gif_split (fun hs_ => ?_) (fun hs_ => ?_)) <;> (have hp_ := hs_; (try simp only [hpL, ne_eq] at hp_); (try simp (disch := omega) only [bsW, WOp, WOq, WV, bo, eqN, gdc, gw, bnd, ↓reduceIte, Nat.reduceEqDiff, rsvs, rsv, oneOf, rdN, ne_eq, Nat.reduceAdd, Nat.reduceMul, Nat.reduceLT, reduceCtorEq, Value.cells, setN, Value.oneCell', Nat.reduceLeDiff, undef, fcT, g0, g4, g5, g6, g7, gt1, t2, t4, w1, c0, c1, c2, c3, k0, k1, k2, k3, Int.toNat_natCast, hs_]))) | ((first | (with_reducible refine newB_i (fun nb_ hb_ => ?_)) | ((with_reducible show QC _ _ _ _ _ _); (first | (refine QC_i (l23Better _ _ _ _ _ _ _ _ _ _ _ _ _ _ _ _ (by omega) (by omega) xk.2.2.2.2.1 xj.2.2.2.2.1 hMk hMj) ?_))) | ((with_reducible show AC _ _ _ _ _ _); (first | (refine PC.ac (l23Better _ _ _ _ _ _ _ _ _ _ _ _ _ _ _ _ (by omega) (by omega) xk.2.2.2.2.1 xj.2.2.2.2.1 hMk hMj) ?_))) | (with_reducible refine RgE_i (fun (hBd_ : Bd _ _) => ?_))); (try simp (disch := omega) only [bsW, WOp, WOq, WV, bo, eqN, gdc, gw, bnd, ↓reduceIte, Nat.reduceEqDiff, rsvs, rsv, oneOf, rdN, ne_eq, Nat.reduceAdd, Nat.reduceMul, Nat.reduceLT, reduceCtorEq, Value.cells, setN, Value.oneCell', Nat.reduceLeDiff, undef, fcT, g0, g4, g5, g6, g7, gt1, t2, t4, w1, c0, c1, c2, c3, k0, k1, k2, k3, Int.toNat_natCast])) | (with_reducible refine fun (hBd_ : Bd _ _) => ?_) | ((first | (with_reducible refine @And.intro (Sub _ _) _ ?_ ?_) | ((with_reducible refine @And.intro (Sub _ _ ∧ _) _ ?_ ?_); (with_reducible refine @And.intro (Sub _ _) _ ?_ ?_))); exact sbX) | ((with_reducible refine And.intro ?_ ?_); omega)))
        all_goals try (exfalso; omega)
        · refine hK2 _ _ _ ?_
          refine ⟨j, by omega, by omega, by simp (disch := omega) only [bsW, ↓reduceIte, Nat.reduceEqDiff, ne_eq, reduceCtorEq, fcT, g0, g4, g5, g6, g7, gt1, t2, t4, w1, c0, c1, c2, c3, k0, k1, k2, k3, Int.toNat_natCast], by simp (disch := omega) only [bsW, ↓reduceIte, Nat.reduceEqDiff, ne_eq, reduceCtorEq, fcT, g0, g4, g5, g6, g7, gt1, t2, t4, w1, c0, c1, c2, c3, k0, k1, k2, k3, Int.toNat_natCast], by simp (disch := omega) only [bsW, ↓reduceIte, Nat.reduceEqDiff, ne_eq, reduceCtorEq, fcT, g0, g4, g5, g6, g7, gt1, t2, t4, w1, c0, c1, c2, c3, k0, k1, k2, k3, Int.toNat_natCast], by simp (disch := omega) only [bsW, ↓reduceIte, Nat.reduceEqDiff, ne_eq, reduceCtorEq, fcT, g0, g4, g5, g6, g7, gt1, t2, t4, w1, c0, c1, c2, c3, k0, k1, k2, k3, Int.toNat_natCast], by simp (disch := omega) only [bsW, ↓reduceIte, Nat.reduceEqDiff, ne_eq, reduceCtorEq, fcT, g0, g4, g5, g6, g7, gt1, t2, t4, w1, c0, c1, c2, c3, k0, k1, k2, k3, Int.toNat_natCast], fun p h1 h2 => ?_, rfl, rfl⟩
          rcases Nat.eq_or_lt_of_le h1 with e | e
          · subst e; exact hp_
          · exact hall p e h2
        · have hbt : betS s k (rkF (betS s) k j) = false := hp_
          refine V_mono _ (Q := thn (RkI (.slice (some ⟨b, off, none⟩) n c) (.slice (some ⟨bO, 0, none⟩) 0 0) k (j + 1) (fun p j => s.cells B d (rkF (betS s) k p) j) (fun q => [Value.int .i64 (s.id k), .string (s.title k), .int .i64 (s.fr k), .slice (B k) (s.m k) (d k)].getD q undef) (bO + 1) H2 nx2) (fun _ _ _ _ => False)) ?_ (rankReg b off n c _ _ k c5 (j + 1) _ _ _ _ _ _ _ H2 nx2 hB2 (by omega) (by simp (disch := omega) only [bsW, WOp, WOq, WV, bo, eqN, gdc, gw, bnd, ↓reduceIte, Nat.reduceEqDiff, rsvs, rsv, oneOf, rdN, ne_eq, Nat.reduceAdd, Nat.reduceMul, Nat.reduceLT, reduceCtorEq, Value.cells, setN, Value.oneCell', Nat.reduceLeDiff, undef, fcT, g0, g4, g5, g6, g7, gt1, t2, t4, w1, c0, c1, c2, c3, k0, k1, k2, k3, Int.toNat_natCast]) (by simp (disch := omega) only [bsW, WOp, WOq, WV, bo, eqN, gdc, gw, bnd, ↓reduceIte, Nat.reduceEqDiff, rsvs, rsv, oneOf, rdN, ne_eq, Nat.reduceAdd, Nat.reduceMul, Nat.reduceLT, reduceCtorEq, Value.cells, setN, Value.oneCell', Nat.reduceLeDiff, undef, fcT, g0, g4, g5, g6, g7, gt1, t2, t4, w1, c0, c1, c2, c3, k0, k1, k2, k3, Int.toNat_natCast]) (by simp (disch := omega) only [bsW, WOp, WOq, WV, bo, eqN, gdc, gw, bnd, ↓reduceIte, Nat.reduceEqDiff, rsvs, rsv, oneOf, rdN, ne_eq, Nat.reduceAdd, Nat.reduceMul, Nat.reduceLT, reduceCtorEq, Value.cells, setN, Value.oneCell', Nat.reduceLeDiff, undef, fcT, g0, g4, g5, g6, g7, gt1, t2, t4, w1, c0, c1, c2, c3, k0, k1, k2, k3, Int.toNat_natCast]) (by simp (disch := omega) only [bsW, WOp, WOq, WV, bo, eqN, gdc, gw, bnd, ↓reduceIte, Nat.reduceEqDiff, rsvs, rsv, oneOf, rdN, ne_eq, Nat.reduceAdd, Nat.reduceMul, Nat.reduceLT, reduceCtorEq, Value.cells, setN, Value.oneCell', Nat.reduceLeDiff, undef, fcT, g0, g4, g5, g6, g7, gt1, t2, t4, w1, c0, c1, c2, c3, k0, k1, k2, k3, Int.toNat_natCast]) (by simp (disch := omega) only [bsW, WOp, WOq, WV, bo, eqN, gdc, gw, bnd, ↓reduceIte, Nat.reduceEqDiff, rsvs, rsv, oneOf, rdN, ne_eq, Nat.reduceAdd, Nat.reduceMul, Nat.reduceLT, reduceCtorEq, Value.cells, setN, Value.oneCell', Nat.reduceLeDiff, undef, fcT, g0, g4, g5, g6, g7, gt1, t2, t4, w1, c0, c1, c2, c3, k0, k1, k2, k3, Int.toNat_natCast, Int.natCast_zero]) hlt hn10 (by omega) hc5 hR5 (hone k _) rfl c0 c1 c2 c3)
          rintro ex fr3 H3 nx3 hI
          cases ex <;> try exact hI.elim
          obtain ⟨m0, m4, m6, ⟨w3, m5, hO3⟩, hs3, hx3⟩ := hI
          (try (simp (disch := omega) only [bsW, WOp, WOq, WV, bo, eqN, gdc, gw, bnd, ↓reduceIte, Nat.reduceEqDiff, rsvs, rsv, oneOf, rdN, ne_eq, Nat.reduceAdd, Nat.reduceMul, Nat.reduceLT, reduceCtorEq, Value.cells, setN, Value.oneCell', Nat.reduceLeDiff, undef, fcT, m0, m4, m5, m6]))
          (repeat' (first | ((with_reducible refine gif_split (fun hs_ => ?_) (fun hs_ => ?_)) <;> (have hp_ := hs_; (try simp only [hpL, ne_eq] at hp_); (try simp (disch := omega) only [bsW, WOp, WOq, WV, bo, eqN, gdc, gw, bnd, ↓reduceIte, Nat.reduceEqDiff, rsvs, rsv, oneOf, rdN, ne_eq, Nat.reduceAdd, Nat.reduceMul, Nat.reduceLT, reduceCtorEq, Value.cells, setN, Value.oneCell', Nat.reduceLeDiff, undef, fcT, m0, m4, m5, m6, hs_]))) | ((first | (with_reducible refine newB_i (fun nb_ hb_ => ?_)) | (with_reducible refine RgE_i (fun (hBd_ : Bd _ _) => ?_))); (try simp (disch := omega) only [bsW, WOp, WOq, WV, bo, eqN, gdc, gw, bnd, ↓reduceIte, Nat.reduceEqDiff, rsvs, rsv, oneOf, rdN, ne_eq, Nat.reduceAdd, Nat.reduceMul, Nat.reduceLT, reduceCtorEq, Value.cells, setN, Value.oneCell', Nat.reduceLeDiff, undef, fcT, m0, m4, m5, m6])) | (with_reducible refine fun (hBd_ : Bd _ _) => ?_) | ((first | (with_reducible refine @And.intro (Sub _ _) _ ?_ ?_) | ((with_reducible refine @And.intro (Sub _ _ ∧ _) _ ?_ ?_); (with_reducible refine @And.intro (Sub _ _) _ ?_ ?_))); exact sbX) | ((with_reducible refine And.intro ?_ ?_); omega)))
          all_goals try (exfalso; omega)
          refine hK _ _ _ ?_
          exact ⟨k + 1, w3, by omega, by omega, by simp (disch := omega) only [bsW, ↓reduceIte, Nat.reduceEqDiff, ne_eq, reduceCtorEq, fcT, m0, m4, m5, m6], by simp (disch := omega) only [bsW, ↓reduceIte, Nat.reduceEqDiff, ne_eq, reduceCtorEq, fcT, m0, m4, m5, m6], by simp (disch := omega) only [bsW, ↓reduceIte, Nat.reduceEqDiff, ne_eq, reduceCtorEq, fcT, m0, m4, m5, m6], by simp (disch := omega) only [bsW, ↓reduceIte, Nat.reduceEqDiff, ne_eq, reduceCtorEq, fcT, m0, m4, m5, m6, Int.natCast_add, Int.natCast_one], hO3.congr (fun p q hp hq => hrk (fun _ => hbt) p q hp hq), hs.trans hs3, by omega⟩
      · rintro fr2 H2 nx2 ⟨j, hmm2, _⟩; omega
      · exact ⟨k, by omega, by omega, by simp (disch := omega) only [bsW, ↓reduceIte, Nat.reduceEqDiff, ne_eq, reduceCtorEq, fcT, f0, f4, f5, f6], by simp (disch := omega) only [bsW, ↓reduceIte, Nat.reduceEqDiff, ne_eq, reduceCtorEq, fcT, f0, f4, f5, f6], by simp (disch := omega) only [bsW, ↓reduceIte, Nat.reduceEqDiff, ne_eq, reduceCtorEq, fcT, f0, f4, f5, f6], by simp (disch := omega) only [bsW, ↓reduceIte, Nat.reduceEqDiff, ne_eq, reduceCtorEq, fcT, f0, f4, f5, f6], by simp (disch := omega) only [bsW, ↓reduceIte, Nat.reduceEqDiff, ne_eq, reduceCtorEq, fcT, f0, f4, f5, f6], fun p h1 h2 => by omega, rfl, rfl⟩
    · have hkn : k = n := by simp at b1; omega
      subst hkn
      have hL := rkF_lt (betS s) k
      obtain ⟨A5, c5, rfl, hc5, hR5⟩ := hO.rd
      simp (disch := omega) only [bsW, WOp, WOq, WV, bo, eqN, gdc, gw, bnd, ↓reduceIte, Nat.reduceEqDiff, rsvs, rsv, oneOf, rdN, ne_eq, Nat.reduceAdd, Nat.reduceMul, Nat.reduceLT, reduceCtorEq, Value.cells, setN, Value.oneCell', Nat.reduceLeDiff, undef, fcT, f0, f4, f5, f6, b1]
      refine LpB_rule (fun mm2 fr2 H2 nx2 => ∃ (q : Nat) (w2 : Value), mm2 = k - q + 1 ∧ q ≤ k ∧ fr2 4 = w2 ∧ fr2 5 = .slice A5 k c5 ∧ fr2 8 = .int .i64 q ∧ OwnR H2 nx nx2 q 1 (rkI k s) 3 w2 ∧ (∀ c, some c = ownBlk w2 → c = bO ∨ nx' ≤ c) ∧ (∀ c, c < nx' → c ≠ bO → H2 c = H' c) ∧ nx' ≤ nx2) ?_ ?_ (k + 1) ?_
      · rintro mm2 K2 hK2 fr2 H2 nx2 hB2 ⟨q, w2, hmm2, hq, g4, g5, g8, hO2, hat, hoth, hx2⟩
        simp (disch := omega) only [bsW, WOp, WOq, WV, bo, eqN, gdc, gw, bnd, ↓reduceIte, Nat.reduceEqDiff, rsvs, rsv, oneOf, rdN, ne_eq, Nat.reduceAdd, Nat.reduceMul, Nat.reduceLT, reduceCtorEq, Value.cells, setN, Value.oneCell', Nat.reduceLeDiff, undef, fcT, g4, g5, g8]
        refine gif_split (fun b2 => ?_) (fun b2 => ?_)
        · have hlt : q < k := by simpa using b2
          obtain ⟨b5, o5, rfl, hc5'⟩ := hR5.at_ (show 0 < k by omega)
          have hb5 : bO + 1 ≤ b5 ∧ b5 < nx' := by
            rcases hO.ex with ⟨e, e0⟩ | ⟨b6, cap6, sp6, e, h61, h62, _⟩
            · omega
            · cases e; exact ⟨h61, h62⟩
          have k0 := hc5' q 0 (by omega) (by omega)
          simp only [Nat.add_zero, Shw.cells] at k0
          have k0' : rd H2 b5 (o5 + q * 4) = some (.int .i64 (s.id (rkF (betS s) k q))) := by
            unfold rd at k0 ⊢
            rw [hoth b5 (by omega) (by omega)]
            exact k0
          simp (disch := omega) only [bsW, WOp, WOq, WV, bo, eqN, gdc, gw, bnd, ↓reduceIte, Nat.reduceEqDiff, rsvs, rsv, oneOf, rdN, ne_eq, Nat.reduceAdd, Nat.reduceMul, Nat.reduceLT, reduceCtorEq, Value.cells, setN, Value.oneCell', Nat.reduceLeDiff, undef, fcT, g4, g5, g8, k0', Int.toNat_natCast, b2]
          (repeat' (first | ((with_reducible refine gif_split (fun hs_ => ?_) (fun hs_ => ?_)) <;> (have hp_ := hs_; (try simp only [hpL, ne_eq] at hp_); (try simp (disch := omega) only [bsW, WOp, WOq, WV, bo, eqN, gdc, gw, bnd, ↓reduceIte, Nat.reduceEqDiff, rsvs, rsv, oneOf, rdN, ne_eq, Nat.reduceAdd, Nat.reduceMul, Nat.reduceLT, reduceCtorEq, Value.cells, setN, Value.oneCell', Nat.reduceLeDiff, undef, fcT, g4, g5, g8, k0', Int.toNat_natCast, hs_]))) | ((first | (with_reducible refine newB_i (fun nb_ hb_ => ?_)) | (with_reducible refine RgE_i (fun (hBd_ : Bd _ _) => ?_))); (try simp (disch := omega) only [bsW, WOp, WOq, WV, bo, eqN, gdc, gw, bnd, ↓reduceIte, Nat.reduceEqDiff, rsvs, rsv, oneOf, rdN, ne_eq, Nat.reduceAdd, Nat.reduceMul, Nat.reduceLT, reduceCtorEq, Value.cells, setN, Value.oneCell', Nat.reduceLeDiff, undef, fcT, g4, g5, g8, k0', Int.toNat_natCast])) | (with_reducible refine fun (hBd_ : Bd _ _) => ?_) | ((first | (with_reducible refine @And.intro (Sub _ _) _ ?_ ?_) | ((with_reducible refine @And.intro (Sub _ _ ∧ _) _ ?_ ?_); (with_reducible refine @And.intro (Sub _ _) _ ?_ ?_))); exact sbX) | ((with_reducible refine And.intro ?_ ?_); omega)))
          all_goals try (exfalso; omega)
          refine app_one (k := 1) (bytes := 8) (e := fun _ => s.id (rkF (betS s) k q)) (by simp (disch := omega) only [bsW, WOp, WOq, WV, bo, eqN, gdc, gw, bnd, ↓reduceIte, Nat.reduceEqDiff, rsvs, rsv, oneOf, rdN, ne_eq, Nat.reduceAdd, Nat.reduceMul, Nat.reduceLT, reduceCtorEq, Value.cells, setN, Value.oneCell', Nat.reduceLeDiff, undef, fcT, g4, g5, g8, k0', Int.toNat_natCast]) (by simp (disch := omega) only [bsW, WOp, WOq, WV, bo, eqN, gdc, gw, bnd, ↓reduceIte, Nat.reduceEqDiff, rsvs, rsv, oneOf, rdN, ne_eq, Nat.reduceAdd, Nat.reduceMul, Nat.reduceLT, reduceCtorEq, Value.cells, setN, Value.oneCell', Nat.reduceLeDiff, undef, fcT, g4, g5, g8, k0', Int.toNat_natCast]) (by simp (disch := omega) only [bsW, WOp, WOq, WV, bo, eqN, gdc, gw, bnd, ↓reduceIte, Nat.reduceEqDiff, rsvs, rsv, oneOf, rdN, ne_eq, Nat.reduceAdd, Nat.reduceMul, Nat.reduceLT, reduceCtorEq, Value.cells, setN, Value.oneCell', Nat.reduceLeDiff, undef, fcT, g4, g5, g8, k0', Int.toNat_natCast]) ⟨_, qz3, rfl⟩ (by omega) (hO2.keep (fun c hc => by have := hO2.blk hc; simp (disch := omega) only [bsW, WOp, WOq, WV, bo, eqN, gdc, gw, bnd, ↓reduceIte, Nat.reduceEqDiff, rsvs, rsv, oneOf, rdN, ne_eq, Nat.reduceAdd, Nat.reduceMul, Nat.reduceLT, reduceCtorEq, Value.cells, setN, Value.oneCell', Nat.reduceLeDiff, undef, fcT, g4, g5, g8, k0', Int.toNat_natCast]) (by omega)) (upd_same _ _ _) ?_ (by omega) (by omega) (by unfold maxLen; omega) ?_
          · simp [List.range_succ]
          rintro v' b' o nx3 hb' hn3 hown' hO3
          have hb'2 : b' = bO ∨ nx' ≤ b' := by
            rcases hb' with e | e
            · exact hat _ e
            · right; omega
          simp (disch := omega) only [bsW, WOp, WOq, WV, bo, eqN, gdc, gw, bnd, ↓reduceIte, Nat.reduceEqDiff, rsvs, rsv, oneOf, rdN, ne_eq, Nat.reduceAdd, Nat.reduceMul, Nat.reduceLT, reduceCtorEq, Value.cells, setN, Value.oneCell', Nat.reduceLeDiff, undef, fcT, g4, g5, g8, k0', Int.toNat_natCast]
          refine hK2 _ _ _ ?_
          refine ⟨q + 1, v', by omega, by omega, by simp (disch := omega) only [bsW, ↓reduceIte, Nat.reduceEqDiff, ne_eq, reduceCtorEq, fcT, g4, g5, g8, k0', Int.toNat_natCast], by simp (disch := omega) only [bsW, ↓reduceIte, Nat.reduceEqDiff, ne_eq, reduceCtorEq, fcT, g4, g5, g8, k0', Int.toNat_natCast], by simp (disch := omega) only [bsW, ↓reduceIte, Nat.reduceEqDiff, ne_eq, reduceCtorEq, fcT, g4, g5, g8, k0', Int.toNat_natCast, Int.natCast_add, Int.natCast_one], hO3.congr (fun i j hi hj => ?_), fun c hc => ?_, fun c hc hne => ?_, by omega⟩
          · simp only [snoc]
            split
            · rfl
            · rw [show i = q by omega]; rfl
          · rw [← hown'] at hc
            cases hc
            exact hb'2
          · rw [upd_ne (by omega), upd_ne (by omega)]
            exact hoth c hc hne
        · have hqk : q = k := by simp at b2; omega
          subst hqk
          simp (disch := omega) only [bsW, WOp, WOq, WV, bo, eqN, gdc, gw, bnd, ↓reduceIte, Nat.reduceEqDiff, rsvs, rsv, oneOf, rdN, ne_eq, Nat.reduceAdd, Nat.reduceMul, Nat.reduceLT, reduceCtorEq, Value.cells, setN, Value.oneCell', Nat.reduceLeDiff, undef, fcT, g4, g5, g8, b2]
          refine ⟨_, rfl, hO2, fun c o e => ?_⟩
          have := hB c o e
          rw [hoth c (by omega) (by omega)]
          exact hs c o (hs0 c o e)
      · rintro fr2 H2 nx2 ⟨q, w2, hmm2, _⟩; omega
      · exact ⟨0, _, by omega, by omega, by simp (disch := omega) only [bsW, ↓reduceIte, Nat.reduceEqDiff, ne_eq, reduceCtorEq, fcT, f0, f4, f5, f6], by simp (disch := omega) only [bsW, ↓reduceIte, Nat.reduceEqDiff, ne_eq, reduceCtorEq, fcT, f0, f4, f5, f6], by simp (disch := omega) only [bsW, ↓reduceIte, Nat.reduceEqDiff, ne_eq, reduceCtorEq, fcT, f0, f4, f5, f6, Int.natCast_zero], .empty (by omega) (by omega) (hs _ _ zO), fun c hc => by cases hc; exact .inl rfl, fun c _ _ => rfl, by omega⟩
  · rintro fr H' nx' ⟨k, w, hm, _⟩; omega
  · exact ⟨0, _, by omega, by omega, by simp (disch := omega) only [bsW, ↓reduceIte, Nat.reduceEqDiff, ne_eq, reduceCtorEq, fcT], by simp (disch := omega) only [bsW, ↓reduceIte, Nat.reduceEqDiff, ne_eq, reduceCtorEq, fcT], by simp (disch := omega) only [bsW, ↓reduceIte, Nat.reduceEqDiff, ne_eq, reduceCtorEq, fcT], by simp (disch := omega) only [bsW, ↓reduceIte, Nat.reduceEqDiff, ne_eq, reduceCtorEq, fcT, Int.natCast_zero], .empty (by omega) (by omega) zE, hs1, by omega⟩
end Go.Proofs.YtnjlleopgjggpaaDoor
