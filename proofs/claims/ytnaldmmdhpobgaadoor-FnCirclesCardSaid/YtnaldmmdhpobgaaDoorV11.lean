/- The program's circles: the closure. -/
import Derived.Test.YtnaldmmdhpobgaaDoorV9
set_option linter.unusedVariables false
set_option linter.unusedSimpArgs false
set_option maxRecDepth 100000
set_option maxHeartbeats 1000000
namespace Go.Proofs.YtnaldmmdhpobgaaDoor
open Go Go.RowKit Go.Proofs
theorem qaF : qAgg Tryd.prog 79 = some false := by kernel_rfl
theorem qsF : qSize Tryd.prog 79 = some 1 := by kernel_rfl
theorem OwnR.at0c {H : Hp} {lo hi n k b c : Nat} {f : Nat → Nat → Int} {ty : TypeId} (h : OwnR H lo hi n k f ty (.slice (some ⟨b, 0, none⟩) n c)) : n ≤ c ∧ Rd H (some ⟨b, 0, none⟩) n k f := OwnR.atI h
theorem hide_subS {H H' : Hp} {S : Nat → Bool} (h : Sub H H') : Sub (hide H S) (hide H' S) := fun d o e => by
  obtain ⟨h1, h2⟩ := hide_some e
  rw [hide_at h1]
  exact h _ _ h2
theorem OwnR.own_sub {H H' : Hp} {lo hi n k c cap : Nat} {f : Nat → Nat → Int} {ty : TypeId} (h : OwnR H lo hi n k f ty (.slice (some ⟨c, 0, none⟩) n cap)) (hs : ∀ o, H c = some o → H' c = some o) : OwnR H' lo hi n k f ty (.slice (some ⟨c, 0, none⟩) n cap) := by
  rcases h.ex with ⟨e, _⟩ | ⟨b', cap', sp, e, h1, h2, h3, h4, h5, h6⟩
  · cases e
  · cases e
    exact ⟨.inr ⟨c, cap, sp, rfl, h1, h2, hs _ h3, h4, h5, h6⟩⟩

def PT (b : Nat) : Value := .pointer (some ⟨b, 0, none⟩)
/-- What stays known while circles are told. -/
structure Env (Hc : Hp) (lo b1 b2 b3 b4 b5 n m p : Nat) (f : Nat → Nat → Int) (Aw : Option Addr) (cw : Nat) : Prop where
  bd : Bd Hc lo
  no3 : Hc b3 = none
  l3 : b3 < lo
  w : rd Hc b1 0 = some (.slice Aw m cw)
  rw_ : Rd Hc Aw m 3 f
  p : rd Hc b2 0 = some (.int .i64 p)
  n : rd Hc b4 0 = some (.int .i64 n)
  cl : rd Hc b5 0 = some (.func (.func 59) #[] #[PT b1, PT b2, PT b3, PT b4, PT b5])
/-- The circles told so far, and the one begun, each in blocks of its own. -/
structure St (Hc H : Hp) (lo nx b3 : Nat) (S : Nat → Bool) (ls : List (List Int)) (l : List Int) (c cap : Nat) : Prop where
  sc : Sub Hc H
  out : ∃ ov, H b3 = some (.rw [ov] 33) ∧ OwnLL (hide H S) lo nx ls 22 3 ov
  own : OwnL H lo nx l 3 (.slice (some ⟨c, 0, none⟩) l.length cap)
structure StK (Hc : Hp) (H : Hp) (lo b3 : Nat) (S : Nat → Bool) (ls : List (List Int)) (l : List Int) (c cap : Nat) (v : Value) (H' : Hp) (nx' : Nat) : Prop where
  st : St Hc H' lo nx' b3 S ls l c cap
  fr : ∀ d o, S d = true → d ≠ c → H d = some o → H' d = some o
theorem restC_mono {sub : List Int → List (List Int)} {m : Nat} {f : Nat → Nat → Int} {p : Nat} {b : List Int} {j : Nat} : ∀ i : Nat, (restC sub m f p b j).length ≤ (restC sub m f p b (j + i)).length
  | 0 => Nat.le_refl _
  | i + 1 => by
    have := restC_mono (sub := sub) (m := m) (f := f) (p := p) (b := b) (j := j) i
    rw [← Nat.add_assoc]
    simp only [restC, List.length_append]
    omega
theorem extend_step (n m p : Nat) (f : Nat → Nat → Int) (Aw : Option Addr) (cw : Nat) (Hc : Hp) (lo b1 b2 b3 b4 b5 : Nat) (b : List Int) (sub : List Int → List (List Int))
    (hok : wssOk (n : Int) m f) (hp : p < n) (hb : begC n m f p b) (E : Env Hc lo b1 b2 b3 b4 b5 n m p f Aw cw)
    (hsub : ∀ k : Nat, p < k → k < n → cand m f b k = true → ∀ (ls : List (List Int)) (S : Nat → Bool) (c cap : Nat) (H : Hp) (nx : Nat), lo ≤ nx → S c = true → (∀ d, S d = true → lo ≤ d ∧ d < nx) → ls.length + (sub (b ++ [(k : Int)])).length ≤ 4000000 → St Hc H lo nx b3 S ls (b ++ [(k : Int)]) c cap →
      AC Tryd.prog 59 #[.slice (some ⟨c, 0, none⟩) (b ++ [(k : Int)]).length cap, PT b1, PT b2, PT b3, PT b4, PT b5] H nx (StK Hc H lo b3 S (ls ++ sub (b ++ [(k : Int)])) (b ++ [(k : Int)]) c cap))
    (ls : List (List Int)) (S : Nat → Bool) (c cap : Nat) (H : Hp) (nx : Nat) (hlo : lo ≤ nx) (hSc : S c = true) (hS : ∀ d, S d = true → lo ≤ d ∧ d < nx)
    (hT : ls.length + (ownC m f p b ++ restC sub m f p b (n - (p + 1))).length ≤ 4000000) (hst : St Hc H lo nx b3 S ls b c cap) :
    AC Tryd.prog 59 #[.slice (some ⟨c, 0, none⟩) b.length cap, PT b1, PT b2, PT b3, PT b4, PT b5] H nx (StK Hc H lo b3 S (ls ++ (ownC m f p b ++ restC sub m f p b (n - (p + 1)))) b c cap) := by
  unfold PT
  have hlen := hb.len
  have hln := hb.ln
  have hN8 := hok.1
  have hm30 := hok.2.1
  obtain ⟨hsc, ⟨ov, hov, hOut⟩, hOwn⟩ := hst
  have h3lo := E.l3
  obtain ⟨lst9, el⟩ : ∃ x, x = b.getLastD 0 := ⟨_, rfl⟩
  have hRb := (OwnR.at0c hOwn)
  obtain ⟨hcap, hRb⟩ := hRb
  obtain ⟨bb, ob, e', c1⟩ := RdL.at_ (l := b) hRb (show b.length - 1 < b.length by omega)
  cases e'
  rw [lastD hlen, ← el, Nat.zero_add] at c1
  have z1 := rd_sub hsc E.w
  have z2 := rd_sub hsc E.p
  have z4 := rd_sub hsc E.n
  have hcase : (b.length ≤ 1 ∧ ownC m f p b = []) ∨ (1 < b.length ∧ ¬ 0 < gnV m f lst9 p ∧ ownC m f p b = []) ∨ (1 < b.length ∧ 0 < gnV m f lst9 p ∧ ownC m f p b = [b]) := by
    unfold ownC
    rw [← el]
    by_cases h1 : 1 < b.length
    · by_cases h2 : 0 < gnV m f lst9 p
      · exact .inr (.inr ⟨h1, h2, if_pos ⟨h1, h2⟩⟩)
      · exact .inr (.inl ⟨h1, h2, if_neg (fun hh => h2 hh.2)⟩)
    · exact .inl ⟨by omega, if_neg (fun hh => h1 hh.1)⟩
  refine AC_of x_impl_circlesOf_1 rfl fun hB => ?_
  rw [fr0_6]
  rcases hcase with ⟨h1, ho⟩ | ⟨h1, h2, ho⟩ | ⟨h1, h2, ho⟩
  · have d1 : decide ((1 : Int) < (b.length : Int)) = false := decide_eq_false (by omega)
    simp (disch := omega) only [bsW, WOp, WOq, WV, bo, eqN, gdc, gw, bnd, ↓reduceIte, Nat.reduceEqDiff, rsvs, rsv, oneOf, rdN, ne_eq, Nat.reduceAdd, Nat.reduceMul, Nat.reduceLT, reduceCtorEq, Value.cells, setN, Value.oneCell', Nat.reduceLeDiff, undef, fcT, c1, z1, z2, z4, toNat_pred, d1, Nat.mul_one, fset_get, c_impl_circlesOf_1]
    (repeat' (first | ((with_reducible refine gif_split (fun hs_ => ?_) (fun hs_ => ?_)) <;> (have hp_ := hs_; (try simp only [hpL, ne_eq] at hp_); (try simp (disch := omega) only [bsW, WOp, WOq, WV, bo, eqN, gdc, gw, bnd, ↓reduceIte, Nat.reduceEqDiff, rsvs, rsv, oneOf, rdN, ne_eq, Nat.reduceAdd, Nat.reduceMul, Nat.reduceLT, reduceCtorEq, Value.cells, setN, Value.oneCell', Nat.reduceLeDiff, undef, fcT, c1, z1, z2, z4, toNat_pred, d1, Nat.mul_one, fset_get, hs_]))) | ((first | (with_reducible refine newB_i (fun nb_ hb_ => ?_))); (try simp (disch := omega) only [bsW, WOp, WOq, WV, bo, eqN, gdc, gw, bnd, ↓reduceIte, Nat.reduceEqDiff, rsvs, rsv, oneOf, rdN, ne_eq, Nat.reduceAdd, Nat.reduceMul, Nat.reduceLT, reduceCtorEq, Value.cells, setN, Value.oneCell', Nat.reduceLeDiff, undef, fcT, c1, z1, z2, z4, toNat_pred, d1, Nat.mul_one, fset_get])) | (with_reducible refine fun (hBd_ : Bd _ _) => ?_) | ((first | (with_reducible refine @And.intro (Sub _ _) _ ?_ ?_) | ((with_reducible refine @And.intro (Sub _ _ ∧ _) _ ?_ ?_); (with_reducible refine @And.intro (Sub _ _) _ ?_ ?_))); exact sbX) | ((with_reducible refine And.intro ?_ ?_); omega)))
    have hst0 : St Hc H lo nx b3 S (ls ++ ownC m f p b) b c cap := by rw [ho, List.append_nil]; exact ⟨hsc, ⟨ov, hov, hOut⟩, hOwn⟩
    have hfr0 : ∀ d o, S d = true → d ≠ c → H d = some o → H d = some o := fun d o _ _ h => h
    have hx0 : nx ≤ nx := Nat.le_refl _
    refine LpB_rule (fun mm fr H' nx' => ∃ (j : Nat), mm = n - (p + 1) - j + 1 ∧ j ≤ n - (p + 1) ∧ fr 0 = .slice (some ⟨c, 0, none⟩) b.length cap ∧ fr 1 = .pointer (some ⟨b1, 0, none⟩) ∧ fr 2 = .pointer (some ⟨b2, 0, none⟩) ∧ fr 3 = .pointer (some ⟨b3, 0, none⟩) ∧ fr 4 = .pointer (some ⟨b4, 0, none⟩) ∧ fr 5 = .pointer (some ⟨b5, 0, none⟩) ∧ fr 7 = .int .i64 lst9 ∧ fr 8 = .int .i64 ((p + 1 + j : Nat) : Int) ∧ nx ≤ nx' ∧
        St Hc H' lo nx' b3 S (ls ++ (ownC m f p b ++ restC sub m f p b j)) b c cap ∧ ∀ d o, S d = true → d ≠ c → H d = some o → H' d = some o) ?_ ?_ (n - (p + 1) + 1) ?_
    · rintro mm K hK fr H' nx' hB' ⟨j, hmm, hj, f0, f1, f2, f3, f4, f5, f7, f8, hx, hst, hfr⟩
      obtain ⟨k, hk⟩ : ∃ k, k = p + 1 + j := ⟨_, rfl⟩
      rw [← hk] at f8
      obtain ⟨hsc2, ⟨ov2, hov2, hOut2⟩, hOwn2⟩ := hst
      have y1 := rd_sub hsc2 E.w
      have y4 := rd_sub hsc2 E.n
      have hRb2 := (OwnR.at0c hOwn2).2
      by_cases hkn : k < n
      case neg =>
        have d1 : decide ((k : Int) < (n : Int)) = false := decide_eq_false (by omega)
        simp (disch := omega) only [bsW, WOp, WOq, WV, bo, eqN, gdc, gw, bnd, ↓reduceIte, Nat.reduceEqDiff, rsvs, rsv, oneOf, rdN, ne_eq, Nat.reduceAdd, Nat.reduceMul, Nat.reduceLT, reduceCtorEq, Value.cells, setN, Value.oneCell', Nat.reduceLeDiff, undef, fcT, f0, f1, f2, f3, f4, f5, f7, f8, y1, y4, d1]
        (repeat' (first | ((with_reducible refine gif_split (fun hs_ => ?_) (fun hs_ => ?_)) <;> (have hp_ := hs_; (try simp only [hpL, ne_eq] at hp_); (try simp (disch := omega) only [bsW, WOp, WOq, WV, bo, eqN, gdc, gw, bnd, ↓reduceIte, Nat.reduceEqDiff, rsvs, rsv, oneOf, rdN, ne_eq, Nat.reduceAdd, Nat.reduceMul, Nat.reduceLT, reduceCtorEq, Value.cells, setN, Value.oneCell', Nat.reduceLeDiff, undef, fcT, f0, f1, f2, f3, f4, f5, f7, f8, y1, y4, d1, hs_]))) | ((first | (with_reducible refine newB_i (fun nb_ hb_ => ?_))); (try simp (disch := omega) only [bsW, WOp, WOq, WV, bo, eqN, gdc, gw, bnd, ↓reduceIte, Nat.reduceEqDiff, rsvs, rsv, oneOf, rdN, ne_eq, Nat.reduceAdd, Nat.reduceMul, Nat.reduceLT, reduceCtorEq, Value.cells, setN, Value.oneCell', Nat.reduceLeDiff, undef, fcT, f0, f1, f2, f3, f4, f5, f7, f8, y1, y4, d1])) | (with_reducible refine fun (hBd_ : Bd _ _) => ?_) | ((first | (with_reducible refine @And.intro (Sub _ _) _ ?_ ?_) | ((with_reducible refine @And.intro (Sub _ _ ∧ _) _ ?_ ?_); (with_reducible refine @And.intro (Sub _ _) _ ?_ ?_))); exact sbX) | ((with_reducible refine And.intro ?_ ?_); omega)))
        have hjn : j = n - (p + 1) := by omega
        subst hjn
        exact ⟨⟨hsc2, ⟨ov2, hov2, hOut2⟩, hOwn2⟩, hfr⟩
      have d1 : decide ((k : Int) < (n : Int)) = true := decide_eq_true (by omega)
      have hnext : restC sub m f p b (j + 1) = restC sub m f p b j ++ if cand m f b k = true then sub (b ++ [(k : Int)]) else [] := by
        simp only [restC, ← hk]
      by_cases hc : cand m f b k = true
      case neg =>
        rw [if_neg hc, List.append_nil] at hnext
        rcases Decidable.em ((k : Int) ∈ b) with hin | hin
        · have d3 : decide ((k : Int) ∈ b) = true := decide_eq_true hin
          simp (disch := omega) only [bsW, WOp, WOq, WV, bo, eqN, gdc, gw, bnd, ↓reduceIte, Nat.reduceEqDiff, rsvs, rsv, oneOf, rdN, ne_eq, Nat.reduceAdd, Nat.reduceMul, Nat.reduceLT, reduceCtorEq, Value.cells, setN, Value.oneCell', Nat.reduceLeDiff, undef, fcT, f0, f1, f2, f3, f4, f5, f7, f8, y1, y4, d1, d3]
          (repeat' (first | ((with_reducible refine gif_split (fun hs_ => ?_) (fun hs_ => ?_)) <;> (have hp_ := hs_; (try simp only [hpL, ne_eq] at hp_); (try simp (disch := omega) only [bsW, WOp, WOq, WV, bo, eqN, gdc, gw, bnd, ↓reduceIte, Nat.reduceEqDiff, rsvs, rsv, oneOf, rdN, ne_eq, Nat.reduceAdd, Nat.reduceMul, Nat.reduceLT, reduceCtorEq, Value.cells, setN, Value.oneCell', Nat.reduceLeDiff, undef, fcT, f0, f1, f2, f3, f4, f5, f7, f8, y1, y4, d1, d3, hs_]))) | ((first | (with_reducible refine newB_i (fun nb_ hb_ => ?_)) | ((with_reducible show QC _ _ _ _ _ _); (first | (refine QC_i (hasI _ b _ _ _ _ _ rfl (by omega) hRb2) ?_))) | ((with_reducible show AC _ _ _ _ _ _); (first | (refine PC.ac (hasI _ b _ _ _ _ _ rfl (by omega) hRb2) ?_)))); (try simp (disch := omega) only [bsW, WOp, WOq, WV, bo, eqN, gdc, gw, bnd, ↓reduceIte, Nat.reduceEqDiff, rsvs, rsv, oneOf, rdN, ne_eq, Nat.reduceAdd, Nat.reduceMul, Nat.reduceLT, reduceCtorEq, Value.cells, setN, Value.oneCell', Nat.reduceLeDiff, undef, fcT, f0, f1, f2, f3, f4, f5, f7, f8, y1, y4, d1, d3])) | (with_reducible refine fun (hBd_ : Bd _ _) => ?_) | ((first | (with_reducible refine @And.intro (Sub _ _) _ ?_ ?_) | ((with_reducible refine @And.intro (Sub _ _ ∧ _) _ ?_ ?_); (with_reducible refine @And.intro (Sub _ _) _ ?_ ?_))); exact sbX) | ((with_reducible refine And.intro ?_ ?_); omega)))
          refine hK _ _ _ ?_
          exact ⟨j + 1, by omega, by omega, by simp (disch := omega) only [bsW, ↓reduceIte, Nat.reduceEqDiff, ne_eq, reduceCtorEq, fcT, f0, f1, f2, f3, f4, f5, f7, f8, y1, y4, d1, d3], by simp (disch := omega) only [bsW, ↓reduceIte, Nat.reduceEqDiff, ne_eq, reduceCtorEq, fcT, f0, f1, f2, f3, f4, f5, f7, f8, y1, y4, d1, d3], by simp (disch := omega) only [bsW, ↓reduceIte, Nat.reduceEqDiff, ne_eq, reduceCtorEq, fcT, f0, f1, f2, f3, f4, f5, f7, f8, y1, y4, d1, d3], by simp (disch := omega) only [bsW, ↓reduceIte, Nat.reduceEqDiff, ne_eq, reduceCtorEq, fcT, f0, f1, f2, f3, f4, f5, f7, f8, y1, y4, d1, d3], by simp (disch := omega) only [bsW, ↓reduceIte, Nat.reduceEqDiff, ne_eq, reduceCtorEq, fcT, f0, f1, f2, f3, f4, f5, f7, f8, y1, y4, d1, d3], by simp (disch := omega) only [bsW, ↓reduceIte, Nat.reduceEqDiff, ne_eq, reduceCtorEq, fcT, f0, f1, f2, f3, f4, f5, f7, f8, y1, y4, d1, d3], by simp (disch := omega) only [bsW, ↓reduceIte, Nat.reduceEqDiff, ne_eq, reduceCtorEq, fcT, f0, f1, f2, f3, f4, f5, f7, f8, y1, y4, d1, d3], by (simp (disch := omega) only [bsW, ↓reduceIte, Nat.reduceEqDiff, ne_eq, reduceCtorEq, fcT, f0, f1, f2, f3, f4, f5, f7, f8, y1, y4, d1, d3]) <;> exact vi (by omega), hx, by rw [hnext]; exact ⟨hsc2, ⟨ov2, hov2, hOut2⟩, hOwn2⟩, hfr⟩
        · have hg : ¬ 0 < gnV m f lst9 k := fun hg => hc (cand_iff.2 ⟨hin, by rw [← el]; exact hg⟩)
          have d3 : decide ((k : Int) ∈ b) = false := decide_eq_false hin
          have d4 : decide ((0 : Int) < gnV m f lst9 k) = false := decide_eq_false hg
          simp (disch := omega) only [bsW, WOp, WOq, WV, bo, eqN, gdc, gw, bnd, ↓reduceIte, Nat.reduceEqDiff, rsvs, rsv, oneOf, rdN, ne_eq, Nat.reduceAdd, Nat.reduceMul, Nat.reduceLT, reduceCtorEq, Value.cells, setN, Value.oneCell', Nat.reduceLeDiff, undef, fcT, f0, f1, f2, f3, f4, f5, f7, f8, y1, y4, d1, d3, d4]
          (repeat' (first | ((with_reducible refine gif_split (fun hs_ => ?_) (fun hs_ => ?_)) <;> (have hp_ := hs_; (try simp only [hpL, ne_eq] at hp_); (try simp (disch := omega) only [bsW, WOp, WOq, WV, bo, eqN, gdc, gw, bnd, ↓reduceIte, Nat.reduceEqDiff, rsvs, rsv, oneOf, rdN, ne_eq, Nat.reduceAdd, Nat.reduceMul, Nat.reduceLT, reduceCtorEq, Value.cells, setN, Value.oneCell', Nat.reduceLeDiff, undef, fcT, f0, f1, f2, f3, f4, f5, f7, f8, y1, y4, d1, d3, d4, hs_]))) | ((first | (with_reducible refine newB_i (fun nb_ hb_ => ?_)) | ((with_reducible show QC _ _ _ _ _ _); (first | (refine QC_i (hasI _ b _ _ _ _ _ rfl (by omega) hRb2) ?_) | (refine QC_i (gainBetween _ _ _ _ _ _ _ _ (by omega) (E.rw_.sub hsc2)) ?_))) | ((with_reducible show AC _ _ _ _ _ _); (first | (refine PC.ac (hasI _ b _ _ _ _ _ rfl (by omega) hRb2) ?_) | (refine PC.ac (gainBetween _ _ _ _ _ _ _ _ (by omega) (E.rw_.sub hsc2)) ?_)))); (try simp (disch := omega) only [bsW, WOp, WOq, WV, bo, eqN, gdc, gw, bnd, ↓reduceIte, Nat.reduceEqDiff, rsvs, rsv, oneOf, rdN, ne_eq, Nat.reduceAdd, Nat.reduceMul, Nat.reduceLT, reduceCtorEq, Value.cells, setN, Value.oneCell', Nat.reduceLeDiff, undef, fcT, f0, f1, f2, f3, f4, f5, f7, f8, y1, y4, d1, d3, d4])) | (with_reducible refine fun (hBd_ : Bd _ _) => ?_) | ((first | (with_reducible refine @And.intro (Sub _ _) _ ?_ ?_) | ((with_reducible refine @And.intro (Sub _ _ ∧ _) _ ?_ ?_); (with_reducible refine @And.intro (Sub _ _) _ ?_ ?_))); exact sbX) | ((with_reducible refine And.intro ?_ ?_); omega)))
          refine hK _ _ _ ?_
          exact ⟨j + 1, by omega, by omega, by simp (disch := omega) only [bsW, ↓reduceIte, Nat.reduceEqDiff, ne_eq, reduceCtorEq, fcT, f0, f1, f2, f3, f4, f5, f7, f8, y1, y4, d1, d3, d4], by simp (disch := omega) only [bsW, ↓reduceIte, Nat.reduceEqDiff, ne_eq, reduceCtorEq, fcT, f0, f1, f2, f3, f4, f5, f7, f8, y1, y4, d1, d3, d4], by simp (disch := omega) only [bsW, ↓reduceIte, Nat.reduceEqDiff, ne_eq, reduceCtorEq, fcT, f0, f1, f2, f3, f4, f5, f7, f8, y1, y4, d1, d3, d4], by simp (disch := omega) only [bsW, ↓reduceIte, Nat.reduceEqDiff, ne_eq, reduceCtorEq, fcT, f0, f1, f2, f3, f4, f5, f7, f8, y1, y4, d1, d3, d4], by simp (disch := omega) only [bsW, ↓reduceIte, Nat.reduceEqDiff, ne_eq, reduceCtorEq, fcT, f0, f1, f2, f3, f4, f5, f7, f8, y1, y4, d1, d3, d4], by simp (disch := omega) only [bsW, ↓reduceIte, Nat.reduceEqDiff, ne_eq, reduceCtorEq, fcT, f0, f1, f2, f3, f4, f5, f7, f8, y1, y4, d1, d3, d4], by simp (disch := omega) only [bsW, ↓reduceIte, Nat.reduceEqDiff, ne_eq, reduceCtorEq, fcT, f0, f1, f2, f3, f4, f5, f7, f8, y1, y4, d1, d3, d4], by (simp (disch := omega) only [bsW, ↓reduceIte, Nat.reduceEqDiff, ne_eq, reduceCtorEq, fcT, f0, f1, f2, f3, f4, f5, f7, f8, y1, y4, d1, d3, d4]) <;> exact vi (by omega), hx, by rw [hnext]; exact ⟨hsc2, ⟨ov2, hov2, hOut2⟩, hOwn2⟩, hfr⟩
      rw [if_pos hc] at hnext
      obtain ⟨hin, hg⟩ := cand_not hc
      rw [← el] at hg
      have hnl : (ls ++ (ownC m f p b ++ restC sub m f p b j)).length + (sub (b ++ [(k : Int)])).length ≤ 4000000 := by
        have := restC_mono (sub := sub) (m := m) (f := f) (p := p) (b := b) (j := j + 1) (n - (p + 1) - (j + 1))
        rw [show j + 1 + (n - (p + 1) - (j + 1)) = n - (p + 1) by omega, hnext, List.length_append] at this
        simp only [List.length_append] at hT ⊢
        omega
      have d3 : decide ((k : Int) ∈ b) = false := decide_eq_false hin
      have d4 : decide ((0 : Int) < gnV m f lst9 k) = true := decide_eq_true hg
      simp (disch := omega) only [bsW, WOp, WOq, WV, bo, eqN, gdc, gw, bnd, ↓reduceIte, Nat.reduceEqDiff, rsvs, rsv, oneOf, rdN, ne_eq, Nat.reduceAdd, Nat.reduceMul, Nat.reduceLT, reduceCtorEq, Value.cells, setN, Value.oneCell', Nat.reduceLeDiff, undef, fcT, f0, f1, f2, f3, f4, f5, f7, f8, y1, y4, d1, d3, d4]
      (repeat' (first | ((with_reducible refine gif_split (fun hs_ => ?_) (fun hs_ => ?_)) <;> (have hp_ := hs_; (try simp only [hpL, ne_eq] at hp_); (try simp (disch := omega) only [bsW, WOp, WOq, WV, bo, eqN, gdc, gw, bnd, ↓reduceIte, Nat.reduceEqDiff, rsvs, rsv, oneOf, rdN, ne_eq, Nat.reduceAdd, Nat.reduceMul, Nat.reduceLT, reduceCtorEq, Value.cells, setN, Value.oneCell', Nat.reduceLeDiff, undef, fcT, f0, f1, f2, f3, f4, f5, f7, f8, y1, y4, d1, d3, d4, hs_]))) | ((first | (with_reducible refine newB_i (fun nb_ hb_ => ?_)) | ((with_reducible show QC _ _ _ _ _ _); (first | (refine QC_i (hasI _ b _ _ _ _ _ rfl (by omega) hRb2) ?_) | (refine QC_i (gainBetween _ _ _ _ _ _ _ _ (by omega) (E.rw_.sub hsc2)) ?_))) | ((with_reducible show AC _ _ _ _ _ _); (first | (refine PC.ac (hasI _ b _ _ _ _ _ rfl (by omega) hRb2) ?_) | (refine PC.ac (gainBetween _ _ _ _ _ _ _ _ (by omega) (E.rw_.sub hsc2)) ?_)))); (try simp (disch := omega) only [bsW, WOp, WOq, WV, bo, eqN, gdc, gw, bnd, ↓reduceIte, Nat.reduceEqDiff, rsvs, rsv, oneOf, rdN, ne_eq, Nat.reduceAdd, Nat.reduceMul, Nat.reduceLT, reduceCtorEq, Value.cells, setN, Value.oneCell', Nat.reduceLeDiff, undef, fcT, f0, f1, f2, f3, f4, f5, f7, f8, y1, y4, d1, d3, d4])) | (with_reducible refine fun (hBd_ : Bd _ _) => ?_) | ((first | (with_reducible refine @And.intro (Sub _ _) _ ?_ ?_) | ((with_reducible refine @And.intro (Sub _ _ ∧ _) _ ?_ ?_); (with_reducible refine @And.intro (Sub _ _) _ ?_ ?_))); exact sbX) | ((with_reducible refine And.intro ?_ ?_); omega)))
      refine RgE_w hsc2 (fun _ => ?_)
      have y5 := E.cl
      simp only [PT] at y5 hsub
      simp (disch := omega) only [bsW, WOp, WOq, WV, bo, eqN, gdc, gw, bnd, ↓reduceIte, Nat.reduceEqDiff, rsvs, rsv, oneOf, rdN, ne_eq, Nat.reduceAdd, Nat.reduceMul, Nat.reduceLT, reduceCtorEq, Value.cells, setN, Value.oneCell', Nat.reduceLeDiff, undef, fcT, f0, f1, f2, f3, f4, f5, f7, f8, y5, qaF, qsF]
      refine newB_i fun nb hnb => ?_
      simp (disch := omega) only [bsW, WOp, WOq, WV, bo, eqN, gdc, gw, bnd, ↓reduceIte, Nat.reduceEqDiff, rsvs, rsv, oneOf, rdN, ne_eq, Nat.reduceAdd, Nat.reduceMul, Nat.reduceLT, reduceCtorEq, Value.cells, setN, Value.oneCell', Nat.reduceLeDiff, undef, fcT, f0, f1, f2, f3, f4, f5, f7, f8, y5, qaF, qsF]
      have hsn : Sub Hc (upd H' nb (.rw [.int .i64 (k : Int)] 3)) := sub_up2 (E.bd.mono (show lo ≤ nx' by omega)) hsc2 hnb
      refine ⟨hsn, ?_⟩
      refine app_oneC (by simp (disch := omega) only [bsW, WOp, WOq, WV, bo, eqN, gdc, gw, bnd, ↓reduceIte, Nat.reduceEqDiff, rsvs, rsv, oneOf, rdN, ne_eq, Nat.reduceAdd, Nat.reduceMul, Nat.reduceLT, reduceCtorEq, Value.cells, setN, Value.oneCell', Nat.reduceLeDiff, undef, fcT, f0, f1, f2, f3, f4, f5, f7, f8, y5, qaF, qsF]) (by simp (disch := omega) only [bsW, WOp, WOq, WV, bo, eqN, gdc, gw, bnd, ↓reduceIte, Nat.reduceEqDiff, rsvs, rsv, oneOf, rdN, ne_eq, Nat.reduceAdd, Nat.reduceMul, Nat.reduceLT, reduceCtorEq, Value.cells, setN, Value.oneCell', Nat.reduceLeDiff, undef, fcT, f0, f1, f2, f3, f4, f5, f7, f8, y5, qaF, qsF]) (by simp (disch := omega) only [bsW, WOp, WOq, WV, bo, eqN, gdc, gw, bnd, ↓reduceIte, Nat.reduceEqDiff, rsvs, rsv, oneOf, rdN, ne_eq, Nat.reduceAdd, Nat.reduceMul, Nat.reduceLT, reduceCtorEq, Value.cells, setN, Value.oneCell', Nat.reduceLeDiff, undef, fcT, f0, f1, f2, f3, f4, f5, f7, f8, y5, qaF, qsF]) (by simp (disch := omega) only [bsW, WOp, WOq, WV, bo, eqN, gdc, gw, bnd, ↓reduceIte, Nat.reduceEqDiff, rsvs, rsv, oneOf, rdN, ne_eq, Nat.reduceAdd, Nat.reduceMul, Nat.reduceLT, reduceCtorEq, Value.cells, setN, Value.oneCell', Nat.reduceLeDiff, undef, fcT, f0, f1, f2, f3, f4, f5, f7, f8, y5, qaF, qsF]) (OwnR.hiI (OwnR.subI hOwn2 (sub_new hB' hnb)) (by omega)) (upd_same _ _ _) (by omega) (by omega) ?_
      rintro c2 cap2 o2 nx2 hc2 hn2 hlt2 hO2
      have hlo2 : lo ≤ c2 := (OwnR.blk hO2 rfl).1
      have hcS := hS c hSc
      have e9 : (b ++ [(k : Int)]).length = b.length + 1 := by simp
      have hH2 : ∀ d o, d ≠ nb → d ≠ c2 → H' d = some o → (upd (upd H' nb (.rw [.int .i64 (k : Int)] 3)) c2 o2) d = some o := fun d o h5 h6 h7 => by rw [upd_ne h6, upd_ne h5]; exact h7
      have hsc4 : Sub Hc (upd (upd H' nb (.rw [.int .i64 (k : Int)] 3)) c2 o2) := fun d o e => by
        have h5 := E.bd d o e
        exact hH2 d o (by omega) (by omega) (hsc2 _ _ e)
      generalize (upd (upd H' nb (.rw [.int .i64 (k : Int)] 3)) c2 o2) = H2 at *
      have hst2 : St Hc H2 lo nx2 b3 (fun d => S d || d == c2) (ls ++ (ownC m f p b ++ restC sub m f p b j)) (b ++ [(k : Int)]) c2 cap2 := by
        refine ⟨hsc4, ⟨ov2, hH2 b3 _ (by omega) (by omega) hov2, ?_⟩, by rw [e9]; exact hO2⟩
        refine (hOut2.subI (fun d o e => ?_)).wide (Nat.le_refl _) (by omega)
        obtain ⟨h5, h6⟩ := hide_some e
        have h7 := hB' d o h6
        have h8 : d ≠ c2 := fun e8 => by
          rcases hc2 with ⟨h9, _⟩ | h9
          · rw [e8, h9, hSc] at h5; cases h5
          · omega
        rw [hide_at (by simp [h5, h8])]
        exact hH2 d o (by omega) h8 h6
      have hcall := hsub k (by omega) hkn hc _ (fun d => S d || d == c2) c2 cap2 H2 nx2 (by omega) (by simp) (fun d hd => by
        rw [Bool.or_eq_true] at hd
        rcases hd with hd | hd
        · have := hS d hd; omega
        · have : d = c2 := by simpa using hd
          omega) hnl hst2
      rw [e9] at hcall
      simp (disch := omega) only [bsW, WOp, WOq, WV, bo, eqN, gdc, gw, bnd, ↓reduceIte, Nat.reduceEqDiff, rsvs, rsv, oneOf, rdN, ne_eq, Nat.reduceAdd, Nat.reduceMul, Nat.reduceLT, reduceCtorEq, Value.cells, setN, Value.oneCell', Nat.reduceLeDiff, undef, fcT, f0, f1, f2, f3, f4, f5, f7, f8, y5, qaF, qsF]
      refine ⟨hsc4, ?_⟩
      refine hcall.monoC ?_
      rintro v3 H3 nx3 hB3 hx3 ⟨⟨hsc3, ⟨ov3, hov3, hOut3⟩, hOwn3⟩, hfr3⟩
      simp (disch := omega) only [bsW, WOp, WOq, WV, bo, eqN, gdc, gw, bnd, ↓reduceIte, Nat.reduceEqDiff, rsvs, rsv, oneOf, rdN, ne_eq, Nat.reduceAdd, Nat.reduceMul, Nat.reduceLT, reduceCtorEq, Value.cells, setN, Value.oneCell', Nat.reduceLeDiff, undef, fcT, f0, f1, f2, f3, f4, f5, f7, f8]
      refine hK _ _ _ ?_
      refine ⟨j + 1, by omega, by omega, by simp (disch := omega) only [bsW, ↓reduceIte, Nat.reduceEqDiff, ne_eq, reduceCtorEq, fcT, f0, f1, f2, f3, f4, f5, f7, f8], by simp (disch := omega) only [bsW, ↓reduceIte, Nat.reduceEqDiff, ne_eq, reduceCtorEq, fcT, f0, f1, f2, f3, f4, f5, f7, f8], by simp (disch := omega) only [bsW, ↓reduceIte, Nat.reduceEqDiff, ne_eq, reduceCtorEq, fcT, f0, f1, f2, f3, f4, f5, f7, f8], by simp (disch := omega) only [bsW, ↓reduceIte, Nat.reduceEqDiff, ne_eq, reduceCtorEq, fcT, f0, f1, f2, f3, f4, f5, f7, f8], by simp (disch := omega) only [bsW, ↓reduceIte, Nat.reduceEqDiff, ne_eq, reduceCtorEq, fcT, f0, f1, f2, f3, f4, f5, f7, f8], by simp (disch := omega) only [bsW, ↓reduceIte, Nat.reduceEqDiff, ne_eq, reduceCtorEq, fcT, f0, f1, f2, f3, f4, f5, f7, f8], by simp (disch := omega) only [bsW, ↓reduceIte, Nat.reduceEqDiff, ne_eq, reduceCtorEq, fcT, f0, f1, f2, f3, f4, f5, f7, f8], by (simp (disch := omega) only [bsW, ↓reduceIte, Nat.reduceEqDiff, ne_eq, reduceCtorEq, fcT, f0, f1, f2, f3, f4, f5, f7, f8]) <;> exact vi (by omega), by omega, ⟨hsc3, ⟨ov3, hov3, ?_⟩, ?_⟩, fun d o h5 h6 e => ?_⟩
      · rw [hnext, ← List.append_assoc (ownC m f p b), ← List.append_assoc ls]
        refine hOut3.subI (fun d o e => ?_)
        obtain ⟨h5, h6⟩ := hide_some e
        rw [Bool.or_eq_false_iff] at h5
        rw [hide_at h5.1]
        exact h6
      · rcases hc2 with ⟨h9, h10⟩ | h9
        · subst h9 h10
          rw [e9] at hOwn3
          exact OwnL.pre hOwn3
        · exact OwnR.own_sub (OwnR.hiI hOwn2 (by omega)) (fun o e => hfr3 c o (by simp [hSc]) (by omega) (hH2 c o (by omega) (by omega) e))
      · have h7 := hS d h5
        have h8 : d ≠ c2 := fun e8 => by
          rcases hc2 with ⟨h9, _⟩ | h9
          · exact h6 (by rw [e8, h9])
          · omega
        exact hfr3 d o (by simp [h5]) h8 (hH2 d o (by omega) h8 (hfr d o h5 h6 e))
    · rintro fr H' nx' ⟨j, hmm, _⟩; omega
    · exact ⟨0, by omega, by omega, by simp (disch := omega) only [bsW, ↓reduceIte, Nat.reduceEqDiff, ne_eq, reduceCtorEq, fcT], by simp (disch := omega) only [bsW, ↓reduceIte, Nat.reduceEqDiff, ne_eq, reduceCtorEq, fcT], by simp (disch := omega) only [bsW, ↓reduceIte, Nat.reduceEqDiff, ne_eq, reduceCtorEq, fcT], by simp (disch := omega) only [bsW, ↓reduceIte, Nat.reduceEqDiff, ne_eq, reduceCtorEq, fcT], by simp (disch := omega) only [bsW, ↓reduceIte, Nat.reduceEqDiff, ne_eq, reduceCtorEq, fcT], by simp (disch := omega) only [bsW, ↓reduceIte, Nat.reduceEqDiff, ne_eq, reduceCtorEq, fcT], by simp (disch := omega) only [bsW, ↓reduceIte, Nat.reduceEqDiff, ne_eq, reduceCtorEq, fcT], by (simp (disch := omega) only [bsW, ↓reduceIte, Nat.reduceEqDiff, ne_eq, reduceCtorEq, fcT]) <;> exact vi (by omega), hx0, by rw [show restC sub m f p b 0 = [] from rfl, List.append_nil]; exact hst0, hfr0⟩
  · have d1 : decide ((1 : Int) < (b.length : Int)) = true := decide_eq_true (by omega)
    have d2 : decide ((0 : Int) < gnV m f lst9 p) = false := decide_eq_false h2
    simp (disch := omega) only [bsW, WOp, WOq, WV, bo, eqN, gdc, gw, bnd, ↓reduceIte, Nat.reduceEqDiff, rsvs, rsv, oneOf, rdN, ne_eq, Nat.reduceAdd, Nat.reduceMul, Nat.reduceLT, reduceCtorEq, Value.cells, setN, Value.oneCell', Nat.reduceLeDiff, undef, fcT, c1, z1, z2, z4, toNat_pred, d1, d2, Nat.mul_one, fset_get, c_impl_circlesOf_1]
    (repeat' (first | ((with_reducible refine gif_split (fun hs_ => ?_) (fun hs_ => ?_)) <;> (have hp_ := hs_; (try simp only [hpL, ne_eq] at hp_); (try simp (disch := omega) only [bsW, WOp, WOq, WV, bo, eqN, gdc, gw, bnd, ↓reduceIte, Nat.reduceEqDiff, rsvs, rsv, oneOf, rdN, ne_eq, Nat.reduceAdd, Nat.reduceMul, Nat.reduceLT, reduceCtorEq, Value.cells, setN, Value.oneCell', Nat.reduceLeDiff, undef, fcT, c1, z1, z2, z4, toNat_pred, d1, d2, Nat.mul_one, fset_get, hs_]))) | ((first | (with_reducible refine newB_i (fun nb_ hb_ => ?_)) | ((with_reducible show QC _ _ _ _ _ _); (first | (refine QC_i (gainBetween _ _ _ _ _ _ _ _ (by omega) (E.rw_.sub hsc)) ?_))) | ((with_reducible show AC _ _ _ _ _ _); (first | (refine PC.ac (gainBetween _ _ _ _ _ _ _ _ (by omega) (E.rw_.sub hsc)) ?_)))); (try simp (disch := omega) only [bsW, WOp, WOq, WV, bo, eqN, gdc, gw, bnd, ↓reduceIte, Nat.reduceEqDiff, rsvs, rsv, oneOf, rdN, ne_eq, Nat.reduceAdd, Nat.reduceMul, Nat.reduceLT, reduceCtorEq, Value.cells, setN, Value.oneCell', Nat.reduceLeDiff, undef, fcT, c1, z1, z2, z4, toNat_pred, d1, d2, Nat.mul_one, fset_get])) | (with_reducible refine fun (hBd_ : Bd _ _) => ?_) | ((first | (with_reducible refine @And.intro (Sub _ _) _ ?_ ?_) | ((with_reducible refine @And.intro (Sub _ _ ∧ _) _ ?_ ?_); (with_reducible refine @And.intro (Sub _ _) _ ?_ ?_))); exact sbX) | ((with_reducible refine And.intro ?_ ?_); omega)))
    have hst0 : St Hc H lo nx b3 S (ls ++ ownC m f p b) b c cap := by rw [ho, List.append_nil]; exact ⟨hsc, ⟨ov, hov, hOut⟩, hOwn⟩
    have hfr0 : ∀ d o, S d = true → d ≠ c → H d = some o → H d = some o := fun d o _ _ h => h
    have hx0 : nx ≤ nx := Nat.le_refl _
    refine LpB_rule (fun mm fr H' nx' => ∃ (j : Nat), mm = n - (p + 1) - j + 1 ∧ j ≤ n - (p + 1) ∧ fr 0 = .slice (some ⟨c, 0, none⟩) b.length cap ∧ fr 1 = .pointer (some ⟨b1, 0, none⟩) ∧ fr 2 = .pointer (some ⟨b2, 0, none⟩) ∧ fr 3 = .pointer (some ⟨b3, 0, none⟩) ∧ fr 4 = .pointer (some ⟨b4, 0, none⟩) ∧ fr 5 = .pointer (some ⟨b5, 0, none⟩) ∧ fr 7 = .int .i64 lst9 ∧ fr 8 = .int .i64 ((p + 1 + j : Nat) : Int) ∧ nx ≤ nx' ∧
        St Hc H' lo nx' b3 S (ls ++ (ownC m f p b ++ restC sub m f p b j)) b c cap ∧ ∀ d o, S d = true → d ≠ c → H d = some o → H' d = some o) ?_ ?_ (n - (p + 1) + 1) ?_
    · rintro mm K hK fr H' nx' hB' ⟨j, hmm, hj, f0, f1, f2, f3, f4, f5, f7, f8, hx, hst, hfr⟩
      obtain ⟨k, hk⟩ : ∃ k, k = p + 1 + j := ⟨_, rfl⟩
      rw [← hk] at f8
      obtain ⟨hsc2, ⟨ov2, hov2, hOut2⟩, hOwn2⟩ := hst
      have y1 := rd_sub hsc2 E.w
      have y4 := rd_sub hsc2 E.n
      have hRb2 := (OwnR.at0c hOwn2).2
      by_cases hkn : k < n
      case neg =>
        have d1 : decide ((k : Int) < (n : Int)) = false := decide_eq_false (by omega)
        simp (disch := omega) only [bsW, WOp, WOq, WV, bo, eqN, gdc, gw, bnd, ↓reduceIte, Nat.reduceEqDiff, rsvs, rsv, oneOf, rdN, ne_eq, Nat.reduceAdd, Nat.reduceMul, Nat.reduceLT, reduceCtorEq, Value.cells, setN, Value.oneCell', Nat.reduceLeDiff, undef, fcT, f0, f1, f2, f3, f4, f5, f7, f8, y1, y4, d1]
        (repeat' (first | ((with_reducible refine gif_split (fun hs_ => ?_) (fun hs_ => ?_)) <;> (have hp_ := hs_; (try simp only [hpL, ne_eq] at hp_); (try simp (disch := omega) only [bsW, WOp, WOq, WV, bo, eqN, gdc, gw, bnd, ↓reduceIte, Nat.reduceEqDiff, rsvs, rsv, oneOf, rdN, ne_eq, Nat.reduceAdd, Nat.reduceMul, Nat.reduceLT, reduceCtorEq, Value.cells, setN, Value.oneCell', Nat.reduceLeDiff, undef, fcT, f0, f1, f2, f3, f4, f5, f7, f8, y1, y4, d1, hs_]))) | ((first | (with_reducible refine newB_i (fun nb_ hb_ => ?_))); (try simp (disch := omega) only [bsW, WOp, WOq, WV, bo, eqN, gdc, gw, bnd, ↓reduceIte, Nat.reduceEqDiff, rsvs, rsv, oneOf, rdN, ne_eq, Nat.reduceAdd, Nat.reduceMul, Nat.reduceLT, reduceCtorEq, Value.cells, setN, Value.oneCell', Nat.reduceLeDiff, undef, fcT, f0, f1, f2, f3, f4, f5, f7, f8, y1, y4, d1])) | (with_reducible refine fun (hBd_ : Bd _ _) => ?_) | ((first | (with_reducible refine @And.intro (Sub _ _) _ ?_ ?_) | ((with_reducible refine @And.intro (Sub _ _ ∧ _) _ ?_ ?_); (with_reducible refine @And.intro (Sub _ _) _ ?_ ?_))); exact sbX) | ((with_reducible refine And.intro ?_ ?_); omega)))
        have hjn : j = n - (p + 1) := by omega
        subst hjn
        exact ⟨⟨hsc2, ⟨ov2, hov2, hOut2⟩, hOwn2⟩, hfr⟩
      have d1 : decide ((k : Int) < (n : Int)) = true := decide_eq_true (by omega)
      have hnext : restC sub m f p b (j + 1) = restC sub m f p b j ++ if cand m f b k = true then sub (b ++ [(k : Int)]) else [] := by
        simp only [restC, ← hk]
      by_cases hc : cand m f b k = true
      case neg =>
        rw [if_neg hc, List.append_nil] at hnext
        rcases Decidable.em ((k : Int) ∈ b) with hin | hin
        · have d3 : decide ((k : Int) ∈ b) = true := decide_eq_true hin
          simp (disch := omega) only [bsW, WOp, WOq, WV, bo, eqN, gdc, gw, bnd, ↓reduceIte, Nat.reduceEqDiff, rsvs, rsv, oneOf, rdN, ne_eq, Nat.reduceAdd, Nat.reduceMul, Nat.reduceLT, reduceCtorEq, Value.cells, setN, Value.oneCell', Nat.reduceLeDiff, undef, fcT, f0, f1, f2, f3, f4, f5, f7, f8, y1, y4, d1, d3]
          (repeat' (first | ((with_reducible refine gif_split (fun hs_ => ?_) (fun hs_ => ?_)) <;> (have hp_ := hs_; (try simp only [hpL, ne_eq] at hp_); (try simp (disch := omega) only [bsW, WOp, WOq, WV, bo, eqN, gdc, gw, bnd, ↓reduceIte, Nat.reduceEqDiff, rsvs, rsv, oneOf, rdN, ne_eq, Nat.reduceAdd, Nat.reduceMul, Nat.reduceLT, reduceCtorEq, Value.cells, setN, Value.oneCell', Nat.reduceLeDiff, undef, fcT, f0, f1, f2, f3, f4, f5, f7, f8, y1, y4, d1, d3, hs_]))) | ((first | (with_reducible refine newB_i (fun nb_ hb_ => ?_)) | ((with_reducible show QC _ _ _ _ _ _); (first | (refine QC_i (hasI _ b _ _ _ _ _ rfl (by omega) hRb2) ?_))) | ((with_reducible show AC _ _ _ _ _ _); (first | (refine PC.ac (hasI _ b _ _ _ _ _ rfl (by omega) hRb2) ?_)))); (try simp (disch := omega) only [bsW, WOp, WOq, WV, bo, eqN, gdc, gw, bnd, ↓reduceIte, Nat.reduceEqDiff, rsvs, rsv, oneOf, rdN, ne_eq, Nat.reduceAdd, Nat.reduceMul, Nat.reduceLT, reduceCtorEq, Value.cells, setN, Value.oneCell', Nat.reduceLeDiff, undef, fcT, f0, f1, f2, f3, f4, f5, f7, f8, y1, y4, d1, d3])) | (with_reducible refine fun (hBd_ : Bd _ _) => ?_) | ((first | (with_reducible refine @And.intro (Sub _ _) _ ?_ ?_) | ((with_reducible refine @And.intro (Sub _ _ ∧ _) _ ?_ ?_); (with_reducible refine @And.intro (Sub _ _) _ ?_ ?_))); exact sbX) | ((with_reducible refine And.intro ?_ ?_); omega)))
          refine hK _ _ _ ?_
          exact ⟨j + 1, by omega, by omega, by simp (disch := omega) only [bsW, ↓reduceIte, Nat.reduceEqDiff, ne_eq, reduceCtorEq, fcT, f0, f1, f2, f3, f4, f5, f7, f8, y1, y4, d1, d3], by simp (disch := omega) only [bsW, ↓reduceIte, Nat.reduceEqDiff, ne_eq, reduceCtorEq, fcT, f0, f1, f2, f3, f4, f5, f7, f8, y1, y4, d1, d3], by simp (disch := omega) only [bsW, ↓reduceIte, Nat.reduceEqDiff, ne_eq, reduceCtorEq, fcT, f0, f1, f2, f3, f4, f5, f7, f8, y1, y4, d1, d3], by simp (disch := omega) only [bsW, ↓reduceIte, Nat.reduceEqDiff, ne_eq, reduceCtorEq, fcT, f0, f1, f2, f3, f4, f5, f7, f8, y1, y4, d1, d3], by simp (disch := omega) only [bsW, ↓reduceIte, Nat.reduceEqDiff, ne_eq, reduceCtorEq, fcT, f0, f1, f2, f3, f4, f5, f7, f8, y1, y4, d1, d3], by simp (disch := omega) only [bsW, ↓reduceIte, Nat.reduceEqDiff, ne_eq, reduceCtorEq, fcT, f0, f1, f2, f3, f4, f5, f7, f8, y1, y4, d1, d3], by simp (disch := omega) only [bsW, ↓reduceIte, Nat.reduceEqDiff, ne_eq, reduceCtorEq, fcT, f0, f1, f2, f3, f4, f5, f7, f8, y1, y4, d1, d3], by (simp (disch := omega) only [bsW, ↓reduceIte, Nat.reduceEqDiff, ne_eq, reduceCtorEq, fcT, f0, f1, f2, f3, f4, f5, f7, f8, y1, y4, d1, d3]) <;> exact vi (by omega), hx, by rw [hnext]; exact ⟨hsc2, ⟨ov2, hov2, hOut2⟩, hOwn2⟩, hfr⟩
        · have hg : ¬ 0 < gnV m f lst9 k := fun hg => hc (cand_iff.2 ⟨hin, by rw [← el]; exact hg⟩)
          have d3 : decide ((k : Int) ∈ b) = false := decide_eq_false hin
          have d4 : decide ((0 : Int) < gnV m f lst9 k) = false := decide_eq_false hg
          simp (disch := omega) only [bsW, WOp, WOq, WV, bo, eqN, gdc, gw, bnd, ↓reduceIte, Nat.reduceEqDiff, rsvs, rsv, oneOf, rdN, ne_eq, Nat.reduceAdd, Nat.reduceMul, Nat.reduceLT, reduceCtorEq, Value.cells, setN, Value.oneCell', Nat.reduceLeDiff, undef, fcT, f0, f1, f2, f3, f4, f5, f7, f8, y1, y4, d1, d3, d4]
          (repeat' (first | ((with_reducible refine gif_split (fun hs_ => ?_) (fun hs_ => ?_)) <;> (have hp_ := hs_; (try simp only [hpL, ne_eq] at hp_); (try simp (disch := omega) only [bsW, WOp, WOq, WV, bo, eqN, gdc, gw, bnd, ↓reduceIte, Nat.reduceEqDiff, rsvs, rsv, oneOf, rdN, ne_eq, Nat.reduceAdd, Nat.reduceMul, Nat.reduceLT, reduceCtorEq, Value.cells, setN, Value.oneCell', Nat.reduceLeDiff, undef, fcT, f0, f1, f2, f3, f4, f5, f7, f8, y1, y4, d1, d3, d4, hs_]))) | ((first | (with_reducible refine newB_i (fun nb_ hb_ => ?_)) | ((with_reducible show QC _ _ _ _ _ _); (first | (refine QC_i (hasI _ b _ _ _ _ _ rfl (by omega) hRb2) ?_) | (refine QC_i (gainBetween _ _ _ _ _ _ _ _ (by omega) (E.rw_.sub hsc2)) ?_))) | ((with_reducible show AC _ _ _ _ _ _); (first | (refine PC.ac (hasI _ b _ _ _ _ _ rfl (by omega) hRb2) ?_) | (refine PC.ac (gainBetween _ _ _ _ _ _ _ _ (by omega) (E.rw_.sub hsc2)) ?_)))); (try simp (disch := omega) only [bsW, WOp, WOq, WV, bo, eqN, gdc, gw, bnd, ↓reduceIte, Nat.reduceEqDiff, rsvs, rsv, oneOf, rdN, ne_eq, Nat.reduceAdd, Nat.reduceMul, Nat.reduceLT, reduceCtorEq, Value.cells, setN, Value.oneCell', Nat.reduceLeDiff, undef, fcT, f0, f1, f2, f3, f4, f5, f7, f8, y1, y4, d1, d3, d4])) | (with_reducible refine fun (hBd_ : Bd _ _) => ?_) | ((first | (with_reducible refine @And.intro (Sub _ _) _ ?_ ?_) | ((with_reducible refine @And.intro (Sub _ _ ∧ _) _ ?_ ?_); (with_reducible refine @And.intro (Sub _ _) _ ?_ ?_))); exact sbX) | ((with_reducible refine And.intro ?_ ?_); omega)))
          refine hK _ _ _ ?_
          exact ⟨j + 1, by omega, by omega, by simp (disch := omega) only [bsW, ↓reduceIte, Nat.reduceEqDiff, ne_eq, reduceCtorEq, fcT, f0, f1, f2, f3, f4, f5, f7, f8, y1, y4, d1, d3, d4], by simp (disch := omega) only [bsW, ↓reduceIte, Nat.reduceEqDiff, ne_eq, reduceCtorEq, fcT, f0, f1, f2, f3, f4, f5, f7, f8, y1, y4, d1, d3, d4], by simp (disch := omega) only [bsW, ↓reduceIte, Nat.reduceEqDiff, ne_eq, reduceCtorEq, fcT, f0, f1, f2, f3, f4, f5, f7, f8, y1, y4, d1, d3, d4], by simp (disch := omega) only [bsW, ↓reduceIte, Nat.reduceEqDiff, ne_eq, reduceCtorEq, fcT, f0, f1, f2, f3, f4, f5, f7, f8, y1, y4, d1, d3, d4], by simp (disch := omega) only [bsW, ↓reduceIte, Nat.reduceEqDiff, ne_eq, reduceCtorEq, fcT, f0, f1, f2, f3, f4, f5, f7, f8, y1, y4, d1, d3, d4], by simp (disch := omega) only [bsW, ↓reduceIte, Nat.reduceEqDiff, ne_eq, reduceCtorEq, fcT, f0, f1, f2, f3, f4, f5, f7, f8, y1, y4, d1, d3, d4], by simp (disch := omega) only [bsW, ↓reduceIte, Nat.reduceEqDiff, ne_eq, reduceCtorEq, fcT, f0, f1, f2, f3, f4, f5, f7, f8, y1, y4, d1, d3, d4], by (simp (disch := omega) only [bsW, ↓reduceIte, Nat.reduceEqDiff, ne_eq, reduceCtorEq, fcT, f0, f1, f2, f3, f4, f5, f7, f8, y1, y4, d1, d3, d4]) <;> exact vi (by omega), hx, by rw [hnext]; exact ⟨hsc2, ⟨ov2, hov2, hOut2⟩, hOwn2⟩, hfr⟩
      rw [if_pos hc] at hnext
      obtain ⟨hin, hg⟩ := cand_not hc
      rw [← el] at hg
      have hnl : (ls ++ (ownC m f p b ++ restC sub m f p b j)).length + (sub (b ++ [(k : Int)])).length ≤ 4000000 := by
        have := restC_mono (sub := sub) (m := m) (f := f) (p := p) (b := b) (j := j + 1) (n - (p + 1) - (j + 1))
        rw [show j + 1 + (n - (p + 1) - (j + 1)) = n - (p + 1) by omega, hnext, List.length_append] at this
        simp only [List.length_append] at hT ⊢
        omega
      have d3 : decide ((k : Int) ∈ b) = false := decide_eq_false hin
      have d4 : decide ((0 : Int) < gnV m f lst9 k) = true := decide_eq_true hg
      simp (disch := omega) only [bsW, WOp, WOq, WV, bo, eqN, gdc, gw, bnd, ↓reduceIte, Nat.reduceEqDiff, rsvs, rsv, oneOf, rdN, ne_eq, Nat.reduceAdd, Nat.reduceMul, Nat.reduceLT, reduceCtorEq, Value.cells, setN, Value.oneCell', Nat.reduceLeDiff, undef, fcT, f0, f1, f2, f3, f4, f5, f7, f8, y1, y4, d1, d3, d4]
      (repeat' (first | ((with_reducible refine gif_split (fun hs_ => ?_) (fun hs_ => ?_)) <;> (have hp_ := hs_; (try simp only [hpL, ne_eq] at hp_); (try simp (disch := omega) only [bsW, WOp, WOq, WV, bo, eqN, gdc, gw, bnd, ↓reduceIte, Nat.reduceEqDiff, rsvs, rsv, oneOf, rdN, ne_eq, Nat.reduceAdd, Nat.reduceMul, Nat.reduceLT, reduceCtorEq, Value.cells, setN, Value.oneCell', Nat.reduceLeDiff, undef, fcT, f0, f1, f2, f3, f4, f5, f7, f8, y1, y4, d1, d3, d4, hs_]))) | ((first | (with_reducible refine newB_i (fun nb_ hb_ => ?_)) | ((with_reducible show QC _ _ _ _ _ _); (first | (refine QC_i (hasI _ b _ _ _ _ _ rfl (by omega) hRb2) ?_) | (refine QC_i (gainBetween _ _ _ _ _ _ _ _ (by omega) (E.rw_.sub hsc2)) ?_))) | ((with_reducible show AC _ _ _ _ _ _); (first | (refine PC.ac (hasI _ b _ _ _ _ _ rfl (by omega) hRb2) ?_) | (refine PC.ac (gainBetween _ _ _ _ _ _ _ _ (by omega) (E.rw_.sub hsc2)) ?_)))); (try simp (disch := omega) only [bsW, WOp, WOq, WV, bo, eqN, gdc, gw, bnd, ↓reduceIte, Nat.reduceEqDiff, rsvs, rsv, oneOf, rdN, ne_eq, Nat.reduceAdd, Nat.reduceMul, Nat.reduceLT, reduceCtorEq, Value.cells, setN, Value.oneCell', Nat.reduceLeDiff, undef, fcT, f0, f1, f2, f3, f4, f5, f7, f8, y1, y4, d1, d3, d4])) | (with_reducible refine fun (hBd_ : Bd _ _) => ?_) | ((first | (with_reducible refine @And.intro (Sub _ _) _ ?_ ?_) | ((with_reducible refine @And.intro (Sub _ _ ∧ _) _ ?_ ?_); (with_reducible refine @And.intro (Sub _ _) _ ?_ ?_))); exact sbX) | ((with_reducible refine And.intro ?_ ?_); omega)))
      refine RgE_w hsc2 (fun _ => ?_)
      have y5 := E.cl
      simp only [PT] at y5 hsub
      simp (disch := omega) only [bsW, WOp, WOq, WV, bo, eqN, gdc, gw, bnd, ↓reduceIte, Nat.reduceEqDiff, rsvs, rsv, oneOf, rdN, ne_eq, Nat.reduceAdd, Nat.reduceMul, Nat.reduceLT, reduceCtorEq, Value.cells, setN, Value.oneCell', Nat.reduceLeDiff, undef, fcT, f0, f1, f2, f3, f4, f5, f7, f8, y5, qaF, qsF]
      refine newB_i fun nb hnb => ?_
      simp (disch := omega) only [bsW, WOp, WOq, WV, bo, eqN, gdc, gw, bnd, ↓reduceIte, Nat.reduceEqDiff, rsvs, rsv, oneOf, rdN, ne_eq, Nat.reduceAdd, Nat.reduceMul, Nat.reduceLT, reduceCtorEq, Value.cells, setN, Value.oneCell', Nat.reduceLeDiff, undef, fcT, f0, f1, f2, f3, f4, f5, f7, f8, y5, qaF, qsF]
      have hsn : Sub Hc (upd H' nb (.rw [.int .i64 (k : Int)] 3)) := sub_up2 (E.bd.mono (show lo ≤ nx' by omega)) hsc2 hnb
      refine ⟨hsn, ?_⟩
      refine app_oneC (by simp (disch := omega) only [bsW, WOp, WOq, WV, bo, eqN, gdc, gw, bnd, ↓reduceIte, Nat.reduceEqDiff, rsvs, rsv, oneOf, rdN, ne_eq, Nat.reduceAdd, Nat.reduceMul, Nat.reduceLT, reduceCtorEq, Value.cells, setN, Value.oneCell', Nat.reduceLeDiff, undef, fcT, f0, f1, f2, f3, f4, f5, f7, f8, y5, qaF, qsF]) (by simp (disch := omega) only [bsW, WOp, WOq, WV, bo, eqN, gdc, gw, bnd, ↓reduceIte, Nat.reduceEqDiff, rsvs, rsv, oneOf, rdN, ne_eq, Nat.reduceAdd, Nat.reduceMul, Nat.reduceLT, reduceCtorEq, Value.cells, setN, Value.oneCell', Nat.reduceLeDiff, undef, fcT, f0, f1, f2, f3, f4, f5, f7, f8, y5, qaF, qsF]) (by simp (disch := omega) only [bsW, WOp, WOq, WV, bo, eqN, gdc, gw, bnd, ↓reduceIte, Nat.reduceEqDiff, rsvs, rsv, oneOf, rdN, ne_eq, Nat.reduceAdd, Nat.reduceMul, Nat.reduceLT, reduceCtorEq, Value.cells, setN, Value.oneCell', Nat.reduceLeDiff, undef, fcT, f0, f1, f2, f3, f4, f5, f7, f8, y5, qaF, qsF]) (by simp (disch := omega) only [bsW, WOp, WOq, WV, bo, eqN, gdc, gw, bnd, ↓reduceIte, Nat.reduceEqDiff, rsvs, rsv, oneOf, rdN, ne_eq, Nat.reduceAdd, Nat.reduceMul, Nat.reduceLT, reduceCtorEq, Value.cells, setN, Value.oneCell', Nat.reduceLeDiff, undef, fcT, f0, f1, f2, f3, f4, f5, f7, f8, y5, qaF, qsF]) (OwnR.hiI (OwnR.subI hOwn2 (sub_new hB' hnb)) (by omega)) (upd_same _ _ _) (by omega) (by omega) ?_
      rintro c2 cap2 o2 nx2 hc2 hn2 hlt2 hO2
      have hlo2 : lo ≤ c2 := (OwnR.blk hO2 rfl).1
      have hcS := hS c hSc
      have e9 : (b ++ [(k : Int)]).length = b.length + 1 := by simp
      have hH2 : ∀ d o, d ≠ nb → d ≠ c2 → H' d = some o → (upd (upd H' nb (.rw [.int .i64 (k : Int)] 3)) c2 o2) d = some o := fun d o h5 h6 h7 => by rw [upd_ne h6, upd_ne h5]; exact h7
      have hsc4 : Sub Hc (upd (upd H' nb (.rw [.int .i64 (k : Int)] 3)) c2 o2) := fun d o e => by
        have h5 := E.bd d o e
        exact hH2 d o (by omega) (by omega) (hsc2 _ _ e)
      generalize (upd (upd H' nb (.rw [.int .i64 (k : Int)] 3)) c2 o2) = H2 at *
      have hst2 : St Hc H2 lo nx2 b3 (fun d => S d || d == c2) (ls ++ (ownC m f p b ++ restC sub m f p b j)) (b ++ [(k : Int)]) c2 cap2 := by
        refine ⟨hsc4, ⟨ov2, hH2 b3 _ (by omega) (by omega) hov2, ?_⟩, by rw [e9]; exact hO2⟩
        refine (hOut2.subI (fun d o e => ?_)).wide (Nat.le_refl _) (by omega)
        obtain ⟨h5, h6⟩ := hide_some e
        have h7 := hB' d o h6
        have h8 : d ≠ c2 := fun e8 => by
          rcases hc2 with ⟨h9, _⟩ | h9
          · rw [e8, h9, hSc] at h5; cases h5
          · omega
        rw [hide_at (by simp [h5, h8])]
        exact hH2 d o (by omega) h8 h6
      have hcall := hsub k (by omega) hkn hc _ (fun d => S d || d == c2) c2 cap2 H2 nx2 (by omega) (by simp) (fun d hd => by
        rw [Bool.or_eq_true] at hd
        rcases hd with hd | hd
        · have := hS d hd; omega
        · have : d = c2 := by simpa using hd
          omega) hnl hst2
      rw [e9] at hcall
      simp (disch := omega) only [bsW, WOp, WOq, WV, bo, eqN, gdc, gw, bnd, ↓reduceIte, Nat.reduceEqDiff, rsvs, rsv, oneOf, rdN, ne_eq, Nat.reduceAdd, Nat.reduceMul, Nat.reduceLT, reduceCtorEq, Value.cells, setN, Value.oneCell', Nat.reduceLeDiff, undef, fcT, f0, f1, f2, f3, f4, f5, f7, f8, y5, qaF, qsF]
      refine ⟨hsc4, ?_⟩
      refine hcall.monoC ?_
      rintro v3 H3 nx3 hB3 hx3 ⟨⟨hsc3, ⟨ov3, hov3, hOut3⟩, hOwn3⟩, hfr3⟩
      simp (disch := omega) only [bsW, WOp, WOq, WV, bo, eqN, gdc, gw, bnd, ↓reduceIte, Nat.reduceEqDiff, rsvs, rsv, oneOf, rdN, ne_eq, Nat.reduceAdd, Nat.reduceMul, Nat.reduceLT, reduceCtorEq, Value.cells, setN, Value.oneCell', Nat.reduceLeDiff, undef, fcT, f0, f1, f2, f3, f4, f5, f7, f8]
      refine hK _ _ _ ?_
      refine ⟨j + 1, by omega, by omega, by simp (disch := omega) only [bsW, ↓reduceIte, Nat.reduceEqDiff, ne_eq, reduceCtorEq, fcT, f0, f1, f2, f3, f4, f5, f7, f8], by simp (disch := omega) only [bsW, ↓reduceIte, Nat.reduceEqDiff, ne_eq, reduceCtorEq, fcT, f0, f1, f2, f3, f4, f5, f7, f8], by simp (disch := omega) only [bsW, ↓reduceIte, Nat.reduceEqDiff, ne_eq, reduceCtorEq, fcT, f0, f1, f2, f3, f4, f5, f7, f8], by simp (disch := omega) only [bsW, ↓reduceIte, Nat.reduceEqDiff, ne_eq, reduceCtorEq, fcT, f0, f1, f2, f3, f4, f5, f7, f8], by simp (disch := omega) only [bsW, ↓reduceIte, Nat.reduceEqDiff, ne_eq, reduceCtorEq, fcT, f0, f1, f2, f3, f4, f5, f7, f8], by simp (disch := omega) only [bsW, ↓reduceIte, Nat.reduceEqDiff, ne_eq, reduceCtorEq, fcT, f0, f1, f2, f3, f4, f5, f7, f8], by simp (disch := omega) only [bsW, ↓reduceIte, Nat.reduceEqDiff, ne_eq, reduceCtorEq, fcT, f0, f1, f2, f3, f4, f5, f7, f8], by (simp (disch := omega) only [bsW, ↓reduceIte, Nat.reduceEqDiff, ne_eq, reduceCtorEq, fcT, f0, f1, f2, f3, f4, f5, f7, f8]) <;> exact vi (by omega), by omega, ⟨hsc3, ⟨ov3, hov3, ?_⟩, ?_⟩, fun d o h5 h6 e => ?_⟩
      · rw [hnext, ← List.append_assoc (ownC m f p b), ← List.append_assoc ls]
        refine hOut3.subI (fun d o e => ?_)
        obtain ⟨h5, h6⟩ := hide_some e
        rw [Bool.or_eq_false_iff] at h5
        rw [hide_at h5.1]
        exact h6
      · rcases hc2 with ⟨h9, h10⟩ | h9
        · subst h9 h10
          rw [e9] at hOwn3
          exact OwnL.pre hOwn3
        · exact OwnR.own_sub (OwnR.hiI hOwn2 (by omega)) (fun o e => hfr3 c o (by simp [hSc]) (by omega) (hH2 c o (by omega) (by omega) e))
      · have h7 := hS d h5
        have h8 : d ≠ c2 := fun e8 => by
          rcases hc2 with ⟨h9, _⟩ | h9
          · exact h6 (by rw [e8, h9])
          · omega
        exact hfr3 d o (by simp [h5]) h8 (hH2 d o (by omega) h8 (hfr d o h5 h6 e))
    · rintro fr H' nx' ⟨j, hmm, _⟩; omega
    · exact ⟨0, by omega, by omega, by simp (disch := omega) only [bsW, ↓reduceIte, Nat.reduceEqDiff, ne_eq, reduceCtorEq, fcT], by simp (disch := omega) only [bsW, ↓reduceIte, Nat.reduceEqDiff, ne_eq, reduceCtorEq, fcT], by simp (disch := omega) only [bsW, ↓reduceIte, Nat.reduceEqDiff, ne_eq, reduceCtorEq, fcT], by simp (disch := omega) only [bsW, ↓reduceIte, Nat.reduceEqDiff, ne_eq, reduceCtorEq, fcT], by simp (disch := omega) only [bsW, ↓reduceIte, Nat.reduceEqDiff, ne_eq, reduceCtorEq, fcT], by simp (disch := omega) only [bsW, ↓reduceIte, Nat.reduceEqDiff, ne_eq, reduceCtorEq, fcT], by simp (disch := omega) only [bsW, ↓reduceIte, Nat.reduceEqDiff, ne_eq, reduceCtorEq, fcT], by (simp (disch := omega) only [bsW, ↓reduceIte, Nat.reduceEqDiff, ne_eq, reduceCtorEq, fcT]) <;> exact vi (by omega), hx0, by rw [show restC sub m f p b 0 = [] from rfl, List.append_nil]; exact hst0, hfr0⟩
  · have d1 : decide ((1 : Int) < (b.length : Int)) = true := decide_eq_true (by omega)
    have d2 : decide ((0 : Int) < gnV m f lst9 p) = true := decide_eq_true h2
    simp (disch := omega) only [bsW, WOp, WOq, WV, bo, eqN, gdc, gw, bnd, ↓reduceIte, Nat.reduceEqDiff, rsvs, rsv, oneOf, rdN, ne_eq, Nat.reduceAdd, Nat.reduceMul, Nat.reduceLT, reduceCtorEq, Value.cells, setN, Value.oneCell', Nat.reduceLeDiff, undef, fcT, c1, z1, z2, z4, toNat_pred, d1, d2, Nat.mul_one, fset_get, c_impl_circlesOf_1]
    (repeat' (first | ((with_reducible refine gif_split (fun hs_ => ?_) (fun hs_ => ?_)) <;> (have hp_ := hs_; (try simp only [hpL, ne_eq] at hp_); (try simp (disch := omega) only [bsW, WOp, WOq, WV, bo, eqN, gdc, gw, bnd, ↓reduceIte, Nat.reduceEqDiff, rsvs, rsv, oneOf, rdN, ne_eq, Nat.reduceAdd, Nat.reduceMul, Nat.reduceLT, reduceCtorEq, Value.cells, setN, Value.oneCell', Nat.reduceLeDiff, undef, fcT, c1, z1, z2, z4, toNat_pred, d1, d2, Nat.mul_one, fset_get, hs_]))) | ((first | (with_reducible refine newB_i (fun nb_ hb_ => ?_)) | ((with_reducible show QC _ _ _ _ _ _); (first | (refine QC_i (gainBetween _ _ _ _ _ _ _ _ (by omega) (E.rw_.sub hsc)) ?_))) | ((with_reducible show AC _ _ _ _ _ _); (first | (refine PC.ac (gainBetween _ _ _ _ _ _ _ _ (by omega) (E.rw_.sub hsc)) ?_)))); (try simp (disch := omega) only [bsW, WOp, WOq, WV, bo, eqN, gdc, gw, bnd, ↓reduceIte, Nat.reduceEqDiff, rsvs, rsv, oneOf, rdN, ne_eq, Nat.reduceAdd, Nat.reduceMul, Nat.reduceLT, reduceCtorEq, Value.cells, setN, Value.oneCell', Nat.reduceLeDiff, undef, fcT, c1, z1, z2, z4, toNat_pred, d1, d2, Nat.mul_one, fset_get])) | (with_reducible refine fun (hBd_ : Bd _ _) => ?_) | ((first | (with_reducible refine @And.intro (Sub _ _) _ ?_ ?_) | ((with_reducible refine @And.intro (Sub _ _ ∧ _) _ ?_ ?_); (with_reducible refine @And.intro (Sub _ _) _ ?_ ?_))); exact sbX) | ((with_reducible refine And.intro ?_ ?_); omega)))
    have z3 : rd H b3 0 = some ov := by rw [rd_rw hov]; rfl
    refine RgE_w (Sub.refl _) (fun _ => ?_)
    simp (disch := omega) only [bsW, WOp, WOq, WV, bo, eqN, gdc, gw, bnd, ↓reduceIte, Nat.reduceEqDiff, rsvs, rsv, oneOf, rdN, ne_eq, Nat.reduceAdd, Nat.reduceMul, Nat.reduceLT, reduceCtorEq, Value.cells, setN, Value.oneCell', Nat.reduceLeDiff, undef, fcT, z3]
    refine (cloneN _ b b.length cap H nx rfl (by omega) hRb).monoC ?_
    rintro v1 H1 nx1 hB1 hx1 ⟨hO1, ht1⟩
    obtain ⟨A1, q1, rfl, hq1, hR1⟩ := OwnR.rd hO1
    obtain ⟨bq, oq, rfl, _⟩ := Rd.at_ hR1 hlen
    have hoq : oq = 0 := by
      rcases hO1.ex with ⟨e, _⟩ | ⟨b9, _, _, e, _⟩
      · cases e
      · cases e; rfl
    subst hoq
    have hbq : nx ≤ bq ∧ bq < nx1 := OwnR.blk hO1 rfl
    simp (disch := omega) only [bsW, WOp, WOq, WV, bo, eqN, gdc, gw, bnd, ↓reduceIte, Nat.reduceEqDiff, rsvs, rsv, oneOf, rdN, ne_eq, Nat.reduceAdd, Nat.reduceMul, Nat.reduceLT, reduceCtorEq, Value.cells, setN, Value.oneCell', Nat.reduceLeDiff, undef, fcT, z3]
    (repeat' (first | ((with_reducible refine gif_split (fun hs_ => ?_) (fun hs_ => ?_)) <;> (have hp_ := hs_; (try simp only [hpL, ne_eq] at hp_); (try simp (disch := omega) only [bsW, WOp, WOq, WV, bo, eqN, gdc, gw, bnd, ↓reduceIte, Nat.reduceEqDiff, rsvs, rsv, oneOf, rdN, ne_eq, Nat.reduceAdd, Nat.reduceMul, Nat.reduceLT, reduceCtorEq, Value.cells, setN, Value.oneCell', Nat.reduceLeDiff, undef, fcT, z3, hs_]))) | ((first | (with_reducible refine newB_i (fun nb_ hb_ => ?_))); (try simp (disch := omega) only [bsW, WOp, WOq, WV, bo, eqN, gdc, gw, bnd, ↓reduceIte, Nat.reduceEqDiff, rsvs, rsv, oneOf, rdN, ne_eq, Nat.reduceAdd, Nat.reduceMul, Nat.reduceLT, reduceCtorEq, Value.cells, setN, Value.oneCell', Nat.reduceLeDiff, undef, fcT, z3])) | (with_reducible refine fun (hBd_ : Bd _ _) => ?_) | ((first | (with_reducible refine @And.intro (Sub _ _) _ ?_ ?_) | ((with_reducible refine @And.intro (Sub _ _ ∧ _) _ ?_ ?_); (with_reducible refine @And.intro (Sub _ _) _ ?_ ?_))); exact sbX) | ((with_reducible refine And.intro ?_ ?_); omega)))
    have hsx : Sub H (upd H1 nb_ (.rw [.slice (some ⟨bq, 0, none⟩) b.length q1] 22)) := fun d o e => by
      have := hB d o e
      rw [upd_ne (by omega)]
      exact ht1 _ _ e
    refine appLL_oneS (S := S) (lo := lo) (n1 := nx) (ls := ls) (l := b) (by simp (disch := omega) only [bsW, WOp, WOq, WV, bo, eqN, gdc, gw, bnd, ↓reduceIte, Nat.reduceEqDiff, rsvs, rsv, oneOf, rdN, ne_eq, Nat.reduceAdd, Nat.reduceMul, Nat.reduceLT, reduceCtorEq, Value.cells, setN, Value.oneCell', Nat.reduceLeDiff, undef, fcT, z3]) (by simp (disch := omega) only [bsW, WOp, WOq, WV, bo, eqN, gdc, gw, bnd, ↓reduceIte, Nat.reduceEqDiff, rsvs, rsv, oneOf, rdN, ne_eq, Nat.reduceAdd, Nat.reduceMul, Nat.reduceLT, reduceCtorEq, Value.cells, setN, Value.oneCell', Nat.reduceLeDiff, undef, fcT, z3]) (by simp (disch := omega) only [bsW, WOp, WOq, WV, bo, eqN, gdc, gw, bnd, ↓reduceIte, Nat.reduceEqDiff, rsvs, rsv, oneOf, rdN, ne_eq, Nat.reduceAdd, Nat.reduceMul, Nat.reduceLT, reduceCtorEq, Value.cells, setN, Value.oneCell', Nat.reduceLeDiff, undef, fcT, z3]) ⟨_, qz22, rfl⟩ (fun d hd => by have := hS d hd; omega) (hOut.subI (hide_subS hsx)) (by omega) hlo (OwnR.hiI (OwnR.hidden (OwnR.subI hO1 (sub_new hB1 (by omega))) (fun d hd => by
      cases hd
      cases hsb : S bq with
      | false => rfl
      | true => have := hS bq hsb; omega)) (by omega)) rfl (upd_same _ _ _) (by rw [ho] at hT; simp only [List.length_append, List.length_cons, List.length_nil] at hT; omega) ?_
    rintro v4 H4 nx4 hO4 hk1 hk2 hx4 hBd4 hvb4
    obtain ⟨A4, q4, rfl, hq4, _⟩ := hO4.rd
    have hb34 : H4 b3 = some (.rw [ov] 33) := by
      rw [hk1 b3 h3lo]
      exact hsx _ _ hov
    simp (disch := omega) only [bsW, WOp, WOq, WV, bo, eqN, gdc, gw, bnd, ↓reduceIte, Nat.reduceEqDiff, rsvs, rsv, oneOf, rdN, ne_eq, Nat.reduceAdd, Nat.reduceMul, Nat.reduceLT, reduceCtorEq, Value.cells, setN, Value.oneCell', Nat.reduceLeDiff, undef, fcT, hb34]
    (repeat' (first | ((with_reducible refine gif_split (fun hs_ => ?_) (fun hs_ => ?_)) <;> (have hp_ := hs_; (try simp only [hpL, ne_eq] at hp_); (try simp (disch := omega) only [bsW, WOp, WOq, WV, bo, eqN, gdc, gw, bnd, ↓reduceIte, Nat.reduceEqDiff, rsvs, rsv, oneOf, rdN, ne_eq, Nat.reduceAdd, Nat.reduceMul, Nat.reduceLT, reduceCtorEq, Value.cells, setN, Value.oneCell', Nat.reduceLeDiff, undef, fcT, hb34, hs_]))) | ((first | (with_reducible refine newB_i (fun nb_ hb_ => ?_))); (try simp (disch := omega) only [bsW, WOp, WOq, WV, bo, eqN, gdc, gw, bnd, ↓reduceIte, Nat.reduceEqDiff, rsvs, rsv, oneOf, rdN, ne_eq, Nat.reduceAdd, Nat.reduceMul, Nat.reduceLT, reduceCtorEq, Value.cells, setN, Value.oneCell', Nat.reduceLeDiff, undef, fcT, hb34])) | (with_reducible refine fun (hBd_ : Bd _ _) => ?_) | ((first | (with_reducible refine @And.intro (Sub _ _) _ ?_ ?_) | ((with_reducible refine @And.intro (Sub _ _ ∧ _) _ ?_ ?_); (with_reducible refine @And.intro (Sub _ _) _ ?_ ?_))); exact sbX) | ((with_reducible refine And.intro ?_ ?_); omega)))
    have hst0 : St Hc (upd H4 b3 (.rw [.slice A4 (ls ++ [b]).length q4] 33)) lo nx4 b3 S (ls ++ ownC m f p b) b c cap := by
      rw [ho]
      refine ⟨fun d o e => ?_, ⟨_, upd_same _ _ _, hO4.keepI (fun d h1 h2 => hide_eq (upd_ne (by omega)))⟩, ?_⟩
      · have h5 := E.bd d o e
        have h6 : d ≠ b3 := fun e6 => by rw [e6, E.no3] at e; cases e
        rw [upd_ne h6, hk1 d h5]
        exact hsx _ _ (hsc _ _ e)
      · refine OwnR.own_sub (OwnR.hiI hOwn (by omega)) (fun o e => ?_)
        have h5 := hS c hSc
        rw [upd_ne (by omega), hk2 c (fun e7 => ?_) (by omega)]
        · exact hsx _ _ e
        · obtain ⟨B7, d7, hV7, _, _⟩ := hOut.parts
          have := hV7.vis e7
          rw [hSc] at this
          cases this
    have hfr0 : ∀ d o, S d = true → d ≠ c → H d = some o → (upd H4 b3 (.rw [.slice A4 (ls ++ [b]).length q4] 33)) d = some o := fun d o h5 h6 e => by
      have h7 := hS d h5
      rw [upd_ne (by omega), hk2 d (fun e7 => ?_) (by omega)]
      · exact hsx _ _ e
      · obtain ⟨B7, d7, hV7, _, _⟩ := hOut.parts
        have := hV7.vis e7
        rw [h5] at this
        cases this
    have hx0 : nx ≤ nx4 := by omega
    generalize (upd H4 b3 (.rw [.slice A4 (ls ++ [b]).length q4] 33)) = H0 at *
    generalize nx4 = nx0 at *
    have z2 := rd_sub hst0.sc E.p
    (try (simp (disch := omega) only [bsW, WOp, WOq, WV, bo, eqN, gdc, gw, bnd, ↓reduceIte, Nat.reduceEqDiff, rsvs, rsv, oneOf, rdN, ne_eq, Nat.reduceAdd, Nat.reduceMul, Nat.reduceLT, reduceCtorEq, Value.cells, setN, Value.oneCell', Nat.reduceLeDiff, undef, fcT, z2]))
    (repeat' (first | ((with_reducible refine gif_split (fun hs_ => ?_) (fun hs_ => ?_)) <;> (have hp_ := hs_; (try simp only [hpL, ne_eq] at hp_); (try simp (disch := omega) only [bsW, WOp, WOq, WV, bo, eqN, gdc, gw, bnd, ↓reduceIte, Nat.reduceEqDiff, rsvs, rsv, oneOf, rdN, ne_eq, Nat.reduceAdd, Nat.reduceMul, Nat.reduceLT, reduceCtorEq, Value.cells, setN, Value.oneCell', Nat.reduceLeDiff, undef, fcT, z2, hs_]))) | ((first | (with_reducible refine newB_i (fun nb_ hb_ => ?_))); (try simp (disch := omega) only [bsW, WOp, WOq, WV, bo, eqN, gdc, gw, bnd, ↓reduceIte, Nat.reduceEqDiff, rsvs, rsv, oneOf, rdN, ne_eq, Nat.reduceAdd, Nat.reduceMul, Nat.reduceLT, reduceCtorEq, Value.cells, setN, Value.oneCell', Nat.reduceLeDiff, undef, fcT, z2])) | (with_reducible refine fun (hBd_ : Bd _ _) => ?_) | ((first | (with_reducible refine @And.intro (Sub _ _) _ ?_ ?_) | ((with_reducible refine @And.intro (Sub _ _ ∧ _) _ ?_ ?_); (with_reducible refine @And.intro (Sub _ _) _ ?_ ?_))); exact sbX) | ((with_reducible refine And.intro ?_ ?_); omega)))
    refine LpB_rule (fun mm fr H' nx' => ∃ (j : Nat), mm = n - (p + 1) - j + 1 ∧ j ≤ n - (p + 1) ∧ fr 0 = .slice (some ⟨c, 0, none⟩) b.length cap ∧ fr 1 = .pointer (some ⟨b1, 0, none⟩) ∧ fr 2 = .pointer (some ⟨b2, 0, none⟩) ∧ fr 3 = .pointer (some ⟨b3, 0, none⟩) ∧ fr 4 = .pointer (some ⟨b4, 0, none⟩) ∧ fr 5 = .pointer (some ⟨b5, 0, none⟩) ∧ fr 7 = .int .i64 lst9 ∧ fr 8 = .int .i64 ((p + 1 + j : Nat) : Int) ∧ nx ≤ nx' ∧
        St Hc H' lo nx' b3 S (ls ++ (ownC m f p b ++ restC sub m f p b j)) b c cap ∧ ∀ d o, S d = true → d ≠ c → H d = some o → H' d = some o) ?_ ?_ (n - (p + 1) + 1) ?_
    · rintro mm K hK fr H' nx' hB' ⟨j, hmm, hj, f0, f1, f2, f3, f4, f5, f7, f8, hx, hst, hfr⟩
      obtain ⟨k, hk⟩ : ∃ k, k = p + 1 + j := ⟨_, rfl⟩
      rw [← hk] at f8
      obtain ⟨hsc2, ⟨ov2, hov2, hOut2⟩, hOwn2⟩ := hst
      have y1 := rd_sub hsc2 E.w
      have y4 := rd_sub hsc2 E.n
      have hRb2 := (OwnR.at0c hOwn2).2
      by_cases hkn : k < n
      case neg =>
        have d1 : decide ((k : Int) < (n : Int)) = false := decide_eq_false (by omega)
        simp (disch := omega) only [bsW, WOp, WOq, WV, bo, eqN, gdc, gw, bnd, ↓reduceIte, Nat.reduceEqDiff, rsvs, rsv, oneOf, rdN, ne_eq, Nat.reduceAdd, Nat.reduceMul, Nat.reduceLT, reduceCtorEq, Value.cells, setN, Value.oneCell', Nat.reduceLeDiff, undef, fcT, f0, f1, f2, f3, f4, f5, f7, f8, y1, y4, d1]
        (repeat' (first | ((with_reducible refine gif_split (fun hs_ => ?_) (fun hs_ => ?_)) <;> (have hp_ := hs_; (try simp only [hpL, ne_eq] at hp_); (try simp (disch := omega) only [bsW, WOp, WOq, WV, bo, eqN, gdc, gw, bnd, ↓reduceIte, Nat.reduceEqDiff, rsvs, rsv, oneOf, rdN, ne_eq, Nat.reduceAdd, Nat.reduceMul, Nat.reduceLT, reduceCtorEq, Value.cells, setN, Value.oneCell', Nat.reduceLeDiff, undef, fcT, f0, f1, f2, f3, f4, f5, f7, f8, y1, y4, d1, hs_]))) | ((first | (with_reducible refine newB_i (fun nb_ hb_ => ?_))); (try simp (disch := omega) only [bsW, WOp, WOq, WV, bo, eqN, gdc, gw, bnd, ↓reduceIte, Nat.reduceEqDiff, rsvs, rsv, oneOf, rdN, ne_eq, Nat.reduceAdd, Nat.reduceMul, Nat.reduceLT, reduceCtorEq, Value.cells, setN, Value.oneCell', Nat.reduceLeDiff, undef, fcT, f0, f1, f2, f3, f4, f5, f7, f8, y1, y4, d1])) | (with_reducible refine fun (hBd_ : Bd _ _) => ?_) | ((first | (with_reducible refine @And.intro (Sub _ _) _ ?_ ?_) | ((with_reducible refine @And.intro (Sub _ _ ∧ _) _ ?_ ?_); (with_reducible refine @And.intro (Sub _ _) _ ?_ ?_))); exact sbX) | ((with_reducible refine And.intro ?_ ?_); omega)))
        have hjn : j = n - (p + 1) := by omega
        subst hjn
        exact ⟨⟨hsc2, ⟨ov2, hov2, hOut2⟩, hOwn2⟩, hfr⟩
      have d1 : decide ((k : Int) < (n : Int)) = true := decide_eq_true (by omega)
      have hnext : restC sub m f p b (j + 1) = restC sub m f p b j ++ if cand m f b k = true then sub (b ++ [(k : Int)]) else [] := by
        simp only [restC, ← hk]
      by_cases hc : cand m f b k = true
      case neg =>
        rw [if_neg hc, List.append_nil] at hnext
        rcases Decidable.em ((k : Int) ∈ b) with hin | hin
        · have d3 : decide ((k : Int) ∈ b) = true := decide_eq_true hin
          simp (disch := omega) only [bsW, WOp, WOq, WV, bo, eqN, gdc, gw, bnd, ↓reduceIte, Nat.reduceEqDiff, rsvs, rsv, oneOf, rdN, ne_eq, Nat.reduceAdd, Nat.reduceMul, Nat.reduceLT, reduceCtorEq, Value.cells, setN, Value.oneCell', Nat.reduceLeDiff, undef, fcT, f0, f1, f2, f3, f4, f5, f7, f8, y1, y4, d1, d3]
          (repeat' (first | ((with_reducible refine gif_split (fun hs_ => ?_) (fun hs_ => ?_)) <;> (have hp_ := hs_; (try simp only [hpL, ne_eq] at hp_); (try simp (disch := omega) only [bsW, WOp, WOq, WV, bo, eqN, gdc, gw, bnd, ↓reduceIte, Nat.reduceEqDiff, rsvs, rsv, oneOf, rdN, ne_eq, Nat.reduceAdd, Nat.reduceMul, Nat.reduceLT, reduceCtorEq, Value.cells, setN, Value.oneCell', Nat.reduceLeDiff, undef, fcT, f0, f1, f2, f3, f4, f5, f7, f8, y1, y4, d1, d3, hs_]))) | ((first | (with_reducible refine newB_i (fun nb_ hb_ => ?_)) | ((with_reducible show QC _ _ _ _ _ _); (first | (refine QC_i (hasI _ b _ _ _ _ _ rfl (by omega) hRb2) ?_))) | ((with_reducible show AC _ _ _ _ _ _); (first | (refine PC.ac (hasI _ b _ _ _ _ _ rfl (by omega) hRb2) ?_)))); (try simp (disch := omega) only [bsW, WOp, WOq, WV, bo, eqN, gdc, gw, bnd, ↓reduceIte, Nat.reduceEqDiff, rsvs, rsv, oneOf, rdN, ne_eq, Nat.reduceAdd, Nat.reduceMul, Nat.reduceLT, reduceCtorEq, Value.cells, setN, Value.oneCell', Nat.reduceLeDiff, undef, fcT, f0, f1, f2, f3, f4, f5, f7, f8, y1, y4, d1, d3])) | (with_reducible refine fun (hBd_ : Bd _ _) => ?_) | ((first | (with_reducible refine @And.intro (Sub _ _) _ ?_ ?_) | ((with_reducible refine @And.intro (Sub _ _ ∧ _) _ ?_ ?_); (with_reducible refine @And.intro (Sub _ _) _ ?_ ?_))); exact sbX) | ((with_reducible refine And.intro ?_ ?_); omega)))
          refine hK _ _ _ ?_
          exact ⟨j + 1, by omega, by omega, by simp (disch := omega) only [bsW, ↓reduceIte, Nat.reduceEqDiff, ne_eq, reduceCtorEq, fcT, f0, f1, f2, f3, f4, f5, f7, f8, y1, y4, d1, d3], by simp (disch := omega) only [bsW, ↓reduceIte, Nat.reduceEqDiff, ne_eq, reduceCtorEq, fcT, f0, f1, f2, f3, f4, f5, f7, f8, y1, y4, d1, d3], by simp (disch := omega) only [bsW, ↓reduceIte, Nat.reduceEqDiff, ne_eq, reduceCtorEq, fcT, f0, f1, f2, f3, f4, f5, f7, f8, y1, y4, d1, d3], by simp (disch := omega) only [bsW, ↓reduceIte, Nat.reduceEqDiff, ne_eq, reduceCtorEq, fcT, f0, f1, f2, f3, f4, f5, f7, f8, y1, y4, d1, d3], by simp (disch := omega) only [bsW, ↓reduceIte, Nat.reduceEqDiff, ne_eq, reduceCtorEq, fcT, f0, f1, f2, f3, f4, f5, f7, f8, y1, y4, d1, d3], by simp (disch := omega) only [bsW, ↓reduceIte, Nat.reduceEqDiff, ne_eq, reduceCtorEq, fcT, f0, f1, f2, f3, f4, f5, f7, f8, y1, y4, d1, d3], by simp (disch := omega) only [bsW, ↓reduceIte, Nat.reduceEqDiff, ne_eq, reduceCtorEq, fcT, f0, f1, f2, f3, f4, f5, f7, f8, y1, y4, d1, d3], by (simp (disch := omega) only [bsW, ↓reduceIte, Nat.reduceEqDiff, ne_eq, reduceCtorEq, fcT, f0, f1, f2, f3, f4, f5, f7, f8, y1, y4, d1, d3]) <;> exact vi (by omega), hx, by rw [hnext]; exact ⟨hsc2, ⟨ov2, hov2, hOut2⟩, hOwn2⟩, hfr⟩
        · have hg : ¬ 0 < gnV m f lst9 k := fun hg => hc (cand_iff.2 ⟨hin, by rw [← el]; exact hg⟩)
          have d3 : decide ((k : Int) ∈ b) = false := decide_eq_false hin
          have d4 : decide ((0 : Int) < gnV m f lst9 k) = false := decide_eq_false hg
          simp (disch := omega) only [bsW, WOp, WOq, WV, bo, eqN, gdc, gw, bnd, ↓reduceIte, Nat.reduceEqDiff, rsvs, rsv, oneOf, rdN, ne_eq, Nat.reduceAdd, Nat.reduceMul, Nat.reduceLT, reduceCtorEq, Value.cells, setN, Value.oneCell', Nat.reduceLeDiff, undef, fcT, f0, f1, f2, f3, f4, f5, f7, f8, y1, y4, d1, d3, d4]
          (repeat' (first | ((with_reducible refine gif_split (fun hs_ => ?_) (fun hs_ => ?_)) <;> (have hp_ := hs_; (try simp only [hpL, ne_eq] at hp_); (try simp (disch := omega) only [bsW, WOp, WOq, WV, bo, eqN, gdc, gw, bnd, ↓reduceIte, Nat.reduceEqDiff, rsvs, rsv, oneOf, rdN, ne_eq, Nat.reduceAdd, Nat.reduceMul, Nat.reduceLT, reduceCtorEq, Value.cells, setN, Value.oneCell', Nat.reduceLeDiff, undef, fcT, f0, f1, f2, f3, f4, f5, f7, f8, y1, y4, d1, d3, d4, hs_]))) | ((first | (with_reducible refine newB_i (fun nb_ hb_ => ?_)) | ((with_reducible show QC _ _ _ _ _ _); (first | (refine QC_i (hasI _ b _ _ _ _ _ rfl (by omega) hRb2) ?_) | (refine QC_i (gainBetween _ _ _ _ _ _ _ _ (by omega) (E.rw_.sub hsc2)) ?_))) | ((with_reducible show AC _ _ _ _ _ _); (first | (refine PC.ac (hasI _ b _ _ _ _ _ rfl (by omega) hRb2) ?_) | (refine PC.ac (gainBetween _ _ _ _ _ _ _ _ (by omega) (E.rw_.sub hsc2)) ?_)))); (try simp (disch := omega) only [bsW, WOp, WOq, WV, bo, eqN, gdc, gw, bnd, ↓reduceIte, Nat.reduceEqDiff, rsvs, rsv, oneOf, rdN, ne_eq, Nat.reduceAdd, Nat.reduceMul, Nat.reduceLT, reduceCtorEq, Value.cells, setN, Value.oneCell', Nat.reduceLeDiff, undef, fcT, f0, f1, f2, f3, f4, f5, f7, f8, y1, y4, d1, d3, d4])) | (with_reducible refine fun (hBd_ : Bd _ _) => ?_) | ((first | (with_reducible refine @And.intro (Sub _ _) _ ?_ ?_) | ((with_reducible refine @And.intro (Sub _ _ ∧ _) _ ?_ ?_); (with_reducible refine @And.intro (Sub _ _) _ ?_ ?_))); exact sbX) | ((with_reducible refine And.intro ?_ ?_); omega)))
          refine hK _ _ _ ?_
          exact ⟨j + 1, by omega, by omega, by simp (disch := omega) only [bsW, ↓reduceIte, Nat.reduceEqDiff, ne_eq, reduceCtorEq, fcT, f0, f1, f2, f3, f4, f5, f7, f8, y1, y4, d1, d3, d4], by simp (disch := omega) only [bsW, ↓reduceIte, Nat.reduceEqDiff, ne_eq, reduceCtorEq, fcT, f0, f1, f2, f3, f4, f5, f7, f8, y1, y4, d1, d3, d4], by simp (disch := omega) only [bsW, ↓reduceIte, Nat.reduceEqDiff, ne_eq, reduceCtorEq, fcT, f0, f1, f2, f3, f4, f5, f7, f8, y1, y4, d1, d3, d4], by simp (disch := omega) only [bsW, ↓reduceIte, Nat.reduceEqDiff, ne_eq, reduceCtorEq, fcT, f0, f1, f2, f3, f4, f5, f7, f8, y1, y4, d1, d3, d4], by simp (disch := omega) only [bsW, ↓reduceIte, Nat.reduceEqDiff, ne_eq, reduceCtorEq, fcT, f0, f1, f2, f3, f4, f5, f7, f8, y1, y4, d1, d3, d4], by simp (disch := omega) only [bsW, ↓reduceIte, Nat.reduceEqDiff, ne_eq, reduceCtorEq, fcT, f0, f1, f2, f3, f4, f5, f7, f8, y1, y4, d1, d3, d4], by simp (disch := omega) only [bsW, ↓reduceIte, Nat.reduceEqDiff, ne_eq, reduceCtorEq, fcT, f0, f1, f2, f3, f4, f5, f7, f8, y1, y4, d1, d3, d4], by (simp (disch := omega) only [bsW, ↓reduceIte, Nat.reduceEqDiff, ne_eq, reduceCtorEq, fcT, f0, f1, f2, f3, f4, f5, f7, f8, y1, y4, d1, d3, d4]) <;> exact vi (by omega), hx, by rw [hnext]; exact ⟨hsc2, ⟨ov2, hov2, hOut2⟩, hOwn2⟩, hfr⟩
      rw [if_pos hc] at hnext
      obtain ⟨hin, hg⟩ := cand_not hc
      rw [← el] at hg
      have hnl : (ls ++ (ownC m f p b ++ restC sub m f p b j)).length + (sub (b ++ [(k : Int)])).length ≤ 4000000 := by
        have := restC_mono (sub := sub) (m := m) (f := f) (p := p) (b := b) (j := j + 1) (n - (p + 1) - (j + 1))
        rw [show j + 1 + (n - (p + 1) - (j + 1)) = n - (p + 1) by omega, hnext, List.length_append] at this
        simp only [List.length_append] at hT ⊢
        omega
      have d3 : decide ((k : Int) ∈ b) = false := decide_eq_false hin
      have d4 : decide ((0 : Int) < gnV m f lst9 k) = true := decide_eq_true hg
      simp (disch := omega) only [bsW, WOp, WOq, WV, bo, eqN, gdc, gw, bnd, ↓reduceIte, Nat.reduceEqDiff, rsvs, rsv, oneOf, rdN, ne_eq, Nat.reduceAdd, Nat.reduceMul, Nat.reduceLT, reduceCtorEq, Value.cells, setN, Value.oneCell', Nat.reduceLeDiff, undef, fcT, f0, f1, f2, f3, f4, f5, f7, f8, y1, y4, d1, d3, d4]
      (repeat' (first | ((with_reducible refine gif_split (fun hs_ => ?_) (fun hs_ => ?_)) <;> (have hp_ := hs_; (try simp only [hpL, ne_eq] at hp_); (try simp (disch := omega) only [bsW, WOp, WOq, WV, bo, eqN, gdc, gw, bnd, ↓reduceIte, Nat.reduceEqDiff, rsvs, rsv, oneOf, rdN, ne_eq, Nat.reduceAdd, Nat.reduceMul, Nat.reduceLT, reduceCtorEq, Value.cells, setN, Value.oneCell', Nat.reduceLeDiff, undef, fcT, f0, f1, f2, f3, f4, f5, f7, f8, y1, y4, d1, d3, d4, hs_]))) | ((first | (with_reducible refine newB_i (fun nb_ hb_ => ?_)) | ((with_reducible show QC _ _ _ _ _ _); (first | (refine QC_i (hasI _ b _ _ _ _ _ rfl (by omega) hRb2) ?_) | (refine QC_i (gainBetween _ _ _ _ _ _ _ _ (by omega) (E.rw_.sub hsc2)) ?_))) | ((with_reducible show AC _ _ _ _ _ _); (first | (refine PC.ac (hasI _ b _ _ _ _ _ rfl (by omega) hRb2) ?_) | (refine PC.ac (gainBetween _ _ _ _ _ _ _ _ (by omega) (E.rw_.sub hsc2)) ?_)))); (try simp (disch := omega) only [bsW, WOp, WOq, WV, bo, eqN, gdc, gw, bnd, ↓reduceIte, Nat.reduceEqDiff, rsvs, rsv, oneOf, rdN, ne_eq, Nat.reduceAdd, Nat.reduceMul, Nat.reduceLT, reduceCtorEq, Value.cells, setN, Value.oneCell', Nat.reduceLeDiff, undef, fcT, f0, f1, f2, f3, f4, f5, f7, f8, y1, y4, d1, d3, d4])) | (with_reducible refine fun (hBd_ : Bd _ _) => ?_) | ((first | (with_reducible refine @And.intro (Sub _ _) _ ?_ ?_) | ((with_reducible refine @And.intro (Sub _ _ ∧ _) _ ?_ ?_); (with_reducible refine @And.intro (Sub _ _) _ ?_ ?_))); exact sbX) | ((with_reducible refine And.intro ?_ ?_); omega)))
      refine RgE_w hsc2 (fun _ => ?_)
      have y5 := E.cl
      simp only [PT] at y5 hsub
      simp (disch := omega) only [bsW, WOp, WOq, WV, bo, eqN, gdc, gw, bnd, ↓reduceIte, Nat.reduceEqDiff, rsvs, rsv, oneOf, rdN, ne_eq, Nat.reduceAdd, Nat.reduceMul, Nat.reduceLT, reduceCtorEq, Value.cells, setN, Value.oneCell', Nat.reduceLeDiff, undef, fcT, f0, f1, f2, f3, f4, f5, f7, f8, y5, qaF, qsF]
      refine newB_i fun nb hnb => ?_
      simp (disch := omega) only [bsW, WOp, WOq, WV, bo, eqN, gdc, gw, bnd, ↓reduceIte, Nat.reduceEqDiff, rsvs, rsv, oneOf, rdN, ne_eq, Nat.reduceAdd, Nat.reduceMul, Nat.reduceLT, reduceCtorEq, Value.cells, setN, Value.oneCell', Nat.reduceLeDiff, undef, fcT, f0, f1, f2, f3, f4, f5, f7, f8, y5, qaF, qsF]
      have hsn : Sub Hc (upd H' nb (.rw [.int .i64 (k : Int)] 3)) := sub_up2 (E.bd.mono (show lo ≤ nx' by omega)) hsc2 hnb
      refine ⟨hsn, ?_⟩
      refine app_oneC (by simp (disch := omega) only [bsW, WOp, WOq, WV, bo, eqN, gdc, gw, bnd, ↓reduceIte, Nat.reduceEqDiff, rsvs, rsv, oneOf, rdN, ne_eq, Nat.reduceAdd, Nat.reduceMul, Nat.reduceLT, reduceCtorEq, Value.cells, setN, Value.oneCell', Nat.reduceLeDiff, undef, fcT, f0, f1, f2, f3, f4, f5, f7, f8, y5, qaF, qsF]) (by simp (disch := omega) only [bsW, WOp, WOq, WV, bo, eqN, gdc, gw, bnd, ↓reduceIte, Nat.reduceEqDiff, rsvs, rsv, oneOf, rdN, ne_eq, Nat.reduceAdd, Nat.reduceMul, Nat.reduceLT, reduceCtorEq, Value.cells, setN, Value.oneCell', Nat.reduceLeDiff, undef, fcT, f0, f1, f2, f3, f4, f5, f7, f8, y5, qaF, qsF]) (by simp (disch := omega) only [bsW, WOp, WOq, WV, bo, eqN, gdc, gw, bnd, ↓reduceIte, Nat.reduceEqDiff, rsvs, rsv, oneOf, rdN, ne_eq, Nat.reduceAdd, Nat.reduceMul, Nat.reduceLT, reduceCtorEq, Value.cells, setN, Value.oneCell', Nat.reduceLeDiff, undef, fcT, f0, f1, f2, f3, f4, f5, f7, f8, y5, qaF, qsF]) (by simp (disch := omega) only [bsW, WOp, WOq, WV, bo, eqN, gdc, gw, bnd, ↓reduceIte, Nat.reduceEqDiff, rsvs, rsv, oneOf, rdN, ne_eq, Nat.reduceAdd, Nat.reduceMul, Nat.reduceLT, reduceCtorEq, Value.cells, setN, Value.oneCell', Nat.reduceLeDiff, undef, fcT, f0, f1, f2, f3, f4, f5, f7, f8, y5, qaF, qsF]) (OwnR.hiI (OwnR.subI hOwn2 (sub_new hB' hnb)) (by omega)) (upd_same _ _ _) (by omega) (by omega) ?_
      rintro c2 cap2 o2 nx2 hc2 hn2 hlt2 hO2
      have hlo2 : lo ≤ c2 := (OwnR.blk hO2 rfl).1
      have hcS := hS c hSc
      have e9 : (b ++ [(k : Int)]).length = b.length + 1 := by simp
      have hH2 : ∀ d o, d ≠ nb → d ≠ c2 → H' d = some o → (upd (upd H' nb (.rw [.int .i64 (k : Int)] 3)) c2 o2) d = some o := fun d o h5 h6 h7 => by rw [upd_ne h6, upd_ne h5]; exact h7
      have hsc4 : Sub Hc (upd (upd H' nb (.rw [.int .i64 (k : Int)] 3)) c2 o2) := fun d o e => by
        have h5 := E.bd d o e
        exact hH2 d o (by omega) (by omega) (hsc2 _ _ e)
      generalize (upd (upd H' nb (.rw [.int .i64 (k : Int)] 3)) c2 o2) = H2 at *
      have hst2 : St Hc H2 lo nx2 b3 (fun d => S d || d == c2) (ls ++ (ownC m f p b ++ restC sub m f p b j)) (b ++ [(k : Int)]) c2 cap2 := by
        refine ⟨hsc4, ⟨ov2, hH2 b3 _ (by omega) (by omega) hov2, ?_⟩, by rw [e9]; exact hO2⟩
        refine (hOut2.subI (fun d o e => ?_)).wide (Nat.le_refl _) (by omega)
        obtain ⟨h5, h6⟩ := hide_some e
        have h7 := hB' d o h6
        have h8 : d ≠ c2 := fun e8 => by
          rcases hc2 with ⟨h9, _⟩ | h9
          · rw [e8, h9, hSc] at h5; cases h5
          · omega
        rw [hide_at (by simp [h5, h8])]
        exact hH2 d o (by omega) h8 h6
      have hcall := hsub k (by omega) hkn hc _ (fun d => S d || d == c2) c2 cap2 H2 nx2 (by omega) (by simp) (fun d hd => by
        rw [Bool.or_eq_true] at hd
        rcases hd with hd | hd
        · have := hS d hd; omega
        · have : d = c2 := by simpa using hd
          omega) hnl hst2
      rw [e9] at hcall
      simp (disch := omega) only [bsW, WOp, WOq, WV, bo, eqN, gdc, gw, bnd, ↓reduceIte, Nat.reduceEqDiff, rsvs, rsv, oneOf, rdN, ne_eq, Nat.reduceAdd, Nat.reduceMul, Nat.reduceLT, reduceCtorEq, Value.cells, setN, Value.oneCell', Nat.reduceLeDiff, undef, fcT, f0, f1, f2, f3, f4, f5, f7, f8, y5, qaF, qsF]
      refine ⟨hsc4, ?_⟩
      refine hcall.monoC ?_
      rintro v3 H3 nx3 hB3 hx3 ⟨⟨hsc3, ⟨ov3, hov3, hOut3⟩, hOwn3⟩, hfr3⟩
      simp (disch := omega) only [bsW, WOp, WOq, WV, bo, eqN, gdc, gw, bnd, ↓reduceIte, Nat.reduceEqDiff, rsvs, rsv, oneOf, rdN, ne_eq, Nat.reduceAdd, Nat.reduceMul, Nat.reduceLT, reduceCtorEq, Value.cells, setN, Value.oneCell', Nat.reduceLeDiff, undef, fcT, f0, f1, f2, f3, f4, f5, f7, f8]
      refine hK _ _ _ ?_
      refine ⟨j + 1, by omega, by omega, by simp (disch := omega) only [bsW, ↓reduceIte, Nat.reduceEqDiff, ne_eq, reduceCtorEq, fcT, f0, f1, f2, f3, f4, f5, f7, f8], by simp (disch := omega) only [bsW, ↓reduceIte, Nat.reduceEqDiff, ne_eq, reduceCtorEq, fcT, f0, f1, f2, f3, f4, f5, f7, f8], by simp (disch := omega) only [bsW, ↓reduceIte, Nat.reduceEqDiff, ne_eq, reduceCtorEq, fcT, f0, f1, f2, f3, f4, f5, f7, f8], by simp (disch := omega) only [bsW, ↓reduceIte, Nat.reduceEqDiff, ne_eq, reduceCtorEq, fcT, f0, f1, f2, f3, f4, f5, f7, f8], by simp (disch := omega) only [bsW, ↓reduceIte, Nat.reduceEqDiff, ne_eq, reduceCtorEq, fcT, f0, f1, f2, f3, f4, f5, f7, f8], by simp (disch := omega) only [bsW, ↓reduceIte, Nat.reduceEqDiff, ne_eq, reduceCtorEq, fcT, f0, f1, f2, f3, f4, f5, f7, f8], by simp (disch := omega) only [bsW, ↓reduceIte, Nat.reduceEqDiff, ne_eq, reduceCtorEq, fcT, f0, f1, f2, f3, f4, f5, f7, f8], by (simp (disch := omega) only [bsW, ↓reduceIte, Nat.reduceEqDiff, ne_eq, reduceCtorEq, fcT, f0, f1, f2, f3, f4, f5, f7, f8]) <;> exact vi (by omega), by omega, ⟨hsc3, ⟨ov3, hov3, ?_⟩, ?_⟩, fun d o h5 h6 e => ?_⟩
      · rw [hnext, ← List.append_assoc (ownC m f p b), ← List.append_assoc ls]
        refine hOut3.subI (fun d o e => ?_)
        obtain ⟨h5, h6⟩ := hide_some e
        rw [Bool.or_eq_false_iff] at h5
        rw [hide_at h5.1]
        exact h6
      · rcases hc2 with ⟨h9, h10⟩ | h9
        · subst h9 h10
          rw [e9] at hOwn3
          exact OwnL.pre hOwn3
        · exact OwnR.own_sub (OwnR.hiI hOwn2 (by omega)) (fun o e => hfr3 c o (by simp [hSc]) (by omega) (hH2 c o (by omega) (by omega) e))
      · have h7 := hS d h5
        have h8 : d ≠ c2 := fun e8 => by
          rcases hc2 with ⟨h9, _⟩ | h9
          · exact h6 (by rw [e8, h9])
          · omega
        exact hfr3 d o (by simp [h5]) h8 (hH2 d o (by omega) h8 (hfr d o h5 h6 e))
    · rintro fr H' nx' ⟨j, hmm, _⟩; omega
    · exact ⟨0, by omega, by omega, by simp (disch := omega) only [bsW, ↓reduceIte, Nat.reduceEqDiff, ne_eq, reduceCtorEq, fcT], by simp (disch := omega) only [bsW, ↓reduceIte, Nat.reduceEqDiff, ne_eq, reduceCtorEq, fcT], by simp (disch := omega) only [bsW, ↓reduceIte, Nat.reduceEqDiff, ne_eq, reduceCtorEq, fcT], by simp (disch := omega) only [bsW, ↓reduceIte, Nat.reduceEqDiff, ne_eq, reduceCtorEq, fcT], by simp (disch := omega) only [bsW, ↓reduceIte, Nat.reduceEqDiff, ne_eq, reduceCtorEq, fcT], by simp (disch := omega) only [bsW, ↓reduceIte, Nat.reduceEqDiff, ne_eq, reduceCtorEq, fcT], by simp (disch := omega) only [bsW, ↓reduceIte, Nat.reduceEqDiff, ne_eq, reduceCtorEq, fcT], by (simp (disch := omega) only [bsW, ↓reduceIte, Nat.reduceEqDiff, ne_eq, reduceCtorEq, fcT]) <;> exact vi (by omega), hx0, by rw [show restC sub m f p b 0 = [] from rfl, List.append_nil]; exact hst0, hfr0⟩
end Go.Proofs.YtnaldmmdhpobgaaDoor
