/- How many of each medal. -/
import Derived.Test.YtnjlleopgjggpaaDoorR5
set_option linter.unusedVariables false
set_option linter.unusedSimpArgs false
set_option maxRecDepth 100000
set_option maxHeartbeats 1000000
namespace Go.Proofs.YtnjlleopgjggpaaDoor
open Go Go.RowKit Go.Proofs

/-- A new row and a flag. -/
def RowFlag (H : Hp) (nx n k : Nat) (f : Nat → Nat → Int) (ty : TypeId) (ok : Bool) (v : Value) (H' : Hp) (nx' : Nat) : Prop := ∃ w, v = .tuple #[w, .bool ok] ∧ NewR H nx n k f ty w H' nx'
def meV (s : Shw) (i : Nat) : Int := medV (scV (s.mks i) (s.m i)) ((s.m i : Int) - 2)
def cntS (s : Shw) (q : Nat) : Nat → Int
  | 0 => 0
  | k + 1 => cntS s q k + (if meV s k = q then 1 else 0)
theorem cntS_bd (s : Shw) (q : Nat) : ∀ k, 0 ≤ cntS s q k ∧ cntS s q k ≤ k
  | 0 => by simp [cntS]
  | k + 1 => by
    have h := cntS_bd s q k
    simp only [cntS]
    split <;> omega
theorem cntS_set (s : Shw) (k g : Nat) (hg : g < 5) (hm : meV s k = g) : (flat 5 1 (fun j _ => cntS s j k)).set g (.int .i64 (cntS s g k + 1)) = flat 5 1 (fun j _ => cntS s j (k + 1)) := by
  have e := flat_set0 (f := fun j _ => cntS s j k) hg (show 0 < 1 by omega) (cntS s g k + 1)
  rw [Nat.mul_one] at e
  rw [e]
  refine flat_congr fun u v hu hv => ?_
  have ec : cntS s u (k + 1) = cntS s u k + (if meV s k = u then 1 else 0) := rfl
  by_cases huk : u = g
  · subst huk
    simp only [set2, ec, hm, if_true, true_and]
    rw [if_pos (by omega)]
  · have e9 : ¬ (meV s k = u) := by omega
    have e8 : set2 (fun j _ => cntS s j k) g 0 (cntS s g k + 1) u v = cntS s u k := if_neg (fun hh => huk hh.1)
    show set2 (fun j _ => cntS s j k) g 0 (cntS s g k + 1) u v = cntS s u (k + 1)
    rw [e8, ec, if_neg e9]
    omega
noncomputable def mcN (n : Nat) (s : Shw) : Nat := if exsB n s = true then 5 else 0

theorem sMedalCounts (A : Option Addr) (n c : Nat) (s : Shw) (H : Hp) (nx : Nat) (hn : n ≤ 17592186044416) (h : RdS H A n s) (hw : szOk n s) :
    AC Tryd.prog 49 #[.slice A n c] H nx (RowFlag H nx (mcN n s) 1 (fun j _ => cntS s j n) 3 (exsB n s)) := by
  refine AC_of x_spec_MedalCounts rfl fun hB => ?_
  by_cases hg : exsB n s = true
  · have t5 : Int.toNat 5 = 5 := rfl
    simp (disch := omega) only [bsW, WOp, WOq, WV, bo, eqN, gdc, gw, bnd, ↓reduceIte, Nat.reduceEqDiff, rsvs, rsv, oneOf, rdN, ne_eq, Nat.reduceAdd, Nat.reduceMul, Nat.reduceLT, reduceCtorEq, Value.cells, setN, Value.oneCell', Nat.reduceLeDiff, undef, fcT, hg, t5, Nat.mul_one, c_spec_MedalCounts]
    (repeat' (first | ((with_reducible refine gif_split (fun hs_ => ?_) (fun hs_ => ?_)) <;> (have hp_ := hs_; (try simp only [hpL, ne_eq] at hp_); (try simp (disch := omega) only [bsW, WOp, WOq, WV, bo, eqN, gdc, gw, bnd, ↓reduceIte, Nat.reduceEqDiff, rsvs, rsv, oneOf, rdN, ne_eq, Nat.reduceAdd, Nat.reduceMul, Nat.reduceLT, reduceCtorEq, Value.cells, setN, Value.oneCell', Nat.reduceLeDiff, undef, fcT, hg, t5, Nat.mul_one, hs_]))) | ((first | (with_reducible refine newB_i (fun nb_ hb_ => ?_)) | ((with_reducible show QC _ _ _ _ _ _); (first | (refine QC_i (l23Good A n c s _ _ hn h hw) ?_))) | ((with_reducible show AC _ _ _ _ _ _); (first | (refine PC.ac (l23Good A n c s _ _ hn h hw) ?_))) | (with_reducible refine RgE_i (fun (hBd_ : Bd _ _) => ?_))); (try simp (disch := omega) only [bsW, WOp, WOq, WV, bo, eqN, gdc, gw, bnd, ↓reduceIte, Nat.reduceEqDiff, rsvs, rsv, oneOf, rdN, ne_eq, Nat.reduceAdd, Nat.reduceMul, Nat.reduceLT, reduceCtorEq, Value.cells, setN, Value.oneCell', Nat.reduceLeDiff, undef, fcT, hg, t5, Nat.mul_one])) | (with_reducible refine fun (hBd_ : Bd _ _) => ?_) | ((first | (with_reducible refine @And.intro (Sub _ _) _ ?_ ?_) | ((with_reducible refine @And.intro (Sub _ _ ∧ _) _ ?_ ?_); (with_reducible refine @And.intro (Sub _ _) _ ?_ ?_))); exact sbX) | ((with_reducible refine And.intro ?_ ?_); omega)))
    all_goals try (exfalso; omega)
    revert hb_
    generalize nb_ = nb
    intro hnb
    have hn10 : n ≤ 10 := (exsB_iff.1 hg).2
    try (rw [show mkRow #[.int .i64 0] 5 = flat 5 1 (fun _ _ => 0) from mkRow_flat #[.int .i64 0] 5 1 (by omega) rfl])
    try (simp (disch := omega) only [bsW, WOp, WOq, WV, bo, eqN, gdc, gw, bnd, ↓reduceIte, Nat.reduceEqDiff, rsvs, rsv, oneOf, rdN, ne_eq, Nat.reduceAdd, Nat.reduceMul, Nat.reduceLT, reduceCtorEq, Value.cells, setN, Value.oneCell', Nat.reduceLeDiff, undef, fcT])
    refine LpE_rule (fun mm fr H' nx' => ∃ k : Nat, mm = n - k + 1 ∧ k ≤ n ∧ fr 0 = .slice A n c ∧ fr 4 = .slice (some ⟨nb, 0, none⟩) 5 5 ∧ fr 5 = .int .i64 k ∧ Sub H H' ∧ nb + 1 ≤ nx' ∧ H' nb = some (.rw (flat 5 1 (fun j _ => cntS s j k)) 3)) ?_ ?_ (n + 1) ?_
    · rintro mm K hK fr H' nx' ⟨k, hmm, hk, f0, f4, f5, hs, hx, hrow⟩
      simp (disch := omega) only [bsW, WOp, WOq, WV, bo, eqN, gdc, gw, bnd, ↓reduceIte, Nat.reduceEqDiff, rsvs, rsv, oneOf, rdN, ne_eq, Nat.reduceAdd, Nat.reduceMul, Nat.reduceLT, reduceCtorEq, Value.cells, setN, Value.oneCell', Nat.reduceLeDiff, undef, fcT, f0, f4, f5]
      refine gif_split (fun b1 => ?_) (fun b1 => ?_)
      · have hlt : k < n := by simpa using b1
        obtain ⟨_, _, hm3, hm7, hok, _⟩ := exs_at hg hlt
        obtain ⟨b, off, B, d, rfl, c0, c1, c2, c3, hmd, hR⟩ := h.at_ hlt
        replace c0 := rd_sub hs c0
        replace c1 := rd_sub hs c1
        replace c2 := rd_sub hs c2
        replace c3 := rd_sub hs c3
        have hmv : medV (scV (s.mks k) (s.m k)) ((s.m k : Int) - 2) = meV s k := rfl
        have hmb : 0 ≤ meV s k ∧ meV s k ≤ 4 := medV_bd _ _
        obtain ⟨g, hgm⟩ : ∃ g : Nat, meV s k = g := ⟨(meV s k).toNat, by omega⟩
        have hg5 : g < 5 := by omega
        have hcb := cntS_bd s g k
        have ct : rd H' nb g = some (.int .i64 (cntS s g k)) := by
          rw [rd_rw hrow]
          have e := flat_get_sp (f := fun j _ => cntS s j k) (sp := []) hg5 (show 0 < 1 by omega)
          simpa using e
        have hset := cntS_set s k g hg5 hgm
        simp (disch := omega) only [bsW, WOp, WOq, WV, bo, eqN, gdc, gw, bnd, ↓reduceIte, Nat.reduceEqDiff, rsvs, rsv, oneOf, rdN, ne_eq, Nat.reduceAdd, Nat.reduceMul, Nat.reduceLT, reduceCtorEq, Value.cells, setN, Value.oneCell', Nat.reduceLeDiff, undef, fcT, f0, f4, f5, c0, c1, c2, c3, ct, hrow, hset, hmv, hgm, flat_length, Nat.mul_one, Int.toNat_natCast, b1]
        (repeat' (first | ((with_reducible refine gif_split (fun hs_ => ?_) (fun hs_ => ?_)) <;> (have hp_ := hs_; (try simp only [hpL, ne_eq] at hp_); (try simp (disch := omega) only [bsW, WOp, WOq, WV, bo, eqN, gdc, gw, bnd, ↓reduceIte, Nat.reduceEqDiff, rsvs, rsv, oneOf, rdN, ne_eq, Nat.reduceAdd, Nat.reduceMul, Nat.reduceLT, reduceCtorEq, Value.cells, setN, Value.oneCell', Nat.reduceLeDiff, undef, fcT, f0, f4, f5, c0, c1, c2, c3, ct, hrow, hset, hmv, hgm, flat_length, Nat.mul_one, Int.toNat_natCast, hs_]))) | ((first | (with_reducible refine newB_i (fun nb_ hb_ => ?_)) | ((with_reducible show QC _ _ _ _ _ _); (first | (refine QC_i (l23Medal B _ d _ _ _ (by omega) (by omega) hok (hR.sub (by (repeat (first | assumption | exact Sub.refl _ | (refine sub_up (nx := nx) ?_ hB ?_; omega)))))) ?_))) | ((with_reducible show AC _ _ _ _ _ _); (first | (refine PC.ac (l23Medal B _ d _ _ _ (by omega) (by omega) hok (hR.sub (by (repeat (first | assumption | exact Sub.refl _ | (refine sub_up (nx := nx) ?_ hB ?_; omega)))))) ?_))) | (with_reducible refine RgE_i (fun (hBd_ : Bd _ _) => ?_))); (try simp (disch := omega) only [bsW, WOp, WOq, WV, bo, eqN, gdc, gw, bnd, ↓reduceIte, Nat.reduceEqDiff, rsvs, rsv, oneOf, rdN, ne_eq, Nat.reduceAdd, Nat.reduceMul, Nat.reduceLT, reduceCtorEq, Value.cells, setN, Value.oneCell', Nat.reduceLeDiff, undef, fcT, f0, f4, f5, c0, c1, c2, c3, ct, hrow, hset, hmv, hgm, flat_length, Nat.mul_one, Int.toNat_natCast])) | (with_reducible refine fun (hBd_ : Bd _ _) => ?_) | ((first | (with_reducible refine @And.intro (Sub _ _) _ ?_ ?_) | ((with_reducible refine @And.intro (Sub _ _ ∧ _) _ ?_ ?_); (with_reducible refine @And.intro (Sub _ _) _ ?_ ?_))); exact sbX) | ((with_reducible refine And.intro ?_ ?_); omega)))
        all_goals try (exfalso; omega)
        refine hK _ _ _ ?_
        exact ⟨k + 1, by omega, by omega, by simp (disch := omega) only [bsW, ↓reduceIte, Nat.reduceEqDiff, ne_eq, reduceCtorEq, fcT, f0, f4, f5, c0, c1, c2, c3, ct, hrow, hset, hmv, hgm, flat_length, Nat.mul_one, Int.toNat_natCast], by simp (disch := omega) only [bsW, ↓reduceIte, Nat.reduceEqDiff, ne_eq, reduceCtorEq, fcT, f0, f4, f5, c0, c1, c2, c3, ct, hrow, hset, hmv, hgm, flat_length, Nat.mul_one, Int.toNat_natCast], by simp (disch := omega) only [bsW, ↓reduceIte, Nat.reduceEqDiff, ne_eq, reduceCtorEq, fcT, f0, f4, f5, c0, c1, c2, c3, ct, hrow, hset, hmv, hgm, flat_length, Nat.mul_one, Int.toNat_natCast, Int.natCast_add, Int.natCast_one], sub_upd_old hs (none_of_bd hB hnb), by omega, upd_same _ _ _⟩
      · have hkn : k = n := by simp at b1; omega
        subst hkn
        simp (disch := omega) only [bsW, WOp, WOq, WV, bo, eqN, gdc, gw, bnd, ↓reduceIte, Nat.reduceEqDiff, rsvs, rsv, oneOf, rdN, ne_eq, Nat.reduceAdd, Nat.reduceMul, Nat.reduceLT, reduceCtorEq, Value.cells, setN, Value.oneCell', Nat.reduceLeDiff, undef, fcT, f0, f4, f5, b1]
        have e5 : mcN k s = 5 := if_pos hg
        rw [e5]
        exact ⟨_, rfl, .full (by omega) (by omega) hrow (by unfold maxLen; omega), hs⟩
    · rintro fr H' nx' ⟨k, hmm, _⟩; omega
    · exact ⟨0, by omega, by omega, by simp (disch := omega) only [bsW, ↓reduceIte, Nat.reduceEqDiff, ne_eq, reduceCtorEq, fcT], by simp (disch := omega) only [bsW, ↓reduceIte, Nat.reduceEqDiff, ne_eq, reduceCtorEq, fcT], by simp (disch := omega) only [bsW, ↓reduceIte, Nat.reduceEqDiff, ne_eq, reduceCtorEq, fcT, Int.natCast_zero], sub_upd_old (Sub.refl _) (none_of_bd hB hnb), by omega, upd_same _ _ _⟩
  · have hg : exsB n s = false := by simpa using hg
    simp (disch := omega) only [bsW, WOp, WOq, WV, bo, eqN, gdc, gw, bnd, ↓reduceIte, Nat.reduceEqDiff, rsvs, rsv, oneOf, rdN, ne_eq, Nat.reduceAdd, Nat.reduceMul, Nat.reduceLT, reduceCtorEq, Value.cells, setN, Value.oneCell', Nat.reduceLeDiff, undef, fcT, hg, c_spec_MedalCounts]
    (repeat' (first | ((with_reducible refine gif_split (fun hs_ => ?_) (fun hs_ => ?_)) <;> (have hp_ := hs_; (try simp only [hpL, ne_eq] at hp_); (try simp (disch := omega) only [bsW, WOp, WOq, WV, bo, eqN, gdc, gw, bnd, ↓reduceIte, Nat.reduceEqDiff, rsvs, rsv, oneOf, rdN, ne_eq, Nat.reduceAdd, Nat.reduceMul, Nat.reduceLT, reduceCtorEq, Value.cells, setN, Value.oneCell', Nat.reduceLeDiff, undef, fcT, hg, hs_]))) | ((first | (with_reducible refine newB_i (fun nb_ hb_ => ?_)) | ((with_reducible show QC _ _ _ _ _ _); (first | (refine QC_i (l23Good A n c s _ _ hn h hw) ?_))) | ((with_reducible show AC _ _ _ _ _ _); (first | (refine PC.ac (l23Good A n c s _ _ hn h hw) ?_))) | (with_reducible refine RgE_i (fun (hBd_ : Bd _ _) => ?_))); (try simp (disch := omega) only [bsW, WOp, WOq, WV, bo, eqN, gdc, gw, bnd, ↓reduceIte, Nat.reduceEqDiff, rsvs, rsv, oneOf, rdN, ne_eq, Nat.reduceAdd, Nat.reduceMul, Nat.reduceLT, reduceCtorEq, Value.cells, setN, Value.oneCell', Nat.reduceLeDiff, undef, fcT, hg])) | (with_reducible refine fun (hBd_ : Bd _ _) => ?_) | ((first | (with_reducible refine @And.intro (Sub _ _) _ ?_ ?_) | ((with_reducible refine @And.intro (Sub _ _ ∧ _) _ ?_ ?_); (with_reducible refine @And.intro (Sub _ _) _ ?_ ?_))); exact sbX) | ((with_reducible refine And.intro ?_ ?_); omega)))
    all_goals try (exfalso; omega)
    have e0 : mcN n s = 0 := if_neg (by simp [hg])
    rw [e0]
    exact ⟨_, rfl, .empty (by assumption) (by omega) (upd_same _ _ _), by (repeat (first | assumption | exact Sub.refl _ | (refine sub_up (nx := nx) ?_ hB ?_; omega)))⟩

theorem MedalCounts (A : Option Addr) (n c : Nat) (s : Shw) (H : Hp) (nx : Nat) (hn : n ≤ 17592186044416) (h : RdS H A n s) (hw : szOk n s) :
    AC Tryd.prog 48 #[.slice A n c] H nx (RowFlag H nx (mcN n s) 1 (fun j _ => cntS s j n) 3 (exsB n s)) := by
  refine AC_of x_impl_MedalCounts rfl fun hB => ?_
  by_cases hg : exsB n s = true
  · have t5 : Int.toNat 5 = 5 := rfl
    simp (disch := omega) only [bsW, WOp, WOq, WV, bo, eqN, gdc, gw, bnd, ↓reduceIte, Nat.reduceEqDiff, rsvs, rsv, oneOf, rdN, ne_eq, Nat.reduceAdd, Nat.reduceMul, Nat.reduceLT, reduceCtorEq, Value.cells, setN, Value.oneCell', Nat.reduceLeDiff, undef, fcT, hg, t5, Nat.mul_one, c_impl_MedalCounts]
    (repeat' (first | ((with_reducible refine gif_split (fun hs_ => ?_) (fun hs_ => ?_)) <;> (have hp_ := hs_; (try simp only [hpL, ne_eq] at hp_); (try simp (disch := omega) only [bsW, WOp, WOq, WV, bo, eqN, gdc, gw, bnd, ↓reduceIte, Nat.reduceEqDiff, rsvs, rsv, oneOf, rdN, ne_eq, Nat.reduceAdd, Nat.reduceMul, Nat.reduceLT, reduceCtorEq, Value.cells, setN, Value.oneCell', Nat.reduceLeDiff, undef, fcT, hg, t5, Nat.mul_one, hs_]))) | ((first | (with_reducible refine newB_i (fun nb_ hb_ => ?_)) | ((with_reducible show QC _ _ _ _ _ _); (first | (refine QC_i (areExhibits A n c s _ _ hn h hw) ?_))) | ((with_reducible show AC _ _ _ _ _ _); (first | (refine PC.ac (areExhibits A n c s _ _ hn h hw) ?_))) | (with_reducible refine RgE_i (fun (hBd_ : Bd _ _) => ?_))); (try simp (disch := omega) only [bsW, WOp, WOq, WV, bo, eqN, gdc, gw, bnd, ↓reduceIte, Nat.reduceEqDiff, rsvs, rsv, oneOf, rdN, ne_eq, Nat.reduceAdd, Nat.reduceMul, Nat.reduceLT, reduceCtorEq, Value.cells, setN, Value.oneCell', Nat.reduceLeDiff, undef, fcT, hg, t5, Nat.mul_one])) | (with_reducible refine fun (hBd_ : Bd _ _) => ?_) | ((first | (with_reducible refine @And.intro (Sub _ _) _ ?_ ?_) | ((with_reducible refine @And.intro (Sub _ _ ∧ _) _ ?_ ?_); (with_reducible refine @And.intro (Sub _ _) _ ?_ ?_))); exact sbX) | ((with_reducible refine And.intro ?_ ?_); omega)))
    all_goals try (exfalso; omega)
    revert hb_
    generalize nb_ = nb
    intro hnb
    have hn10 : n ≤ 10 := (exsB_iff.1 hg).2
    try (rw [show mkRow #[.int .i64 0] 5 = flat 5 1 (fun _ _ => 0) from mkRow_flat #[.int .i64 0] 5 1 (by omega) rfl])
    try (simp (disch := omega) only [bsW, WOp, WOq, WV, bo, eqN, gdc, gw, bnd, ↓reduceIte, Nat.reduceEqDiff, rsvs, rsv, oneOf, rdN, ne_eq, Nat.reduceAdd, Nat.reduceMul, Nat.reduceLT, reduceCtorEq, Value.cells, setN, Value.oneCell', Nat.reduceLeDiff, undef, fcT])
    refine LpE_rule (fun mm fr H' nx' => ∃ k : Nat, mm = n - k + 1 ∧ k ≤ n ∧ fr 4 = .slice (some ⟨nb, 0, none⟩) 5 5 ∧ fr 11 = .slice A n c ∧ fr 12 = .int .i64 n ∧ fr 13 = .int .i64 k ∧ Sub H H' ∧ nb + 1 ≤ nx' ∧ H' nb = some (.rw (flat 5 1 (fun j _ => cntS s j k)) 3)) ?_ ?_ (n + 1) ?_
    · rintro mm K hK fr H' nx' ⟨k, hmm, hk, f4, f11, f12, f13, hs, hx, hrow⟩
      simp (disch := omega) only [bsW, WOp, WOq, WV, bo, eqN, gdc, gw, bnd, ↓reduceIte, Nat.reduceEqDiff, rsvs, rsv, oneOf, rdN, ne_eq, Nat.reduceAdd, Nat.reduceMul, Nat.reduceLT, reduceCtorEq, Value.cells, setN, Value.oneCell', Nat.reduceLeDiff, undef, fcT, f4, f11, f12, f13]
      refine gif_split (fun b1 => ?_) (fun b1 => ?_)
      · have hlt : k < n := by simpa using b1
        obtain ⟨_, _, hm3, hm7, hok, _⟩ := exs_at hg hlt
        obtain ⟨b, off, B, d, rfl, c0, c1, c2, c3, hmd, hR⟩ := h.at_ hlt
        replace c0 := rd_sub hs c0
        replace c1 := rd_sub hs c1
        replace c2 := rd_sub hs c2
        replace c3 := rd_sub hs c3
        have hmv : medV (scV (s.mks k) (s.m k)) ((s.m k : Int) - 2) = meV s k := rfl
        have hmb : 0 ≤ meV s k ∧ meV s k ≤ 4 := medV_bd _ _
        obtain ⟨g, hgm⟩ : ∃ g : Nat, meV s k = g := ⟨(meV s k).toNat, by omega⟩
        have hg5 : g < 5 := by omega
        have hcb := cntS_bd s g k
        have ct : rd H' nb g = some (.int .i64 (cntS s g k)) := by
          rw [rd_rw hrow]
          have e := flat_get_sp (f := fun j _ => cntS s j k) (sp := []) hg5 (show 0 < 1 by omega)
          simpa using e
        have hset := cntS_set s k g hg5 hgm
        simp (disch := omega) only [bsW, WOp, WOq, WV, bo, eqN, gdc, gw, bnd, ↓reduceIte, Nat.reduceEqDiff, rsvs, rsv, oneOf, rdN, ne_eq, Nat.reduceAdd, Nat.reduceMul, Nat.reduceLT, reduceCtorEq, Value.cells, setN, Value.oneCell', Nat.reduceLeDiff, undef, fcT, f4, f11, f12, f13, c0, c1, c2, c3, ct, hrow, hset, hmv, hgm, flat_length, Nat.mul_one, Int.toNat_natCast, b1]
        (repeat' (first | ((with_reducible refine gif_split (fun hs_ => ?_) (fun hs_ => ?_)) <;> (have hp_ := hs_; (try simp only [hpL, ne_eq] at hp_); (try simp (disch := omega) only [bsW, WOp, WOq, WV, bo, eqN, gdc, gw, bnd, ↓reduceIte, Nat.reduceEqDiff, rsvs, rsv, oneOf, rdN, ne_eq, Nat.reduceAdd, Nat.reduceMul, Nat.reduceLT, reduceCtorEq, Value.cells, setN, Value.oneCell', Nat.reduceLeDiff, undef, fcT, f4, f11, f12, f13, c0, c1, c2, c3, ct, hrow, hset, hmv, hgm, flat_length, Nat.mul_one, Int.toNat_natCast, hs_]))) | ((first | (with_reducible refine newB_i (fun nb_ hb_ => ?_)) | ((with_reducible show QC _ _ _ _ _ _); (first | (refine QC_i (medalOf B _ d _ _ _ (by omega) (by omega) hok (hR.sub (by (repeat (first | assumption | exact Sub.refl _ | (refine sub_up (nx := nx) ?_ hB ?_; omega)))))) ?_))) | ((with_reducible show AC _ _ _ _ _ _); (first | (refine PC.ac (medalOf B _ d _ _ _ (by omega) (by omega) hok (hR.sub (by (repeat (first | assumption | exact Sub.refl _ | (refine sub_up (nx := nx) ?_ hB ?_; omega)))))) ?_))) | (with_reducible refine RgE_i (fun (hBd_ : Bd _ _) => ?_))); (try simp (disch := omega) only [bsW, WOp, WOq, WV, bo, eqN, gdc, gw, bnd, ↓reduceIte, Nat.reduceEqDiff, rsvs, rsv, oneOf, rdN, ne_eq, Nat.reduceAdd, Nat.reduceMul, Nat.reduceLT, reduceCtorEq, Value.cells, setN, Value.oneCell', Nat.reduceLeDiff, undef, fcT, f4, f11, f12, f13, c0, c1, c2, c3, ct, hrow, hset, hmv, hgm, flat_length, Nat.mul_one, Int.toNat_natCast])) | (with_reducible refine fun (hBd_ : Bd _ _) => ?_) | ((first | (with_reducible refine @And.intro (Sub _ _) _ ?_ ?_) | ((with_reducible refine @And.intro (Sub _ _ ∧ _) _ ?_ ?_); (with_reducible refine @And.intro (Sub _ _) _ ?_ ?_))); exact sbX) | ((with_reducible refine And.intro ?_ ?_); omega)))
        all_goals try (exfalso; omega)
        refine hK _ _ _ ?_
        exact ⟨k + 1, by omega, by omega, by simp (disch := omega) only [bsW, ↓reduceIte, Nat.reduceEqDiff, ne_eq, reduceCtorEq, fcT, f4, f11, f12, f13, c0, c1, c2, c3, ct, hrow, hset, hmv, hgm, flat_length, Nat.mul_one, Int.toNat_natCast], by simp (disch := omega) only [bsW, ↓reduceIte, Nat.reduceEqDiff, ne_eq, reduceCtorEq, fcT, f4, f11, f12, f13, c0, c1, c2, c3, ct, hrow, hset, hmv, hgm, flat_length, Nat.mul_one, Int.toNat_natCast], by simp (disch := omega) only [bsW, ↓reduceIte, Nat.reduceEqDiff, ne_eq, reduceCtorEq, fcT, f4, f11, f12, f13, c0, c1, c2, c3, ct, hrow, hset, hmv, hgm, flat_length, Nat.mul_one, Int.toNat_natCast], by simp (disch := omega) only [bsW, ↓reduceIte, Nat.reduceEqDiff, ne_eq, reduceCtorEq, fcT, f4, f11, f12, f13, c0, c1, c2, c3, ct, hrow, hset, hmv, hgm, flat_length, Nat.mul_one, Int.toNat_natCast, Int.natCast_add, Int.natCast_one], sub_upd_old (by (repeat (first | assumption | exact Sub.refl _ | (refine sub_up (nx := nx) ?_ hB ?_; omega)))) (none_of_bd hB hnb), by omega, upd_same _ _ _⟩
      · have hkn : k = n := by simp at b1; omega
        subst hkn
        simp (disch := omega) only [bsW, WOp, WOq, WV, bo, eqN, gdc, gw, bnd, ↓reduceIte, Nat.reduceEqDiff, rsvs, rsv, oneOf, rdN, ne_eq, Nat.reduceAdd, Nat.reduceMul, Nat.reduceLT, reduceCtorEq, Value.cells, setN, Value.oneCell', Nat.reduceLeDiff, undef, fcT, f4, f11, f12, f13, b1]
        have e5 : mcN k s = 5 := if_pos hg
        rw [e5]
        exact ⟨_, rfl, .full (by omega) (by omega) hrow (by unfold maxLen; omega), hs⟩
    · rintro fr H' nx' ⟨k, hmm, _⟩; omega
    · exact ⟨0, by omega, by omega, by simp (disch := omega) only [bsW, ↓reduceIte, Nat.reduceEqDiff, ne_eq, reduceCtorEq, fcT], by simp (disch := omega) only [bsW, ↓reduceIte, Nat.reduceEqDiff, ne_eq, reduceCtorEq, fcT], by simp (disch := omega) only [bsW, ↓reduceIte, Nat.reduceEqDiff, ne_eq, reduceCtorEq, fcT], by simp (disch := omega) only [bsW, ↓reduceIte, Nat.reduceEqDiff, ne_eq, reduceCtorEq, fcT, Int.natCast_zero], sub_upd_old (Sub.refl _) (none_of_bd hB hnb), by omega, upd_same _ _ _⟩
  · have hg : exsB n s = false := by simpa using hg
    simp (disch := omega) only [bsW, WOp, WOq, WV, bo, eqN, gdc, gw, bnd, ↓reduceIte, Nat.reduceEqDiff, rsvs, rsv, oneOf, rdN, ne_eq, Nat.reduceAdd, Nat.reduceMul, Nat.reduceLT, reduceCtorEq, Value.cells, setN, Value.oneCell', Nat.reduceLeDiff, undef, fcT, hg, c_impl_MedalCounts]
    (repeat' (first | ((with_reducible refine gif_split (fun hs_ => ?_) (fun hs_ => ?_)) <;> (have hp_ := hs_; (try simp only [hpL, ne_eq] at hp_); (try simp (disch := omega) only [bsW, WOp, WOq, WV, bo, eqN, gdc, gw, bnd, ↓reduceIte, Nat.reduceEqDiff, rsvs, rsv, oneOf, rdN, ne_eq, Nat.reduceAdd, Nat.reduceMul, Nat.reduceLT, reduceCtorEq, Value.cells, setN, Value.oneCell', Nat.reduceLeDiff, undef, fcT, hg, hs_]))) | ((first | (with_reducible refine newB_i (fun nb_ hb_ => ?_)) | ((with_reducible show QC _ _ _ _ _ _); (first | (refine QC_i (areExhibits A n c s _ _ hn h hw) ?_))) | ((with_reducible show AC _ _ _ _ _ _); (first | (refine PC.ac (areExhibits A n c s _ _ hn h hw) ?_))) | (with_reducible refine RgE_i (fun (hBd_ : Bd _ _) => ?_))); (try simp (disch := omega) only [bsW, WOp, WOq, WV, bo, eqN, gdc, gw, bnd, ↓reduceIte, Nat.reduceEqDiff, rsvs, rsv, oneOf, rdN, ne_eq, Nat.reduceAdd, Nat.reduceMul, Nat.reduceLT, reduceCtorEq, Value.cells, setN, Value.oneCell', Nat.reduceLeDiff, undef, fcT, hg])) | (with_reducible refine fun (hBd_ : Bd _ _) => ?_) | ((first | (with_reducible refine @And.intro (Sub _ _) _ ?_ ?_) | ((with_reducible refine @And.intro (Sub _ _ ∧ _) _ ?_ ?_); (with_reducible refine @And.intro (Sub _ _) _ ?_ ?_))); exact sbX) | ((with_reducible refine And.intro ?_ ?_); omega)))
    all_goals try (exfalso; omega)
    have e0 : mcN n s = 0 := if_neg (by simp [hg])
    rw [e0]
    exact ⟨_, rfl, .nil, by (repeat (first | assumption | exact Sub.refl _ | (refine sub_up (nx := nx) ?_ hB ?_; omega)))⟩
end Go.Proofs.YtnjlleopgjggpaaDoor
