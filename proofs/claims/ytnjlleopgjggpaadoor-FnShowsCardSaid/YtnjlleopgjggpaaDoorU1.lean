/- The draws: what a cursor gives. -/
import Derived.Test.YtnjlleopgjggpaaDoorT
import Derived.Test.YtnjlleopgjggpaaDoorD4
import Derived.Test.YtnjlleopgjggpaaDoorD6
set_option linter.unusedVariables false
set_option linter.unusedSimpArgs false
set_option maxRecDepth 100000
set_option maxHeartbeats 4000000
namespace Go.Proofs.YtnjlleopgjggpaaDoor
open Go Go.RowKit Go.Proofs

/-- Bytes that can be read. -/
structure RdU (H : Hp) (A : Option Addr) (n : Nat) : Prop where
  at_ : 0 < n → ∃ b off, A = some ⟨b, off, none⟩ ∧ ∀ i, i < n → ∃ x : Int, rd H b (off + i) = some (.int .u8 x) ∧ 0 ≤ x ∧ x ≤ 255
theorem RdU.sub {H H' : Hp} {A : Option Addr} {n : Nat} (h : RdU H A n) (hs : Sub H H') : RdU H' A n :=
  ⟨fun hn => by
    obtain ⟨b, off, e, hc⟩ := h.at_ hn
    exact ⟨b, off, e, fun i hi => by
      obtain ⟨x, h1, h2⟩ := hc i hi
      exact ⟨x, rd_sub hs h1, h2⟩⟩⟩
/-- The cursor's cell, in H; the bytes could be read in H0 already, where the cursor was not yet; at most a bytes are read. -/
structure Cur (H0 : Hp) (n0 : Nat) (H : Hp) (bC : Nat) (a : Int) : Prop where
  ex : ∃ A n c at_ seed, H bC = some (.rw [.slice A n c, .int .i64 at_, .int .u64 seed] 83) ∧ 0 ≤ at_ ∧ at_ ≤ a ∧ n ≤ 9223372036854775807 ∧ RdU H0 A n
  bd : Bd H0 n0
  at_ : n0 ≤ bC
  s : Sub H0 H
theorem Cur.le {H0 H : Hp} {n0 bC : Nat} {a a' : Int} (h : Cur H0 n0 H bC a) (ha : a ≤ a') : Cur H0 n0 H bC a' := by
  obtain ⟨⟨A, n, c, at_, seed, h1, h2, h3, h4⟩, h5, h6, h7⟩ := h
  exact ⟨⟨A, n, c, at_, seed, h1, h2, by omega, h4⟩, h5, h6, h7⟩
theorem Cur.new {H0 H : Hp} {n0 bC b : Nat} {a : Int} {o : Blk} (h : Cur H0 n0 H bC a) (hb : n0 ≤ b) (hne : b ≠ bC) : Cur H0 n0 (upd H b o) bC a := by
  obtain ⟨⟨A, n, c, at_, seed, h1, h2⟩, h5, h6, h7⟩ := h
  exact ⟨⟨A, n, c, at_, seed, by rw [upd_ne (Ne.symm hne)]; exact h1, h2⟩, h5, h6, sub_up hb h5 h7⟩
theorem Cur.put {H0 H : Hp} {n0 bC : Nat} {A : Option Addr} {n c : Nat} {at_ seed a a0 : Int} (h : Cur H0 n0 H bC a0) (h1 : 0 ≤ at_) (h2 : at_ ≤ a) (h3 : n ≤ 9223372036854775807) (h4 : RdU H0 A n) : Cur H0 n0 (upd H bC (.rw [.slice A n c, .int .i64 at_, .int .u64 seed] 83)) bC a :=
  ⟨⟨A, n, c, at_, seed, upd_same _ _ _, h1, h2, h3, h4⟩, h.bd, h.at_, sub_up h.at_ h.bd h.s⟩
/-- What a small draw leaves: the cursor, further on; all else as it was. -/
structure DrawK (H0 : Hp) (n0 : Nat) (H : Hp) (nx bC : Nat) (a : Int) (ok : Value → Prop) (v : Value) (H' : Hp) (nx' : Nat) : Prop where
  v : ok v
  cur : Cur H0 n0 H' bC a
  oth : ∀ c, c ≠ bC → H' c = H c
  nx : nx' = nx
/-- What a draw leaves that makes new blocks: the cursor, further on; all old else as it was. -/
structure DrawN (H0 : Hp) (n0 : Nat) (H : Hp) (nx bC : Nat) (a : Int) (ok : Value → Hp → Nat → Prop) (v : Value) (H' : Hp) (nx' : Nat) : Prop where
  v : ok v H' nx'
  cur : Cur H0 n0 H' bC a
  oth : ∀ c, c < nx → c ≠ bC → H' c = H c
  nx : nx ≤ nx'
def intIn (lo hi : Int) (v : Value) : Prop := ∃ x : Int, v = .int .i64 x ∧ lo ≤ x ∧ x ≤ hi
theorem and255 (x : Int) : 0 ≤ bitv .and .u64 x 255 ∧ bitv .and .u64 x 255 ≤ 255 := by
  have h1 : ∀ n : Nat, n ≤ 255 → 0 ≤ IntKind.u64.wrap (n : Int) ∧ IntKind.u64.wrap (n : Int) ≤ 255 := fun n hn => by
    have hb : IntKind.u64.bits = 64 := rfl
    have hs : IntKind.u64.signed = false := rfl
    have hp : (2 : Int) ^ 64 = 18446744073709551616 := by decide
    simp only [IntKind.wrap, hb, hs, Bool.false_and, Bool.false_eq_true, if_false, hp]
    omega
  have h2 : (BitVec.ofInt IntKind.u64.bits x &&& BitVec.ofInt IntKind.u64.bits 255).toNat ≤ 255 := by
    rw [BitVec.toNat_and]
    have e : (BitVec.ofInt IntKind.u64.bits 255).toNat = 255 := by decide
    rw [e]
    exact Nat.and_le_right
  exact h1 _ h2
theorem next1 (H0 : Hp) (n0 bC : Nat) (a : Int) (H : Hp) (nx : Nat) (hC : Cur H0 n0 H bC a) (ha : a ≤ 4611686018427387904) :
    AC Tryd.prog 124 #[.pointer (some ⟨bC, 0, none⟩)] H nx (DrawK H0 n0 H nx bC (a + 1) (intIn 0 255)) := by
  obtain ⟨A, n, c, at_, seed, h1, h2, h3, h4, h5⟩ := hC.ex
  refine AC_of x_spec_l1Cur_next rfl fun hB => ?_
  have w1 : IntKind.i64.wrap (at_ + 1) = at_ + 1 := by rw [IntKind.wrap_i64]; omega
  by_cases hlt : at_ < (n : Int)
  · have d1 : decide (at_ < (n : Int)) = true := decide_eq_true hlt
    have d2 : decide (at_ + 1 ≤ (n : Int)) = true := decide_eq_true (by omega)
    obtain ⟨b, off, rfl, hc⟩ := h5.at_ (by omega)
    obtain ⟨x, hx, hx1, hx2⟩ := hc at_.toNat (by omega)
    have hx' := rd_sub hC.s hx
    have w2 : IntKind.i64.wrap x = x := by rw [IntKind.wrap_i64]; omega
    simp (disch := omega) only [bsW, WOp, WOq, WV, bo, eqN, gdc, gw, bnd, ↓reduceIte, Nat.reduceEqDiff, rsvs, rsv, oneOf, rdN, ne_eq, Nat.reduceAdd, Nat.reduceMul, Nat.reduceLT, reduceCtorEq, Value.cells, setN, Value.oneCell', Nat.reduceLeDiff, undef, fcT, h1, d1, d2, hx', rd_rw h1, Nat.mul_one, w1, w2, c_spec_l1Cur_next]
    (repeat' (first | ((with_reducible refine gif_split (fun hs_ => ?_) (fun hs_ => ?_)) <;> (have hp_ := hs_; (try simp only [hpL, ne_eq] at hp_); (try simp (disch := omega) only [bsW, WOp, WOq, WV, bo, eqN, gdc, gw, bnd, ↓reduceIte, Nat.reduceEqDiff, rsvs, rsv, oneOf, rdN, ne_eq, Nat.reduceAdd, Nat.reduceMul, Nat.reduceLT, reduceCtorEq, Value.cells, setN, Value.oneCell', Nat.reduceLeDiff, undef, fcT, h1, d1, d2, hx', rd_rw h1, Nat.mul_one, w1, w2, hs_]))) | ((first | (with_reducible refine newB_i (fun nb_ hb_ => ?_)) | (with_reducible refine RgE_i (fun (hBd_ : Bd _ _) => ?_))); (try simp (disch := omega) only [bsW, WOp, WOq, WV, bo, eqN, gdc, gw, bnd, ↓reduceIte, Nat.reduceEqDiff, rsvs, rsv, oneOf, rdN, ne_eq, Nat.reduceAdd, Nat.reduceMul, Nat.reduceLT, reduceCtorEq, Value.cells, setN, Value.oneCell', Nat.reduceLeDiff, undef, fcT, h1, d1, d2, hx', rd_rw h1, Nat.mul_one, w1, w2])) | (with_reducible refine fun (hBd_ : Bd _ _) => ?_) | ((first | (with_reducible refine @And.intro (Sub _ _) _ ?_ ?_) | ((with_reducible refine @And.intro (Sub _ _ ∧ _) _ ?_ ?_); (with_reducible refine @And.intro (Sub _ _) _ ?_ ?_))); exact sbX) | ((with_reducible refine And.intro ?_ ?_); omega)))
    all_goals try (exfalso; omega)
    exact ⟨⟨x, rfl, hx1, hx2⟩, hC.put (by omega) (by omega) h4 h5, fun q hq => upd_ne hq, rfl⟩
  · have d1 : decide (at_ < (n : Int)) = false := decide_eq_false hlt
    have d2 : decide (at_ + 1 ≤ (n : Int)) = false := decide_eq_false (by omega)
    simp (disch := omega) only [bsW, WOp, WOq, WV, bo, eqN, gdc, gw, bnd, ↓reduceIte, Nat.reduceEqDiff, rsvs, rsv, oneOf, rdN, ne_eq, Nat.reduceAdd, Nat.reduceMul, Nat.reduceLT, reduceCtorEq, Value.cells, setN, Value.oneCell', Nat.reduceLeDiff, undef, fcT, h1, d1, d2, rd_rw h1, w1, c_spec_l1Cur_next]
    (repeat' (first | ((with_reducible refine gif_split (fun hs_ => ?_) (fun hs_ => ?_)) <;> (have hp_ := hs_; (try simp only [hpL, ne_eq] at hp_); (try simp (disch := omega) only [bsW, WOp, WOq, WV, bo, eqN, gdc, gw, bnd, ↓reduceIte, Nat.reduceEqDiff, rsvs, rsv, oneOf, rdN, ne_eq, Nat.reduceAdd, Nat.reduceMul, Nat.reduceLT, reduceCtorEq, Value.cells, setN, Value.oneCell', Nat.reduceLeDiff, undef, fcT, h1, d1, d2, rd_rw h1, w1, hs_]))) | ((first | (with_reducible refine newB_i (fun nb_ hb_ => ?_)) | (with_reducible refine RgE_i (fun (hBd_ : Bd _ _) => ?_))); (try simp (disch := omega) only [bsW, WOp, WOq, WV, bo, eqN, gdc, gw, bnd, ↓reduceIte, Nat.reduceEqDiff, rsvs, rsv, oneOf, rdN, ne_eq, Nat.reduceAdd, Nat.reduceMul, Nat.reduceLT, reduceCtorEq, Value.cells, setN, Value.oneCell', Nat.reduceLeDiff, undef, fcT, h1, d1, d2, rd_rw h1, w1])) | (with_reducible refine fun (hBd_ : Bd _ _) => ?_) | ((first | (with_reducible refine @And.intro (Sub _ _) _ ?_ ?_) | ((with_reducible refine @And.intro (Sub _ _ ∧ _) _ ?_ ?_); (with_reducible refine @And.intro (Sub _ _) _ ?_ ?_))); exact sbX) | ((with_reducible refine And.intro ?_ ?_); omega)))
    all_goals try (exfalso; omega)
    refine ⟨⟨_, rfl, ?_⟩, hC.put (by omega) (by omega) h4 h5, fun q hq => upd_ne hq, rfl⟩
    have := and255
    have w3 : ∀ y : Int, 0 ≤ y → y ≤ 255 → IntKind.i64.wrap y = y := fun y h1 h2 => by rw [IntKind.wrap_i64]; omega
    rw [w3 _ (this _).1 (this _).2]
    exact this _
theorem pick1 (H0 : Hp) (n0 bC : Nat) (a m : Int) (H : Hp) (nx : Nat) (hC : Cur H0 n0 H bC a) (ha : a ≤ 4611686018427387900) (hm : m ≤ 1048576) :
    AC Tryd.prog 65 #[.pointer (some ⟨bC, 0, none⟩), .int .i64 m] H nx (DrawK H0 n0 H nx bC (a + 2) (intIn 0 (if m ≤ 1 then 0 else m - 1))) := by
  refine AC_of x_spec_l1Cur_pick rfl fun hB => ?_
  by_cases hm1 : m ≤ 1
  · simp (disch := omega) only [bsW, WOp, WOq, WV, bo, eqN, gdc, gw, bnd, ↓reduceIte, Nat.reduceEqDiff, rsvs, rsv, oneOf, rdN, ne_eq, Nat.reduceAdd, Nat.reduceMul, Nat.reduceLT, reduceCtorEq, Value.cells, setN, Value.oneCell', Nat.reduceLeDiff, undef, fcT, hm1, c_spec_l1Cur_pick]
    (repeat' (first | ((with_reducible refine gif_split (fun hs_ => ?_) (fun hs_ => ?_)) <;> (have hp_ := hs_; (try simp only [hpL, ne_eq] at hp_); (try simp (disch := omega) only [bsW, WOp, WOq, WV, bo, eqN, gdc, gw, bnd, ↓reduceIte, Nat.reduceEqDiff, rsvs, rsv, oneOf, rdN, ne_eq, Nat.reduceAdd, Nat.reduceMul, Nat.reduceLT, reduceCtorEq, Value.cells, setN, Value.oneCell', Nat.reduceLeDiff, undef, fcT, hm1, hs_]))) | ((first | (with_reducible refine newB_i (fun nb_ hb_ => ?_)) | (with_reducible refine RgE_i (fun (hBd_ : Bd _ _) => ?_))); (try simp (disch := omega) only [bsW, WOp, WOq, WV, bo, eqN, gdc, gw, bnd, ↓reduceIte, Nat.reduceEqDiff, rsvs, rsv, oneOf, rdN, ne_eq, Nat.reduceAdd, Nat.reduceMul, Nat.reduceLT, reduceCtorEq, Value.cells, setN, Value.oneCell', Nat.reduceLeDiff, undef, fcT, hm1])) | (with_reducible refine fun (hBd_ : Bd _ _) => ?_) | ((first | (with_reducible refine @And.intro (Sub _ _) _ ?_ ?_) | ((with_reducible refine @And.intro (Sub _ _ ∧ _) _ ?_ ?_); (with_reducible refine @And.intro (Sub _ _) _ ?_ ?_))); exact sbX) | ((with_reducible refine And.intro ?_ ?_); omega)))
    all_goals try (exfalso; omega)
    exact ⟨⟨0, rfl, Int.le_refl _, by first | exact Int.le_refl _ | (rw [if_pos hm1]; exact Int.le_refl _)⟩, hC.le (by omega), fun _ _ => rfl, rfl⟩
  have d1 : decide (m ≤ 1) = false := decide_eq_false hm1
  simp (disch := omega) only [bsW, WOp, WOq, WV, bo, eqN, gdc, gw, bnd, ↓reduceIte, Nat.reduceEqDiff, rsvs, rsv, oneOf, rdN, ne_eq, Nat.reduceAdd, Nat.reduceMul, Nat.reduceLT, reduceCtorEq, Value.cells, setN, Value.oneCell', Nat.reduceLeDiff, undef, fcT, d1, c_spec_l1Cur_pick]
  (repeat' (first | ((with_reducible refine gif_split (fun hs_ => ?_) (fun hs_ => ?_)) <;> (have hp_ := hs_; (try simp only [hpL, ne_eq] at hp_); (try simp (disch := omega) only [bsW, WOp, WOq, WV, bo, eqN, gdc, gw, bnd, ↓reduceIte, Nat.reduceEqDiff, rsvs, rsv, oneOf, rdN, ne_eq, Nat.reduceAdd, Nat.reduceMul, Nat.reduceLT, reduceCtorEq, Value.cells, setN, Value.oneCell', Nat.reduceLeDiff, undef, fcT, d1, hs_]))) | ((first | (with_reducible refine newB_i (fun nb_ hb_ => ?_)) | (with_reducible refine RgE_i (fun (hBd_ : Bd _ _) => ?_))); (try simp (disch := omega) only [bsW, WOp, WOq, WV, bo, eqN, gdc, gw, bnd, ↓reduceIte, Nat.reduceEqDiff, rsvs, rsv, oneOf, rdN, ne_eq, Nat.reduceAdd, Nat.reduceMul, Nat.reduceLT, reduceCtorEq, Value.cells, setN, Value.oneCell', Nat.reduceLeDiff, undef, fcT, d1])) | (with_reducible refine fun (hBd_ : Bd _ _) => ?_) | ((first | (with_reducible refine @And.intro (Sub _ _) _ ?_ ?_) | ((with_reducible refine @And.intro (Sub _ _ ∧ _) _ ?_ ?_); (with_reducible refine @And.intro (Sub _ _) _ ?_ ?_))); exact sbX) | ((with_reducible refine And.intro ?_ ?_); omega)))
  all_goals try (exfalso; omega)
  refine (next1 H0 n0 bC a H nx hC (by omega)).monoC ?_
  rintro v1 H1 nx1 hB1 hx1 ⟨⟨x, rfl, hx2, hx3⟩, hC1, hoth1, rfl⟩
  have hm0 : ¬ m = 0 := by omega
  by_cases hm2 : 200 < m
  · have d2 : decide (200 < m) = true := decide_eq_true hm2
    (try (simp (disch := omega) only [bsW, WOp, WOq, WV, bo, eqN, gdc, gw, bnd, ↓reduceIte, Nat.reduceEqDiff, rsvs, rsv, oneOf, rdN, ne_eq, Nat.reduceAdd, Nat.reduceMul, Nat.reduceLT, reduceCtorEq, Value.cells, setN, Value.oneCell', Nat.reduceLeDiff, undef, fcT, d2, hm0]))
    (repeat' (first | ((with_reducible refine gif_split (fun hs_ => ?_) (fun hs_ => ?_)) <;> (have hp_ := hs_; (try simp only [hpL, ne_eq] at hp_); (try simp (disch := omega) only [bsW, WOp, WOq, WV, bo, eqN, gdc, gw, bnd, ↓reduceIte, Nat.reduceEqDiff, rsvs, rsv, oneOf, rdN, ne_eq, Nat.reduceAdd, Nat.reduceMul, Nat.reduceLT, reduceCtorEq, Value.cells, setN, Value.oneCell', Nat.reduceLeDiff, undef, fcT, d2, hm0, hs_]))) | ((first | (with_reducible refine newB_i (fun nb_ hb_ => ?_)) | (with_reducible refine RgE_i (fun (hBd_ : Bd _ _) => ?_))); (try simp (disch := omega) only [bsW, WOp, WOq, WV, bo, eqN, gdc, gw, bnd, ↓reduceIte, Nat.reduceEqDiff, rsvs, rsv, oneOf, rdN, ne_eq, Nat.reduceAdd, Nat.reduceMul, Nat.reduceLT, reduceCtorEq, Value.cells, setN, Value.oneCell', Nat.reduceLeDiff, undef, fcT, d2, hm0])) | (with_reducible refine fun (hBd_ : Bd _ _) => ?_) | ((first | (with_reducible refine @And.intro (Sub _ _) _ ?_ ?_) | ((with_reducible refine @And.intro (Sub _ _ ∧ _) _ ?_ ?_); (with_reducible refine @And.intro (Sub _ _) _ ?_ ?_))); exact sbX) | ((with_reducible refine And.intro ?_ ?_); omega)))
    all_goals try (exfalso; omega)
    refine (next1 H0 n0 bC (a + 1) H1 nx1 hC1 (by omega)).monoC ?_
    rintro v2 H2 nx2 hB2 hx2' ⟨⟨y, rfl, hy2, hy3⟩, hC2, hoth2, rfl⟩
    (try (simp (disch := omega) only [bsW, WOp, WOq, WV, bo, eqN, gdc, gw, bnd, ↓reduceIte, Nat.reduceEqDiff, rsvs, rsv, oneOf, rdN, ne_eq, Nat.reduceAdd, Nat.reduceMul, Nat.reduceLT, reduceCtorEq, Value.cells, setN, Value.oneCell', Nat.reduceLeDiff, undef, fcT, d2, hm0]))
    (repeat' (first | ((with_reducible refine gif_split (fun hs_ => ?_) (fun hs_ => ?_)) <;> (have hp_ := hs_; (try simp only [hpL, ne_eq] at hp_); (try simp (disch := omega) only [bsW, WOp, WOq, WV, bo, eqN, gdc, gw, bnd, ↓reduceIte, Nat.reduceEqDiff, rsvs, rsv, oneOf, rdN, ne_eq, Nat.reduceAdd, Nat.reduceMul, Nat.reduceLT, reduceCtorEq, Value.cells, setN, Value.oneCell', Nat.reduceLeDiff, undef, fcT, d2, hm0, hs_]))) | ((first | (with_reducible refine newB_i (fun nb_ hb_ => ?_)) | (with_reducible refine RgE_i (fun (hBd_ : Bd _ _) => ?_))); (try simp (disch := omega) only [bsW, WOp, WOq, WV, bo, eqN, gdc, gw, bnd, ↓reduceIte, Nat.reduceEqDiff, rsvs, rsv, oneOf, rdN, ne_eq, Nat.reduceAdd, Nat.reduceMul, Nat.reduceLT, reduceCtorEq, Value.cells, setN, Value.oneCell', Nat.reduceLeDiff, undef, fcT, d2, hm0])) | (with_reducible refine fun (hBd_ : Bd _ _) => ?_) | ((first | (with_reducible refine @And.intro (Sub _ _) _ ?_ ?_) | ((with_reducible refine @And.intro (Sub _ _ ∧ _) _ ?_ ?_); (with_reducible refine @And.intro (Sub _ _) _ ?_ ?_))); exact sbX) | ((with_reducible refine And.intro ?_ ?_); omega)))
    all_goals try (exfalso; omega)
    refine ⟨⟨_, rfl, ?_⟩, hC2.le (by omega), fun q hq => (hoth2 q hq).trans (hoth1 q hq), rfl⟩
    rw [if_neg hm1]
    have := Int.tmod_nonneg m (show 0 ≤ x * 256 + y by omega)
    have := Int.tmod_lt_of_pos (x * 256 + y) (show 0 < m by omega)
    omega
  · have d2 : decide (200 < m) = false := decide_eq_false hm2
    (try (simp (disch := omega) only [bsW, WOp, WOq, WV, bo, eqN, gdc, gw, bnd, ↓reduceIte, Nat.reduceEqDiff, rsvs, rsv, oneOf, rdN, ne_eq, Nat.reduceAdd, Nat.reduceMul, Nat.reduceLT, reduceCtorEq, Value.cells, setN, Value.oneCell', Nat.reduceLeDiff, undef, fcT, d2, hm0]))
    (repeat' (first | ((with_reducible refine gif_split (fun hs_ => ?_) (fun hs_ => ?_)) <;> (have hp_ := hs_; (try simp only [hpL, ne_eq] at hp_); (try simp (disch := omega) only [bsW, WOp, WOq, WV, bo, eqN, gdc, gw, bnd, ↓reduceIte, Nat.reduceEqDiff, rsvs, rsv, oneOf, rdN, ne_eq, Nat.reduceAdd, Nat.reduceMul, Nat.reduceLT, reduceCtorEq, Value.cells, setN, Value.oneCell', Nat.reduceLeDiff, undef, fcT, d2, hm0, hs_]))) | ((first | (with_reducible refine newB_i (fun nb_ hb_ => ?_)) | (with_reducible refine RgE_i (fun (hBd_ : Bd _ _) => ?_))); (try simp (disch := omega) only [bsW, WOp, WOq, WV, bo, eqN, gdc, gw, bnd, ↓reduceIte, Nat.reduceEqDiff, rsvs, rsv, oneOf, rdN, ne_eq, Nat.reduceAdd, Nat.reduceMul, Nat.reduceLT, reduceCtorEq, Value.cells, setN, Value.oneCell', Nat.reduceLeDiff, undef, fcT, d2, hm0])) | (with_reducible refine fun (hBd_ : Bd _ _) => ?_) | ((first | (with_reducible refine @And.intro (Sub _ _) _ ?_ ?_) | ((with_reducible refine @And.intro (Sub _ _ ∧ _) _ ?_ ?_); (with_reducible refine @And.intro (Sub _ _) _ ?_ ?_))); exact sbX) | ((with_reducible refine And.intro ?_ ?_); omega)))
    all_goals try (exfalso; omega)
    refine ⟨⟨_, rfl, ?_⟩, hC1.le (by omega), fun q hq => hoth1 q hq, rfl⟩
    rw [if_neg hm1]
    have := Int.tmod_nonneg m (show 0 ≤ x by omega)
    have := Int.tmod_lt_of_pos x (show 0 < m by omega)
    omega
def isBool (v : Value) : Prop := ∃ t : Bool, v = .bool t
theorem one1 (H0 : Hp) (n0 bC : Nat) (a m : Int) (H : Hp) (nx : Nat) (hC : Cur H0 n0 H bC a) (ha : a ≤ 4611686018427387900) (hm : m ≤ 1048576) :
    AC Tryd.prog 73 #[.pointer (some ⟨bC, 0, none⟩), .int .i64 m] H nx (DrawK H0 n0 H nx bC (a + 2) isBool) := by
  refine AC_of x_spec_l1Cur_one rfl fun hB => ?_
  simp (disch := omega) only [bsW, WOp, WOq, WV, bo, eqN, gdc, gw, bnd, ↓reduceIte, Nat.reduceEqDiff, rsvs, rsv, oneOf, rdN, ne_eq, Nat.reduceAdd, Nat.reduceMul, Nat.reduceLT, reduceCtorEq, Value.cells, setN, Value.oneCell', Nat.reduceLeDiff, undef, fcT, c_spec_l1Cur_one]
  refine (pick1 H0 n0 bC a m H nx hC ha hm).monoC ?_
  rintro v1 H1 nx1 hB1 hx1 ⟨⟨x, rfl, hx2, hx3⟩, hC1, hoth1, rfl⟩
  (try (simp (disch := omega) only [bsW, WOp, WOq, WV, bo, eqN, gdc, gw, bnd, ↓reduceIte, Nat.reduceEqDiff, rsvs, rsv, oneOf, rdN, ne_eq, Nat.reduceAdd, Nat.reduceMul, Nat.reduceLT, reduceCtorEq, Value.cells, setN, Value.oneCell', Nat.reduceLeDiff, undef, fcT]))
  (repeat' (first | ((with_reducible refine gif_split (fun hs_ => ?_) (fun hs_ => ?_)) <;> (have hp_ := hs_; (try simp only [hpL, ne_eq] at hp_); (try simp (disch := omega) only [bsW, WOp, WOq, WV, bo, eqN, gdc, gw, bnd, ↓reduceIte, Nat.reduceEqDiff, rsvs, rsv, oneOf, rdN, ne_eq, Nat.reduceAdd, Nat.reduceMul, Nat.reduceLT, reduceCtorEq, Value.cells, setN, Value.oneCell', Nat.reduceLeDiff, undef, fcT, hs_]))) | ((first | (with_reducible refine newB_i (fun nb_ hb_ => ?_)) | (with_reducible refine RgE_i (fun (hBd_ : Bd _ _) => ?_))); (try simp (disch := omega) only [bsW, WOp, WOq, WV, bo, eqN, gdc, gw, bnd, ↓reduceIte, Nat.reduceEqDiff, rsvs, rsv, oneOf, rdN, ne_eq, Nat.reduceAdd, Nat.reduceMul, Nat.reduceLT, reduceCtorEq, Value.cells, setN, Value.oneCell', Nat.reduceLeDiff, undef, fcT])) | (with_reducible refine fun (hBd_ : Bd _ _) => ?_) | ((first | (with_reducible refine @And.intro (Sub _ _) _ ?_ ?_) | ((with_reducible refine @And.intro (Sub _ _ ∧ _) _ ?_ ?_); (with_reducible refine @And.intro (Sub _ _) _ ?_ ?_))); exact sbX) | ((with_reducible refine And.intro ?_ ?_); omega)))
  all_goals try (exfalso; omega)
  exact ⟨⟨_, rfl⟩, hC1, hoth1, rfl⟩
/-- Numbers between lo and hi. -/
def allIn (lo hi : Int) : List Value → Bool
  | [] => true
  | .int .i64 x :: r => decide (lo ≤ x) && decide (x ≤ hi) && allIn lo hi r
  | _ => false
theorem allIn_at {lo hi : Int} : ∀ {cs : List Value}, allIn lo hi cs = true → ∀ i, i < cs.length → ∃ x : Int, cs[i]? = some (.int .i64 x) ∧ lo ≤ x ∧ x ≤ hi
  | v :: r, h, i, hi => by
    unfold allIn at h
    split at h
    · rename_i h0; cases h0
    · rename_i x r' h0
      cases h0
      simp only [Bool.and_eq_true, decide_eq_true_eq] at h
      cases i with
      | zero => exact ⟨x, rfl, h.1.1, h.1.2⟩
      | succ i =>
        obtain ⟨y, h1, h2⟩ := allIn_at h.2 i (by simpa using hi)
        exact ⟨y, by simpa using h1, h2⟩
    · cases h
/-- among, at a literal. -/
theorem amongL (H0 : Hp) (n0 bC : Nat) (a lo hi : Int) (b n c : Nat) (cs : List Value) (ty : TypeId) (H : Hp) (nx : Nat) (hC : Cur H0 n0 H bC a) (ha : a ≤ 4611686018427387900) (hb : H b = some (.rw cs ty)) (hne : b ≠ bC) (hn0 : 0 < n) (hn : n ≤ cs.length) (hl : cs.length ≤ 1048576) (hp : allIn lo hi cs = true) :
    AC Tryd.prog 64 #[.pointer (some ⟨bC, 0, none⟩), .slice (some ⟨b, 0, none⟩) n c] H nx (DrawK H0 n0 H nx bC (a + 2) (intIn lo hi)) := by
  refine AC_of x_spec_l1Cur_among rfl fun hB => ?_
  simp (disch := omega) only [bsW, WOp, WOq, WV, bo, eqN, gdc, gw, bnd, ↓reduceIte, Nat.reduceEqDiff, rsvs, rsv, oneOf, rdN, ne_eq, Nat.reduceAdd, Nat.reduceMul, Nat.reduceLT, reduceCtorEq, Value.cells, setN, Value.oneCell', Nat.reduceLeDiff, undef, fcT, c_spec_l1Cur_among]
  (repeat' (first | ((with_reducible refine gif_split (fun hs_ => ?_) (fun hs_ => ?_)) <;> (have hp_ := hs_; (try simp only [hpL, ne_eq] at hp_); (try simp (disch := omega) only [bsW, WOp, WOq, WV, bo, eqN, gdc, gw, bnd, ↓reduceIte, Nat.reduceEqDiff, rsvs, rsv, oneOf, rdN, ne_eq, Nat.reduceAdd, Nat.reduceMul, Nat.reduceLT, reduceCtorEq, Value.cells, setN, Value.oneCell', Nat.reduceLeDiff, undef, fcT, hs_]))) | ((first | (with_reducible refine newB_i (fun nb_ hb_ => ?_)) | (with_reducible refine RgE_i (fun (hBd_ : Bd _ _) => ?_))); (try simp (disch := omega) only [bsW, WOp, WOq, WV, bo, eqN, gdc, gw, bnd, ↓reduceIte, Nat.reduceEqDiff, rsvs, rsv, oneOf, rdN, ne_eq, Nat.reduceAdd, Nat.reduceMul, Nat.reduceLT, reduceCtorEq, Value.cells, setN, Value.oneCell', Nat.reduceLeDiff, undef, fcT])) | (with_reducible refine fun (hBd_ : Bd _ _) => ?_) | ((first | (with_reducible refine @And.intro (Sub _ _) _ ?_ ?_) | ((with_reducible refine @And.intro (Sub _ _ ∧ _) _ ?_ ?_); (with_reducible refine @And.intro (Sub _ _) _ ?_ ?_))); exact sbX) | ((with_reducible refine And.intro ?_ ?_); omega)))
  all_goals try (exfalso; omega)
  refine (pick1 H0 n0 bC a n H nx hC ha (by omega)).monoC ?_
  rintro v1 H1 nx1 hB1 hx1 ⟨⟨x, rfl, hx2, hx3⟩, hC1, hoth1, rfl⟩
  have hx4 : x < n := by
    split at hx3 <;> omega
  obtain ⟨y, c0, hy1, hy2⟩ := allIn_at hp x.toNat (by omega)
  have hb1 : H1 b = some (.rw cs ty) := by rw [hoth1 b hne]; exact hb
  (try (simp (disch := omega) only [bsW, WOp, WOq, WV, bo, eqN, gdc, gw, bnd, ↓reduceIte, Nat.reduceEqDiff, rsvs, rsv, oneOf, rdN, ne_eq, Nat.reduceAdd, Nat.reduceMul, Nat.reduceLT, reduceCtorEq, Value.cells, setN, Value.oneCell', Nat.reduceLeDiff, undef, fcT, rd_rw hb1, c0, Nat.zero_add, Nat.mul_one]))
  (repeat' (first | ((with_reducible refine gif_split (fun hs_ => ?_) (fun hs_ => ?_)) <;> (have hp_ := hs_; (try simp only [hpL, ne_eq] at hp_); (try simp (disch := omega) only [bsW, WOp, WOq, WV, bo, eqN, gdc, gw, bnd, ↓reduceIte, Nat.reduceEqDiff, rsvs, rsv, oneOf, rdN, ne_eq, Nat.reduceAdd, Nat.reduceMul, Nat.reduceLT, reduceCtorEq, Value.cells, setN, Value.oneCell', Nat.reduceLeDiff, undef, fcT, rd_rw hb1, c0, Nat.zero_add, Nat.mul_one, hs_]))) | ((first | (with_reducible refine newB_i (fun nb_ hb_ => ?_)) | (with_reducible refine RgE_i (fun (hBd_ : Bd _ _) => ?_))); (try simp (disch := omega) only [bsW, WOp, WOq, WV, bo, eqN, gdc, gw, bnd, ↓reduceIte, Nat.reduceEqDiff, rsvs, rsv, oneOf, rdN, ne_eq, Nat.reduceAdd, Nat.reduceMul, Nat.reduceLT, reduceCtorEq, Value.cells, setN, Value.oneCell', Nat.reduceLeDiff, undef, fcT, rd_rw hb1, c0, Nat.zero_add, Nat.mul_one])) | (with_reducible refine fun (hBd_ : Bd _ _) => ?_) | ((first | (with_reducible refine @And.intro (Sub _ _) _ ?_ ?_) | ((with_reducible refine @And.intro (Sub _ _ ∧ _) _ ?_ ?_); (with_reducible refine @And.intro (Sub _ _) _ ?_ ?_))); exact sbX) | ((with_reducible refine And.intro ?_ ?_); omega)))
  all_goals try (exfalso; omega)
  exact ⟨⟨_, rfl, hy1, hy2⟩, hC1, hoth1, rfl⟩
/-- A cursor, made. -/
theorem Cur.start {H0 : Hp} {n0 b : Nat} {A : Option Addr} {n c : Nat} (hB : Bd H0 n0) (hb : n0 ≤ b) (hn : n ≤ 9223372036854775807) (hR : RdU H0 A n) : Cur H0 n0 (upd H0 b (.rw [.slice A n c, .int .i64 0, .int .u64 0] 83)) b 0 :=
  ⟨⟨A, n, c, 0, 0, upd_same _ _ _, Int.le_refl _, Int.le_refl _, hn, hR⟩, hB, hb, sub_up hb hB (Sub.refl _)⟩
end Go.Proofs.YtnjlleopgjggpaaDoor
