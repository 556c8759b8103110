/- A stable sort of a few; rank. -/
import Derived.Test.YtnjlleopgjggpaaDoorR7
import Derived.Test.YtnjlleopgjggpaaDoorR10
import Derived.Test.YtnjlleopgjggpaaDoorD6
import Derived.Test.YtnjlleopgjggpaaDoorD2
set_option linter.unusedVariables false
set_option linter.unusedSimpArgs false
set_option maxRecDepth 100000
set_option maxHeartbeats 4000000
namespace Go.Proofs.YtnjlleopgjggpaaDoor
open Go Go.RowKit Go.Proofs

def betS (s : Shw) (i j : Nat) : Bool := betV (scV (s.mks i) (s.m i)) (mxV (s.mks i) (s.m i)) (scV (s.mks j) (s.m j)) (mxV (s.mks j) (s.m j))
/-- Where x comes in among the first k, seen from behind. -/
def insK (bet : Nat → Nat → Bool) (L : Nat → Nat) (x : Nat) : Nat → Nat
  | 0 => 0
  | k + 1 => if bet x (L k) = true then insK bet L x k else k + 1
def insAt (L : Nat → Nat) (x k : Nat) : Nat → Nat := fun p => if p < k then L p else if p = k then x else L (p - 1)
def rkF (bet : Nat → Nat → Bool) : Nat → Nat → Nat
  | 0 => fun _ => 0
  | i + 1 => insAt (rkF bet i) i (insK bet (rkF bet i) i i)
theorem insK_le (bet : Nat → Nat → Bool) (L : Nat → Nat) (x : Nat) : ∀ k, insK bet L x k ≤ k
  | 0 => Nat.le_refl _
  | k + 1 => by
    have := insK_le bet L x k
    unfold insK
    split <;> omega
theorem rkF_lt (bet : Nat → Nat → Bool) : ∀ i p, p < i → rkF bet i p < i
  | 0, p, hp => by omega
  | i + 1, p, hp => by
    have hk := insK_le bet (rkF bet i) i i
    unfold rkF insAt
    split
    · have := rkF_lt bet i p (by omega); omega
    · split
      · omega
      · have := rkF_lt bet i (p - 1) (by omega); omega
theorem insK_at {bet : Nat → Nat → Bool} {L : Nat → Nat} {x j : Nat} : ∀ m, j ≤ m → (∀ p, j ≤ p → p < m → bet x (L p) = true) → (0 < j → bet x (L (j - 1)) = false) → insK bet L x m = j
  | 0, hj, _, _ => by unfold insK; omega
  | m + 1, hj, h1, h2 => by
    unfold insK
    by_cases e : j = m + 1
    · subst e
      have := h2 (by omega)
      rw [Nat.add_sub_cancel] at this
      rw [this, if_neg (by simp)]
    · rw [h1 m (by omega) (by omega), if_pos rfl]
      exact insK_at m (by omega) (fun p h h' => h1 p h (by omega)) h2
/-- On the way: x stands at j, those behind have moved on. -/
def midF (L : Nat → Nat) (x j : Nat) : Nat → Nat := fun p => if p < j then L p else if p = j then x else if p ≤ x then L (p - 1) else p
theorem midF_end {bet : Nat → Nat → Bool} {m j : Nat} (hj : j ≤ m) (h1 : ∀ p, j ≤ p → p < m → bet m (rkF bet m p) = true) (h2 : 0 < j → bet m (rkF bet m (j - 1)) = false) (p : Nat) :
    midF (rkF bet m) m j p = if p < m + 1 then rkF bet (m + 1) p else p := by
  have e : rkF bet (m + 1) = insAt (rkF bet m) m j := by
    show insAt (rkF bet m) m (insK bet (rkF bet m) m m) = _
    rw [insK_at m hj h1 h2]
  rw [e]
  unfold midF insAt
  by_cases hp : p < m + 1
  · rw [if_pos hp]
    split
    · rfl
    · split
      · rfl
      · rw [if_pos (by omega)]
  · rw [if_neg hp, if_neg (by omega), if_neg (by omega), if_neg (by omega)]
theorem midF_start (bet : Nat → Nat → Bool) (m p : Nat) : midF (rkF bet m) m m p = if p < m then rkF bet m p else p := by
  unfold midF
  (repeat' split) <;> omega
/-- x changes places with the one ahead of it. -/
theorem midF_swap {L : Nat → Nat} {x j n : Nat} (hj : j + 1 ≤ x) (hx : x < n) :
    set2 (set2 (fun p _ => ((midF L x (j + 1) p : Nat) : Int)) (j + 1) 0 (midF L x (j + 1) j : Nat)) j 0 (midF L x (j + 1) (j + 1) : Nat) = fun p q => if q = 0 then ((midF L x j p : Nat) : Int) else ((midF L x (j + 1) p : Nat) : Int) := by
  funext p q
  unfold set2
  by_cases hq : q = 0
  · subst hq
    simp only [and_true, if_true]
    by_cases h1 : p = j
    · subst h1
      rw [if_pos rfl]
      unfold midF
      rw [if_neg (by omega), if_pos rfl, if_neg (by omega), if_pos rfl]
    · rw [if_neg h1]
      by_cases h2 : p = j + 1
      · subst h2
        rw [if_pos rfl]
        unfold midF
        rw [if_pos (by omega), if_neg (by omega), if_neg (by omega), if_pos (by omega), Nat.add_sub_cancel]
      · rw [if_neg h2]
        congr 1
        unfold midF
        (repeat' split) <;> first | rfl | omega
  · rw [if_neg (by omega), if_neg (by omega), if_neg hq]
structure SortK (H : Hp) (q cap n : Nat) (L : Nat → Nat) (v : Value) (H' : Hp) (nx' : Nat) : Prop where
  v : v = .tuple #[]
  own : ∃ sp, H' q = some (.rw (flat n 1 (fun p _ => ((L p : Nat) : Int)) ++ sp) 3) ∧ sp.length = (cap - n) * 1
  s : Sub (del H q) H'
theorem del_upd {H H' : Hp} {q : Nat} {o : Blk} (h : Sub (del H q) H') : Sub (del H q) (upd H' q o) := fun k o' e => by
  have h1 := h k o' e
  unfold del at e
  split at e
  · cases e
  · rename_i hk; rw [upd_ne hk]; exact h1

theorem insSort (q cap n : Nat) (sp : List Value) (g : Nat) (cv : Value) (cm : Nat → Nat → Int) (bet : Nat → Nat → Bool) (H : Hp) (nx : Nat) (hbet : ∀ a b, a < n → b < n → (cm a b < 0 ↔ bet a b = true)) (hn0 : 0 < n) (hn : n ≤ 20) (hcap : n ≤ cap) (hqx : q < nx)
    (hq : H q = some (.rw (flat n 1 (fun p _ => (p : Int)) ++ sp) 3)) (hsp : sp.length = (cap - n) * 1)
    (hcm : ∀ (H' : Hp) (nx' : Nat), Sub (del H q) H' → nx ≤ nx' → ∀ a b, a < n → b < n → PC Tryd.prog g #[.int .i64 (a : Nat), .int .i64 (b : Nat), cv] H' nx' (.int .i64 (cm a b))) :
    AC Tryd.prog 155 #[.slice (some ⟨q, 0, none⟩) n cap, .int .i64 0, .int .i64 n, .func (.func g) #[] #[cv]] H nx (SortK H q cap n (rkF bet n)) := by
  refine AC_of x_slices_insertionSortCmpFunc_int rfl fun hB => ?_
  simp (disch := omega) only [bsW, WOp, WOq, WV, bo, eqN, gdc, gw, bnd, ↓reduceIte, Nat.reduceEqDiff, rsvs, rsv, oneOf, rdN, ne_eq, Nat.reduceAdd, Nat.reduceMul, Nat.reduceLT, reduceCtorEq, Value.cells, setN, Value.oneCell', Nat.reduceLeDiff, undef, fcT, c_slices_insertionSortCmpFunc_int]
  refine LpB_rule (fun mm fr H' nx' => ∃ m : Nat, mm = n - m + 1 ∧ 1 ≤ m ∧ m ≤ n ∧ fr 0 = .slice (some ⟨q, 0, none⟩) n cap ∧ fr 1 = .int .i64 0 ∧ fr 2 = .int .i64 n ∧ fr 3 = .func (.func g) #[] #[cv] ∧ fr 8 = .int .i64 m ∧
    (∃ sp, H' q = some (.rw (flat n 1 (fun p _ => (((if p < m then rkF bet m p else p) : Nat) : Int)) ++ sp) 3) ∧ sp.length = (cap - n) * 1) ∧ Sub (del H q) H' ∧ nx ≤ nx') ?_ ?_ (n - 1 + 1) ?_
  · rintro mm K hK fr H' nx' hB' ⟨m, hmm, hm1, hm, f0, f1, f2, f3, f8, ⟨sp1, hq1, hsp1⟩, hs, hx⟩
    simp (disch := omega) only [bsW, WOp, WOq, WV, bo, eqN, gdc, gw, bnd, ↓reduceIte, Nat.reduceEqDiff, rsvs, rsv, oneOf, rdN, ne_eq, Nat.reduceAdd, Nat.reduceMul, Nat.reduceLT, reduceCtorEq, Value.cells, setN, Value.oneCell', Nat.reduceLeDiff, undef, fcT, f0, f1, f2, f3, f8]
    refine gif_split (fun b1 => ?_) (fun b1 => ?_)
    · have hlt : m < n := by simpa using b1
      have hL := rkF_lt bet m
      simp (disch := omega) only [bsW, WOp, WOq, WV, bo, eqN, gdc, gw, bnd, ↓reduceIte, Nat.reduceEqDiff, rsvs, rsv, oneOf, rdN, ne_eq, Nat.reduceAdd, Nat.reduceMul, Nat.reduceLT, reduceCtorEq, Value.cells, setN, Value.oneCell', Nat.reduceLeDiff, undef, fcT, f0, f1, f2, f3, f8, b1]
      refine LpB_rule (fun mm2 fr2 H2 nx2 => ∃ j : Nat, mm2 = j + 1 ∧ j ≤ m ∧ fr2 0 = .slice (some ⟨q, 0, none⟩) n cap ∧ fr2 1 = .int .i64 0 ∧ fr2 2 = .int .i64 n ∧ fr2 3 = .func (.func g) #[] #[cv] ∧ fr2 8 = .int .i64 m ∧ fr2 9 = .int .i64 j ∧
        (∃ sp, H2 q = some (.rw (flat n 1 (fun p _ => ((midF (rkF bet m) m j p : Nat) : Int)) ++ sp) 3) ∧ sp.length = (cap - n) * 1) ∧ (∀ p, j ≤ p → p < m → bet m (rkF bet m p) = true) ∧ Sub (del H q) H2 ∧ nx ≤ nx2) ?_ ?_ (m + 1) ?_
      · rintro mm2 K2 hK2 fr2 H2 nx2 hB2 ⟨j, hmm2, hj, g0, g1, g2, g3, g8, g9, ⟨sp2, hq2, hsp2⟩, hall, hs2, hx2⟩
        by_cases hj0 : j = 0
        · subst hj0
          simp (disch := omega) only [bsW, WOp, WOq, WV, bo, eqN, gdc, gw, bnd, ↓reduceIte, Nat.reduceEqDiff, rsvs, rsv, oneOf, rdN, ne_eq, Nat.reduceAdd, Nat.reduceMul, Nat.reduceLT, reduceCtorEq, Value.cells, setN, Value.oneCell', Nat.reduceLeDiff, undef, fcT, g0, g1, g2, g3, g8, g9, Int.natCast_zero, Int.lt_irrefl, decide_false, decide_true]
          (repeat' (first | ((with_reducible refine gif_split (fun hs_ => ?_) (fun hs_ => ?_)) <;> (have hp_ := hs_; (try simp only [hpL, ne_eq] at hp_); (try simp (disch := omega) only [bsW, WOp, WOq, WV, bo, eqN, gdc, gw, bnd, ↓reduceIte, Nat.reduceEqDiff, rsvs, rsv, oneOf, rdN, ne_eq, Nat.reduceAdd, Nat.reduceMul, Nat.reduceLT, reduceCtorEq, Value.cells, setN, Value.oneCell', Nat.reduceLeDiff, undef, fcT, g0, g1, g2, g3, g8, g9, Int.natCast_zero, Int.lt_irrefl, decide_false, decide_true, hs_]))) | ((first | (with_reducible refine newB_i (fun nb_ hb_ => ?_)) | (with_reducible refine RgE_i (fun (hBd_ : Bd _ _) => ?_))); (try simp (disch := omega) only [bsW, WOp, WOq, WV, bo, eqN, gdc, gw, bnd, ↓reduceIte, Nat.reduceEqDiff, rsvs, rsv, oneOf, rdN, ne_eq, Nat.reduceAdd, Nat.reduceMul, Nat.reduceLT, reduceCtorEq, Value.cells, setN, Value.oneCell', Nat.reduceLeDiff, undef, fcT, g0, g1, g2, g3, g8, g9, Int.natCast_zero, Int.lt_irrefl, decide_false, decide_true])) | (with_reducible refine fun (hBd_ : Bd _ _) => ?_) | ((first | (with_reducible refine @And.intro (Sub _ _) _ ?_ ?_) | ((with_reducible refine @And.intro (Sub _ _ ∧ _) _ ?_ ?_); (with_reducible refine @And.intro (Sub _ _) _ ?_ ?_))); exact sbX) | ((with_reducible refine And.intro ?_ ?_); omega)))
          all_goals try (exfalso; omega)
          refine hK _ _ _ ?_
          refine ⟨m + 1, by omega, by omega, by omega, by simp (disch := omega) only [bsW, ↓reduceIte, Nat.reduceEqDiff, ne_eq, reduceCtorEq, fcT, g0, g1, g2, g3, g8, g9, Int.natCast_zero, Int.lt_irrefl, decide_false, decide_true], by simp (disch := omega) only [bsW, ↓reduceIte, Nat.reduceEqDiff, ne_eq, reduceCtorEq, fcT, g0, g1, g2, g3, g8, g9, Int.natCast_zero, Int.lt_irrefl, decide_false, decide_true], by simp (disch := omega) only [bsW, ↓reduceIte, Nat.reduceEqDiff, ne_eq, reduceCtorEq, fcT, g0, g1, g2, g3, g8, g9, Int.natCast_zero, Int.lt_irrefl, decide_false, decide_true], by simp (disch := omega) only [bsW, ↓reduceIte, Nat.reduceEqDiff, ne_eq, reduceCtorEq, fcT, g0, g1, g2, g3, g8, g9, Int.natCast_zero, Int.lt_irrefl, decide_false, decide_true], by simp (disch := omega) only [bsW, ↓reduceIte, Nat.reduceEqDiff, ne_eq, reduceCtorEq, fcT, g0, g1, g2, g3, g8, g9, Int.natCast_zero, Int.lt_irrefl, decide_false, decide_true, Int.natCast_add, Int.natCast_one], ⟨sp2, ?_, hsp2⟩, hs2, by omega⟩
          rw [hq2]
          congr 3
          exact flat_congr fun p _ hp _ => by rw [midF_end hj hall (fun h => by omega)]
        obtain ⟨j, rfl⟩ : ∃ i, j = i + 1 := ⟨j - 1, by omega⟩
        have a1 : midF (rkF bet m) m (j + 1) (j + 1) = m := by unfold midF; rw [if_neg (by omega), if_pos rfl]
        have a2 : midF (rkF bet m) m (j + 1) j = rkF bet m j := by unfold midF; rw [if_pos (by omega)]
        have hrj := hL j (by omega)
        have c1 : rd H2 q (j + 1) = some (.int .i64 (m : Nat)) := by
          rw [rd_rw hq2]
          have := flat_get_sp (f := fun p _ => ((midF (rkF bet m) m (j + 1) p : Nat) : Int)) (sp := sp2) (show j + 1 < n by omega) (show 0 < 1 by omega)
          simp only [Nat.mul_one, Nat.add_zero] at this
          rw [this, a1]
        have c2 : rd H2 q j = some (.int .i64 (rkF bet m j : Nat)) := by
          rw [rd_rw hq2]
          have := flat_get_sp (f := fun p _ => ((midF (rkF bet m) m (j + 1) p : Nat) : Int)) (sp := sp2) (show j < n by omega) (show 0 < 1 by omega)
          simp only [Nat.mul_one, Nat.add_zero] at this
          rw [this, a2]
        have hd : Sub (del H2 q) (del H2 q) := Sub.refl _
        have t1 : ((j : Int) + 1).toNat = j + 1 := by omega
        have t2 : ((j : Int) + 1 - 1).toNat = j := by omega
        have t3 : (((j + 1 : Nat) : Int)).toNat = j + 1 := by omega
        have t4 : (((j + 1 : Nat) : Int) - 1).toNat = j := by omega
        have w1 : IntKind.i64.wrap (((j + 1 : Nat) : Int) - 1) = (j : Int) := by rw [IntKind.wrap_i64]; omega
        have gt1 : decide ((0 : Int) < ((j + 1 : Nat) : Int)) = true := by rw [decide_eq_true_iff]; omega
        simp (disch := omega) only [bsW, WOp, WOq, WV, bo, eqN, gdc, gw, bnd, ↓reduceIte, Nat.reduceEqDiff, rsvs, rsv, oneOf, rdN, ne_eq, Nat.reduceAdd, Nat.reduceMul, Nat.reduceLT, reduceCtorEq, Value.cells, setN, Value.oneCell', Nat.reduceLeDiff, undef, fcT, g0, g1, g2, g3, g8, g9, gt1, t1, t2, t3, t4, w1, c1, c2, Nat.mul_one, Nat.zero_add, Int.toNat_natCast]
        (repeat' (first | ((with_reducible refine gif_split (fun hs_ => ?_) (fun hs_ => ?_)) <;> (have hp_ := hs_; (try simp only [hpL, ne_eq] at hp_); (try simp (disch := omega) only [bsW, WOp, WOq, WV, bo, eqN, gdc, gw, bnd, ↓reduceIte, Nat.reduceEqDiff, rsvs, rsv, oneOf, rdN, ne_eq, Nat.reduceAdd, Nat.reduceMul, Nat.reduceLT, reduceCtorEq, Value.cells, setN, Value.oneCell', Nat.reduceLeDiff, undef, fcT, g0, g1, g2, g3, g8, g9, gt1, t1, t2, t3, t4, w1, c1, c2, Nat.mul_one, Nat.zero_add, Int.toNat_natCast, hs_]))) | ((first | (with_reducible refine newB_i (fun nb_ hb_ => ?_)) | ((with_reducible show QC _ _ _ _ _ _); (first | (refine QC_i (hcm _ _ hs2 hx2 m (rkF bet m j) hlt (by omega)) ?_))) | ((with_reducible show AC _ _ _ _ _ _); (first | (refine PC.ac (hcm _ _ hs2 hx2 m (rkF bet m j) hlt (by omega)) ?_))) | (with_reducible refine RgE_i (fun (hBd_ : Bd _ _) => ?_))); (try simp (disch := omega) only [bsW, WOp, WOq, WV, bo, eqN, gdc, gw, bnd, ↓reduceIte, Nat.reduceEqDiff, rsvs, rsv, oneOf, rdN, ne_eq, Nat.reduceAdd, Nat.reduceMul, Nat.reduceLT, reduceCtorEq, Value.cells, setN, Value.oneCell', Nat.reduceLeDiff, undef, fcT, g0, g1, g2, g3, g8, g9, gt1, t1, t2, t3, t4, w1, c1, c2, Nat.mul_one, Nat.zero_add, Int.toNat_natCast])) | (with_reducible refine fun (hBd_ : Bd _ _) => ?_) | ((first | (with_reducible refine @And.intro (Sub _ _) _ ?_ ?_) | ((with_reducible refine @And.intro (Sub _ _ ∧ _) _ ?_ ?_); (with_reducible refine @And.intro (Sub _ _) _ ?_ ?_))); exact sbX) | ((with_reducible refine And.intro ?_ ?_); omega)))
        all_goals try (exfalso; omega)
        · have hbt : bet m (rkF bet m j) = true := (hbet m _ hlt (by omega)).1 hp_
          (try (simp (disch := omega) only [bsW, WOp, WOq, WV, bo, eqN, gdc, gw, bnd, ↓reduceIte, Nat.reduceEqDiff, rsvs, rsv, oneOf, rdN, ne_eq, Nat.reduceAdd, Nat.reduceMul, Nat.reduceLT, reduceCtorEq, Value.cells, setN, Value.oneCell', Nat.reduceLeDiff, undef, fcT, g0, g1, g2, g3, g8, g9, gt1, t1, t2, t3, t4, w1, c1, c2, hq2, List.length_append, flat_length, Nat.mul_one, Nat.zero_add, Int.toNat_natCast]))
          (repeat' (first | ((with_reducible refine gif_split (fun hs_ => ?_) (fun hs_ => ?_)) <;> (have hp_ := hs_; (try simp only [hpL, ne_eq] at hp_); (try simp (disch := omega) only [bsW, WOp, WOq, WV, bo, eqN, gdc, gw, bnd, ↓reduceIte, Nat.reduceEqDiff, rsvs, rsv, oneOf, rdN, ne_eq, Nat.reduceAdd, Nat.reduceMul, Nat.reduceLT, reduceCtorEq, Value.cells, setN, Value.oneCell', Nat.reduceLeDiff, undef, fcT, g0, g1, g2, g3, g8, g9, gt1, t1, t2, t3, t4, w1, c1, c2, hq2, List.length_append, flat_length, Nat.mul_one, Nat.zero_add, Int.toNat_natCast, hs_]))) | ((first | (with_reducible refine newB_i (fun nb_ hb_ => ?_)) | (with_reducible refine RgE_i (fun (hBd_ : Bd _ _) => ?_))); (try simp (disch := omega) only [bsW, WOp, WOq, WV, bo, eqN, gdc, gw, bnd, ↓reduceIte, Nat.reduceEqDiff, rsvs, rsv, oneOf, rdN, ne_eq, Nat.reduceAdd, Nat.reduceMul, Nat.reduceLT, reduceCtorEq, Value.cells, setN, Value.oneCell', Nat.reduceLeDiff, undef, fcT, g0, g1, g2, g3, g8, g9, gt1, t1, t2, t3, t4, w1, c1, c2, hq2, List.length_append, flat_length, Nat.mul_one, Nat.zero_add, Int.toNat_natCast])) | (with_reducible refine fun (hBd_ : Bd _ _) => ?_) | ((first | (with_reducible refine @And.intro (Sub _ _) _ ?_ ?_) | ((with_reducible refine @And.intro (Sub _ _ ∧ _) _ ?_ ?_); (with_reducible refine @And.intro (Sub _ _) _ ?_ ?_))); exact sbX) | ((with_reducible refine And.intro ?_ ?_); omega)))
          all_goals try (exfalso; omega)
          all_goals try omega
          have e1 := flat_set_sp (f := fun p _ => ((midF (rkF bet m) m (j + 1) p : Nat) : Int)) (sp := sp2) (show j + 1 < n by omega) (show 0 < 1 by omega) (rkF bet m j : Nat)
          have e2 := flat_set_sp (f := set2 (fun p _ => ((midF (rkF bet m) m (j + 1) p : Nat) : Int)) (j + 1) 0 (rkF bet m j : Nat)) (sp := sp2) (show j < n by omega) (show 0 < 1 by omega) (m : Nat)
          simp only [Nat.mul_one, Nat.add_zero] at e1 e2
          rw [e1, e2]
          refine ⟨by simp only [List.length_append, flat_length]; omega, hK2 _ _ _ ?_⟩
          refine ⟨j, by omega, by omega, by simp (disch := omega) only [bsW, ↓reduceIte, Nat.reduceEqDiff, ne_eq, reduceCtorEq, fcT, g0, g1, g2, g3, g8, g9, gt1, t1, t2, t3, t4, w1, c1, c2, hq2, List.length_append, flat_length, Nat.mul_one, Nat.zero_add, Int.toNat_natCast], by simp (disch := omega) only [bsW, ↓reduceIte, Nat.reduceEqDiff, ne_eq, reduceCtorEq, fcT, g0, g1, g2, g3, g8, g9, gt1, t1, t2, t3, t4, w1, c1, c2, hq2, List.length_append, flat_length, Nat.mul_one, Nat.zero_add, Int.toNat_natCast], by simp (disch := omega) only [bsW, ↓reduceIte, Nat.reduceEqDiff, ne_eq, reduceCtorEq, fcT, g0, g1, g2, g3, g8, g9, gt1, t1, t2, t3, t4, w1, c1, c2, hq2, List.length_append, flat_length, Nat.mul_one, Nat.zero_add, Int.toNat_natCast], by simp (disch := omega) only [bsW, ↓reduceIte, Nat.reduceEqDiff, ne_eq, reduceCtorEq, fcT, g0, g1, g2, g3, g8, g9, gt1, t1, t2, t3, t4, w1, c1, c2, hq2, List.length_append, flat_length, Nat.mul_one, Nat.zero_add, Int.toNat_natCast], by simp (disch := omega) only [bsW, ↓reduceIte, Nat.reduceEqDiff, ne_eq, reduceCtorEq, fcT, g0, g1, g2, g3, g8, g9, gt1, t1, t2, t3, t4, w1, c1, c2, hq2, List.length_append, flat_length, Nat.mul_one, Nat.zero_add, Int.toNat_natCast], by simp (disch := omega) only [bsW, ↓reduceIte, Nat.reduceEqDiff, ne_eq, reduceCtorEq, fcT, g0, g1, g2, g3, g8, g9, gt1, t1, t2, t3, t4, w1, c1, c2, hq2, List.length_append, flat_length, Nat.mul_one, Nat.zero_add, Int.toNat_natCast], ⟨sp2, ?_, hsp2⟩, fun p h1 h2 => ?_, del_upd hs2, by omega⟩
          · rw [upd_same]
            congr 3
            have := midF_swap (L := rkF bet m) (x := m) (j := j) (n := n) (by omega) hlt
            rw [a1, a2] at this
            rw [this]
            exact flat_congr fun p r _ hr => by rw [if_pos (by omega)]
          · rcases Nat.eq_or_lt_of_le h1 with e | e
            · subst e; exact hbt
            · exact hall p e h2
        · have hbt : bet m (rkF bet m j) = false := by
            rw [Bool.eq_false_iff]
            exact fun h => hp_ ((hbet m _ hlt (by omega)).2 h)
          (try (simp (disch := omega) only [bsW, WOp, WOq, WV, bo, eqN, gdc, gw, bnd, ↓reduceIte, Nat.reduceEqDiff, rsvs, rsv, oneOf, rdN, ne_eq, Nat.reduceAdd, Nat.reduceMul, Nat.reduceLT, reduceCtorEq, Value.cells, setN, Value.oneCell', Nat.reduceLeDiff, undef, fcT, g0, g1, g2, g3, g8, g9]))
          (repeat' (first | ((with_reducible refine gif_split (fun hs_ => ?_) (fun hs_ => ?_)) <;> (have hp_ := hs_; (try simp only [hpL, ne_eq] at hp_); (try simp (disch := omega) only [bsW, WOp, WOq, WV, bo, eqN, gdc, gw, bnd, ↓reduceIte, Nat.reduceEqDiff, rsvs, rsv, oneOf, rdN, ne_eq, Nat.reduceAdd, Nat.reduceMul, Nat.reduceLT, reduceCtorEq, Value.cells, setN, Value.oneCell', Nat.reduceLeDiff, undef, fcT, g0, g1, g2, g3, g8, g9, hs_]))) | ((first | (with_reducible refine newB_i (fun nb_ hb_ => ?_)) | (with_reducible refine RgE_i (fun (hBd_ : Bd _ _) => ?_))); (try simp (disch := omega) only [bsW, WOp, WOq, WV, bo, eqN, gdc, gw, bnd, ↓reduceIte, Nat.reduceEqDiff, rsvs, rsv, oneOf, rdN, ne_eq, Nat.reduceAdd, Nat.reduceMul, Nat.reduceLT, reduceCtorEq, Value.cells, setN, Value.oneCell', Nat.reduceLeDiff, undef, fcT, g0, g1, g2, g3, g8, g9])) | (with_reducible refine fun (hBd_ : Bd _ _) => ?_) | ((first | (with_reducible refine @And.intro (Sub _ _) _ ?_ ?_) | ((with_reducible refine @And.intro (Sub _ _ ∧ _) _ ?_ ?_); (with_reducible refine @And.intro (Sub _ _) _ ?_ ?_))); exact sbX) | ((with_reducible refine And.intro ?_ ?_); omega)))
          all_goals try (exfalso; omega)
          refine hK _ _ _ ?_
          refine ⟨m + 1, by omega, by omega, by omega, by simp (disch := omega) only [bsW, ↓reduceIte, Nat.reduceEqDiff, ne_eq, reduceCtorEq, fcT, g0, g1, g2, g3, g8, g9], by simp (disch := omega) only [bsW, ↓reduceIte, Nat.reduceEqDiff, ne_eq, reduceCtorEq, fcT, g0, g1, g2, g3, g8, g9], by simp (disch := omega) only [bsW, ↓reduceIte, Nat.reduceEqDiff, ne_eq, reduceCtorEq, fcT, g0, g1, g2, g3, g8, g9], by simp (disch := omega) only [bsW, ↓reduceIte, Nat.reduceEqDiff, ne_eq, reduceCtorEq, fcT, g0, g1, g2, g3, g8, g9], by simp (disch := omega) only [bsW, ↓reduceIte, Nat.reduceEqDiff, ne_eq, reduceCtorEq, fcT, g0, g1, g2, g3, g8, g9, Int.natCast_add, Int.natCast_one], ⟨sp2, ?_, hsp2⟩, hs2, by omega⟩
          rw [hq2]
          congr 3
          exact flat_congr fun p _ hp _ => by rw [midF_end hj hall (fun h => hbt)]
      · rintro fr2 H2 nx2 ⟨j, hmm2, _⟩; omega
      · refine ⟨m, by omega, by omega, by simp (disch := omega) only [bsW, ↓reduceIte, Nat.reduceEqDiff, ne_eq, reduceCtorEq, fcT, f0, f1, f2, f3, f8], by simp (disch := omega) only [bsW, ↓reduceIte, Nat.reduceEqDiff, ne_eq, reduceCtorEq, fcT, f0, f1, f2, f3, f8], by simp (disch := omega) only [bsW, ↓reduceIte, Nat.reduceEqDiff, ne_eq, reduceCtorEq, fcT, f0, f1, f2, f3, f8], by simp (disch := omega) only [bsW, ↓reduceIte, Nat.reduceEqDiff, ne_eq, reduceCtorEq, fcT, f0, f1, f2, f3, f8], by simp (disch := omega) only [bsW, ↓reduceIte, Nat.reduceEqDiff, ne_eq, reduceCtorEq, fcT, f0, f1, f2, f3, f8], by simp (disch := omega) only [bsW, ↓reduceIte, Nat.reduceEqDiff, ne_eq, reduceCtorEq, fcT, f0, f1, f2, f3, f8], ⟨sp1, ?_, hsp1⟩, fun p h1 h2 => by omega, hs, by omega⟩
        rw [hq1]
        congr 3
        exact flat_congr fun p _ hp _ => by rw [midF_start]
    · have hmn : m = n := by simp at b1; omega
      subst hmn
      simp (disch := omega) only [bsW, WOp, WOq, WV, bo, eqN, gdc, gw, bnd, ↓reduceIte, Nat.reduceEqDiff, rsvs, rsv, oneOf, rdN, ne_eq, Nat.reduceAdd, Nat.reduceMul, Nat.reduceLT, reduceCtorEq, Value.cells, setN, Value.oneCell', Nat.reduceLeDiff, undef, fcT, f0, f1, f2, f3, f8, b1]
      refine ⟨rfl, ⟨sp1, ?_, hsp1⟩, hs⟩
      rw [hq1]
      congr 3
      exact flat_congr fun p _ hp _ => by rw [if_pos hp]
  · rintro fr H' nx' ⟨m, hmm, _⟩; omega
  · refine ⟨1, by omega, by omega, by omega, by simp (disch := omega) only [bsW, ↓reduceIte, Nat.reduceEqDiff, ne_eq, reduceCtorEq, fcT], by simp (disch := omega) only [bsW, ↓reduceIte, Nat.reduceEqDiff, ne_eq, reduceCtorEq, fcT], by simp (disch := omega) only [bsW, ↓reduceIte, Nat.reduceEqDiff, ne_eq, reduceCtorEq, fcT], by simp (disch := omega) only [bsW, ↓reduceIte, Nat.reduceEqDiff, ne_eq, reduceCtorEq, fcT], by simp (disch := omega) only [bsW, ↓reduceIte, Nat.reduceEqDiff, ne_eq, reduceCtorEq, fcT, Int.natCast_one, Int.zero_add], ⟨sp, ?_, hsp⟩, sub_del H q, by omega⟩
    rw [hq]
    congr 3
    refine flat_congr fun p _ hp _ => ?_
    split
    · have : p = 0 := by omega
      subst this
      rfl
    · rfl
theorem stabSort (q cap n : Nat) (sp : List Value) (g : Nat) (cv : Value) (cm : Nat → Nat → Int) (bet : Nat → Nat → Bool) (H : Hp) (nx : Nat) (hbet : ∀ a b, a < n → b < n → (cm a b < 0 ↔ bet a b = true)) (hn0 : 0 < n) (hn : n ≤ 19) (hcap : n ≤ cap) (hqx : q < nx)
    (hq : H q = some (.rw (flat n 1 (fun p _ => (p : Int)) ++ sp) 3)) (hsp : sp.length = (cap - n) * 1)
    (hcm : ∀ (H' : Hp) (nx' : Nat), Sub (del H q) H' → nx ≤ nx' → ∀ a b, a < n → b < n → PC Tryd.prog g #[.int .i64 (a : Nat), .int .i64 (b : Nat), cv] H' nx' (.int .i64 (cm a b))) :
    AC Tryd.prog 139 #[.slice (some ⟨q, 0, none⟩) n cap, .int .i64 n, .func (.func g) #[] #[cv]] H nx (SortK H q cap n (rkF bet n)) := by
  refine AC_of x_slices_stableCmpFunc_int rfl fun hB => ?_
  have d1 : decide ((20 : Int) ≤ (n : Int)) = false := by rw [decide_eq_false_iff_not]; omega
  have d2 : decide ((20 : Int) < (n : Int)) = false := by rw [decide_eq_false_iff_not]; omega
  simp (disch := omega) only [bsW, WOp, WOq, WV, bo, eqN, gdc, gw, bnd, ↓reduceIte, Nat.reduceEqDiff, rsvs, rsv, oneOf, rdN, ne_eq, Nat.reduceAdd, Nat.reduceMul, Nat.reduceLT, reduceCtorEq, Value.cells, setN, Value.oneCell', Nat.reduceLeDiff, undef, fcT, d1, d2, c_slices_stableCmpFunc_int]
  refine LpB_rule (fun mm fr H' nx' => mm = 1 ∧ fr 0 = .slice (some ⟨q, 0, none⟩) n cap ∧ fr 1 = .int .i64 n ∧ fr 2 = .func (.func g) #[] #[cv] ∧ fr 6 = .int .i64 20 ∧ fr 7 = .int .i64 0 ∧ fr 8 = .int .i64 20 ∧ H' = H ∧ nx' = nx) ?_ ?_ 1 ?_
  · rintro mm K hK fr H' nx' hB' ⟨_, f0, f1, f2, f6, f7, f8, rfl, rfl⟩
    simp (disch := omega) only [bsW, WOp, WOq, WV, bo, eqN, gdc, gw, bnd, ↓reduceIte, Nat.reduceEqDiff, rsvs, rsv, oneOf, rdN, ne_eq, Nat.reduceAdd, Nat.reduceMul, Nat.reduceLT, reduceCtorEq, Value.cells, setN, Value.oneCell', Nat.reduceLeDiff, undef, fcT, f0, f1, f2, f6, f7, f8, d1, d2]
    refine AC.monoC (insSort q cap n sp g cv cm bet _ _ hbet hn0 (by omega) hcap hqx hq hsp hcm) ?_
    rintro v1 H1 nx1 hB1 hx1 ⟨rfl, ho1, hs1⟩
    (try (simp (disch := omega) only [bsW, WOp, WOq, WV, bo, eqN, gdc, gw, bnd, ↓reduceIte, Nat.reduceEqDiff, rsvs, rsv, oneOf, rdN, ne_eq, Nat.reduceAdd, Nat.reduceMul, Nat.reduceLT, reduceCtorEq, Value.cells, setN, Value.oneCell', Nat.reduceLeDiff, undef, fcT, f0, f1, f2, f6, f7, f8, d1, d2]))
    refine LpB_rule (fun mm fr H' nx' => mm = 1 ∧ fr 1 = .int .i64 n ∧ fr 6 = .int .i64 20 ∧ H' = H1 ∧ nx' = nx1) ?_ ?_ 1 ?_
    · rintro mm K2 hK2 fr2 H2 nx2 hB2 ⟨_, g1, g6, rfl, rfl⟩
      simp (disch := omega) only [bsW, WOp, WOq, WV, bo, eqN, gdc, gw, bnd, ↓reduceIte, Nat.reduceEqDiff, rsvs, rsv, oneOf, rdN, ne_eq, Nat.reduceAdd, Nat.reduceMul, Nat.reduceLT, reduceCtorEq, Value.cells, setN, Value.oneCell', Nat.reduceLeDiff, undef, fcT, g1, g6, d1, d2]
      exact ⟨rfl, ho1, hs1⟩
    · rintro fr H' nx' ⟨hm, _⟩; omega
    · exact ⟨rfl, by simp (disch := omega) only [bsW, ↓reduceIte, Nat.reduceEqDiff, ne_eq, reduceCtorEq, fcT, f0, f1, f2, f6, f7, f8, d1, d2], by simp (disch := omega) only [bsW, ↓reduceIte, Nat.reduceEqDiff, ne_eq, reduceCtorEq, fcT, f0, f1, f2, f6, f7, f8, d1, d2], rfl, rfl⟩
  · rintro fr H' nx' ⟨hm, _⟩; omega
  · exact ⟨rfl, by simp (disch := omega) only [bsW, ↓reduceIte, Nat.reduceEqDiff, ne_eq, reduceCtorEq, fcT], by simp (disch := omega) only [bsW, ↓reduceIte, Nat.reduceEqDiff, ne_eq, reduceCtorEq, fcT], by simp (disch := omega) only [bsW, ↓reduceIte, Nat.reduceEqDiff, ne_eq, reduceCtorEq, fcT], by simp (disch := omega) only [bsW, ↓reduceIte, Nat.reduceEqDiff, ne_eq, reduceCtorEq, fcT], by simp (disch := omega) only [bsW, ↓reduceIte, Nat.reduceEqDiff, ne_eq, reduceCtorEq, fcT], by simp (disch := omega) only [bsW, ↓reduceIte, Nat.reduceEqDiff, ne_eq, reduceCtorEq, fcT], rfl, rfl⟩
theorem sortStab (q cap n : Nat) (sp : List Value) (g : Nat) (cv : Value) (cm : Nat → Nat → Int) (bet : Nat → Nat → Bool) (H : Hp) (nx : Nat) (hbet : ∀ a b, a < n → b < n → (cm a b < 0 ↔ bet a b = true)) (hn0 : 0 < n) (hn : n ≤ 19) (hcap : n ≤ cap) (hqx : q < nx)
    (hq : H q = some (.rw (flat n 1 (fun p _ => (p : Int)) ++ sp) 3)) (hsp : sp.length = (cap - n) * 1)
    (hcm : ∀ (H' : Hp) (nx' : Nat), Sub (del H q) H' → nx ≤ nx' → ∀ a b, a < n → b < n → PC Tryd.prog g #[.int .i64 (a : Nat), .int .i64 (b : Nat), cv] H' nx' (.int .i64 (cm a b))) :
    AC Tryd.prog 106 #[.slice (some ⟨q, 0, none⟩) n cap, .func (.func g) #[] #[cv]] H nx (SortK H q cap n (rkF bet n)) := by
  refine AC_of x_slices_SortStableFunc_int rfl fun hB => ?_
  simp (disch := omega) only [bsW, WOp, WOq, WV, bo, eqN, gdc, gw, bnd, ↓reduceIte, Nat.reduceEqDiff, rsvs, rsv, oneOf, rdN, ne_eq, Nat.reduceAdd, Nat.reduceMul, Nat.reduceLT, reduceCtorEq, Value.cells, setN, Value.oneCell', Nat.reduceLeDiff, undef, fcT, c_slices_SortStableFunc_int]
  refine AC.monoC (stabSort q cap n sp g cv cm bet _ _ hbet hn0 hn hcap hqx hq hsp hcm) ?_
  rintro v1 H1 nx1 hB1 hx1 ⟨rfl, ho1, hs1⟩
  (try (simp (disch := omega) only [bsW, WOp, WOq, WV, bo, eqN, gdc, gw, bnd, ↓reduceIte, Nat.reduceEqDiff, rsvs, rsv, oneOf, rdN, ne_eq, Nat.reduceAdd, Nat.reduceMul, Nat.reduceLT, reduceCtorEq, Value.cells, setN, Value.oneCell', Nat.reduceLeDiff, undef, fcT]))
  exact ⟨rfl, ho1, hs1⟩
theorem cmpE_neg {a c mx1 b mx2 : Int} (hc : 0 < c) : (cmpE a c mx1 b c mx2 < 0) ↔ betV b mx2 a mx1 = true := by
  have h1 : a * c < b * c ↔ a < b := Int.mul_lt_mul_right hc
  have h2 : b * c < a * c ↔ b < a := Int.mul_lt_mul_right hc
  unfold cmpE cmpV betV
  rw [decide_eq_true_iff]
  simp only [h1, h2]
  (repeat' split) <;> omega
end Go.Proofs.YtnjlleopgjggpaaDoor
