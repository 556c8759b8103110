/- CouldWin: the reference. -/
import Derived.Test.YtnjlleopgjggpaaDoorC8
set_option linter.unusedVariables false
set_option linter.unusedSimpArgs false
set_option maxRecDepth 100000
set_option maxHeartbeats 1000000
namespace Go.Proofs.YtnjlleopgjggpaaDoor
open Go Go.RowKit Go.Proofs

theorem CouldWin (A B : Option Addr) (n c m d : Nat) (f g : Nat → Nat → Int) (start bidder : Int) (H : Hp) (nx : Nat) (hn : n ≤ 17592186044416) (hm : m ≤ 17592186044416) (hd : m ≤ d) (h : Rd H A n 2 f) (h' : Rd H B m 2 g) :
    PC Tryd.prog 15 #[.slice A n c, .slice B m d, .int .i64 start, .int .i64 bidder] H nx (vCould n f m g start bidder) := by
  refine AC_of x_impl_CouldWin rfl fun hB => ?_
  have hcw : ∀ (ho : askB n f m g start = true), PC Tryd.prog 74 #[.slice A n c, .slice B m d, .int .i64 start, .int .i64 bidder] H nx (vCould n f m g start bidder) := by
    intro hask
    have ha := askB_iff.1 hask
    have e : vCould n f m g start bidder = if 0 ≤ idxOf (fun j => g j 0 == bidder) m then vOpt (cwGo n f m g start (idxOf (fun j => g j 0 == bidder) m).toNat 101 start) else vOpt none := by
      unfold vCould
      by_cases h0 : 0 ≤ idxOf (fun j => g j 0 == bidder) m
      · rw [if_pos ⟨hask, h0⟩, if_pos h0]
      · rw [if_neg (fun hh => h0 hh.2), if_neg h0]
    rw [e]
    exact couldWin A B n c m d f g start bidder H nx ha.1 ha.2.1 ha.2.2.1 ha.2.2.2 h h'
  obtain ⟨x0, x1, hv⟩ : ∃ x0 x1, vCould n f m g start bidder = .tuple #[.int .i64 x0, .bool x1] := by
    unfold vCould
    split
    · cases cwGo n f m g start (idxOf (fun j => g j 0 == bidder) m).toNat 101 start <;> exact ⟨_, _, rfl⟩
    · exact ⟨_, _, rfl⟩
  rw [hv] at hcw
  simp (disch := omega) only [bsW, WOp, WOq, WV, bo, eqN, gdc, gw, bnd, ↓reduceIte, Nat.reduceEqDiff, rsvs, rsv, oneOf, rdN, ne_eq, Nat.reduceAdd, Nat.reduceMul, Nat.reduceLT, reduceCtorEq, Value.cells, setN, Value.oneCell', Nat.reduceLeDiff, undef, fcT, c_impl_CouldWin]
  (repeat' (first | ((with_reducible refine gif_split (fun hs_ => ?_) (fun hs_ => ?_)) <;> (have hp_ := hs_; (try simp only [hpL, ne_eq] at hp_); (try simp (disch := omega) only [bsW, WOp, WOq, WV, bo, eqN, gdc, gw, bnd, ↓reduceIte, Nat.reduceEqDiff, rsvs, rsv, oneOf, rdN, ne_eq, Nat.reduceAdd, Nat.reduceMul, Nat.reduceLT, reduceCtorEq, Value.cells, setN, Value.oneCell', Nat.reduceLeDiff, undef, fcT, hs_]))) | ((first | (with_reducible refine newB_i (fun nb_ hb_ => ?_)) | ((with_reducible show QC _ _ _ _ _ _); (first | (refine QC_i (areSteps A n c f _ _ hn h) ?_) | (refine QC_i (areAbsentees B m d g _ _ hm hd h') ?_) | (refine QC_i (isBid _ _ _) ?_) | (refine QC_i (hcw (by simp_all [askB])) ?_))) | ((with_reducible show AC _ _ _ _ _ _); (first | (refine PC.ac (areSteps A n c f _ _ hn h) ?_) | (refine PC.ac (areAbsentees B m d g _ _ hm hd h') ?_) | (refine PC.ac (isBid _ _ _) ?_) | (refine PC.ac (hcw (by simp_all [askB])) ?_))) | (with_reducible refine RgE_i (fun (hBd_ : Bd _ _) => ?_))); (try simp (disch := omega) only [bsW, WOp, WOq, WV, bo, eqN, gdc, gw, bnd, ↓reduceIte, Nat.reduceEqDiff, rsvs, rsv, oneOf, rdN, ne_eq, Nat.reduceAdd, Nat.reduceMul, Nat.reduceLT, reduceCtorEq, Value.cells, setN, Value.oneCell', Nat.reduceLeDiff, undef, fcT])) | (with_reducible refine fun (hBd_ : Bd _ _) => ?_) | ((first | (with_reducible refine @And.intro (Sub _ _) _ ?_ ?_) | ((with_reducible refine @And.intro (Sub _ _ ∧ _) _ ?_ ?_); (with_reducible refine @And.intro (Sub _ _) _ ?_ ?_))); exact sbX) | ((with_reducible refine And.intro ?_ ?_); omega)))
  all_goals try (exfalso; omega)
  all_goals first
    | (have e0 : askB n f m g start = false := by rw [Bool.eq_false_iff, Ne, askB_iff]; simp_all [← stepsB_iff, ← abssB_iff, inR_false]; done
       refine Is_e ?_ (Sub.refl H)
       rw [vCould, if_neg (by simp [e0])]
       rfl)
    | exact Is_e (by rw [hv]) (Sub.refl H)

/-- The last place below n where p holds, or -1. -/
def lastIdx (p : Nat → Bool) : Nat → Int
  | 0 => -1
  | k + 1 => if p k = true then k else lastIdx p k
theorem lastIdx_cases (p : Nat → Bool) : ∀ n, (lastIdx p n = -1 ∧ ∀ i, i < n → p i = false) ∨ ∃ k : Nat, lastIdx p n = (k : Int) ∧ k < n ∧ p k = true
  | 0 => .inl ⟨rfl, fun i hi => by omega⟩
  | n + 1 => by
    simp only [lastIdx]
    split
    · rename_i hp
      exact .inr ⟨n, rfl, by omega, hp⟩
    · rename_i hp
      rcases lastIdx_cases p n with ⟨h1, h2⟩ | ⟨k, h1, h2, h3⟩
      · refine .inl ⟨h1, fun i hi => ?_⟩
        rcases Nat.lt_succ_iff_lt_or_eq.1 hi with hi | rfl
        · exact h2 i hi
        · simpa using hp
      · exact .inr ⟨k, h1, by omega, h3⟩
theorem lastIdx_eq {m : Nat} {g : Nat → Nat → Int} (h : abssOk m g) (x : Int) : lastIdx (fun j => g j 0 == x) m = idxOf (fun j => g j 0 == x) m := by
  rcases lastIdx_cases (fun j => g j 0 == x) m with ⟨h1, h2⟩ | ⟨k, h1, hk, hp⟩
  · rw [h1, idxOf_none h2]
  · rw [h1, idxOf_hit hk hp]
    intro i hi
    have hne := (h.1 k hk).2.2 i hi
    have e : g k 0 = x := by simpa using hp
    rw [← e]
    simpa using hne

theorem l22Wins (A B : Option Addr) (n c m d : Nat) (f g : Nat → Nat → Int) (start most : Int) (k : Nat) (H : Hp) (nx : Nat) (hok : stepsOk n f) (hab : abssOk m g) (hs0 : 0 ≤ start) (hs1 : start ≤ 20000) (hb0 : 0 ≤ most) (hble : most ≤ 20000) (hk : k < m) (h : Rd H A n 2 f) (h' : Rd H B m 2 g) :
    PC Tryd.prog 76 #[.slice A n c, .slice B m d, .int .i64 start, .int .i64 k, .int .i64 most] H nx (.bool (winB n f m g start k most)) := by
  have hm12 := hab.2
  have hn8 := inR_true.1 hok.2
  refine AC_of x_spec_l22Wins rfl fun hB => ?_
  simp (disch := omega) only [bsW, WOp, WOq, WV, bo, eqN, gdc, gw, bnd, ↓reduceIte, Nat.reduceEqDiff, rsvs, rsv, oneOf, rdN, ne_eq, Nat.reduceAdd, Nat.reduceMul, Nat.reduceLT, reduceCtorEq, Value.cells, setN, Value.oneCell', Nat.reduceLeDiff, undef, fcT, c_spec_l22Wins]
  (repeat' (first | ((with_reducible refine gif_split (fun hs_ => ?_) (fun hs_ => ?_)) <;> (have hp_ := hs_; (try simp only [hpL, ne_eq] at hp_); (try simp (disch := omega) only [bsW, WOp, WOq, WV, bo, eqN, gdc, gw, bnd, ↓reduceIte, Nat.reduceEqDiff, rsvs, rsv, oneOf, rdN, ne_eq, Nat.reduceAdd, Nat.reduceMul, Nat.reduceLT, reduceCtorEq, Value.cells, setN, Value.oneCell', Nat.reduceLeDiff, undef, fcT, hs_]))) | ((first | (with_reducible refine newB_i (fun nb_ hb_ => ?_)) | (with_reducible refine RgE_i (fun (hBd_ : Bd _ _) => ?_))); (try simp (disch := omega) only [bsW, WOp, WOq, WV, bo, eqN, gdc, gw, bnd, ↓reduceIte, Nat.reduceEqDiff, rsvs, rsv, oneOf, rdN, ne_eq, Nat.reduceAdd, Nat.reduceMul, Nat.reduceLT, reduceCtorEq, Value.cells, setN, Value.oneCell', Nat.reduceLeDiff, undef, fcT])) | (with_reducible refine fun (hBd_ : Bd _ _) => ?_) | ((first | (with_reducible refine @And.intro (Sub _ _) _ ?_ ?_) | ((with_reducible refine @And.intro (Sub _ _ ∧ _) _ ?_ ?_); (with_reducible refine @And.intro (Sub _ _) _ ?_ ?_))); exact sbX) | ((with_reducible refine And.intro ?_ ?_); omega)))
  all_goals try (exfalso; omega)
  refine app_row (k := 2) (bytes := 16) (lo := nx) (n := 0) (f := g) (by simp (disch := omega) only [bsW, WOp, WOq, WV, bo, eqN, gdc, gw, bnd, ↓reduceIte, Nat.reduceEqDiff, rsvs, rsv, oneOf, rdN, ne_eq, Nat.reduceAdd, Nat.reduceMul, Nat.reduceLT, reduceCtorEq, Value.cells, setN, Value.oneCell', Nat.reduceLeDiff, undef, fcT]) (by simp (disch := omega) only [bsW, WOp, WOq, WV, bo, eqN, gdc, gw, bnd, ↓reduceIte, Nat.reduceEqDiff, rsvs, rsv, oneOf, rdN, ne_eq, Nat.reduceAdd, Nat.reduceMul, Nat.reduceLT, reduceCtorEq, Value.cells, setN, Value.oneCell', Nat.reduceLeDiff, undef, fcT]) (by simp (disch := omega) only [bsW, WOp, WOq, WV, bo, eqN, gdc, gw, bnd, ↓reduceIte, Nat.reduceEqDiff, rsvs, rsv, oneOf, rdN, ne_eq, Nat.reduceAdd, Nat.reduceMul, Nat.reduceLT, reduceCtorEq, Value.cells, setN, Value.oneCell', Nat.reduceLeDiff, undef, fcT]) ⟨_, qz40, rfl⟩ (by omega) (.empty (by assumption) (by omega) (upd_same _ _ _)) (h'.sub (by (repeat (first | assumption | exact Sub.refl _ | (refine sub_up (nx := nx) ?_ hB ?_; omega))))) (by omega) (by omega) (by unfold maxLen; omega) (by intro h0; omega) ?_
  rintro v' b' o nx2 hb' hn2 hown' hO2
  rw [Nat.zero_add, cat_zero] at hO2
  have hlo : nx ≤ b' := by
    rcases hb' with e | e
    · cases e; assumption
    · omega
  have hsb : Sub H (upd (upd H nb_ (.rw [] 40)) b' o) := by (repeat (first | assumption | exact Sub.refl _ | (refine sub_up (nx := nx) ?_ hB ?_; omega)))
  generalize (upd (upd H nb_ (.rw [] 40)) b' o) = H2 at *
  rcases hO2.ex with ⟨rfl, h0⟩ | ⟨q, cap, sp, rfl, hq1, hq2, hq3, hq4, hq5, hq6⟩
  · omega
  have c0 := flat_get0_sp (f := g) (sp := sp) hk (show 0 < 2 by omega)
  have c1 := flat_get_sp (f := g) (sp := sp) hk (show 1 < 2 by omega)
  have r0 : rd H2 q (k * 2) = some (.int .i64 (g k 0)) := by rw [rd_rw hq3]; exact c0
  have r1 : rd H2 q (k * 2 + 1) = some (.int .i64 (g k 1)) := by rw [rd_rw hq3]; exact c1
  simp (disch := omega) only [bsW, WOp, WOq, WV, bo, eqN, gdc, gw, bnd, ↓reduceIte, Nat.reduceEqDiff, rsvs, rsv, oneOf, rdN, ne_eq, Nat.reduceAdd, Nat.reduceMul, Nat.reduceLT, reduceCtorEq, Value.cells, setN, Value.oneCell', Nat.reduceLeDiff, undef, fcT, r0, r1, hq3, List.length_append, flat_length]
  (repeat' (first | ((with_reducible refine gif_split (fun hs_ => ?_) (fun hs_ => ?_)) <;> (have hp_ := hs_; (try simp only [hpL, ne_eq] at hp_); (try simp (disch := omega) only [bsW, WOp, WOq, WV, bo, eqN, gdc, gw, bnd, ↓reduceIte, Nat.reduceEqDiff, rsvs, rsv, oneOf, rdN, ne_eq, Nat.reduceAdd, Nat.reduceMul, Nat.reduceLT, reduceCtorEq, Value.cells, setN, Value.oneCell', Nat.reduceLeDiff, undef, fcT, r0, r1, hq3, List.length_append, flat_length, hs_]))) | ((first | (with_reducible refine newB_i (fun nb_ hb_ => ?_)) | (with_reducible refine RgE_i (fun (hBd_ : Bd _ _) => ?_))); (try simp (disch := omega) only [bsW, WOp, WOq, WV, bo, eqN, gdc, gw, bnd, ↓reduceIte, Nat.reduceEqDiff, rsvs, rsv, oneOf, rdN, ne_eq, Nat.reduceAdd, Nat.reduceMul, Nat.reduceLT, reduceCtorEq, Value.cells, setN, Value.oneCell', Nat.reduceLeDiff, undef, fcT, r0, r1, hq3, List.length_append, flat_length])) | (with_reducible refine fun (hBd_ : Bd _ _) => ?_) | ((first | (with_reducible refine @And.intro (Sub _ _) _ ?_ ?_) | ((with_reducible refine @And.intro (Sub _ _ ∧ _) _ ?_ ?_); (with_reducible refine @And.intro (Sub _ _) _ ?_ ?_))); exact sbX) | ((with_reducible refine And.intro ?_ ?_); omega)))
  all_goals try (exfalso; omega)
  rw [flat_set0_sp hk (by omega), flat_set_sp hk (by omega)]
  have hRd : Rd (upd (upd H2 nb_ (.rw [.int .i64 (g k 0), .int .i64 most] 40)) q (.rw (flat m 2 (set2 (set2 g k 0 (g k 0)) k 1 most) ++ sp) 40)) (some ⟨q, 0, none⟩) m 2 (set2 g k 1 most) := by
    refine (Rd.rw_ (upd_same _ _ _)).congr fun i j hi hj => ?_
    simp only [set2]
    split
    · rfl
    · split
      · rename_i e; rw [e.1, e.2]
      · rfl
  have hnq : nb_ ≠ q := by omega
  refine (l22Room A _ n c m cap f (set2 g k 1 most) start _ _ hok (abss_set hab hb0 hble) hs0 hs1 (h.sub (by (repeat (first | assumption | exact Sub.refl _ | (refine sub_up (nx := nx) ?_ hB ?_; omega))))) hRd).mono2 ?_
  rintro v2 H3 nx3 hx3 ⟨w2, rfl, hO3, ht3⟩
  have e7 := ht3 nb_ (.rw [.int .i64 (g k 0), .int .i64 most] 40) (by simp (disch := omega) only [bsW, WOp, WOq, WV, bo, eqN, gdc, gw, bnd, ↓reduceIte, Nat.reduceEqDiff, rsvs, rsv, oneOf, rdN, ne_eq, Nat.reduceAdd, Nat.reduceMul, Nat.reduceLT, reduceCtorEq, Value.cells, setN, Value.oneCell', Nat.reduceLeDiff, undef, fcT, r0, r1, hq3, List.length_append, flat_length])
  have r7 : rd H3 nb_ 0 = some (.int .i64 (g k 0)) := by rw [rd_rw e7]; rfl
  have hs3 : Sub H H3 := Sub.trans (by (repeat (first | assumption | exact Sub.refl _ | (refine sub_up (nx := nx) ?_ hB ?_; omega)))) ht3
  have hlen := room_len n f m (set2 g k 1 most) start
  have hwin : winB n f m g start k most = (!(room n f m (set2 g k 1 most) start).1.isEmpty && ((room n f m (set2 g k 1 most) start).1.getLastD 0 == g k 0)) := rfl
  obtain ⟨A2, c2, rfl, hc2, hR2⟩ := hO3.rd
  generalize hl : (room n f m (set2 g k 1 most) start).1 = l at *
  rcases List.eq_nil_or_concat l with rfl | ⟨l', y, rfl⟩
  · simp (disch := omega) only [bsW, WOp, WOq, WV, bo, eqN, gdc, gw, bnd, ↓reduceIte, Nat.reduceEqDiff, rsvs, rsv, oneOf, rdN, ne_eq, Nat.reduceAdd, Nat.reduceMul, Nat.reduceLT, reduceCtorEq, Value.cells, setN, Value.oneCell', Nat.reduceLeDiff, undef, fcT, r7, List.length_nil, Int.natCast_zero]
    (repeat' (first | ((with_reducible refine gif_split (fun hs_ => ?_) (fun hs_ => ?_)) <;> (have hp_ := hs_; (try simp only [hpL, ne_eq] at hp_); (try simp (disch := omega) only [bsW, WOp, WOq, WV, bo, eqN, gdc, gw, bnd, ↓reduceIte, Nat.reduceEqDiff, rsvs, rsv, oneOf, rdN, ne_eq, Nat.reduceAdd, Nat.reduceMul, Nat.reduceLT, reduceCtorEq, Value.cells, setN, Value.oneCell', Nat.reduceLeDiff, undef, fcT, r7, List.length_nil, Int.natCast_zero, hs_]))) | ((first | (with_reducible refine newB_i (fun nb_ hb_ => ?_)) | (with_reducible refine RgE_i (fun (hBd_ : Bd _ _) => ?_))); (try simp (disch := omega) only [bsW, WOp, WOq, WV, bo, eqN, gdc, gw, bnd, ↓reduceIte, Nat.reduceEqDiff, rsvs, rsv, oneOf, rdN, ne_eq, Nat.reduceAdd, Nat.reduceMul, Nat.reduceLT, reduceCtorEq, Value.cells, setN, Value.oneCell', Nat.reduceLeDiff, undef, fcT, r7, List.length_nil, Int.natCast_zero])) | (with_reducible refine fun (hBd_ : Bd _ _) => ?_) | ((first | (with_reducible refine @And.intro (Sub _ _) _ ?_ ?_) | ((with_reducible refine @And.intro (Sub _ _ ∧ _) _ ?_ ?_); (with_reducible refine @And.intro (Sub _ _) _ ?_ ?_))); exact sbX) | ((with_reducible refine And.intro ?_ ?_); omega)))
    all_goals try (exfalso; simp_all; done)
    exact Is_e (by rw [hwin]; simp) hs3
  · obtain ⟨b2, off, rfl, hcc⟩ := hR2.at_ (by simp)
    have hy : rowL (l'.concat y) l'.length 0 = y := by simp [rowL]
    have c0 := hcc l'.length 0 (by simp) (by omega)
    rw [hy] at c0
    simp only [List.concat_eq_append, List.length_append, List.length_singleton, Nat.mul_one, Nat.add_zero] at *
    simp (disch := omega) only [bsW, WOp, WOq, WV, bo, eqN, gdc, gw, bnd, ↓reduceIte, Nat.reduceEqDiff, rsvs, rsv, oneOf, rdN, ne_eq, Nat.reduceAdd, Nat.reduceMul, Nat.reduceLT, reduceCtorEq, Value.cells, setN, Value.oneCell', Nat.reduceLeDiff, undef, fcT, r7, c0, Nat.mul_one, Int.natCast_add, Int.natCast_one, Int.add_sub_cancel]
    (repeat' (first | ((with_reducible refine gif_split (fun hs_ => ?_) (fun hs_ => ?_)) <;> (have hp_ := hs_; (try simp only [hpL, ne_eq] at hp_); (try simp (disch := omega) only [bsW, WOp, WOq, WV, bo, eqN, gdc, gw, bnd, ↓reduceIte, Nat.reduceEqDiff, rsvs, rsv, oneOf, rdN, ne_eq, Nat.reduceAdd, Nat.reduceMul, Nat.reduceLT, reduceCtorEq, Value.cells, setN, Value.oneCell', Nat.reduceLeDiff, undef, fcT, r7, c0, Nat.mul_one, Int.natCast_add, Int.natCast_one, Int.add_sub_cancel, hs_]))) | ((first | (with_reducible refine newB_i (fun nb_ hb_ => ?_)) | (with_reducible refine RgE_i (fun (hBd_ : Bd _ _) => ?_))); (try simp (disch := omega) only [bsW, WOp, WOq, WV, bo, eqN, gdc, gw, bnd, ↓reduceIte, Nat.reduceEqDiff, rsvs, rsv, oneOf, rdN, ne_eq, Nat.reduceAdd, Nat.reduceMul, Nat.reduceLT, reduceCtorEq, Value.cells, setN, Value.oneCell', Nat.reduceLeDiff, undef, fcT, r7, c0, Nat.mul_one, Int.natCast_add, Int.natCast_one, Int.add_sub_cancel])) | (with_reducible refine fun (hBd_ : Bd _ _) => ?_) | ((first | (with_reducible refine @And.intro (Sub _ _) _ ?_ ?_) | ((with_reducible refine @And.intro (Sub _ _ ∧ _) _ ?_ ?_); (with_reducible refine @And.intro (Sub _ _) _ ?_ ?_))); exact sbX) | ((with_reducible refine And.intro ?_ ?_); omega)))
    all_goals try (exfalso; omega)
    all_goals exact Is_e (by rw [hwin]; simp) hs3

theorem sCouldWin (A B : Option Addr) (n c m d : Nat) (f g : Nat → Nat → Int) (start bidder : Int) (H : Hp) (nx : Nat) (hn : n ≤ 17592186044416) (hm : m ≤ 17592186044416) (h : Rd H A n 2 f) (h' : Rd H B m 2 g) :
    PC Tryd.prog 16 #[.slice A n c, .slice B m d, .int .i64 start, .int .i64 bidder] H nx (vCould n f m g start bidder) := by
  refine AC_of x_spec_CouldWin rfl fun hB => ?_
  simp (disch := omega) only [bsW, WOp, WOq, WV, bo, eqN, gdc, gw, bnd, ↓reduceIte, Nat.reduceEqDiff, rsvs, rsv, oneOf, rdN, ne_eq, Nat.reduceAdd, Nat.reduceMul, Nat.reduceLT, reduceCtorEq, Value.cells, setN, Value.oneCell', Nat.reduceLeDiff, undef, fcT, c_spec_CouldWin]
  refine LpE_rule (fun mm fr H' nx' => ∃ k : Nat, mm = m - k + 1 ∧ k ≤ m ∧ fr 0 = .slice A n c ∧ fr 1 = .slice B m d ∧ fr 2 = .int .i64 start ∧ fr 3 = .int .i64 bidder ∧ fr 10 = .int .i64 (lastIdx (fun j => g j 0 == bidder) k) ∧ fr 11 = .int .i64 k ∧ Sub H H' ∧ nx ≤ nx') ?_ ?_ (m + 1) ?_
  · rintro mm K hK fr H' nx' ⟨k, hmm, hk, f0, f1, f2, f3, f10, f11, hs, hx⟩
    simp (disch := omega) only [bsW, WOp, WOq, WV, bo, eqN, gdc, gw, bnd, ↓reduceIte, Nat.reduceEqDiff, rsvs, rsv, oneOf, rdN, ne_eq, Nat.reduceAdd, Nat.reduceMul, Nat.reduceLT, reduceCtorEq, Value.cells, setN, Value.oneCell', Nat.reduceLeDiff, undef, fcT, f0, f1, f2, f3, f10, f11]
    refine gif_split (fun b1 => ?_) (fun b1 => ?_)
    · have hlt : k < m := by simpa using b1
      obtain ⟨gb, goff, rfl, gc⟩ := h'.at_ (by omega)
      have c0 := rd_sub hs (gc k 0 hlt (by omega))
      simp only [Nat.add_zero] at c0
      simp (disch := omega) only [bsW, WOp, WOq, WV, bo, eqN, gdc, gw, bnd, ↓reduceIte, Nat.reduceEqDiff, rsvs, rsv, oneOf, rdN, ne_eq, Nat.reduceAdd, Nat.reduceMul, Nat.reduceLT, reduceCtorEq, Value.cells, setN, Value.oneCell', Nat.reduceLeDiff, undef, fcT, f0, f1, f2, f3, f10, f11, c0, b1]
      (repeat' (first | ((with_reducible refine gif_split (fun hs_ => ?_) (fun hs_ => ?_)) <;> (have hp_ := hs_; (try simp only [hpL, ne_eq] at hp_); (try simp (disch := omega) only [bsW, WOp, WOq, WV, bo, eqN, gdc, gw, bnd, ↓reduceIte, Nat.reduceEqDiff, rsvs, rsv, oneOf, rdN, ne_eq, Nat.reduceAdd, Nat.reduceMul, Nat.reduceLT, reduceCtorEq, Value.cells, setN, Value.oneCell', Nat.reduceLeDiff, undef, fcT, f0, f1, f2, f3, f10, f11, c0, hs_]))) | ((first | (with_reducible refine newB_i (fun nb_ hb_ => ?_)) | (with_reducible refine RgE_i (fun (hBd_ : Bd _ _) => ?_))); (try simp (disch := omega) only [bsW, WOp, WOq, WV, bo, eqN, gdc, gw, bnd, ↓reduceIte, Nat.reduceEqDiff, rsvs, rsv, oneOf, rdN, ne_eq, Nat.reduceAdd, Nat.reduceMul, Nat.reduceLT, reduceCtorEq, Value.cells, setN, Value.oneCell', Nat.reduceLeDiff, undef, fcT, f0, f1, f2, f3, f10, f11, c0])) | (with_reducible refine fun (hBd_ : Bd _ _) => ?_) | ((first | (with_reducible refine @And.intro (Sub _ _) _ ?_ ?_) | ((with_reducible refine @And.intro (Sub _ _ ∧ _) _ ?_ ?_); (with_reducible refine @And.intro (Sub _ _) _ ?_ ?_))); exact sbX) | ((with_reducible refine And.intro ?_ ?_); omega)))
      all_goals try (exfalso; omega)
      all_goals
        refine hK _ _ _ ?_
        refine ⟨k + 1, by omega, by omega, by simp (disch := omega) only [bsW, ↓reduceIte, Nat.reduceEqDiff, ne_eq, reduceCtorEq, fcT, f0, f1, f2, f3, f10, f11, c0], by simp (disch := omega) only [bsW, ↓reduceIte, Nat.reduceEqDiff, ne_eq, reduceCtorEq, fcT, f0, f1, f2, f3, f10, f11, c0], by simp (disch := omega) only [bsW, ↓reduceIte, Nat.reduceEqDiff, ne_eq, reduceCtorEq, fcT, f0, f1, f2, f3, f10, f11, c0], by simp (disch := omega) only [bsW, ↓reduceIte, Nat.reduceEqDiff, ne_eq, reduceCtorEq, fcT, f0, f1, f2, f3, f10, f11, c0], ?_, by simp (disch := omega) only [bsW, ↓reduceIte, Nat.reduceEqDiff, ne_eq, reduceCtorEq, fcT, f0, f1, f2, f3, f10, f11, c0, Int.natCast_add, Int.natCast_one], hs, by omega⟩
        simp only [lastIdx]
      · rw [if_pos (by simpa using hp_)]; simp (disch := omega) only [bsW, WOp, WOq, WV, bo, eqN, gdc, gw, bnd, ↓reduceIte, Nat.reduceEqDiff, rsvs, rsv, oneOf, rdN, ne_eq, Nat.reduceAdd, Nat.reduceMul, Nat.reduceLT, reduceCtorEq, Value.cells, setN, Value.oneCell', Nat.reduceLeDiff, undef, fcT, f0, f1, f2, f3, f10, f11, c0]
      · rw [if_neg (by simpa using hp_)]; simp (disch := omega) only [bsW, WOp, WOq, WV, bo, eqN, gdc, gw, bnd, ↓reduceIte, Nat.reduceEqDiff, rsvs, rsv, oneOf, rdN, ne_eq, Nat.reduceAdd, Nat.reduceMul, Nat.reduceLT, reduceCtorEq, Value.cells, setN, Value.oneCell', Nat.reduceLeDiff, undef, fcT, f0, f1, f2, f3, f10, f11, c0]
    · have hkm : k = m := by simp at b1; omega
      subst hkm
      simp (disch := omega) only [bsW, WOp, WOq, WV, bo, eqN, gdc, gw, bnd, ↓reduceIte, Nat.reduceEqDiff, rsvs, rsv, oneOf, rdN, ne_eq, Nat.reduceAdd, Nat.reduceMul, Nat.reduceLT, reduceCtorEq, Value.cells, setN, Value.oneCell', Nat.reduceLeDiff, undef, fcT, f0, f1, f2, f3, f10, f11, b1]
      (repeat' (first | ((with_reducible refine gif_split (fun hs_ => ?_) (fun hs_ => ?_)) <;> (have hp_ := hs_; (try simp only [hpL, ne_eq] at hp_); (try simp (disch := omega) only [bsW, WOp, WOq, WV, bo, eqN, gdc, gw, bnd, ↓reduceIte, Nat.reduceEqDiff, rsvs, rsv, oneOf, rdN, ne_eq, Nat.reduceAdd, Nat.reduceMul, Nat.reduceLT, reduceCtorEq, Value.cells, setN, Value.oneCell', Nat.reduceLeDiff, undef, fcT, f0, f1, f2, f3, f10, f11, hs_]))) | ((first | (with_reducible refine newB_i (fun nb_ hb_ => ?_)) | ((with_reducible show QC _ _ _ _ _ _); (first | (refine QC_i (l22Asked A B n c k d f g start _ _ hn hm (h.sub hs) (h'.sub hs)) ?_))) | ((with_reducible show AC _ _ _ _ _ _); (first | (refine PC.ac (l22Asked A B n c k d f g start _ _ hn hm (h.sub hs) (h'.sub hs)) ?_))) | (with_reducible refine RgE_i (fun (hBd_ : Bd _ _) => ?_))); (try simp (disch := omega) only [bsW, WOp, WOq, WV, bo, eqN, gdc, gw, bnd, ↓reduceIte, Nat.reduceEqDiff, rsvs, rsv, oneOf, rdN, ne_eq, Nat.reduceAdd, Nat.reduceMul, Nat.reduceLT, reduceCtorEq, Value.cells, setN, Value.oneCell', Nat.reduceLeDiff, undef, fcT, f0, f1, f2, f3, f10, f11])) | (with_reducible refine fun (hBd_ : Bd _ _) => ?_) | ((first | (with_reducible refine @And.intro (Sub _ _) _ ?_ ?_) | ((with_reducible refine @And.intro (Sub _ _ ∧ _) _ ?_ ?_); (with_reducible refine @And.intro (Sub _ _) _ ?_ ?_))); exact sbX) | ((with_reducible refine And.intro ?_ ?_); omega)))
      · have hask : askB n f k g start = true := by simp_all [askB]
        have ha := askB_iff.1 hask
        rw [lastIdx_eq ha.2.1] at hp_
        exact Is_e (by rw [vCould, if_neg (by simp_all)]; rfl) hs
      rotate_left
      · exact Is_e (by rw [vCould, if_neg (by simp_all [askB])]; rfl) hs
      have hask : askB n f k g start = true := by simp_all [askB]
      obtain ⟨hok, hab, hs0, hs1⟩ := askB_iff.1 hask
      have hm12 := hab.2
      have hn8 := inR_true.1 hok.2
      rw [lastIdx_eq hab] at hp_ f10
      obtain ⟨q, he, hq, hkp⟩ : ∃ q : Nat, idxOf (fun j => g j 0 == bidder) k = q ∧ q < k ∧ (g q 0 == bidder) = true := by
        rcases idxOf_cases (fun j => g j 0 == bidder) k with ⟨e, _⟩ | ⟨q, e, hq, hp2, _⟩
        · omega
        · exact ⟨q, e, hq, hp2⟩
      have hv : vCould n f k g start bidder = vOpt (cwGo n f k g start q 101 start) := by
        rw [vCould, if_pos ⟨hask, by omega⟩, he, Int.toNat_natCast]
      rw [hv]
      rw [he] at f10
      refine LpE_rule (fun m2 fr2 H2 nx2 => ∃ (F : Nat) (b : Int), m2 = F + 1 ∧ fr2 0 = .slice A n c ∧ fr2 1 = .slice B k d ∧ fr2 2 = .int .i64 start ∧ fr2 10 = .int .i64 q ∧ fr2 12 = .int .i64 b ∧
        0 ≤ b ∧ b ≤ 25000 ∧ 20000 < b + 200 * F ∧ cwGo n f k g start q F b = cwGo n f k g start q 101 start ∧ Sub H H2 ∧ nx ≤ nx2) ?_ ?_ (101 + 1) ?_
      · rintro m2 K2 hK2 fr2 H2 nx2 ⟨F, b, hm2, g0, g1, g2, g10, g12, hb0, hb1, hF, hcw, hs2, hx2⟩
        simp (disch := omega) only [bsW, WOp, WOq, WV, bo, eqN, gdc, gw, bnd, ↓reduceIte, Nat.reduceEqDiff, rsvs, rsv, oneOf, rdN, ne_eq, Nat.reduceAdd, Nat.reduceMul, Nat.reduceLT, reduceCtorEq, Value.cells, setN, Value.oneCell', Nat.reduceLeDiff, undef, fcT, g0, g1, g2, g10, g12]
        refine gif_split (fun b2 => ?_) (fun b2 => ?_)
        · have hble : b ≤ 20000 := by simpa using b2
          obtain ⟨F, rfl⟩ : ∃ F', F = F' + 1 := ⟨F - 1, by omega⟩
          have hbd := nextB_bd hok hb0 (b := b)
          have hgo : cwGo n f k g start q (F + 1) b = if winB n f k g start q b = true then some b else cwGo n f k g start q F (nextB n f b) := by simp only [cwGo]; rw [if_pos hble]
          rw [hgo] at hcw
          simp (disch := omega) only [bsW, WOp, WOq, WV, bo, eqN, gdc, gw, bnd, ↓reduceIte, Nat.reduceEqDiff, rsvs, rsv, oneOf, rdN, ne_eq, Nat.reduceAdd, Nat.reduceMul, Nat.reduceLT, reduceCtorEq, Value.cells, setN, Value.oneCell', Nat.reduceLeDiff, undef, fcT, g0, g1, g2, g10, g12, b2]
          (repeat' (first | ((with_reducible refine gif_split (fun hs_ => ?_) (fun hs_ => ?_)) <;> (have hp_ := hs_; (try simp only [hpL, ne_eq] at hp_); (try simp (disch := omega) only [bsW, WOp, WOq, WV, bo, eqN, gdc, gw, bnd, ↓reduceIte, Nat.reduceEqDiff, rsvs, rsv, oneOf, rdN, ne_eq, Nat.reduceAdd, Nat.reduceMul, Nat.reduceLT, reduceCtorEq, Value.cells, setN, Value.oneCell', Nat.reduceLeDiff, undef, fcT, g0, g1, g2, g10, g12, hs_]))) | ((first | (with_reducible refine newB_i (fun nb_ hb_ => ?_)) | ((with_reducible show QC _ _ _ _ _ _); (first | (refine QC_i (l22Wins A B n c k d f g start b q _ _ hok hab hs0 hs1 hb0 hble hq (h.sub hs2) (h'.sub hs2)) ?_) | (refine QC_i (l22Next A n c f b _ _ hok hb0 (by omega) (h.sub hs2)) ?_))) | ((with_reducible show AC _ _ _ _ _ _); (first | (refine PC.ac (l22Wins A B n c k d f g start b q _ _ hok hab hs0 hs1 hb0 hble hq (h.sub hs2) (h'.sub hs2)) ?_) | (refine PC.ac (l22Next A n c f b _ _ hok hb0 (by omega) (h.sub hs2)) ?_))) | (with_reducible refine RgE_i (fun (hBd_ : Bd _ _) => ?_))); (try simp (disch := omega) only [bsW, WOp, WOq, WV, bo, eqN, gdc, gw, bnd, ↓reduceIte, Nat.reduceEqDiff, rsvs, rsv, oneOf, rdN, ne_eq, Nat.reduceAdd, Nat.reduceMul, Nat.reduceLT, reduceCtorEq, Value.cells, setN, Value.oneCell', Nat.reduceLeDiff, undef, fcT, g0, g1, g2, g10, g12])) | (with_reducible refine fun (hBd_ : Bd _ _) => ?_) | ((first | (with_reducible refine @And.intro (Sub _ _) _ ?_ ?_) | ((with_reducible refine @And.intro (Sub _ _ ∧ _) _ ?_ ?_); (with_reducible refine @And.intro (Sub _ _) _ ?_ ?_))); exact sbX) | ((with_reducible refine And.intro ?_ ?_); omega)))
          · rw [if_pos hp_] at hcw
            exact Is_e (by rw [← hcw]; rfl) hs2
          · rw [if_neg (by simp [hp_])] at hcw
            refine hK2 _ _ _ ?_
            exact ⟨F, nextB n f b, by omega, by simp (disch := omega) only [bsW, ↓reduceIte, Nat.reduceEqDiff, ne_eq, reduceCtorEq, fcT, g0, g1, g2, g10, g12], by simp (disch := omega) only [bsW, ↓reduceIte, Nat.reduceEqDiff, ne_eq, reduceCtorEq, fcT, g0, g1, g2, g10, g12], by simp (disch := omega) only [bsW, ↓reduceIte, Nat.reduceEqDiff, ne_eq, reduceCtorEq, fcT, g0, g1, g2, g10, g12], by simp (disch := omega) only [bsW, ↓reduceIte, Nat.reduceEqDiff, ne_eq, reduceCtorEq, fcT, g0, g1, g2, g10, g12], by simp (disch := omega) only [bsW, ↓reduceIte, Nat.reduceEqDiff, ne_eq, reduceCtorEq, fcT, g0, g1, g2, g10, g12], by omega, by omega, by omega, hcw, hs2, by omega⟩
        · simp (disch := omega) only [bsW, WOp, WOq, WV, bo, eqN, gdc, gw, bnd, ↓reduceIte, Nat.reduceEqDiff, rsvs, rsv, oneOf, rdN, ne_eq, Nat.reduceAdd, Nat.reduceMul, Nat.reduceLT, reduceCtorEq, Value.cells, setN, Value.oneCell', Nat.reduceLeDiff, undef, fcT, g0, g1, g2, g10, g12, b2]
          have hble : ¬ b ≤ 20000 := by simpa using b2
          refine Is_e ?_ hs2
          rw [← hcw]
          cases F with
          | zero => rfl
          | succ F => simp only [cwGo]; rw [if_neg hble]; rfl
      · rintro fr2 H2 nx2 ⟨F, b, hm2, _⟩; omega
      · exact ⟨101, start, rfl, by simp (disch := omega) only [bsW, ↓reduceIte, Nat.reduceEqDiff, ne_eq, reduceCtorEq, fcT, f0, f1, f2, f10, f11], by simp (disch := omega) only [bsW, ↓reduceIte, Nat.reduceEqDiff, ne_eq, reduceCtorEq, fcT, f0, f1, f2, f10, f11], by simp (disch := omega) only [bsW, ↓reduceIte, Nat.reduceEqDiff, ne_eq, reduceCtorEq, fcT, f0, f1, f2, f10, f11], by simp (disch := omega) only [bsW, ↓reduceIte, Nat.reduceEqDiff, ne_eq, reduceCtorEq, fcT, f0, f1, f2, f10, f11], by simp (disch := omega) only [bsW, ↓reduceIte, Nat.reduceEqDiff, ne_eq, reduceCtorEq, fcT, f0, f1, f2, f10, f11], hs0, by omega, by omega, rfl, hs, by omega⟩
  · rintro fr H' nx' ⟨k, hm, _⟩; omega
  · exact ⟨0, by omega, by omega, by simp (disch := omega) only [bsW, ↓reduceIte, Nat.reduceEqDiff, ne_eq, reduceCtorEq, fcT], by simp (disch := omega) only [bsW, ↓reduceIte, Nat.reduceEqDiff, ne_eq, reduceCtorEq, fcT], by simp (disch := omega) only [bsW, ↓reduceIte, Nat.reduceEqDiff, ne_eq, reduceCtorEq, fcT], by simp (disch := omega) only [bsW, ↓reduceIte, Nat.reduceEqDiff, ne_eq, reduceCtorEq, fcT], by simp (disch := omega) only [bsW, ↓reduceIte, Nat.reduceEqDiff, ne_eq, reduceCtorEq, fcT]; rfl, by simp (disch := omega) only [bsW, ↓reduceIte, Nat.reduceEqDiff, ne_eq, reduceCtorEq, fcT, Int.natCast_zero], Sub.refl _, by omega⟩
end Go.Proofs.YtnjlleopgjggpaaDoor
