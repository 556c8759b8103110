/- RoomBids and RoomWinner: the program and the reference. -/
import Derived.Test.YtnjlleopgjggpaaDoorC5b
import Derived.Test.YtnjlleopgjggpaaDoorC5c
set_option linter.unusedVariables false
set_option linter.unusedSimpArgs false
set_option maxRecDepth 100000
set_option maxHeartbeats 1000000
namespace Go.Proofs.YtnjlleopgjggpaaDoor
open Go Go.RowKit Go.Proofs

theorem l22Asked (A B : Option Addr) (n c m d : Nat) (f g : Nat → Nat → Int) (start : Int) (H : Hp) (nx : Nat) (hn : n ≤ 17592186044416) (hm : m ≤ 17592186044416) (h : Rd H A n 2 f) (h' : Rd H B m 2 g) :
    PC Tryd.prog 70 #[.slice A n c, .slice B m d, .int .i64 start] H nx (.bool (stepsB n f && abssB m g && inR start 0 20000)) := by
  refine AC_of x_spec_l22Asked rfl fun hB => ?_
  simp (disch := omega) only [bsW, WOp, WOq, WV, bo, eqN, gdc, gw, bnd, ↓reduceIte, Nat.reduceEqDiff, rsvs, rsv, oneOf, rdN, ne_eq, Nat.reduceAdd, Nat.reduceMul, Nat.reduceLT, reduceCtorEq, Value.cells, setN, Value.oneCell', Nat.reduceLeDiff, undef, fcT, c_spec_l22Asked]
  (repeat' (first | ((with_reducible refine gif_split (fun hs_ => ?_) (fun hs_ => ?_)) <;> (have hp_ := hs_; (try simp only [hpL, ne_eq] at hp_); (try simp (disch := omega) only [bsW, WOp, WOq, WV, bo, eqN, gdc, gw, bnd, ↓reduceIte, Nat.reduceEqDiff, rsvs, rsv, oneOf, rdN, ne_eq, Nat.reduceAdd, Nat.reduceMul, Nat.reduceLT, reduceCtorEq, Value.cells, setN, Value.oneCell', Nat.reduceLeDiff, undef, fcT, hs_]))) | ((first | (with_reducible refine newB_i (fun nb_ hb_ => ?_)) | ((with_reducible show QC _ _ _ _ _ _); (first | (refine QC_i (l22Steps A n c f _ _ hn h) ?_) | (refine QC_i (l22Good B m d g _ _ hm h') ?_) | (refine QC_i (l22Bid _ _ _) ?_))) | ((with_reducible show AC _ _ _ _ _ _); (first | (refine PC.ac (l22Steps A n c f _ _ hn h) ?_) | (refine PC.ac (l22Good B m d g _ _ hm h') ?_) | (refine PC.ac (l22Bid _ _ _) ?_))) | (with_reducible refine RgE_i (fun (hBd_ : Bd _ _) => ?_))); (try simp (disch := omega) only [bsW, WOp, WOq, WV, bo, eqN, gdc, gw, bnd, ↓reduceIte, Nat.reduceEqDiff, rsvs, rsv, oneOf, rdN, ne_eq, Nat.reduceAdd, Nat.reduceMul, Nat.reduceLT, reduceCtorEq, Value.cells, setN, Value.oneCell', Nat.reduceLeDiff, undef, fcT])) | (with_reducible refine fun (hBd_ : Bd _ _) => ?_) | ((first | (with_reducible refine @And.intro (Sub _ _) _ ?_ ?_) | ((with_reducible refine @And.intro (Sub _ _ ∧ _) _ ?_ ?_); (with_reducible refine @And.intro (Sub _ _) _ ?_ ?_))); exact sbX) | ((with_reducible refine And.intro ?_ ?_); omega)))
  all_goals exact Is_e (by simp_all) (by (repeat (first | assumption | exact Sub.refl _ | (refine sub_up (nx := nx) ?_ hB ?_; omega))))

noncomputable def askB (n : Nat) (f : Nat → Nat → Int) (m : Nat) (g : Nat → Nat → Int) (start : Int) : Bool := stepsB n f && abssB m g && inR start 0 20000
theorem askB_iff {n : Nat} {f : Nat → Nat → Int} {m : Nat} {g : Nat → Nat → Int} {start : Int} : askB n f m g start = true ↔ stepsOk n f ∧ abssOk m g ∧ 0 ≤ start ∧ start ≤ 20000 := by
  simp only [askB, Bool.and_eq_true, stepsB_iff, abssB_iff, inR_true, and_assoc]
noncomputable def rbL (n : Nat) (f : Nat → Nat → Int) (m : Nat) (g : Nat → Nat → Int) (start : Int) : List Int := if askB n f m g start = true then (room n f m g start).1 else []
theorem rbL_len (n : Nat) (f : Nat → Nat → Int) (m : Nat) (g : Nat → Nat → Int) (start : Int) : (rbL n f m g start).length ≤ 101 := by
  unfold rbL
  split
  · exact room_len _ _ _ _ _
  · simp
/-- A new row of ints and a flag. -/
def LFlag (H : Hp) (nx : Nat) (l : List Int) (ty : TypeId) (ok : Bool) (v : Value) (H' : Hp) (nx' : Nat) : Prop := ∃ w, v = .tuple #[w, .bool ok] ∧ OwnL H' nx nx' l ty w ∧ Sub H H'

theorem RoomBids (A B : Option Addr) (n c m d : Nat) (f g : Nat → Nat → Int) (start : Int) (H : Hp) (nx : Nat) (hn : n ≤ 17592186044416) (hm : m ≤ 17592186044416) (hd : m ≤ d) (h : Rd H A n 2 f) (h' : Rd H B m 2 g) :
    AC Tryd.prog 10 #[.slice A n c, .slice B m d, .int .i64 start] H nx (LFlag H nx (rbL n f m g start) 3 (askB n f m g start)) := by
  refine AC_of x_impl_RoomBids rfl fun hB => ?_
  simp (disch := omega) only [bsW, WOp, WOq, WV, bo, eqN, gdc, gw, bnd, ↓reduceIte, Nat.reduceEqDiff, rsvs, rsv, oneOf, rdN, ne_eq, Nat.reduceAdd, Nat.reduceMul, Nat.reduceLT, reduceCtorEq, Value.cells, setN, Value.oneCell', Nat.reduceLeDiff, undef, fcT, c_impl_RoomBids]
  (repeat' (first | ((with_reducible refine gif_split (fun hs_ => ?_) (fun hs_ => ?_)) <;> (have hp_ := hs_; (try simp only [hpL, ne_eq] at hp_); (try simp (disch := omega) only [bsW, WOp, WOq, WV, bo, eqN, gdc, gw, bnd, ↓reduceIte, Nat.reduceEqDiff, rsvs, rsv, oneOf, rdN, ne_eq, Nat.reduceAdd, Nat.reduceMul, Nat.reduceLT, reduceCtorEq, Value.cells, setN, Value.oneCell', Nat.reduceLeDiff, undef, fcT, hs_]))) | ((first | (with_reducible refine newB_i (fun nb_ hb_ => ?_)) | ((with_reducible show QC _ _ _ _ _ _); (first | (refine QC_i (areSteps A n c f _ _ hn h) ?_) | (refine QC_i (areAbsentees B m d g _ _ hm hd h') ?_) | (refine QC_i (isBid _ _ _) ?_))) | ((with_reducible show AC _ _ _ _ _ _); (first | (refine PC.ac (areSteps A n c f _ _ hn h) ?_) | (refine PC.ac (areAbsentees B m d g _ _ hm hd h') ?_) | (refine PC.ac (isBid _ _ _) ?_))) | (with_reducible refine RgE_i (fun (hBd_ : Bd _ _) => ?_))); (try simp (disch := omega) only [bsW, WOp, WOq, WV, bo, eqN, gdc, gw, bnd, ↓reduceIte, Nat.reduceEqDiff, rsvs, rsv, oneOf, rdN, ne_eq, Nat.reduceAdd, Nat.reduceMul, Nat.reduceLT, reduceCtorEq, Value.cells, setN, Value.oneCell', Nat.reduceLeDiff, undef, fcT])) | (with_reducible refine fun (hBd_ : Bd _ _) => ?_) | ((first | (with_reducible refine @And.intro (Sub _ _) _ ?_ ?_) | ((with_reducible refine @And.intro (Sub _ _ ∧ _) _ ?_ ?_); (with_reducible refine @And.intro (Sub _ _) _ ?_ ?_))); exact sbX) | ((with_reducible refine And.intro ?_ ?_); omega)))
  all_goals try (exfalso; omega)
  all_goals first
    | (have e0 : askB n f m g start = false := by rw [Bool.eq_false_iff, Ne, askB_iff]; simp_all [← stepsB_iff, ← abssB_iff, inR_false]; done
       rw [rbL, e0, if_neg (by simp)]
       exact ⟨_, rfl, .nil, Sub.refl H⟩)
    | skip
  have hask : askB n f m g start = true := by simp_all [askB]
  have ha := askB_iff.1 hask
  refine (roomBids A B n c m d f g start H nx ha.1 ha.2.1 ha.2.2.1 ha.2.2.2 h h').mono ?_
  rintro v H1 nx1 ⟨w, rfl, hO, hs⟩
  simp (disch := omega) only [bsW, WOp, WOq, WV, bo, eqN, gdc, gw, bnd, ↓reduceIte, Nat.reduceEqDiff, rsvs, rsv, oneOf, rdN, ne_eq, Nat.reduceAdd, Nat.reduceMul, Nat.reduceLT, reduceCtorEq, Value.cells, setN, Value.oneCell', Nat.reduceLeDiff, undef, fcT]
  rw [rbL, if_pos hask, hask]
  exact ⟨_, rfl, hO, hs⟩
theorem sRoomBids (A B : Option Addr) (n c m d : Nat) (f g : Nat → Nat → Int) (start : Int) (H : Hp) (nx : Nat) (hn : n ≤ 17592186044416) (hm : m ≤ 17592186044416) (h : Rd H A n 2 f) (h' : Rd H B m 2 g) :
    AC Tryd.prog 11 #[.slice A n c, .slice B m d, .int .i64 start] H nx (LFlag H nx (rbL n f m g start) 3 (askB n f m g start)) := by
  refine AC_of x_spec_RoomBids rfl fun hB => ?_
  simp (disch := omega) only [bsW, WOp, WOq, WV, bo, eqN, gdc, gw, bnd, ↓reduceIte, Nat.reduceEqDiff, rsvs, rsv, oneOf, rdN, ne_eq, Nat.reduceAdd, Nat.reduceMul, Nat.reduceLT, reduceCtorEq, Value.cells, setN, Value.oneCell', Nat.reduceLeDiff, undef, fcT, c_spec_RoomBids]
  (repeat' (first | ((with_reducible refine gif_split (fun hs_ => ?_) (fun hs_ => ?_)) <;> (have hp_ := hs_; (try simp only [hpL, ne_eq] at hp_); (try simp (disch := omega) only [bsW, WOp, WOq, WV, bo, eqN, gdc, gw, bnd, ↓reduceIte, Nat.reduceEqDiff, rsvs, rsv, oneOf, rdN, ne_eq, Nat.reduceAdd, Nat.reduceMul, Nat.reduceLT, reduceCtorEq, Value.cells, setN, Value.oneCell', Nat.reduceLeDiff, undef, fcT, hs_]))) | ((first | (with_reducible refine newB_i (fun nb_ hb_ => ?_)) | ((with_reducible show QC _ _ _ _ _ _); (first | (refine QC_i (l22Asked A B n c m d f g start _ _ hn hm h h') ?_))) | ((with_reducible show AC _ _ _ _ _ _); (first | (refine PC.ac (l22Asked A B n c m d f g start _ _ hn hm h h') ?_))) | (with_reducible refine RgE_i (fun (hBd_ : Bd _ _) => ?_))); (try simp (disch := omega) only [bsW, WOp, WOq, WV, bo, eqN, gdc, gw, bnd, ↓reduceIte, Nat.reduceEqDiff, rsvs, rsv, oneOf, rdN, ne_eq, Nat.reduceAdd, Nat.reduceMul, Nat.reduceLT, reduceCtorEq, Value.cells, setN, Value.oneCell', Nat.reduceLeDiff, undef, fcT])) | (with_reducible refine fun (hBd_ : Bd _ _) => ?_) | ((first | (with_reducible refine @And.intro (Sub _ _) _ ?_ ?_) | ((with_reducible refine @And.intro (Sub _ _ ∧ _) _ ?_ ?_); (with_reducible refine @And.intro (Sub _ _) _ ?_ ?_))); exact sbX) | ((with_reducible refine And.intro ?_ ?_); omega)))
  all_goals try (exfalso; omega)
  · have hask : askB n f m g start = true := by simp_all [askB]
    have ha := askB_iff.1 hask
    refine (l22Room A B n c m d f g start H nx ha.1 ha.2.1 ha.2.2.1 ha.2.2.2 h h').mono ?_
    rintro v H1 nx1 ⟨w, rfl, hO, hs⟩
    simp (disch := omega) only [bsW, WOp, WOq, WV, bo, eqN, gdc, gw, bnd, ↓reduceIte, Nat.reduceEqDiff, rsvs, rsv, oneOf, rdN, ne_eq, Nat.reduceAdd, Nat.reduceMul, Nat.reduceLT, reduceCtorEq, Value.cells, setN, Value.oneCell', Nat.reduceLeDiff, undef, fcT]
    rw [rbL, if_pos hask, hask]
    exact ⟨_, rfl, hO, hs⟩
  · have e0 : askB n f m g start = false := by simp_all [askB]
    rw [rbL, e0, if_neg (by simp)]
    exact ⟨_, rfl, .empty (by assumption) (by omega) (upd_same _ _ _), by (repeat (first | assumption | exact Sub.refl _ | (refine sub_up (nx := nx) ?_ hB ?_; omega)))⟩

noncomputable def vWinner (n : Nat) (f : Nat → Nat → Int) (m : Nat) (g : Nat → Nat → Int) (start : Int) : Value :=
  if rbL n f m g start = [] then .tuple #[.int .i64 0, .int .i64 0, .bool false] else .tuple #[.int .i64 ((rbL n f m g start).getLastD 0), .int .i64 (room n f m g start).2, .bool true]

theorem RoomWinner (A B : Option Addr) (n c m d : Nat) (f g : Nat → Nat → Int) (start : Int) (H : Hp) (nx : Nat) (hn : n ≤ 17592186044416) (hm : m ≤ 17592186044416) (hd : m ≤ d) (h : Rd H A n 2 f) (h' : Rd H B m 2 g) :
    PC Tryd.prog 8 #[.slice A n c, .slice B m d, .int .i64 start] H nx (vWinner n f m g start) := by
  refine AC_of x_impl_RoomWinner rfl fun hB => ?_
  simp (disch := omega) only [bsW, WOp, WOq, WV, bo, eqN, gdc, gw, bnd, ↓reduceIte, Nat.reduceEqDiff, rsvs, rsv, oneOf, rdN, ne_eq, Nat.reduceAdd, Nat.reduceMul, Nat.reduceLT, reduceCtorEq, Value.cells, setN, Value.oneCell', Nat.reduceLeDiff, undef, fcT, c_impl_RoomWinner]
  (repeat' (first | ((with_reducible refine gif_split (fun hs_ => ?_) (fun hs_ => ?_)) <;> (have hp_ := hs_; (try simp only [hpL, ne_eq] at hp_); (try simp (disch := omega) only [bsW, WOp, WOq, WV, bo, eqN, gdc, gw, bnd, ↓reduceIte, Nat.reduceEqDiff, rsvs, rsv, oneOf, rdN, ne_eq, Nat.reduceAdd, Nat.reduceMul, Nat.reduceLT, reduceCtorEq, Value.cells, setN, Value.oneCell', Nat.reduceLeDiff, undef, fcT, hs_]))) | ((first | (with_reducible refine newB_i (fun nb_ hb_ => ?_)) | ((with_reducible show QC _ _ _ _ _ _); (first | (refine QC_i (areSteps A n c f _ _ hn h) ?_) | (refine QC_i (areAbsentees B m d g _ _ hm hd h') ?_) | (refine QC_i (isBid _ _ _) ?_))) | ((with_reducible show AC _ _ _ _ _ _); (first | (refine PC.ac (areSteps A n c f _ _ hn h) ?_) | (refine PC.ac (areAbsentees B m d g _ _ hm hd h') ?_) | (refine PC.ac (isBid _ _ _) ?_))) | (with_reducible refine RgE_i (fun (hBd_ : Bd _ _) => ?_))); (try simp (disch := omega) only [bsW, WOp, WOq, WV, bo, eqN, gdc, gw, bnd, ↓reduceIte, Nat.reduceEqDiff, rsvs, rsv, oneOf, rdN, ne_eq, Nat.reduceAdd, Nat.reduceMul, Nat.reduceLT, reduceCtorEq, Value.cells, setN, Value.oneCell', Nat.reduceLeDiff, undef, fcT])) | (with_reducible refine fun (hBd_ : Bd _ _) => ?_) | ((first | (with_reducible refine @And.intro (Sub _ _) _ ?_ ?_) | ((with_reducible refine @And.intro (Sub _ _ ∧ _) _ ?_ ?_); (with_reducible refine @And.intro (Sub _ _) _ ?_ ?_))); exact sbX) | ((with_reducible refine And.intro ?_ ?_); omega)))
  all_goals try (exfalso; omega)
  all_goals first
    | (have e0 : askB n f m g start = false := by rw [Bool.eq_false_iff, Ne, askB_iff]; simp_all [← stepsB_iff, ← abssB_iff, inR_false]; done
       refine Is_e ?_ (Sub.refl H)
       rw [vWinner, rbL, e0, if_pos (by simp)])
    | (have e0 : askB n f m g start = false := by simp_all [askB]; done
       refine Is_e ?_ (Sub.refl H)
       rw [vWinner, rbL, e0, if_pos (by simp)])
    | skip
  have hask : askB n f m g start = true := by simp_all [askB]
  have ha := askB_iff.1 hask
  have hlen := room_len n f m g start
  refine (roomBids A B n c m d f g start H nx ha.1 ha.2.1 ha.2.2.1 ha.2.2.2 h h').mono ?_
  rintro v H1 nx1 ⟨w, rfl, hO, hs⟩
  obtain ⟨A1, c1, rfl, hc1, hR⟩ := hO.rd
  have er : rbL n f m g start = (room n f m g start).1 := if_pos hask
  generalize hl : (room n f m g start).1 = l at *
  rcases List.eq_nil_or_concat l with rfl | ⟨l', y, rfl⟩
  · simp (disch := omega) only [bsW, WOp, WOq, WV, bo, eqN, gdc, gw, bnd, ↓reduceIte, Nat.reduceEqDiff, rsvs, rsv, oneOf, rdN, ne_eq, Nat.reduceAdd, Nat.reduceMul, Nat.reduceLT, reduceCtorEq, Value.cells, setN, Value.oneCell', Nat.reduceLeDiff, undef, fcT, List.length_nil, Int.natCast_zero]
    (repeat' (first | ((with_reducible refine gif_split (fun hs_ => ?_) (fun hs_ => ?_)) <;> (have hp_ := hs_; (try simp only [hpL, ne_eq] at hp_); (try simp (disch := omega) only [bsW, WOp, WOq, WV, bo, eqN, gdc, gw, bnd, ↓reduceIte, Nat.reduceEqDiff, rsvs, rsv, oneOf, rdN, ne_eq, Nat.reduceAdd, Nat.reduceMul, Nat.reduceLT, reduceCtorEq, Value.cells, setN, Value.oneCell', Nat.reduceLeDiff, undef, fcT, List.length_nil, Int.natCast_zero, hs_]))) | ((first | (with_reducible refine newB_i (fun nb_ hb_ => ?_)) | (with_reducible refine RgE_i (fun (hBd_ : Bd _ _) => ?_))); (try simp (disch := omega) only [bsW, WOp, WOq, WV, bo, eqN, gdc, gw, bnd, ↓reduceIte, Nat.reduceEqDiff, rsvs, rsv, oneOf, rdN, ne_eq, Nat.reduceAdd, Nat.reduceMul, Nat.reduceLT, reduceCtorEq, Value.cells, setN, Value.oneCell', Nat.reduceLeDiff, undef, fcT, List.length_nil, Int.natCast_zero])) | (with_reducible refine fun (hBd_ : Bd _ _) => ?_) | ((first | (with_reducible refine @And.intro (Sub _ _) _ ?_ ?_) | ((with_reducible refine @And.intro (Sub _ _ ∧ _) _ ?_ ?_); (with_reducible refine @And.intro (Sub _ _) _ ?_ ?_))); exact sbX) | ((with_reducible refine And.intro ?_ ?_); omega)))
    all_goals try (exfalso; omega)
    all_goals first
      | (refine Is_e ?_ hs
         rw [vWinner, er, if_pos rfl])
      | (exfalso; simp_all; done)
  · obtain ⟨b, off, rfl, hcc⟩ := hR.at_ (by simp)
    have hy : rowL (l'.concat y) l'.length 0 = y := by simp [rowL]
    have c0 := hcc l'.length 0 (by simp) (by omega)
    rw [hy] at c0
    simp only [List.concat_eq_append, List.length_append, List.length_singleton, Nat.mul_one, Nat.add_zero] at *
    simp (disch := omega) only [bsW, WOp, WOq, WV, bo, eqN, gdc, gw, bnd, ↓reduceIte, Nat.reduceEqDiff, rsvs, rsv, oneOf, rdN, ne_eq, Nat.reduceAdd, Nat.reduceMul, Nat.reduceLT, reduceCtorEq, Value.cells, setN, Value.oneCell', Nat.reduceLeDiff, undef, fcT, c0, Nat.mul_one, Int.natCast_add, Int.natCast_one, Int.add_sub_cancel]
    (repeat' (first | ((with_reducible refine gif_split (fun hs_ => ?_) (fun hs_ => ?_)) <;> (have hp_ := hs_; (try simp only [hpL, ne_eq] at hp_); (try simp (disch := omega) only [bsW, WOp, WOq, WV, bo, eqN, gdc, gw, bnd, ↓reduceIte, Nat.reduceEqDiff, rsvs, rsv, oneOf, rdN, ne_eq, Nat.reduceAdd, Nat.reduceMul, Nat.reduceLT, reduceCtorEq, Value.cells, setN, Value.oneCell', Nat.reduceLeDiff, undef, fcT, c0, Nat.mul_one, Int.natCast_add, Int.natCast_one, Int.add_sub_cancel, hs_]))) | ((first | (with_reducible refine newB_i (fun nb_ hb_ => ?_)) | (with_reducible refine RgE_i (fun (hBd_ : Bd _ _) => ?_))); (try simp (disch := omega) only [bsW, WOp, WOq, WV, bo, eqN, gdc, gw, bnd, ↓reduceIte, Nat.reduceEqDiff, rsvs, rsv, oneOf, rdN, ne_eq, Nat.reduceAdd, Nat.reduceMul, Nat.reduceLT, reduceCtorEq, Value.cells, setN, Value.oneCell', Nat.reduceLeDiff, undef, fcT, c0, Nat.mul_one, Int.natCast_add, Int.natCast_one, Int.add_sub_cancel])) | (with_reducible refine fun (hBd_ : Bd _ _) => ?_) | ((first | (with_reducible refine @And.intro (Sub _ _) _ ?_ ?_) | ((with_reducible refine @And.intro (Sub _ _ ∧ _) _ ?_ ?_); (with_reducible refine @And.intro (Sub _ _) _ ?_ ?_))); exact sbX) | ((with_reducible refine And.intro ?_ ?_); omega)))
    all_goals try (exfalso; omega)
    all_goals
      refine Is_e ?_ hs
      rw [vWinner, er, if_neg (by simp)]
      simp

theorem sRoomWinner (A B : Option Addr) (n c m d : Nat) (f g : Nat → Nat → Int) (start : Int) (H : Hp) (nx : Nat) (hn : n ≤ 17592186044416) (hm : m ≤ 17592186044416) (hd : m ≤ d) (h : Rd H A n 2 f) (h' : Rd H B m 2 g) :
    PC Tryd.prog 9 #[.slice A n c, .slice B m d, .int .i64 start] H nx (vWinner n f m g start) := by
  refine AC_of x_spec_RoomWinner rfl fun hB => ?_
  simp (disch := omega) only [bsW, WOp, WOq, WV, bo, eqN, gdc, gw, bnd, ↓reduceIte, Nat.reduceEqDiff, rsvs, rsv, oneOf, rdN, ne_eq, Nat.reduceAdd, Nat.reduceMul, Nat.reduceLT, reduceCtorEq, Value.cells, setN, Value.oneCell', Nat.reduceLeDiff, undef, fcT, c_spec_RoomWinner]
  (repeat' (first | ((with_reducible refine gif_split (fun hs_ => ?_) (fun hs_ => ?_)) <;> (have hp_ := hs_; (try simp only [hpL, ne_eq] at hp_); (try simp (disch := omega) only [bsW, WOp, WOq, WV, bo, eqN, gdc, gw, bnd, ↓reduceIte, Nat.reduceEqDiff, rsvs, rsv, oneOf, rdN, ne_eq, Nat.reduceAdd, Nat.reduceMul, Nat.reduceLT, reduceCtorEq, Value.cells, setN, Value.oneCell', Nat.reduceLeDiff, undef, fcT, hs_]))) | ((first | (with_reducible refine newB_i (fun nb_ hb_ => ?_)) | ((with_reducible show QC _ _ _ _ _ _); (first | (refine QC_i (l22Asked A B n c m d f g start _ _ hn hm h h') ?_))) | ((with_reducible show AC _ _ _ _ _ _); (first | (refine PC.ac (l22Asked A B n c m d f g start _ _ hn hm h h') ?_))) | (with_reducible refine RgE_i (fun (hBd_ : Bd _ _) => ?_))); (try simp (disch := omega) only [bsW, WOp, WOq, WV, bo, eqN, gdc, gw, bnd, ↓reduceIte, Nat.reduceEqDiff, rsvs, rsv, oneOf, rdN, ne_eq, Nat.reduceAdd, Nat.reduceMul, Nat.reduceLT, reduceCtorEq, Value.cells, setN, Value.oneCell', Nat.reduceLeDiff, undef, fcT])) | (with_reducible refine fun (hBd_ : Bd _ _) => ?_) | ((first | (with_reducible refine @And.intro (Sub _ _) _ ?_ ?_) | ((with_reducible refine @And.intro (Sub _ _ ∧ _) _ ?_ ?_); (with_reducible refine @And.intro (Sub _ _) _ ?_ ?_))); exact sbX) | ((with_reducible refine And.intro ?_ ?_); omega)))
  all_goals try (exfalso; omega)
  all_goals first
    | (have e0 : askB n f m g start = false := by rw [Bool.eq_false_iff, Ne, askB_iff]; simp_all [← stepsB_iff, ← abssB_iff, inR_false]; done
       refine Is_e ?_ (Sub.refl H)
       rw [vWinner, rbL, e0, if_pos (by simp)])
    | (have e0 : askB n f m g start = false := by simp_all [askB]; done
       refine Is_e ?_ (Sub.refl H)
       rw [vWinner, rbL, e0, if_pos (by simp)])
    | skip
  have hask : askB n f m g start = true := by simp_all [askB]
  have ha := askB_iff.1 hask
  have hlen := room_len n f m g start
  refine (l22Room A B n c m d f g start H nx ha.1 ha.2.1 ha.2.2.1 ha.2.2.2 h h').mono ?_
  rintro v H1 nx1 ⟨w, rfl, hO, hs⟩
  obtain ⟨A1, c1, rfl, hc1, hR⟩ := hO.rd
  have er : rbL n f m g start = (room n f m g start).1 := if_pos hask
  generalize hl : (room n f m g start).1 = l at *
  rcases List.eq_nil_or_concat l with rfl | ⟨l', y, rfl⟩
  · simp (disch := omega) only [bsW, WOp, WOq, WV, bo, eqN, gdc, gw, bnd, ↓reduceIte, Nat.reduceEqDiff, rsvs, rsv, oneOf, rdN, ne_eq, Nat.reduceAdd, Nat.reduceMul, Nat.reduceLT, reduceCtorEq, Value.cells, setN, Value.oneCell', Nat.reduceLeDiff, undef, fcT, List.length_nil, Int.natCast_zero]
    (repeat' (first | ((with_reducible refine gif_split (fun hs_ => ?_) (fun hs_ => ?_)) <;> (have hp_ := hs_; (try simp only [hpL, ne_eq] at hp_); (try simp (disch := omega) only [bsW, WOp, WOq, WV, bo, eqN, gdc, gw, bnd, ↓reduceIte, Nat.reduceEqDiff, rsvs, rsv, oneOf, rdN, ne_eq, Nat.reduceAdd, Nat.reduceMul, Nat.reduceLT, reduceCtorEq, Value.cells, setN, Value.oneCell', Nat.reduceLeDiff, undef, fcT, List.length_nil, Int.natCast_zero, hs_]))) | ((first | (with_reducible refine newB_i (fun nb_ hb_ => ?_)) | (with_reducible refine RgE_i (fun (hBd_ : Bd _ _) => ?_))); (try simp (disch := omega) only [bsW, WOp, WOq, WV, bo, eqN, gdc, gw, bnd, ↓reduceIte, Nat.reduceEqDiff, rsvs, rsv, oneOf, rdN, ne_eq, Nat.reduceAdd, Nat.reduceMul, Nat.reduceLT, reduceCtorEq, Value.cells, setN, Value.oneCell', Nat.reduceLeDiff, undef, fcT, List.length_nil, Int.natCast_zero])) | (with_reducible refine fun (hBd_ : Bd _ _) => ?_) | ((first | (with_reducible refine @And.intro (Sub _ _) _ ?_ ?_) | ((with_reducible refine @And.intro (Sub _ _ ∧ _) _ ?_ ?_); (with_reducible refine @And.intro (Sub _ _) _ ?_ ?_))); exact sbX) | ((with_reducible refine And.intro ?_ ?_); omega)))
    all_goals try (exfalso; omega)
    all_goals first
      | (refine Is_e ?_ hs
         rw [vWinner, er, if_pos rfl])
      | (exfalso; simp_all; done)
  · obtain ⟨b, off, rfl, hcc⟩ := hR.at_ (by simp)
    have hy : rowL (l'.concat y) l'.length 0 = y := by simp [rowL]
    have c0 := hcc l'.length 0 (by simp) (by omega)
    rw [hy] at c0
    simp only [List.concat_eq_append, List.length_append, List.length_singleton, Nat.mul_one, Nat.add_zero] at *
    simp (disch := omega) only [bsW, WOp, WOq, WV, bo, eqN, gdc, gw, bnd, ↓reduceIte, Nat.reduceEqDiff, rsvs, rsv, oneOf, rdN, ne_eq, Nat.reduceAdd, Nat.reduceMul, Nat.reduceLT, reduceCtorEq, Value.cells, setN, Value.oneCell', Nat.reduceLeDiff, undef, fcT, c0, Nat.mul_one, Int.natCast_add, Int.natCast_one, Int.add_sub_cancel]
    (repeat' (first | ((with_reducible refine gif_split (fun hs_ => ?_) (fun hs_ => ?_)) <;> (have hp_ := hs_; (try simp only [hpL, ne_eq] at hp_); (try simp (disch := omega) only [bsW, WOp, WOq, WV, bo, eqN, gdc, gw, bnd, ↓reduceIte, Nat.reduceEqDiff, rsvs, rsv, oneOf, rdN, ne_eq, Nat.reduceAdd, Nat.reduceMul, Nat.reduceLT, reduceCtorEq, Value.cells, setN, Value.oneCell', Nat.reduceLeDiff, undef, fcT, c0, Nat.mul_one, Int.natCast_add, Int.natCast_one, Int.add_sub_cancel, hs_]))) | ((first | (with_reducible refine newB_i (fun nb_ hb_ => ?_)) | (with_reducible refine RgE_i (fun (hBd_ : Bd _ _) => ?_))); (try simp (disch := omega) only [bsW, WOp, WOq, WV, bo, eqN, gdc, gw, bnd, ↓reduceIte, Nat.reduceEqDiff, rsvs, rsv, oneOf, rdN, ne_eq, Nat.reduceAdd, Nat.reduceMul, Nat.reduceLT, reduceCtorEq, Value.cells, setN, Value.oneCell', Nat.reduceLeDiff, undef, fcT, c0, Nat.mul_one, Int.natCast_add, Int.natCast_one, Int.add_sub_cancel])) | (with_reducible refine fun (hBd_ : Bd _ _) => ?_) | ((first | (with_reducible refine @And.intro (Sub _ _) _ ?_ ?_) | ((with_reducible refine @And.intro (Sub _ _ ∧ _) _ ?_ ?_); (with_reducible refine @And.intro (Sub _ _) _ ?_ ?_))); exact sbX) | ((with_reducible refine And.intro ?_ ?_); omega)))
    all_goals try (exfalso; omega)
    all_goals
      refine Is_e ?_ hs
      rw [vWinner, er, if_neg (by simp)]
      simp
end Go.Proofs.YtnjlleopgjggpaaDoor
