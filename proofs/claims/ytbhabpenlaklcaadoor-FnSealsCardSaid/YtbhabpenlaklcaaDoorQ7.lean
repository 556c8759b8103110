/- Puzzles: the same of an object of its own. -/
import Derived.Test.YtbhabpenlaklcaaDoorQ6
import Derived.Test.YtbhabpenlaklcaaDoorS21
set_option linter.unusedVariables false
set_option linter.unusedSimpArgs false
set_option maxRecDepth 100000
set_option maxHeartbeats 1000000
namespace Go.Proofs.YtbhabpenlaklcaaDoor
open Go Go.RowKit Go.Proofs

theorem IsPuzzleO (v : Value) (tot : Int) (la : List Int) (hand : Int) (rj : List Int) (sl : Bool) (lo hi : Nat) (H : Hp) (nx : Nat) (hla : la.length + rj.length ≤ 1048576) (h : OwnP H lo hi tot la hand rj sl v) : PC Tryd.prog 23 #[v] H nx (.bool (pzB tot la hand rj sl)) := by
  obtain ⟨A, c, B, d, rfl, hc, hd, hA, hB⟩ := h.rd
  exact IsPuzzle tot A la c hand B rj d sl H nx hla hc hA hB
theorem UndoStepsO (v : Value) (tot : Int) (la : List Int) (hand : Int) (rj : List Int) (sl : Bool) (x : Int) (lo hi : Nat) (H : Hp) (nx : Nat) (hla : la.length + rj.length ≤ 1048576) (h : OwnP H lo hi tot la hand rj sl v) : PC Tryd.prog 19 #[v, .int .i64 x] H nx (.tuple #[.int .i64 (undoI tot la hand rj sl x), .bool (undoB tot la hand rj sl x)]) := by
  obtain ⟨A, c, B, d, rfl, hc, hd, hA, hB⟩ := h.rd
  exact UndoSteps tot A la c hand B rj d sl x H nx hla hc hA hB
theorem sUndoStepsO (v : Value) (tot : Int) (la : List Int) (hand : Int) (rj : List Int) (sl : Bool) (x : Int) (lo hi : Nat) (H : Hp) (nx : Nat) (hla : la.length + rj.length ≤ 1048576) (h : OwnP H lo hi tot la hand rj sl v) : PC Tryd.prog 20 #[v, .int .i64 x] H nx (.tuple #[.int .i64 (undoI tot la hand rj sl x), .bool (undoB tot la hand rj sl x)]) := by
  obtain ⟨A, c, B, d, rfl, hc, hd, hA, hB⟩ := h.rd
  exact sUndoSteps tot A la c hand B rj d sl x H nx hla hc hA hB
theorem StepsToSealO (v : Value) (tot : Int) (la : List Int) (hand : Int) (rj : List Int) (sl : Bool) (lo hi : Nat) (H : Hp) (nx : Nat) (hla : la.length + rj.length ≤ 1048576) (h : OwnP H lo hi tot la hand rj sl v) : PC Tryd.prog 12 #[v] H nx (.tuple #[.int .i64 (sealI tot la hand rj sl), .bool (pzB tot la hand rj sl)]) := by
  obtain ⟨A, c, B, d, rfl, hc, hd, hA, hB⟩ := h.rd
  exact StepsToSeal tot A la c hand B rj d sl H nx hla hc hA hB
theorem sStepsToSealO (v : Value) (tot : Int) (la : List Int) (hand : Int) (rj : List Int) (sl : Bool) (lo hi : Nat) (H : Hp) (nx : Nat) (hla : la.length + rj.length ≤ 1048576) (h : OwnP H lo hi tot la hand rj sl v) : PC Tryd.prog 13 #[v] H nx (.tuple #[.int .i64 (sealI tot la hand rj sl), .bool (pzB tot la hand rj sl)]) := by
  obtain ⟨A, c, B, d, rfl, hc, hd, hA, hB⟩ := h.rd
  exact sStepsToSeal tot A la c hand B rj d sl H nx hla hc hA hB
theorem PiecesWaitingO (v : Value) (tot : Int) (la : List Int) (hand : Int) (rj : List Int) (sl : Bool) (lo hi : Nat) (H : Hp) (nx : Nat) (hla : la.length + rj.length ≤ 1048576) (h : OwnP H lo hi tot la hand rj sl v) : AC Tryd.prog 14 #[v] H nx (RowFlagL H nx (pwL tot la hand rj sl) 3 (pzB tot la hand rj sl)) := by
  obtain ⟨A, c, B, d, rfl, hc, hd, hA, hB⟩ := h.rd
  exact PiecesWaiting tot A la c hand B rj d sl H nx hla hc hA hB
theorem sPiecesWaitingO (v : Value) (tot : Int) (la : List Int) (hand : Int) (rj : List Int) (sl : Bool) (lo hi : Nat) (H : Hp) (nx : Nat) (hla : la.length + rj.length ≤ 1048576) (h : OwnP H lo hi tot la hand rj sl v) : AC Tryd.prog 15 #[v] H nx (RowFlagL H nx (pwL tot la hand rj sl) 3 (pzB tot la hand rj sl)) := by
  obtain ⟨A, c, B, d, rfl, hc, hd, hA, hB⟩ := h.rd
  exact sPiecesWaiting tot A la c hand B rj d sl H nx hla hc hA hB
end Go.Proofs.YtbhabpenlaklcaaDoor
