/- Puzzles: the same of an object of its own. -/
import Derived.Test.YtbhabpenlaklcaaQ6
import Derived.Test.YtbhabpenlaklcaaS21
set_option linter.unusedVariables false
set_option linter.unusedSimpArgs false
set_option maxRecDepth 100000
set_option maxHeartbeats 1000000
namespace Go.Proofs.Ytbhabpenlaklcaa
open Go Go.RowKit Go.Proofs

theorem IsPuzzleO (v : Value) (tot : Int) (la : List Int) (hand : Int) (rj : List Int) (sl : Bool) (lo hi : Nat) (H : Hp) (nx : Nat) (hla : la.length + rj.length ≤ 1048576) (h : OwnP H lo hi tot la hand rj sl v) : PC Try.prog 19 #[v] H nx (.bool (pzB tot la hand rj sl)) := by
  obtain ⟨A, c, B, d, rfl, hc, hd, hA, hB⟩ := h.rd
  exact IsPuzzle tot A la c hand B rj d sl H nx hla hc hA hB
theorem sIsPuzzleO (v : Value) (tot : Int) (la : List Int) (hand : Int) (rj : List Int) (sl : Bool) (lo hi : Nat) (H : Hp) (nx : Nat) (hla : la.length + rj.length ≤ 1048576) (h : OwnP H lo hi tot la hand rj sl v) : PC Try.prog 17 #[v] H nx (.bool (pzB tot la hand rj sl)) := by
  obtain ⟨A, c, B, d, rfl, hc, hd, hA, hB⟩ := h.rd
  exact sIsPuzzle tot A la c hand B rj d sl H nx hla hc hA hB
theorem PiecesWaitingO (v : Value) (tot : Int) (la : List Int) (hand : Int) (rj : List Int) (sl : Bool) (lo hi : Nat) (H : Hp) (nx : Nat) (hla : la.length + rj.length ≤ 1048576) (h : OwnP H lo hi tot la hand rj sl v) : AC Try.prog 25 #[v] H nx (RowFlagL H nx (pwL tot la hand rj sl) 3 (pzB tot la hand rj sl)) := by
  obtain ⟨A, c, B, d, rfl, hc, hd, hA, hB⟩ := h.rd
  exact PiecesWaiting tot A la c hand B rj d sl H nx hla hc hA hB
end Go.Proofs.Ytbhabpenlaklcaa
