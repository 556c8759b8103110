/- Wishes in an interval of blocks. -/
import Derived.Test.YtnaldmmdhpobgaaSC
set_option linter.unusedVariables false
set_option linter.unusedSimpArgs false
set_option maxRecDepth 100000
set_option maxHeartbeats 1000000
namespace Go.Proofs.Ytnaldmmdhpobgaa
open Go Go.RowKit Go.Proofs

theorem eqWishO (v w : Value) (n : Nat) (f : Nat → Nat → Int) (lo nx' lo2 nx2 ty2 : Nat) (H : Hp) (nx : Nat) (hn : n ≤ 1048576) (h : OwnR H lo nx' n 3 f 63 v) (h2 : OwnR H lo2 nx2 n 3 f ty2 w) :
    PC Try.prog 17 #[v, w] H nx (.bool true) := by
  obtain ⟨A, c, rfl, _, hR⟩ := h.rd
  obtain ⟨A2, c2, rfl, _, hR2⟩ := h2.rd
  exact eqWishS A A2 n c c2 f H nx (by omega) hR hR2
theorem toWishI (A : Option Addr) (n c : Nat) (f : Nat → Nat → Int) (H : Hp) (nx : Nat) (hn : n ≤ 1048576) (h : Rd H A n 3 f) :
    AC Try.prog 14 #[.slice A n c] H nx (NewI (fun hi v H' => OwnR H' nx hi n 3 f 63 v) H) := by
  refine (toWishS A n c f H nx hn h).mono2 ?_
  rintro v H' nx' hx ⟨⟨q, rfl, h1, h2, h3⟩, hs⟩
  exact ⟨.full h1 h2 h3 (by unfold maxLen; omega), hs⟩
theorem markWishI (v : Value) (n : Nat) (f : Nat → Nat → Int) (t : Int) (lo hi : Nat) (H : Hp) (nx : Nat) (hn : n ≤ 1048576) (ht : 0 ≤ t ∧ t ≤ 1099511627776) (ho : OwnR H lo hi n 3 f 63 v) (hhi : hi ≤ nx) :
    AC Try.prog 22 #[v, .int .i64 t] H nx (MarkI (fun H' => OwnR H' lo hi n 3 (mks t 3) 63 v) H lo hi nx (.int .i64 (t + n * 3))) :=
  (markWishS v n f t lo H nx hn ht (ho.sub (Sub.refl _) hhi)).mono2 fun r H' nx' hx h => markI_of ho hhi h
end Go.Proofs.Ytnaldmmdhpobgaa
