/- The search for the best exchange: plain laws. No program stands here. -/
import Derived.Test.YtnaldmmdhpobgaaP20d
set_option linter.unusedVariables false
set_option linter.unusedSimpArgs false
namespace Go.Proofs.Ytnaldmmdhpobgaa
open Go Go.RowKit

/-- No person of the circle is in the ones begun. -/
def freeB (bg : List (List Int)) (c : List Int) : Bool := bg.all fun d => aptB d c
/-- The exchanges that begin so, from a circle on: what is done at each, one after the other. -/
def restS {T : Type} (ls : List (List Int)) (w : List Int → Int) (sub : Nat → List (List Int) → Int → T → T) (first : Nat) (bg : List (List Int)) (val : Int) (t : T) : Nat → T
  | 0 => t
  | j + 1 => if freeB bg (rowOf ls (first + j)) = true then sub (first + j + 1) (bg ++ [rowOf ls (first + j)]) (val + w (rowOf ls (first + j))) (restS ls w sub first bg val t j) else restS ls w sub first bg val t j
def srch {T : Type} (ls : List (List Int)) (w : List Int → Int) (at_ : List (List Int) → Int → T → T) : Nat → Nat → List (List Int) → Int → T → T
  | 0, _, bg, val, t => at_ bg val t
  | u + 1, first, bg, val, t => restS ls w (srch ls w at_ u) first bg val (at_ bg val t) (ls.length - first)
/-- How many people the circles have. -/
def pplL (ls : List (List Int)) : Nat := llLen ls ls.length
/-- The reference's step: the best one and its value. -/
def updS (bg : List (List Int)) (val : Int) (t : List (List Int) × Int) : List (List Int) × Int := if t.2 < val ∨ (val = t.2 ∧ pplL bg < pplL t.1) then (bg, val) else t
/-- The greatest value alone. -/
theorem updS_snd (bg : List (List Int)) (val : Int) (t : List (List Int) × Int) : (updS bg val t).2 = max t.2 val := by
  unfold updS
  split
  · rename_i h; simp only; omega
  · rename_i h; omega
theorem restS_map {T U : Type} (g : T → U) {ls : List (List Int)} {w : List Int → Int} {sub : Nat → List (List Int) → Int → T → T} {sub' : Nat → List (List Int) → Int → U → U} (hs : ∀ i bg val t, g (sub i bg val t) = sub' i bg val (g t)) (first : Nat) (bg : List (List Int)) (val : Int) (t : T) : ∀ j, g (restS ls w sub first bg val t j) = restS ls w sub' first bg val (g t) j
  | 0 => rfl
  | j + 1 => by
    have ih := restS_map g (ls := ls) (w := w) hs first bg val t j
    simp only [restS]
    split
    · rw [hs, ih]
    · exact ih
theorem srch_map {T U : Type} (g : T → U) {ls : List (List Int)} {w : List Int → Int} {a : List (List Int) → Int → T → T} {a' : List (List Int) → Int → U → U} (ha : ∀ bg val t, g (a bg val t) = a' bg val (g t)) : ∀ (u first : Nat) (bg : List (List Int)) (val : Int) (t : T), g (srch ls w a u first bg val t) = srch ls w a' u first bg val (g t)
  | 0, first, bg, val, t => ha bg val t
  | u + 1, first, bg, val, t => by
    simp only [srch]
    rw [restS_map g (fun i bg val t => srch_map g ha u i bg val t), ha]
/-- The reference's greatest value. -/
theorem srch_max (ls : List (List Int)) (w : List Int → Int) (u first : Nat) (bg : List (List Int)) (val : Int) (t : List (List Int) × Int) : (srch ls w updS u first bg val t).2 = srch ls w (fun _ v x => max x v) u first bg val t.2 :=
  srch_map Prod.snd (fun bg val t => updS_snd bg val t) u first bg val t
end Go.Proofs.Ytnaldmmdhpobgaa
