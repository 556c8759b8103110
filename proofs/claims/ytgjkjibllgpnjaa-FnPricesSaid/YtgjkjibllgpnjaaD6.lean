/- Objects that lie in an interval of blocks. For every program. -/
import Derived.Test.YtgjkjibllgpnjaaD4
set_option linter.unusedVariables false
set_option linter.unusedSimpArgs false
namespace Go.Proofs.Ytgjkjibllgpnjaa
open Go Go.RowKit

theorem AC.monoC {P : Program} {f : FuncId} {args : Array Value} {H : Hp} {nx : Nat} {R R' : Value → Hp → Nat → Prop} (h : AC P f args H nx R) (hr : ∀ v H' nx', Bd H' nx' → nx ≤ nx' → R v H' nx' → R' v H' nx') : AC P f args H nx R' :=
  ⟨trivial, fun w hw => (h.2 w hw).mono fun _ _ ⟨v, H', nx', e, r, k, n, q⟩ => ⟨v, H', nx', e, r, k, n, hr _ _ _ r.lt n q⟩⟩
theorem OwnR.subI {H H' : Hp} {lo hi n k : Nat} {f : Nat → Nat → Int} {ty : TypeId} {v : Value} (h : OwnR H lo hi n k f ty v) (hs : Sub H H') : OwnR H' lo hi n k f ty v := h.sub hs (Nat.le_refl _)
theorem OwnR.keepI {H H' : Hp} {lo hi n k : Nat} {f : Nat → Nat → Int} {ty : TypeId} {v : Value} (h : OwnR H lo hi n k f ty v) (hk : ∀ c, lo ≤ c → c < hi → H' c = H c) : OwnR H' lo hi n k f ty v :=
  h.keep (fun b hb => hk b (h.blk hb).1 (h.blk hb).2) (Nat.le_refl _)
theorem sub_out {H H5 H6 : Hp} {nx n5 lo hi : Nat} (hB : Bd H nx) (hs : Sub H H5) (h1 : nx ≤ lo) (hn : nx ≤ n5) (hoth : ∀ c, c < n5 → ¬ (lo ≤ c ∧ c < hi) → H6 c = H5 c) : Sub H H6 := fun c o e => by
  have := hB c o e
  rw [hoth c (by omega) (by omega)]
  exact hs c o e
/-- What a mark leaves: the object's marks; outside its interval all is as it was. -/
structure MarkI (own : Hp → Prop) (H : Hp) (lo hi nx : Nat) (r0 : Value) (r : Value) (H' : Hp) (nx' : Nat) : Prop where
  r : r = r0
  own : own H'
  oth : ∀ c, c < nx → ¬ (lo ≤ c ∧ c < hi) → H' c = H c
/-- What a function leaves that gives a new object. -/
structure NewI (own : Nat → Value → Hp → Prop) (H : Hp) (v : Value) (H' : Hp) (nx' : Nat) : Prop where
  own : own nx' v H'
  s : Sub H H'
theorem markI_of {H : Hp} {lo hi nx n k : Nat} {f : Nat → Nat → Int} {t : Int} {ty : TypeId} {v r : Value} {H' : Hp} {nx' : Nat} (ho : OwnR H lo hi n k f ty v) (hhi : hi ≤ nx) (h : Marked H lo n k t ty v r H' nx') :
    MarkI (fun H' => OwnR H' lo hi n k (mks t k) ty v) H lo hi nx (.int .i64 (t + n * k)) r H' nx' := by
  refine ⟨h.r, ?_, fun c hc hn => h.oth c (fun e => hn (ho.blk e))⟩
  rcases h.own.ex with ⟨rfl, rfl⟩ | ⟨b, cap, sp, rfl, h1, h2, h3⟩
  · exact .nil
  · have := ho.blk (show some b = ownBlk (.slice (some ⟨b, 0, none⟩) n cap) from rfl)
    exact ⟨.inr ⟨b, cap, sp, rfl, h1, this.2, h3⟩⟩
end Go.Proofs.Ytgjkjibllgpnjaa
