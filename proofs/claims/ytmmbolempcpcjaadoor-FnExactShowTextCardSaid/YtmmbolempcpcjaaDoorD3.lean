/- Rows that grow: a slice value that is nil or owns its whole block; one element more; marks. For every program. -/
import Derived.Test.YtmmbolempcpcjaaDoorD2
set_option linter.unusedVariables false
set_option linter.unusedSimpArgs false
namespace Go.Proofs.YtmmbolempcpcjaaDoor
open Go Go.RowKit

/-- A slice of n elements (k int cells each) that is nil or begins its own whole block, no older than lo. -/
structure OwnR (H : Hp) (lo nx n k : Nat) (f : Nat → Nat → Int) (ty : TypeId) (v : Value) : Prop where
  ex : (v = .slice none 0 0 ∧ n = 0) ∨ ∃ b cap sp, v = .slice (some ⟨b, 0, none⟩) n cap ∧ lo ≤ b ∧ b < nx ∧ H b = some (.rw (flat n k f ++ sp) ty) ∧ n ≤ cap ∧ cap ≤ maxLen ∧ sp.length = (cap - n) * k
theorem OwnR.nil {H : Hp} {lo nx k : Nat} {f : Nat → Nat → Int} {ty : TypeId} : OwnR H lo nx 0 k f ty (.slice none 0 0) := ⟨.inl ⟨rfl, rfl⟩⟩
theorem OwnR.full {H : Hp} {lo nx n k b : Nat} {f : Nat → Nat → Int} {ty : TypeId} (hb : lo ≤ b) (hx : b < nx) (h : H b = some (.rw (flat n k f) ty)) (hn : n ≤ maxLen) : OwnR H lo nx n k f ty (.slice (some ⟨b, 0, none⟩) n n) :=
  ⟨.inr ⟨b, n, [], rfl, hb, hx, by rw [List.append_nil]; exact h, Nat.le_refl _, hn, by simp⟩⟩
theorem OwnR.blk {H : Hp} {lo nx n k b : Nat} {f : Nat → Nat → Int} {ty : TypeId} {v : Value} (h : OwnR H lo nx n k f ty v) (hb : some b = ownBlk v) : lo ≤ b ∧ b < nx := by
  rcases h.ex with ⟨rfl, _⟩ | ⟨b', cap, sp, rfl, h1, h2, _⟩
  · cases hb
  · cases hb
    exact ⟨h1, h2⟩
theorem OwnR.rd {H : Hp} {lo nx n k : Nat} {f : Nat → Nat → Int} {ty : TypeId} {v : Value} (h : OwnR H lo nx n k f ty v) : ∃ A c, v = .slice A n c ∧ n ≤ c ∧ Rd H A n k f := by
  rcases h.ex with ⟨rfl, rfl⟩ | ⟨b', cap, sp, rfl, h1, h2, h3, h4, _⟩
  · exact ⟨none, 0, rfl, Nat.le_refl _, Rd.zero⟩
  · exact ⟨_, cap, rfl, h4, Rd.rw_ h3⟩
theorem OwnR.keep {H H' : Hp} {lo nx nx' n k : Nat} {f : Nat → Nat → Int} {ty : TypeId} {v : Value} (h : OwnR H lo nx n k f ty v) (hk : ∀ b, some b = ownBlk v → H' b = H b) (hn : nx ≤ nx') : OwnR H' lo nx' n k f ty v := by
  rcases h.ex with ⟨rfl, rfl⟩ | ⟨b', cap, sp, rfl, h1, h2, h3, h4⟩
  · exact .nil
  · exact ⟨.inr ⟨b', cap, sp, rfl, h1, by omega, by rw [hk b' rfl]; exact h3, h4⟩⟩
theorem OwnR.sub {H H' : Hp} {lo nx nx' n k : Nat} {f : Nat → Nat → Int} {ty : TypeId} {v : Value} (h : OwnR H lo nx n k f ty v) (hs : Sub H H') (hn : nx ≤ nx') : OwnR H' lo nx' n k f ty v := by
  rcases h.ex with ⟨rfl, rfl⟩ | ⟨b', cap, sp, rfl, h1, h2, h3, h4⟩
  · exact .nil
  · exact ⟨.inr ⟨b', cap, sp, rfl, h1, by omega, hs _ _ h3, h4⟩⟩
theorem OwnR.new {H : Hp} {lo nx n k b : Nat} {f : Nat → Nat → Int} {ty : TypeId} {v : Value} {o : Blk} (h : OwnR H lo nx n k f ty v) (hb : nx ≤ b) : OwnR (upd H b o) lo (b + 1) n k f ty v :=
  h.keep (fun c hc => upd_ne (by have := (h.blk hc).2; omega)) (by omega)
theorem OwnR.congr {H : Hp} {lo nx n k : Nat} {f g : Nat → Nat → Int} {ty : TypeId} {v : Value} (h : OwnR H lo nx n k f ty v) (e : ∀ i j, i < n → j < k → f i j = g i j) : OwnR H lo nx n k g ty v := by
  have := h
  rcases h.ex with ⟨rfl, rfl⟩ | ⟨b', cap, sp, rfl, h1, h2, h3, h4⟩
  · exact .nil
  · exact ⟨.inr ⟨b', cap, sp, rfl, h1, h2, by rw [h3, flat_congr e], h4⟩⟩
theorem OwnR.lo {H : Hp} {lo lo' nx n k : Nat} {f : Nat → Nat → Int} {ty : TypeId} {v : Value} (h : OwnR H lo nx n k f ty v) (hl : lo' ≤ lo) : OwnR H lo' nx n k f ty v := by
  rcases h.ex with ⟨rfl, rfl⟩ | ⟨b', cap, sp, rfl, h1, h2⟩
  · exact .nil
  · exact ⟨.inr ⟨b', cap, sp, rfl, by omega, h2⟩⟩
theorem OwnR.own {H : Hp} {lo nx n k : Nat} {f : Nat → Nat → Int} {ty : TypeId} {v : Value} (h : OwnR H lo nx n k f ty v) : isOwn H ty k v n (flat n k f) := by
  refine ⟨flat_length n k f, ?_⟩
  rcases h.ex with ⟨rfl, rfl⟩ | ⟨b', cap, sp, rfl, h1, h2, h3, h4, h5, h6⟩
  · exact .inl ⟨rfl, rfl⟩
  · refine .inr ⟨b', cap, sp, rfl, h3, h4, h5, ?_⟩
    rw [List.length_append, flat_length, h6, ← Nat.add_mul]
    congr 1
    omega

/-- The marks t, t + 1, .. in a row. -/
def mks (t : Int) (k : Nat) : Nat → Nat → Int := fun i j => t + ((i : Int) * k + j)
theorem vi {a b : Int} (h : a = b) : Value.int .i64 a = Value.int .i64 b := by rw [h]
/-- What a function leaves that gives a new row: the row; all that was known is known. -/
structure NewR (H : Hp) (nx n k : Nat) (f : Nat → Nat → Int) (ty : TypeId) (v : Value) (H' : Hp) (nx' : Nat) : Prop where
  own : OwnR H' nx nx' n k f ty v
  s : Sub H H'
theorem NewS.r {H H' : Hp} {nx nx' n k : Nat} {f : Nat → Nat → Int} {ty : TypeId} {v : Value} (h : NewS H nx n k f ty v H' nx') (hn : n ≤ maxLen) : NewR H nx n k f ty v H' nx' := by
  obtain ⟨⟨b, rfl, h1, h2, h3⟩, hs⟩ := h
  exact ⟨.full h1 h2 h3 hn, hs⟩
theorem AC.mono2 {P : Program} {f : FuncId} {args : Array Value} {H : Hp} {nx : Nat} {R R' : Value → Hp → Nat → Prop} (h : AC P f args H nx R) (g : ∀ v H' nx', nx ≤ nx' → R v H' nx' → R' v H' nx') : AC P f args H nx R' :=
  ⟨h.1, fun w hw => (h.2 w hw).mono fun _ _ ⟨v, H', nx', he, hr, hk, hn, hR⟩ => ⟨v, H', nx', he, hr, hk, hn, g v H' nx' hn hR⟩⟩
theorem OwnR.of {H : Hp} {lo nx n k b : Nat} {f : Nat → Nat → Int} {ty : TypeId} (hb : lo ≤ b) (hx : b < nx) (h : H b = some (.rw (flat n k f) ty)) (hn : n ≤ 1048576) : OwnR H lo nx n k f ty (.slice (some ⟨b, 0, none⟩) n n) :=
  .full hb hx h (by unfold maxLen; omega)
end Go.Proofs.YtmmbolempcpcjaaDoor
