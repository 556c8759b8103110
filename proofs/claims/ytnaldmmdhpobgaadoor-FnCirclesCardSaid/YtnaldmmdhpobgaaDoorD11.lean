/- Rows of rows of ints. No program stands here. -/
import Derived.Test.YtnaldmmdhpobgaaDoorD6
import Derived.Test.YtnaldmmdhpobgaaDoorD10
set_option linter.unusedVariables false
set_option linter.unusedSimpArgs false
namespace Go.Proofs.YtnaldmmdhpobgaaDoor
open Go Go.RowKit

def rowOf (ls : List (List Int)) (i : Nat) : List Int := ls.getD i []
def rowsV (ls : List (List Int)) (Q : Nat → Option Addr) (d : Nat → Nat) : Nat → Nat → Value := fun i _ => .slice (Q i) (rowOf ls i).length (d i)
/-- A slice of slices of ints, as it is read. -/
structure RdLL (H : Hp) (A : Option Addr) (ls : List (List Int)) : Prop where
  ex : ∃ Q d, RdV H A ls.length 1 (rowsV ls Q d) ∧ ∀ i, i < ls.length → (rowOf ls i).length ≤ d i ∧ RdL H (Q i) (rowOf ls i)
theorem RdLL.sub {H H' : Hp} {A : Option Addr} {ls : List (List Int)} (h : RdLL H A ls) (hs : Sub H H') : RdLL H' A ls := by
  obtain ⟨Q, d, h1, h2⟩ := h.ex
  exact ⟨⟨Q, d, h1.sub hs, fun i hi => ⟨(h2 i hi).1, Rd.sub (h2 i hi).2 hs⟩⟩⟩
theorem RdLL.at_ {H : Hp} {A : Option Addr} {ls : List (List Int)} (h : RdLL H A ls) {k : Nat} (hk : k < ls.length) : ∃ b off Q d, A = some ⟨b, off, none⟩ ∧ rd H b (off + k) = some (.slice Q (rowOf ls k).length d) ∧ (rowOf ls k).length ≤ d ∧ RdL H Q (rowOf ls k) := by
  obtain ⟨Q, d, h1, h2⟩ := h.ex
  obtain ⟨b, off, e, hc⟩ := h1.at_ (by omega)
  have := hc k 0 hk (by omega)
  rw [Nat.mul_one, Nat.add_zero] at this
  exact ⟨b, off, Q k, d k, e, this, (h2 k hk).1, (h2 k hk).2⟩
/-- A slice of slices of ints whose blocks are its own and lie in an interval. -/
structure OwnLL (H : Hp) (lo hi : Nat) (ls : List (List Int)) (te ti : TypeId) (v : Value) : Prop where
  ex : (v = .slice none 0 0 ∧ ls = []) ∨ ∃ (b cap : Nat) (sp : List Value) (B d : Nat → Nat), v = .slice (some ⟨b, 0, none⟩) ls.length cap ∧ lo ≤ b ∧ b < hi ∧ ls.length ≤ cap ∧ cap ≤ maxLen ∧ sp.length = (cap - ls.length) * 1 ∧
    H b = some (.rw (flatV ls.length 1 (rowsV ls (fun i => some ⟨B i, 0, none⟩) d) ++ sp) te) ∧
    (∀ i, i < ls.length → B i ≠ b ∧ OwnL H lo hi (rowOf ls i) ti (.slice (some ⟨B i, 0, none⟩) (rowOf ls i).length (d i))) ∧
    (∀ i j, i < ls.length → j < ls.length → i ≠ j → B i ≠ B j)
theorem OwnLL.nil {H : Hp} {lo hi : Nat} {te ti : TypeId} : OwnLL H lo hi [] te ti (.slice none 0 0) := ⟨.inl ⟨rfl, rfl⟩⟩
theorem OwnLL.empty {H : Hp} {lo hi b : Nat} {te ti : TypeId} (h1 : lo ≤ b) (h2 : b < hi) (h : H b = some (.rw [] te)) : OwnLL H lo hi [] te ti (.slice (some ⟨b, 0, none⟩) 0 0) :=
  ⟨.inr ⟨b, 0, [], fun _ => 0, fun _ => 0, rfl, h1, h2, Nat.le_refl _, by unfold maxLen; omega, rfl, by rw [h]; rfl, fun i hi => absurd hi (by simp), fun i j hi => absurd hi (by simp)⟩⟩
theorem OwnLL.keepI {H H' : Hp} {lo hi : Nat} {ls : List (List Int)} {te ti : TypeId} {v : Value} (h : OwnLL H lo hi ls te ti v) (hk : ∀ c, lo ≤ c → c < hi → H' c = H c) : OwnLL H' lo hi ls te ti v := by
  rcases h.ex with ⟨rfl, rfl⟩ | ⟨b, cap, sp, B, d, rfl, h1, h2, h3, h4, h5, h6, h7, h8⟩
  · exact .nil
  · exact ⟨.inr ⟨b, cap, sp, B, d, rfl, h1, h2, h3, h4, h5, by rw [hk b h1 h2]; exact h6, fun i hi => ⟨(h7 i hi).1, OwnR.keepI (h7 i hi).2 hk⟩, h8⟩⟩
theorem OwnLL.subI {H H' : Hp} {lo hi : Nat} {ls : List (List Int)} {te ti : TypeId} {v : Value} (h : OwnLL H lo hi ls te ti v) (hs : Sub H H') : OwnLL H' lo hi ls te ti v := by
  rcases h.ex with ⟨rfl, rfl⟩ | ⟨b, cap, sp, B, d, rfl, h1, h2, h3, h4, h5, h6, h7, h8⟩
  · exact .nil
  · exact ⟨.inr ⟨b, cap, sp, B, d, rfl, h1, h2, h3, h4, h5, hs _ _ h6, fun i hi => ⟨(h7 i hi).1, OwnR.subI (h7 i hi).2 hs⟩, h8⟩⟩
theorem OwnR.hiI {H : Hp} {lo hi hi' n k : Nat} {f : Nat → Nat → Int} {ty : TypeId} {v : Value} (h : OwnR H lo hi n k f ty v) (hh : hi ≤ hi') : OwnR H lo hi' n k f ty v := h.sub (Sub.refl _) hh
theorem OwnLL.wide {H : Hp} {lo hi lo' hi' : Nat} {ls : List (List Int)} {te ti : TypeId} {v : Value} (h : OwnLL H lo hi ls te ti v) (hl : lo' ≤ lo) (hh : hi ≤ hi') : OwnLL H lo' hi' ls te ti v := by
  rcases h.ex with ⟨rfl, rfl⟩ | ⟨b, cap, sp, B, d, rfl, h1, h2, h3, h4, h5, h6, h7, h8⟩
  · exact .nil
  · exact ⟨.inr ⟨b, cap, sp, B, d, rfl, by omega, by omega, h3, h4, h5, h6, fun i hi => ⟨(h7 i hi).1, OwnR.hiI (OwnR.lo (h7 i hi).2 hl) hh⟩, h8⟩⟩
theorem OwnR.atI {H : Hp} {lo hi n k b c : Nat} {f : Nat → Nat → Int} {ty : TypeId} (h : OwnR H lo hi n k f ty (.slice (some ⟨b, 0, none⟩) n c)) : n ≤ c ∧ Rd H (some ⟨b, 0, none⟩) n k f := by
  obtain ⟨A, c', e, h1, h2⟩ := h.rd
  cases e
  exact ⟨h1, h2⟩
theorem OwnLL.rd {H : Hp} {lo hi : Nat} {ls : List (List Int)} {te ti : TypeId} {v : Value} (h : OwnLL H lo hi ls te ti v) : ∃ A c, v = .slice A ls.length c ∧ ls.length ≤ c ∧ RdLL H A ls := by
  rcases h.ex with ⟨rfl, rfl⟩ | ⟨b, cap, sp, B, d, rfl, h1, h2, h3, h4, h5, h6, h7, h8⟩
  · exact ⟨none, 0, rfl, Nat.le_refl _, ⟨fun _ => none, fun _ => 0, RdV.zero, fun i hi => absurd hi (by simp)⟩⟩
  · exact ⟨_, cap, rfl, h3, ⟨_, d, RdV.rw_ h6, fun i hi => OwnR.atI (h7 i hi).2⟩⟩
end Go.Proofs.YtnaldmmdhpobgaaDoor
