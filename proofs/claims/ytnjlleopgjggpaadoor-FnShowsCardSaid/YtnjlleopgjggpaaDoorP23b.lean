/- Exhibits that lie in an interval of blocks. No program stands here. -/
import Derived.Test.YtnjlleopgjggpaaDoorP23
import Derived.Test.YtnjlleopgjggpaaDoorD6
set_option linter.unusedVariables false
set_option linter.unusedSimpArgs false
namespace Go.Proofs.YtnjlleopgjggpaaDoor
open Go Go.RowKit

/-- A slice of n exhibits (type te, marks of type ti) whose blocks are its own and lie in an interval. -/
structure OwnSh (H : Hp) (lo hi n : Nat) (s : Shw) (te ti : TypeId) (v : Value) : Prop where
  ex : (v = .slice none 0 0 ∧ n = 0) ∨ ∃ (b cap : Nat) (sp : List Value) (B d : Nat → Nat), v = .slice (some ⟨b, 0, none⟩) n cap ∧ lo ≤ b ∧ b < hi ∧ n ≤ cap ∧ cap ≤ maxLen ∧ sp.length = (cap - n) * 4 ∧
    H b = some (.rw (flatV n 4 (s.cells (fun i => some ⟨B i, 0, none⟩) d) ++ sp) te) ∧
    (∀ i, i < n → B i ≠ b ∧ OwnR H lo hi (s.m i) 1 (fun q _ => s.mks i q) ti (.slice (some ⟨B i, 0, none⟩) (s.m i) (d i))) ∧
    (∀ i j, i < n → j < n → i ≠ j → B i ≠ B j)
theorem OwnSh.nil {H : Hp} {lo hi : Nat} {s : Shw} {te ti : TypeId} : OwnSh H lo hi 0 s te ti (.slice none 0 0) := ⟨.inl ⟨rfl, rfl⟩⟩
theorem OwnSh.keepI {H H' : Hp} {lo hi n : Nat} {s : Shw} {te ti : TypeId} {v : Value} (h : OwnSh H lo hi n s te ti v) (hk : ∀ c, lo ≤ c → c < hi → H' c = H c) : OwnSh H' lo hi n s te ti v := by
  rcases h.ex with ⟨rfl, rfl⟩ | ⟨b, cap, sp, B, d, rfl, h1, h2, h3, h4, h5, h6, h7, h8⟩
  · exact .nil
  · exact ⟨.inr ⟨b, cap, sp, B, d, rfl, h1, h2, h3, h4, h5, by rw [hk b h1 h2]; exact h6, fun i hi => ⟨(h7 i hi).1, (h7 i hi).2.keepI hk⟩, h8⟩⟩
theorem OwnR.at0 {H : Hp} {lo hi n k b c : Nat} {f : Nat → Nat → Int} {ty : TypeId} (h : OwnR H lo hi n k f ty (.slice (some ⟨b, 0, none⟩) n c)) : n ≤ c ∧ Rd H (some ⟨b, 0, none⟩) n k f := by
  obtain ⟨A, c', e, h1, h2⟩ := h.rd
  cases e
  exact ⟨h1, h2⟩
theorem OwnSh.rd {H : Hp} {lo hi n : Nat} {s : Shw} {te ti : TypeId} {v : Value} (h : OwnSh H lo hi n s te ti v) : ∃ A c, v = .slice A n c ∧ n ≤ c ∧ RdS H A n s := by
  rcases h.ex with ⟨rfl, rfl⟩ | ⟨b, cap, sp, B, d, rfl, h1, h2, h3, h4, h5, h6, h7, h8⟩
  · exact ⟨none, 0, rfl, Nat.le_refl _, ⟨fun _ => none, fun _ => 0, RdV.zero, fun i hi => by omega⟩⟩
  · exact ⟨_, cap, rfl, h3, ⟨_, d, RdV.rw_ h6, fun i hi => (h7 i hi).2.at0⟩⟩
end Go.Proofs.YtnjlleopgjggpaaDoor
