/- Exhibits that lie in an interval of blocks. No program stands here. -/
import Derived.Test.YtmmbolempcpcjaaP23
import Derived.Test.YtmmbolempcpcjaaD6
set_option linter.unusedVariables false
set_option linter.unusedSimpArgs false
namespace Go.Proofs.Ytmmbolempcpcjaa
open Go Go.RowKit

/-- A slice of n exhibits (type te, marks of type ti) whose blocks are its own and lie in an interval. -/
structure OwnSh (H : Hp) (lo hi n : Nat) (s : Shw) (te ti : TypeId) (v : Value) : Prop where
  ex : (v = .slice none 0 0 ∧ n = 0) ∨ ∃ (b cap : Nat) (sp : List Value) (B d : Nat → Nat), v = .slice (some ⟨b, 0, none⟩) n cap ∧ lo ≤ b ∧ b < hi ∧ n ≤ cap ∧ cap ≤ maxLen ∧ sp.length = (cap - n) * 4 ∧
    H b = some (.rw (flatV n 4 (s.cells (fun i => some ⟨B i, 0, none⟩) d) ++ sp) te) ∧
    (∀ i, i < n → B i ≠ b ∧ OwnR H lo hi (s.m i) 1 (fun q _ => s.mks i q) ti (.slice (some ⟨B i, 0, none⟩) (s.m i) (d i))) ∧
    (∀ i j, i < n → j < n → i ≠ j → B i ≠ B j)
theorem OwnSh.nil {H : Hp} {lo hi : Nat} {s : Shw} {te ti : TypeId} : OwnSh H lo hi 0 s te ti (.slice none 0 0) := ⟨.inl ⟨rfl, rfl⟩⟩
theorem OwnSh.keepI {H H' : Hp} {lo hi n : Nat} {s : Shw} {te ti : TypeId} {v : Value} (h : OwnSh H lo hi n s te ti v) (hk : ∀ c, lo ≤ c → c < hi → H' c = H c) : OwnSh H' lo hi n s te ti v := by
  rcases h.ex with ⟨rfl, rfl⟩ | ⟨b, cap, sp, B, d, rfl, h1, h2, h3, h4, h5, h6, h7, h8⟩
  · exact .nil
  · exact ⟨.inr ⟨b, cap, sp, B, d, rfl, h1, h2, h3, h4, h5, by rw [hk b h1 h2]; exact h6, fun i hi => ⟨(h7 i hi).1, (h7 i hi).2.keepI hk⟩, h8⟩⟩
theorem OwnSh.subI {H H' : Hp} {lo hi n : Nat} {s : Shw} {te ti : TypeId} {v : Value} (h : OwnSh H lo hi n s te ti v) (hs : Sub H H') : OwnSh H' lo hi n s te ti v := by
  rcases h.ex with ⟨rfl, rfl⟩ | ⟨b, cap, sp, B, d, rfl, h1, h2, h3, h4, h5, h6, h7, h8⟩
  · exact .nil
  · exact ⟨.inr ⟨b, cap, sp, B, d, rfl, h1, h2, h3, h4, h5, hs _ _ h6, fun i hi => ⟨(h7 i hi).1, (h7 i hi).2.subI hs⟩, h8⟩⟩
theorem OwnR.at0 {H : Hp} {lo hi n k b c : Nat} {f : Nat → Nat → Int} {ty : TypeId} (h : OwnR H lo hi n k f ty (.slice (some ⟨b, 0, none⟩) n c)) : n ≤ c ∧ Rd H (some ⟨b, 0, none⟩) n k f := by
  obtain ⟨A, c', e, h1, h2⟩ := h.rd
  cases e
  exact ⟨h1, h2⟩
theorem OwnSh.rd {H : Hp} {lo hi n : Nat} {s : Shw} {te ti : TypeId} {v : Value} (h : OwnSh H lo hi n s te ti v) : ∃ A c, v = .slice A n c ∧ n ≤ c ∧ RdS H A n s := by
  rcases h.ex with ⟨rfl, rfl⟩ | ⟨b, cap, sp, B, d, rfl, h1, h2, h3, h4, h5, h6, h7, h8⟩
  · exact ⟨none, 0, rfl, Nat.le_refl _, ⟨fun _ => none, fun _ => 0, RdV.zero, fun i hi => by omega⟩⟩
  · exact ⟨_, cap, rfl, h3, ⟨_, d, RdV.rw_ h6, fun i hi => (h7 i hi).2.at0⟩⟩
theorem OwnSh.blks {H : Hp} {lo hi n b cap : Nat} {s : Shw} {te ti : TypeId} (h : OwnSh H lo hi n s te ti (.slice (some ⟨b, 0, none⟩) n cap)) : lo ≤ b ∧ b < hi := by
  rcases h.ex with ⟨e, rfl⟩ | ⟨b', cap', sp, B, d, e, h1, h2, _⟩
  · cases e
  · cases e; exact ⟨h1, h2⟩
/-- The texts that marks make: an m and the number's digits. -/
def dgT : Nat → Nat → ByteArray → ByteArray
  | 0, _, out => out
  | r + 1, k, out => if k = 0 then out else dgT r (k / 10) (strOf [(48 + ((k % 10 : Nat) : Int))] ++ out)
def mkT (k : Nat) : ByteArray := if k = 0 then ⟨#[109, 48]⟩ else ⟨#[109]⟩ ++ dgT k k ⟨#[]⟩
theorem strOf_size : ∀ (l : List Int) (r : ByteArray), (l.foldl (fun r n => r.push (UInt8.ofNat n.toNat)) r).size = r.size + l.length
  | [], r => rfl
  | a :: l, r => by
    simp only [List.foldl_cons, List.length_cons]
    rw [strOf_size l]
    simp
    omega
theorem strOf1 (x : Int) : (strOf [x]).size = 1 := by
  unfold strOf
  rw [strOf_size]
  simp
theorem dgT_step (r k : Nat) (out : ByteArray) (h : 0 < k) : dgT (r + 1) k out = dgT r (k / 10) (strOf [(48 + ((k % 10 : Nat) : Int))] ++ out) := by
  simp only [dgT]
  rw [if_neg (by omega)]
theorem dgT_zero (r : Nat) (out : ByteArray) : dgT r 0 out = out := by cases r <;> simp [dgT]
theorem dgT_more : ∀ (r k : Nat) (out : ByteArray), k ≤ r → dgT r k out = dgT k k out
  | 0, k, out, h => by have : k = 0 := by omega
                       subst this; rfl
  | r + 1, k, out, h => by
    rcases Nat.eq_zero_or_pos k with rfl | h0
    · simp [dgT_zero]
    · have hk : k / 10 < k := Nat.div_lt_self h0 (by omega)
      rw [dgT_step r k out h0, dgT_more r (k / 10) _ (by omega)]
      obtain ⟨k', rfl⟩ : ∃ k', k = k' + 1 := ⟨k - 1, by omega⟩
      rw [dgT_step k' (k' + 1) out (by omega), dgT_more k' ((k' + 1) / 10) _ (by omega)]
/-- How long an exhibit's marks are. -/
def shLen (s : Shw) : Nat → Nat
  | 0 => 0
  | k + 1 => shLen s k + 3 + s.m k
theorem shLen_le {s : Shw} {M : Nat} : ∀ (n : Nat), (∀ i, i < n → s.m i ≤ M) → shLen s n ≤ n * (3 + M)
  | 0, _ => by simp [shLen]
  | n + 1, h => by
    have h1 := shLen_le n (fun i hi => h i (by omega))
    have h2 := h n (by omega)
    simp only [shLen]
    rw [Nat.add_mul]
    omega
theorem shLen_mono {s : Shw} {i n : Nat} (h : i ≤ n) : shLen s i ≤ shLen s n := by
  induction n with
  | zero => have : i = 0 := by omega
            subst this; exact Nat.le_refl _
  | succ n ih =>
    rcases Nat.eq_or_lt_of_le h with rfl | h
    · exact Nat.le_refl _
    · have := ih (by omega)
      simp only [shLen]
      omega
/-- The exhibits, marked from t on. -/
def markS (s : Shw) (t : Nat) : Shw where
  id i := (t + shLen s i : Nat)
  title i := mkT (t + shLen s i + 1)
  fr i := (t + shLen s i + 2 : Nat)
  m := s.m
  mks i q := ((t + shLen s i + 3 + q : Nat) : Int)
theorem markS_len (s : Shw) (t : Nat) : ∀ k, shLen (markS s t) k = shLen s k
  | 0 => rfl
  | k + 1 => by simp only [shLen, markS_len s t k]; rfl
end Go.Proofs.Ytmmbolempcpcjaa
