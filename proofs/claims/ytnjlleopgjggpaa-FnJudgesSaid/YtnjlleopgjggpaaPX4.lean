/- FnJudges: plain laws. -/
import Derived.Test.YtnjlleopgjggpaaR4
import Derived.Test.YtnjlleopgjggpaaR6
import Derived.Test.YtnjlleopgjggpaaR8
import Derived.Test.YtnjlleopgjggpaaR9
set_option linter.unusedVariables false
set_option linter.unusedSimpArgs false
set_option maxRecDepth 100000
set_option maxHeartbeats 1000000
namespace Go.Proofs.Ytnjlleopgjggpaa
open Go Go.RowKit Go.Proofs

theorem vSpread_ex (n : Nat) (s : Shw) (x : Int) : ∃ (a : Int) (u : Bool), vSpread n s x = .tuple #[.int .i64 a, .bool u] := by
  unfold vSpread
  split <;> exact ⟨_, _, rfl⟩
theorem vFrames_ex (n : Nat) (s : Shw) (x : Int) : ∃ (a : Int) (u : Bool), vFrames n s x = .tuple #[.int .i64 a, .bool u] := by
  unfold vFrames
  split <;> exact ⟨_, _, rfl⟩
theorem id_lt {n : Nat} {s : Shw} (h : exsB n s = true) : ∀ j i, i < j → j < n → s.id i < s.id j
  | 0, i, hij, _ => by omega
  | j + 1, i, hij, hj => by
    have h1 := ((exsB_iff.1 h).1 (j + 1) hj).2.2 (by omega)
    rw [Nat.add_sub_cancel] at h1
    by_cases e : i = j
    · subst e; exact h1
    · have := id_lt h j i (by omega) (by omega)
      omega
theorem exB_set {id : Int} {t : ByteArray} {fr : Int} {m : Nat} {mk : Nat → Int} (h : exB id t fr m mk = true) {j : Nat} (hj : j < m) {v : Int} (hv : 0 ≤ v ∧ v ≤ 100) : exB id t fr m (setM mk j v) = true := by
  obtain ⟨_, _, _, _, _, _, hok⟩ := exB_bd h
  have hok' := okM_set hok j hv
  simp only [exB, Bool.and_eq_true, Bool.not_eq_true'] at h ⊢
  refine ⟨h.1, ?_⟩
  rw [anyB_false]
  intro k hk
  rw [inR_true.2 (hok' k hk)]
  rfl
/-- The least mark: what is told of it. -/
theorem least_ex (n : Nat) (s : Shw) (x j a : Int) : ∃ (v : Int) (u : Bool), vLeast n s x j a = .tuple #[.int .i64 v, .bool u] ∧ (u = true → exsB n s = true ∧ ∃ (i jn : Nat), i < n ∧ s.id i = x ∧ (∀ k, k < n → k ≠ i → s.id k ≠ x) ∧ j = jn ∧ jn < s.m i ∧ 0 ≤ v ∧ v ≤ 100 ∧
    (∃ w, vMedal (s.id i) (s.title i) (s.fr i) (s.m i) (setM (s.mks i) jn v) = .tuple #[.int .i64 w, .bool true] ∧ a ≤ w) ∧
    (0 < v → ∃ w, vMedal (s.id i) (s.title i) (s.fr i) (s.m i) (setM (s.mks i) jn (v - 1)) = .tuple #[.int .i64 w, .bool true] ∧ w < a)) := by
  unfold vLeast
  split
  · rename_i h
    obtain ⟨h1, h2, h3, h4⟩ := h
    rcases idxOf_cases (isId s x) n with ⟨hi, hno⟩ | ⟨i, hi, hil, hp, hb⟩
    · omega
    rw [hi, Int.toNat_natCast] at h3 ⊢
    have hj := inR_true.1 h3
    obtain ⟨jn, rfl⟩ : ∃ jn : Nat, j = jn := ⟨j.toNat, by omega⟩
    rw [Int.toNat_natCast]
    have hx : s.id i = x := by simpa [isId] using hp
    have hex := ((exsB_iff.1 h1).1 i hil).1
    have hun : ∀ k, k < n → k ≠ i → s.id k ≠ x := fun k hk hne e => by
      rcases Nat.lt_or_ge k i with h | h
      · have := id_lt h1 i k h hil; omega
      · have := id_lt h1 k i (by omega) hk; omega
    rcases idxOf_cases (lmP (s.mks i) (s.m i) jn a) 101 with ⟨hv, hvno⟩ | ⟨v, hv, hvl, hvp, hvb⟩
    · rw [hv, if_neg (by omega)]
      exact ⟨_, _, rfl, fun e => by cases e⟩
    · rw [hv, if_pos (by omega)]
      refine ⟨_, _, rfl, fun _ => ⟨h1, i, jn, hil, hx, hun, rfl, by omega, by omega, by omega, ⟨_, if_pos (exB_set (v := (v : Int)) hex (by omega) (by omega)), ?_⟩, fun h0 => ⟨_, if_pos (exB_set (v := (v : Int) - 1) hex (by omega) (by omega)), ?_⟩⟩⟩
      · simpa [lmP] using hvp
      · have := hvb (v - 1) (by omega)
        simp only [lmP, decide_eq_false_iff_not] at this
        rw [show ((v - 1 : Nat) : Int) = (v : Int) - 1 by omega] at this
        omega
  · exact ⟨_, _, rfl, fun e => by cases e⟩
/-- No judge is stricter than the strictest one. -/
theorem strict_ex (n : Nat) (s : Shw) : ∃ (b w : Int) (u : Bool), vStrict n s = .tuple #[.int .i64 b, .int .i64 w, .bool u] ∧ (u = true → exsB n s = true ∧ 0 < n ∧ ∀ k, k < s.m 0 → w ≤ colS s k n ∧ ((k : Int) = b → colS s k n = w)) := by
  unfold vStrict
  split
  · rename_i h
    refine ⟨_, _, _, rfl, fun _ => ⟨h.1, by omega, fun k hk => ⟨mnV_le (T := fun j => colS s j n) _ hk, fun e => ?_⟩⟩⟩
    rcases idxOf_cases (fun j => colS s j n == mnV (fun j => colS s j n) (s.m 0)) (s.m 0) with ⟨hi, hno⟩ | ⟨i, hi, hil, hp, hb⟩
    · omega
    · have : i = k := by omega
      subst this
      simpa using hp
  · exact ⟨_, _, _, rfl, fun e => by cases e⟩
end Go.Proofs.Ytnjlleopgjggpaa
