/- Rows joined; rows of ints as lists. For every program. -/
import Derived.Test.YtnjlleopgjggpaaDoorD3
set_option linter.unusedVariables false
set_option linter.unusedSimpArgs false
namespace Go.Proofs.YtnjlleopgjggpaaDoor
open Go Go.RowKit

def cat (n : Nat) (f g : Nat → Nat → Int) : Nat → Nat → Int := fun i j => if i < n then f i j else g (i - n) j
theorem flat_cat {n m k : Nat} {f g : Nat → Nat → Int} : flat n k f ++ flat m k g = flat (n + m) k (cat n f g) := by
  refine List.ext_getElem? fun p => ?_
  by_cases hp : p < n * k
  · rw [List.getElem?_append_left (by rw [flat_length]; exact hp)]
    have hk : 0 < k := by
      rcases Nat.eq_zero_or_pos k with h | h
      · subst h; simp at hp
      · exact h
    have h1 : p / k < n := Nat.div_lt_of_lt_mul (by rwa [Nat.mul_comm] at hp)
    have h2 : p < (n + m) * k := by rw [Nat.add_mul]; omega
    simp [flat, hp, h2, cat, h1]
  · rw [List.getElem?_append_right (by rw [flat_length]; omega), flat_length]
    by_cases hq : p - n * k < m * k
    · obtain ⟨q, rfl⟩ : ∃ q, p = n * k + q := ⟨p - n * k, by omega⟩
      have hq' : q < m * k := by omega
      have hk : 0 < k := by
        rcases Nat.eq_zero_or_pos k with h | h
        · subst h; simp at hq'
        · exact h
      have h2 : n * k + q < (n + m) * k := by rw [Nat.add_mul]; omega
      have e1 : (n * k + q) / k = n + q / k := by rw [Nat.mul_comm, Nat.mul_add_div hk]
      have e2 : (n * k + q) % k = q % k := by rw [Nat.mul_comm, Nat.mul_add_mod]
      have h5 : ¬ (n + q / k < n) := Nat.not_lt.2 (Nat.le_add_right _ _)
      have h6 : n + q / k - n = q / k := Nat.add_sub_cancel_left _ _
      simp [flat, hq', h2, cat, e1, e2, h5, h6, show n * k + q - n * k = q by omega]
    · have a1 : (flat m k g).length ≤ p - n * k := by rw [flat_length]; omega
      have a2 : (flat (n + m) k (cat n f g)).length ≤ p := by rw [flat_length, Nat.add_mul]; omega
      rw [List.getElem?_eq_none a1, List.getElem?_eq_none a2]
theorem Rd.row {H : Hp} {A : Option Addr} {m k : Nat} {g : Nat → Nat → Int} (h : Rd H A m k g) (hk : 0 < k) : isRow H A (m * k) (flat m k g) := by
  refine ⟨flat_length m k g, fun h0 => ?_⟩
  have hm : 0 < m := by
    rcases Nat.eq_zero_or_pos m with e | e
    · subst e; simp at h0
    · exact e
  obtain ⟨b, off, e, hc⟩ := h.at_ hm
  refine ⟨b, off, e, fun i u hu => ?_⟩
  have hi : i < m * k := by
    have := (List.getElem?_eq_some_iff.1 hu).1
    rwa [flat_length] at this
  have h1 : i / k < m := Nat.div_lt_of_lt_mul (by rwa [Nat.mul_comm] at hi)
  have h2 : i % k < k := Nat.mod_lt _ hk
  have h3 := hc (i / k) (i % k) h1 h2
  have e1 : off + i / k * k + i % k = off + i := by have := Nat.div_add_mod i k; rw [Nat.mul_comm] at this; omega
  rw [e1] at h3
  rw [h3]
  simp [flat, hi] at hu
  simpa using hu
/-- A row of m elements more. -/
theorem app_row {P : Program} {t ty : TypeId} {k bytes lo nx n m c : Nat} {H : Hp} {f g : Nat → Nat → Int} {A : Option Addr} {sv : Value} {K : Value → Hp → Nat → Prop}
    (he : qElem P t = some ty) (hs : qSize P ty = some k) (hb : qBytes P ty = some bytes) (hz : ∃ z, qZero P ty = some z ∧ z.cells.size = k) (hk : 0 < k)
    (ho : OwnR H lo nx n k f ty sv) (hr : Rd H A m k g) (hlo : lo ≤ nx) (hlen : (n + m) * bytes ≤ 140737488355328) (hmax : n + m ≤ maxLen)
    (hK0 : m = 0 → K sv H nx)
    (hK : ∀ v' b' o nx', (some b' = ownBlk sv ∨ nx ≤ b') → nx ≤ nx' → some b' = ownBlk v' → OwnR (upd H b' o) lo nx' (n + m) k (cat n f g) ty v' → K v' (upd H b' o) nx') :
    AppK P t sv (.slice A m c) K H nx := by
  refine ⟨ty, k, bytes, n, m, c, flat n k f, flat m k g, A, he, hs, hb, hz, hk, ho.own, rfl, hr.row hk, flat_all _ _ _, hlen, hmax, hK0, fun _ b' cap sp nx' hb0 hn' hlt hcap hmx hlen' => ?_⟩
  all_goals try have hb' := hb0.or
  rw [flat_cat] at hlen' ⊢
  refine hK _ b' _ nx' hb' hn' rfl ⟨.inr ⟨b', cap, sp, rfl, ?_, hlt, by rw [upd_same], hcap, hmx, ?_⟩⟩
  · rcases hb' with h | h
    · exact (ho.blk h).1
    · omega
  · rw [List.length_append, flat_length] at hlen'
    have : cap * k = (n + m) * k + (cap - (n + m)) * k := by rw [← Nat.add_mul]; congr 1; omega
    omega
theorem cat_zero (f g : Nat → Nat → Int) : cat 0 f g = g := by funext i j; simp [cat]
theorem flat_zero (k : Nat) (f : Nat → Nat → Int) : flat 0 k f = [] := by simp [flat]
theorem OwnR.empty {H : Hp} {lo nx b k : Nat} {f : Nat → Nat → Int} {ty : TypeId} (hb : lo ≤ b) (hx : b < nx) (h : H b = some (.rw [] ty)) : OwnR H lo nx 0 k f ty (.slice (some ⟨b, 0, none⟩) 0 0) :=
  .full hb hx (by rw [flat_zero]; exact h) (by omega)

/-! Rows of ints as lists. -/
def rowL (l : List Int) : Nat → Nat → Int := fun i _ => l.getD i 0
def OwnL (H : Hp) (lo nx : Nat) (l : List Int) (ty : TypeId) (v : Value) : Prop := OwnR H lo nx l.length 1 (rowL l) ty v
structure NewL (H : Hp) (nx : Nat) (l : List Int) (ty : TypeId) (v : Value) (H' : Hp) (nx' : Nat) : Prop where
  own : OwnL H' nx nx' l ty v
  s : Sub H H'
theorem NewL.r {H H' : Hp} {nx nx' : Nat} {l : List Int} {ty : TypeId} {v : Value} (h : NewL H nx l ty v H' nx') : NewR H nx l.length 1 (rowL l) ty v H' nx' := ⟨h.own, h.s⟩
theorem OwnL.nil {H : Hp} {lo nx : Nat} {ty : TypeId} : OwnL H lo nx [] ty (.slice none 0 0) := OwnR.nil
theorem OwnL.empty {H : Hp} {lo nx b : Nat} {ty : TypeId} (hb : lo ≤ b) (hx : b < nx) (h : H b = some (.rw [] ty)) : OwnL H lo nx [] ty (.slice (some ⟨b, 0, none⟩) 0 0) := OwnR.empty hb hx h
theorem mul_bd {a b A B : Int} (ha : -A ≤ a ∧ a ≤ A) (hb : -B ≤ b ∧ b ≤ B) : -(A * B) ≤ a * b ∧ a * b ≤ A * B := by
  have hA : 0 ≤ A := by omega
  rcases Int.le_total 0 b with h | h
  · have h1 := Int.mul_le_mul_of_nonneg_right ha.2 h
    have h2 := Int.mul_le_mul_of_nonneg_right ha.1 h
    have h3 := Int.mul_le_mul_of_nonneg_left hb.2 hA
    rw [Int.neg_mul] at h2
    omega
  · have h0 : 0 ≤ -b := by omega
    have h1 := Int.mul_le_mul_of_nonneg_right ha.2 h0
    have h2 := Int.mul_le_mul_of_nonneg_right ha.1 h0
    have h3 := Int.mul_le_mul_of_nonneg_left (show -b ≤ B by omega) hA
    simp only [Int.mul_neg, Int.neg_mul, Int.neg_neg] at h1 h2 h3
    omega
end Go.Proofs.YtnjlleopgjggpaaDoor
