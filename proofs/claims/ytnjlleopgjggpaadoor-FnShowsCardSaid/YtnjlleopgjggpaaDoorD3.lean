/- Rows that grow: a slice value that is nil or owns its whole block; one element more; marks. For every program. -/
import Derived.Test.YtnjlleopgjggpaaDoorD2
set_option linter.unusedVariables false
set_option linter.unusedSimpArgs false
namespace Go.Proofs.YtnjlleopgjggpaaDoor
open Go Go.RowKit

def snoc (n : Nat) (f : Nat → Nat → Int) (e : Nat → Int) : Nat → Nat → Int := fun i j => if i < n then f i j else e j
theorem flat_snoc {n k : Nat} {f : Nat → Nat → Int} {e : Nat → Int} : flat n k f ++ ((List.range k).map fun j => Value.int .i64 (e j)) = flat (n + 1) k (snoc n f e) := by
  refine List.ext_getElem? fun p => ?_
  by_cases hp : p < n * k
  · rw [List.getElem?_append_left (by rw [flat_length]; exact hp)]
    have hk : 0 < k := by
      rcases Nat.eq_zero_or_pos k with h | h
      · subst h; simp at hp
      · exact h
    have h1 : p / k < n := Nat.div_lt_of_lt_mul (by rwa [Nat.mul_comm] at hp)
    have h2 : p < (n + 1) * k := by rw [Nat.add_mul]; omega
    simp [flat, hp, h2, snoc, h1]
  · rw [List.getElem?_append_right (by rw [flat_length]; omega), flat_length]
    by_cases hq : p - n * k < k
    · obtain ⟨q, rfl⟩ : ∃ q, p = n * k + q := ⟨p - n * k, by omega⟩
      have hq' : q < k := by omega
      rw [flat_get (by omega) hq']
      simp [hq', snoc, show n * k + q - n * k = q by omega]
    · rw [List.getElem?_eq_none (by simp; omega), List.getElem?_eq_none (by rw [flat_length, Nat.add_mul]; omega)]

/-- A slice of n elements (k int cells each) that is nil or begins its own whole block, no older than lo. -/
structure OwnR (H : Hp) (lo nx n k : Nat) (f : Nat → Nat → Int) (ty : TypeId) (v : Value) : Prop where
  ex : (v = .slice none 0 0 ∧ n = 0) ∨ ∃ b cap sp, v = .slice (some ⟨b, 0, none⟩) n cap ∧ lo ≤ b ∧ b < nx ∧ H b = some (.rw (flat n k f ++ sp) ty) ∧ n ≤ cap ∧ cap ≤ maxLen ∧ sp.length = (cap - n) * k
theorem OwnR.nil {H : Hp} {lo nx k : Nat} {f : Nat → Nat → Int} {ty : TypeId} : OwnR H lo nx 0 k f ty (.slice none 0 0) := ⟨.inl ⟨rfl, rfl⟩⟩
theorem OwnR.full {H : Hp} {lo nx n k b : Nat} {f : Nat → Nat → Int} {ty : TypeId} (hb : lo ≤ b) (hx : b < nx) (h : H b = some (.rw (flat n k f) ty)) (hn : n ≤ maxLen) : OwnR H lo nx n k f ty (.slice (some ⟨b, 0, none⟩) n n) :=
  ⟨.inr ⟨b, n, [], rfl, hb, hx, by rw [List.append_nil]; exact h, Nat.le_refl _, hn, by simp⟩⟩
theorem OwnR.blk {H : Hp} {lo nx n k b : Nat} {f : Nat → Nat → Int} {ty : TypeId} {v : Value} (h : OwnR H lo nx n k f ty v) (hb : some b = ownBlk v) : lo ≤ b ∧ b < nx := by
  rcases h.ex with ⟨rfl, _⟩ | ⟨b', cap, sp, rfl, h1, h2, _⟩
  · cases hb
  · cases hb
    exact ⟨h1, h2⟩
theorem OwnR.rd {H : Hp} {lo nx n k : Nat} {f : Nat → Nat → Int} {ty : TypeId} {v : Value} (h : OwnR H lo nx n k f ty v) : ∃ A c, v = .slice A n c ∧ n ≤ c ∧ Rd H A n k f := by
  rcases h.ex with ⟨rfl, rfl⟩ | ⟨b', cap, sp, rfl, h1, h2, h3, h4, _⟩
  · exact ⟨none, 0, rfl, Nat.le_refl _, Rd.zero⟩
  · exact ⟨_, cap, rfl, h4, Rd.rw_ h3⟩
theorem OwnR.keep {H H' : Hp} {lo nx nx' n k : Nat} {f : Nat → Nat → Int} {ty : TypeId} {v : Value} (h : OwnR H lo nx n k f ty v) (hk : ∀ b, some b = ownBlk v → H' b = H b) (hn : nx ≤ nx') : OwnR H' lo nx' n k f ty v := by
  rcases h.ex with ⟨rfl, rfl⟩ | ⟨b', cap, sp, rfl, h1, h2, h3, h4⟩
  · exact .nil
  · exact ⟨.inr ⟨b', cap, sp, rfl, h1, by omega, by rw [hk b' rfl]; exact h3, h4⟩⟩
theorem OwnR.sub {H H' : Hp} {lo nx nx' n k : Nat} {f : Nat → Nat → Int} {ty : TypeId} {v : Value} (h : OwnR H lo nx n k f ty v) (hs : Sub H H') (hn : nx ≤ nx') : OwnR H' lo nx' n k f ty v := by
  rcases h.ex with ⟨rfl, rfl⟩ | ⟨b', cap, sp, rfl, h1, h2, h3, h4⟩
  · exact .nil
  · exact ⟨.inr ⟨b', cap, sp, rfl, h1, by omega, hs _ _ h3, h4⟩⟩
theorem OwnR.new {H : Hp} {lo nx n k b : Nat} {f : Nat → Nat → Int} {ty : TypeId} {v : Value} {o : Blk} (h : OwnR H lo nx n k f ty v) (hb : nx ≤ b) : OwnR (upd H b o) lo (b + 1) n k f ty v :=
  h.keep (fun c hc => upd_ne (by have := (h.blk hc).2; omega)) (by omega)
theorem OwnR.congr {H : Hp} {lo nx n k : Nat} {f g : Nat → Nat → Int} {ty : TypeId} {v : Value} (h : OwnR H lo nx n k f ty v) (e : ∀ i j, i < n → j < k → f i j = g i j) : OwnR H lo nx n k g ty v := by
  have := h
  rcases h.ex with ⟨rfl, rfl⟩ | ⟨b', cap, sp, rfl, h1, h2, h3, h4⟩
  · exact .nil
  · exact ⟨.inr ⟨b', cap, sp, rfl, h1, h2, by rw [h3, flat_congr e], h4⟩⟩
theorem OwnR.lo {H : Hp} {lo lo' nx n k : Nat} {f : Nat → Nat → Int} {ty : TypeId} {v : Value} (h : OwnR H lo nx n k f ty v) (hl : lo' ≤ lo) : OwnR H lo' nx n k f ty v := by
  rcases h.ex with ⟨rfl, rfl⟩ | ⟨b', cap, sp, rfl, h1, h2⟩
  · exact .nil
  · exact ⟨.inr ⟨b', cap, sp, rfl, by omega, h2⟩⟩
theorem OwnR.own {H : Hp} {lo nx n k : Nat} {f : Nat → Nat → Int} {ty : TypeId} {v : Value} (h : OwnR H lo nx n k f ty v) : isOwn H ty k v n (flat n k f) := by
  refine ⟨flat_length n k f, ?_⟩
  rcases h.ex with ⟨rfl, rfl⟩ | ⟨b', cap, sp, rfl, h1, h2, h3, h4, h5, h6⟩
  · exact .inl ⟨rfl, rfl⟩
  · refine .inr ⟨b', cap, sp, rfl, h3, h4, h5, ?_⟩
    rw [List.length_append, flat_length, h6, ← Nat.add_mul]
    congr 1
    omega

/-- One element more. -/
theorem app_one {P : Program} {t ty : TypeId} {k bytes lo nx n b : Nat} {H : Hp} {f : Nat → Nat → Int} {e : Nat → Int} {sv : Value} {cs : List Value} {K : Value → Hp → Nat → Prop}
    (he : qElem P t = some ty) (hs : qSize P ty = some k) (hb : qBytes P ty = some bytes) (hz : ∃ z, qZero P ty = some z ∧ z.cells.size = k) (hk : 0 < k)
    (ho : OwnR H lo nx n k f ty sv) (hx : H b = some (.rw cs ty)) (hcs : cs = (List.range k).map fun j => Value.int .i64 (e j)) (hlo : lo ≤ nx) (hlen : (n + 1) * bytes ≤ 140737488355328) (hmax : n + 1 ≤ maxLen)
    (hK : ∀ v' b' o nx', (some b' = ownBlk sv ∨ nx ≤ b') → nx ≤ nx' → some b' = ownBlk v' → OwnR (upd H b' o) lo nx' (n + 1) k (snoc n f e) ty v' → K v' (upd H b' o) nx') :
    AppK P t sv (.slice (some ⟨b, 0, none⟩) 1 1) K H nx := by
  refine ⟨ty, k, bytes, n, 1, 1, flat n k f, cs, some ⟨b, 0, none⟩, he, hs, hb, hz, hk, ho.own, rfl, ⟨?_, fun _ => ⟨b, 0, rfl, fun i u hu => ?_⟩⟩, ?_, hlen, hmax, (fun h => by cases h), fun _ b' cap sp nx' hb0 hn' hlt hcap hmx hlen' => ?_⟩
  all_goals try have hb' := hb0.or
  · rw [hcs]; simp
  · rw [Nat.zero_add, rd_rw hx]; exact hu
  · rw [hcs]; simp [Value.oneCell']
  · rw [hcs, flat_snoc] at hlen' ⊢
    refine hK _ b' _ nx' hb' hn' rfl ⟨.inr ⟨b', cap, sp, rfl, ?_, hlt, by rw [upd_same], hcap, hmx, ?_⟩⟩
    · rcases hb' with h | h
      · exact (ho.blk h).1
      · omega
    · rw [List.length_append, flat_length] at hlen'
      have : cap * k = (n + 1) * k + (cap - (n + 1)) * k := by rw [← Nat.add_mul]; congr 1; omega
      omega
/-- The marks t, t + 1, .. in a row. -/
def mks (t : Int) (k : Nat) : Nat → Nat → Int := fun i j => t + ((i : Int) * k + j)
theorem vi {a b : Int} (h : a = b) : Value.int .i64 a = Value.int .i64 b := by rw [h]
def set2 (f : Nat → Nat → Int) (i j : Nat) (x : Int) : Nat → Nat → Int := fun a b => if a = i ∧ b = j then x else f a b
theorem flat_set_sp {n k : Nat} {f : Nat → Nat → Int} {i j : Nat} {sp : List Value} (hi : i < n) (hj : j < k) (x : Int) :
    (flat n k f ++ sp).set (i * k + j) (.int .i64 x) = flat n k (set2 f i j x) ++ sp := by
  have h1 : i * k + j < n * k := by
    have : (i + 1) * k ≤ n * k := Nat.mul_le_mul_right _ hi
    rw [Nat.add_mul] at this; omega
  rw [List.set_append_left _ _ (by rw [flat_length]; exact h1), flat_set hi hj]
  rfl
theorem flat_set0_sp {n k : Nat} {f : Nat → Nat → Int} {i : Nat} {sp : List Value} (hi : i < n) (hk : 0 < k) (x : Int) :
    (flat n k f ++ sp).set (i * k) (.int .i64 x) = flat n k (set2 f i 0 x) ++ sp := by
  have := flat_set_sp (f := f) (sp := sp) hi hk x
  simpa using this
theorem flat_get_sp {n k : Nat} {f : Nat → Nat → Int} {i j : Nat} {sp : List Value} (hi : i < n) (hj : j < k) : (flat n k f ++ sp)[i * k + j]? = some (.int .i64 (f i j)) := by
  have h1 : i * k + j < n * k := by
    have : (i + 1) * k ≤ n * k := Nat.mul_le_mul_right _ hi
    rw [Nat.add_mul] at this; omega
  rw [List.getElem?_append_left (by rw [flat_length]; exact h1), flat_get hi hj]
/-- What a function leaves that gives a new row: the row; all that was known is known. -/
structure NewR (H : Hp) (nx n k : Nat) (f : Nat → Nat → Int) (ty : TypeId) (v : Value) (H' : Hp) (nx' : Nat) : Prop where
  own : OwnR H' nx nx' n k f ty v
  s : Sub H H'
theorem NewS.r {H H' : Hp} {nx nx' n k : Nat} {f : Nat → Nat → Int} {ty : TypeId} {v : Value} (h : NewS H nx n k f ty v H' nx') (hn : n ≤ maxLen) : NewR H nx n k f ty v H' nx' := by
  obtain ⟨⟨b, rfl, h1, h2, h3⟩, hs⟩ := h
  exact ⟨.full h1 h2 h3 hn, hs⟩
theorem OwnR.oth {H H' : Hp} {lo nx nx' n k : Nat} {f : Nat → Nat → Int} {ty : TypeId} {v w : Value} (hO : OwnR H lo nx n k f ty v) (h : ∀ c, some c ≠ ownBlk w → H' c = H c) (hn : nx ≤ nx') (hne : ∀ c, some c = ownBlk v → some c = ownBlk w → False) : OwnR H' lo nx' n k f ty v :=
  hO.keep (fun b hb => h b (fun e => hne b hb e)) hn
theorem OwnR.of {H : Hp} {lo nx n k b : Nat} {f : Nat → Nat → Int} {ty : TypeId} (hb : lo ≤ b) (hx : b < nx) (h : H b = some (.rw (flat n k f) ty)) (hn : n ≤ 1048576) : OwnR H lo nx n k f ty (.slice (some ⟨b, 0, none⟩) n n) :=
  .full hb hx h (by unfold maxLen; omega)
end Go.Proofs.YtnjlleopgjggpaaDoor
