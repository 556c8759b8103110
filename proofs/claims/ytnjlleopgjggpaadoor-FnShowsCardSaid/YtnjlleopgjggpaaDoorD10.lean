/- Rows of whatever cells that grow: a slice value that is nil or owns its whole block. For every program. -/
import Derived.Test.YtnjlleopgjggpaaDoorD5
set_option linter.unusedVariables false
set_option linter.unusedSimpArgs false
namespace Go.Proofs.YtnjlleopgjggpaaDoor
open Go Go.RowKit

def catV (n : Nat) (f g : Nat → Nat → Value) : Nat → Nat → Value := fun i j => if i < n then f i j else g (i - n) j
theorem flatV_cat {n m k : Nat} {f g : Nat → Nat → Value} : flatV n k f ++ flatV m k g = flatV (n + m) k (catV n f g) := by
  refine List.ext_getElem? fun p => ?_
  by_cases hp : p < n * k
  · rw [List.getElem?_append_left (by rw [flatV_length]; exact hp)]
    have hk : 0 < k := by
      rcases Nat.eq_zero_or_pos k with h | h
      · subst h; simp at hp
      · exact h
    have h1 : p / k < n := Nat.div_lt_of_lt_mul (by rwa [Nat.mul_comm] at hp)
    have h2 : p < (n + m) * k := by rw [Nat.add_mul]; omega
    simp [flatV, hp, h2, catV, h1]
  · rw [List.getElem?_append_right (by rw [flatV_length]; omega), flatV_length]
    by_cases hq : p - n * k < m * k
    · obtain ⟨q, rfl⟩ : ∃ q, p = n * k + q := ⟨p - n * k, by omega⟩
      have hq' : q < m * k := by omega
      have hk : 0 < k := by
        rcases Nat.eq_zero_or_pos k with h | h
        · subst h; simp at hq'
        · exact h
      have h2 : n * k + q < (n + m) * k := by rw [Nat.add_mul]; omega
      have e1 : (n * k + q) / k = n + q / k := by rw [Nat.mul_comm, Nat.mul_add_div hk]
      have e2 : (n * k + q) % k = q % k := by rw [Nat.mul_comm, Nat.mul_add_mod]
      have h5 : ¬ (n + q / k < n) := Nat.not_lt.2 (Nat.le_add_right _ _)
      have h6 : n + q / k - n = q / k := Nat.add_sub_cancel_left _ _
      simp [flatV, hq', h2, catV, e1, e2, h5, h6, show n * k + q - n * k = q by omega]
    · have a1 : (flatV m k g).length ≤ p - n * k := by rw [flatV_length]; omega
      have a2 : (flatV (n + m) k (catV n f g)).length ≤ p := by rw [flatV_length, Nat.add_mul]; omega
      rw [List.getElem?_eq_none a1, List.getElem?_eq_none a2]
theorem flatV_zero (k : Nat) (f : Nat → Nat → Value) : flatV 0 k f = [] := by simp [flatV]
/-- Every cell is a plain one. -/
def oneG (n k : Nat) (g : Nat → Nat → Value) : Prop := ∀ i j, i < n → j < k → (g i j).oneCell' = true
theorem flatV_all {n k : Nat} {g : Nat → Nat → Value} (h : oneG n k g) : (flatV n k g).all Value.oneCell' = true := by
  rw [List.all_eq_true]
  intro x hx
  simp only [flatV, List.mem_map, List.mem_range] at hx
  obtain ⟨i, hi, rfl⟩ := hx
  rcases Nat.eq_zero_or_pos k with hk | hk
  · subst hk; simp at hi
  · exact h _ _ (Nat.div_lt_of_lt_mul (by rwa [Nat.mul_comm] at hi)) (Nat.mod_lt _ hk)
theorem RdV.row {H : Hp} {A : Option Addr} {m k : Nat} {g : Nat → Nat → Value} (h : RdV H A m k g) (hk : 0 < k) : isRow H A (m * k) (flatV m k g) := by
  refine ⟨flatV_length m k g, fun h0 => ?_⟩
  have hm : 0 < m := by
    rcases Nat.eq_zero_or_pos m with e | e
    · subst e; simp at h0
    · exact e
  obtain ⟨b, off, e, hc⟩ := h.at_ hm
  refine ⟨b, off, e, fun i u hu => ?_⟩
  have hi : i < m * k := by
    have := (List.getElem?_eq_some_iff.1 hu).1
    rwa [flatV_length] at this
  have h1 : i / k < m := Nat.div_lt_of_lt_mul (by rwa [Nat.mul_comm] at hi)
  have h2 : i % k < k := Nat.mod_lt _ hk
  have h3 := hc (i / k) (i % k) h1 h2
  have e1 : off + i / k * k + i % k = off + i := by have := Nat.div_add_mod i k; rw [Nat.mul_comm] at this; omega
  rw [e1] at h3
  rw [h3]
  simp [flatV, hi] at hu
  simpa using hu
theorem RdV.drop {H : Hp} {b off n m k : Nat} {f : Nat → Nat → Value} (h : RdV H (some ⟨b, off, none⟩) n k f) (hm : m ≤ n) : RdV H (some ⟨b, off + m * k, none⟩) (n - m) k (fun i j => f (m + i) j) :=
  ⟨fun h0 => by
    obtain ⟨b', off', e, hc⟩ := h.at_ (by omega)
    cases e
    exact ⟨b, off + m * k, rfl, fun i j hi hj => by
      have := hc (m + i) j (by omega) hj
      rw [Nat.add_mul, ← Nat.add_assoc] at this
      exact this⟩⟩
theorem RdV.congr {H : Hp} {A : Option Addr} {n k : Nat} {f g : Nat → Nat → Value} (h : RdV H A n k f) (e : ∀ i j, i < n → j < k → f i j = g i j) : RdV H A n k g :=
  ⟨fun hn => by
    obtain ⟨b, off, ha, hc⟩ := h.at_ hn
    exact ⟨b, off, ha, fun i j hi hj => by rw [← e i j hi hj]; exact hc i j hi hj⟩⟩

/-- A slice of n elements (k cells each) that is nil or begins its own whole block, no older than lo. -/
structure OwnV (H : Hp) (lo nx n k : Nat) (g : Nat → Nat → Value) (ty : TypeId) (v : Value) : Prop where
  ex : (v = .slice none 0 0 ∧ n = 0) ∨ ∃ b cap sp, v = .slice (some ⟨b, 0, none⟩) n cap ∧ lo ≤ b ∧ b < nx ∧ H b = some (.rw (flatV n k g ++ sp) ty) ∧ n ≤ cap ∧ cap ≤ maxLen ∧ sp.length = (cap - n) * k
theorem OwnV.nil {H : Hp} {lo nx k : Nat} {f : Nat → Nat → Value} {ty : TypeId} : OwnV H lo nx 0 k f ty (.slice none 0 0) := ⟨.inl ⟨rfl, rfl⟩⟩
theorem OwnV.full {H : Hp} {lo nx n k b : Nat} {f : Nat → Nat → Value} {ty : TypeId} (hb : lo ≤ b) (hx : b < nx) (h : H b = some (.rw (flatV n k f) ty)) (hn : n ≤ maxLen) : OwnV H lo nx n k f ty (.slice (some ⟨b, 0, none⟩) n n) :=
  ⟨.inr ⟨b, n, [], rfl, hb, hx, by rw [List.append_nil]; exact h, Nat.le_refl _, hn, by simp⟩⟩
theorem OwnV.empty {H : Hp} {lo nx b k : Nat} {f : Nat → Nat → Value} {ty : TypeId} (hb : lo ≤ b) (hx : b < nx) (h : H b = some (.rw [] ty)) : OwnV H lo nx 0 k f ty (.slice (some ⟨b, 0, none⟩) 0 0) :=
  .full hb hx (by rw [flatV_zero]; exact h) (by unfold maxLen; omega)
theorem OwnV.blk {H : Hp} {lo nx n k b : Nat} {f : Nat → Nat → Value} {ty : TypeId} {v : Value} (h : OwnV H lo nx n k f ty v) (hb : some b = ownBlk v) : lo ≤ b ∧ b < nx := by
  rcases h.ex with ⟨rfl, _⟩ | ⟨b', cap, sp, rfl, h1, h2, _⟩
  · cases hb
  · cases hb
    exact ⟨h1, h2⟩
theorem OwnV.rd {H : Hp} {lo nx n k : Nat} {f : Nat → Nat → Value} {ty : TypeId} {v : Value} (h : OwnV H lo nx n k f ty v) : ∃ A c, v = .slice A n c ∧ n ≤ c ∧ RdV H A n k f := by
  rcases h.ex with ⟨rfl, rfl⟩ | ⟨b', cap, sp, rfl, h1, h2, h3, h4, _⟩
  · exact ⟨none, 0, rfl, Nat.le_refl _, RdV.zero⟩
  · exact ⟨_, cap, rfl, h4, RdV.rw_ h3⟩
theorem OwnV.keep {H H' : Hp} {lo nx nx' n k : Nat} {f : Nat → Nat → Value} {ty : TypeId} {v : Value} (h : OwnV H lo nx n k f ty v) (hk : ∀ b, some b = ownBlk v → H' b = H b) (hn : nx ≤ nx') : OwnV H' lo nx' n k f ty v := by
  rcases h.ex with ⟨rfl, rfl⟩ | ⟨b', cap, sp, rfl, h1, h2, h3, h4⟩
  · exact .nil
  · exact ⟨.inr ⟨b', cap, sp, rfl, h1, by omega, by rw [hk b' rfl]; exact h3, h4⟩⟩
theorem OwnV.sub {H H' : Hp} {lo nx nx' n k : Nat} {f : Nat → Nat → Value} {ty : TypeId} {v : Value} (h : OwnV H lo nx n k f ty v) (hs : Sub H H') (hn : nx ≤ nx') : OwnV H' lo nx' n k f ty v := by
  rcases h.ex with ⟨rfl, rfl⟩ | ⟨b', cap, sp, rfl, h1, h2, h3, h4⟩
  · exact .nil
  · exact ⟨.inr ⟨b', cap, sp, rfl, h1, by omega, hs _ _ h3, h4⟩⟩
theorem OwnV.new {H : Hp} {lo nx n k b : Nat} {f : Nat → Nat → Value} {ty : TypeId} {v : Value} {o : Blk} (h : OwnV H lo nx n k f ty v) (hb : nx ≤ b) : OwnV (upd H b o) lo (b + 1) n k f ty v :=
  h.keep (fun c hc => upd_ne (by have := (h.blk hc).2; omega)) (by omega)
theorem OwnV.congr {H : Hp} {lo nx n k : Nat} {f g : Nat → Nat → Value} {ty : TypeId} {v : Value} (h : OwnV H lo nx n k f ty v) (e : ∀ i j, i < n → j < k → f i j = g i j) : OwnV H lo nx n k g ty v := by
  rcases h.ex with ⟨rfl, rfl⟩ | ⟨b', cap, sp, rfl, h1, h2, h3, h4⟩
  · exact .nil
  · exact ⟨.inr ⟨b', cap, sp, rfl, h1, h2, by rw [h3, flatV_congr e], h4⟩⟩
theorem OwnV.lo {H : Hp} {lo lo' nx n k : Nat} {f : Nat → Nat → Value} {ty : TypeId} {v : Value} (h : OwnV H lo nx n k f ty v) (hl : lo' ≤ lo) : OwnV H lo' nx n k f ty v := by
  rcases h.ex with ⟨rfl, rfl⟩ | ⟨b', cap, sp, rfl, h1, h2⟩
  · exact .nil
  · exact ⟨.inr ⟨b', cap, sp, rfl, by omega, h2⟩⟩
theorem OwnV.own {H : Hp} {lo nx n k : Nat} {f : Nat → Nat → Value} {ty : TypeId} {v : Value} (h : OwnV H lo nx n k f ty v) : isOwn H ty k v n (flatV n k f) := by
  refine ⟨flatV_length n k f, ?_⟩
  rcases h.ex with ⟨rfl, rfl⟩ | ⟨b', cap, sp, rfl, h1, h2, h3, h4, h5, h6⟩
  · exact .inl ⟨rfl, rfl⟩
  · refine .inr ⟨b', cap, sp, rfl, h3, h4, h5, ?_⟩
    rw [List.length_append, flatV_length, h6, ← Nat.add_mul]
    congr 1
    omega
/-- A row of m elements more. -/
theorem app_rowV {P : Program} {t ty : TypeId} {k bytes lo nx n m c : Nat} {H : Hp} {f g : Nat → Nat → Value} {A : Option Addr} {sv : Value} {K : Value → Hp → Nat → Prop}
    (he : qElem P t = some ty) (hs : qSize P ty = some k) (hb : qBytes P ty = some bytes) (hz : ∃ z, qZero P ty = some z ∧ z.cells.size = k) (hk : 0 < k)
    (ho : OwnV H lo nx n k f ty sv) (hr : RdV H A m k g) (hg : oneG m k g) (hlo : lo ≤ nx) (hlen : (n + m) * bytes ≤ 140737488355328) (hmax : n + m ≤ maxLen)
    (hK0 : m = 0 → K sv H nx)
    (hK : ∀ v' b' o nx', (some b' = ownBlk sv ∨ nx ≤ b') → nx ≤ nx' → some b' = ownBlk v' → OwnV (upd H b' o) lo nx' (n + m) k (catV n f g) ty v' → K v' (upd H b' o) nx') :
    AppK P t sv (.slice A m c) K H nx := by
  refine ⟨ty, k, bytes, n, m, c, flatV n k f, flatV m k g, A, he, hs, hb, hz, hk, ho.own, rfl, hr.row hk, flatV_all hg, hlen, hmax, hK0, fun _ b' cap sp nx' hb0 hn' hlt hcap hmx hlen' => ?_⟩
  have hb' := hb0.or
  rw [flatV_cat] at hlen' ⊢
  refine hK _ b' _ nx' hb' hn' rfl ⟨.inr ⟨b', cap, sp, rfl, ?_, hlt, by rw [upd_same], hcap, hmx, ?_⟩⟩
  · rcases hb' with h | h
    · exact (ho.blk h).1
    · omega
  · rw [List.length_append, flatV_length] at hlen'
    have : cap * k = (n + m) * k + (cap - (n + m)) * k := by rw [← Nat.add_mul]; congr 1; omega
    omega
/-- One element more, out of a block of its cells. -/
theorem app_oneV {P : Program} {t ty : TypeId} {k bytes lo nx n b : Nat} {H : Hp} {f : Nat → Nat → Value} {e : Nat → Value} {sv : Value} {cs : List Value} {K : Value → Hp → Nat → Prop}
    (he : qElem P t = some ty) (hs : qSize P ty = some k) (hb : qBytes P ty = some bytes) (hz : ∃ z, qZero P ty = some z ∧ z.cells.size = k) (hk : 0 < k)
    (ho : OwnV H lo nx n k f ty sv) (hx : H b = some (.rw cs ty)) (hcs : cs = (List.range k).map e) (hg : ∀ j, j < k → (e j).oneCell' = true) (hlo : lo ≤ nx) (hlen : (n + 1) * bytes ≤ 140737488355328) (hmax : n + 1 ≤ maxLen)
    (hK : ∀ v' b' o nx', (some b' = ownBlk sv ∨ nx ≤ b') → nx ≤ nx' → some b' = ownBlk v' → OwnV (upd H b' o) lo nx' (n + 1) k (fun i j => if i < n then f i j else e j) ty v' → K v' (upd H b' o) nx') :
    AppK P t sv (.slice (some ⟨b, 0, none⟩) 1 1) K H nx := by
  refine app_rowV (m := 1) (g := fun _ j => e j) he hs hb hz hk ho ⟨fun _ => ⟨b, 0, rfl, fun i j hi hj => ?_⟩⟩ (fun i j _ hj => hg j hj) hlo hlen hmax (fun h => by cases h) hK
  rw [rd_rw hx, hcs, show 0 + i * k + j = j by rw [show i = 0 by omega]; omega]
  simp [hj]
/-- A row of m elements more, in one way for m = 0 and m > 0. -/
theorem app_anyV {P : Program} {t ty : TypeId} {k bytes lo nx n m c : Nat} {H : Hp} {f g : Nat → Nat → Value} {A : Option Addr} {sv : Value} {K : Value → Hp → Nat → Prop}
    (he : qElem P t = some ty) (hs : qSize P ty = some k) (hb : qBytes P ty = some bytes) (hz : ∃ z, qZero P ty = some z ∧ z.cells.size = k) (hk : 0 < k)
    (ho : OwnV H lo nx n k f ty sv) (hr : RdV H A m k g) (hg : oneG m k g) (hlo : lo ≤ nx) (hlen : (n + m) * bytes ≤ 140737488355328) (hmax : n + m ≤ maxLen)
    (hK : ∀ v' H' nx', OwnV H' lo nx' (n + m) k (catV n f g) ty v' → (∀ c, c < lo → H' c = H c) → (∀ c, some c ≠ ownBlk sv → c < nx → H' c = H c) → nx ≤ nx' → (Bd H nx → Bd H' nx') → (∀ c, some c = ownBlk v' → some c = ownBlk sv ∨ nx ≤ c) → K v' H' nx') :
    AppK P t sv (.slice A m c) K H nx := by
  refine app_rowV he hs hb hz hk ho hr hg hlo hlen hmax (fun h0 => ?_) (fun v' b' o nx' hb' hn' hown hO => ?_)
  · subst h0
    exact hK _ _ _ (ho.congr fun i j hi hj => by unfold catV; rw [if_pos hi]) (fun _ _ => rfl) (fun _ _ _ => rfl) (Nat.le_refl _) (fun h => h) (fun c h => .inl h)
  · have hbl : lo ≤ b' := by
      rcases hb' with h | h
      · exact (ho.blk h).1
      · omega
    have hbn := (hO.blk hown).2
    refine hK _ _ _ hO (fun c hc => upd_ne (by omega)) (fun c hc hcx => upd_ne (fun e => ?_)) hn' (fun h => ?_) (fun c hc => ?_)
    · subst e
      rcases hb' with h | h
      · exact hc h
      · omega
    · rcases hb' with h2 | h2
      · exact (h.set (ho.blk h2).2).mono hn'
      · exact fun q o' e => by
          by_cases hq : q = b'
          · omega
          · rw [upd_ne hq] at e; have := h q o' e; omega
    · rw [← hown] at hc
      cases hc
      exact hb'
end Go.Proofs.YtnjlleopgjggpaaDoor
