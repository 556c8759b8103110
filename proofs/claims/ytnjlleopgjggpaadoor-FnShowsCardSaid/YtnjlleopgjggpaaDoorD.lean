/- Data in memory: rows of ints, slices of structs of ints; closing lemmas. For every program. -/
import Derived.Test.YtnjlleopgjggpaaDoorW
set_option linter.unusedVariables false
set_option linter.unusedSimpArgs false
namespace Go.Proofs.YtnjlleopgjggpaaDoor
open Go Go.RowKit

def inR (n lo hi : Int) : Bool := decide (lo ≤ n ∧ n ≤ hi)
theorem inR_true {n lo hi : Int} : inR n lo hi = true ↔ lo ≤ n ∧ n ≤ hi := by simp [inR]
/-- n elements of k int cells each. -/
def flat (n k : Nat) (f : Nat → Nat → Int) : List Value := (List.range (n * k)).map fun i => .int .i64 (f (i / k) (i % k))
theorem flat_length (n k : Nat) (f : Nat → Nat → Int) : (flat n k f).length = n * k := by simp [flat]
theorem flat_get {n k : Nat} {f : Nat → Nat → Int} {i j : Nat} (hi : i < n) (hj : j < k) : (flat n k f)[i * k + j]? = some (.int .i64 (f i j)) := by
  have h1 : i * k + j < n * k := by
    have : (i + 1) * k ≤ n * k := Nat.mul_le_mul_right _ hi
    rw [Nat.add_mul] at this; omega
  have h2 : (i * k + j) / k = i := by rw [Nat.mul_comm, Nat.mul_add_div (by omega), Nat.div_eq_of_lt hj]; omega
  have h3 : (i * k + j) % k = j := by rw [Nat.mul_comm, Nat.mul_add_mod, Nat.mod_eq_of_lt hj]
  simp [flat, h1, h2, h3]
theorem flat_congr {n k : Nat} {f g : Nat → Nat → Int} (h : ∀ i j, i < n → j < k → f i j = g i j) : flat n k f = flat n k g := by
  unfold flat
  refine List.map_congr_left fun i hi => ?_
  have hi := List.mem_range.1 hi
  rcases Nat.eq_zero_or_pos k with hk | hk
  · subst hk; simp at hi
  · rw [h _ _ (Nat.div_lt_of_lt_mul (by rwa [Nat.mul_comm] at hi)) (Nat.mod_lt _ hk)]
theorem flat_set {n k : Nat} {f : Nat → Nat → Int} {i j : Nat} (hi : i < n) (hj : j < k) (x : Int) :
    (flat n k f).set (i * k + j) (.int .i64 x) = flat n k (fun a b => if a = i ∧ b = j then x else f a b) := by
  refine List.ext_getElem? fun p => ?_
  have h1 : i * k + j < n * k := by
    have : (i + 1) * k ≤ n * k := Nat.mul_le_mul_right _ hi
    rw [Nat.add_mul] at this; omega
  rw [List.getElem?_set]
  by_cases hp : i * k + j = p
  · subst hp
    rw [if_pos rfl, if_pos (by rw [flat_length]; exact h1), flat_get hi hj]
    simp
  · rw [if_neg hp]
    simp only [flat, List.getElem?_map]
    by_cases hpn : p < n * k
    · rw [List.getElem?_range hpn]
      simp only [Option.map_some]
      rw [if_neg]
      rintro ⟨rfl, rfl⟩
      exact hp (by rw [Nat.mul_comm]; exact Nat.div_add_mod p k)
    · rw [List.getElem?_eq_none (by simpa using hpn)]
      rfl
theorem flat_set0 {n k : Nat} {f : Nat → Nat → Int} {i : Nat} (hi : i < n) (hk : 0 < k) (x : Int) :
    (flat n k f).set (i * k) (.int .i64 x) = flat n k (fun a b => if a = i ∧ b = 0 then x else f a b) := by
  have := flat_set (f := f) hi hk x; simpa using this
theorem mkRow_flat (z : Array Value) (n k : Nat) (hk : 0 < k) (hz : z = (List.replicate k (Value.int .i64 0)).toArray) : mkRow z (n * k) = flat n k (fun _ _ => 0) := by
  subst hz
  unfold mkRow madeCells flat
  refine List.ext_getElem? fun p => ?_
  simp only [Array.toList_map, Array.toList_range, List.getElem?_map, List.size_toArray, List.length_replicate]
  by_cases hpn : p < n * k
  · rw [List.getElem?_range hpn]
    simp [Nat.mod_lt _ hk]
  · rw [List.getElem?_eq_none (by simpa using hpn)]
    rfl
theorem flat_all (n k : Nat) (f : Nat → Nat → Int) : (flat n k f).all Value.oneCell' = true := by
  simp [flat, Value.oneCell']

/-- A slice of n elements, k int cells each, read off a block that is known. -/
structure Rd (H : Hp) (A : Option Addr) (n k : Nat) (f : Nat → Nat → Int) : Prop where
  at_ : 0 < n → ∃ b off, A = some ⟨b, off, none⟩ ∧ ∀ i j, i < n → j < k → rd H b (off + i * k + j) = some (.int .i64 (f i j))
theorem Rd.sub {H H' : Hp} {A : Option Addr} {n k : Nat} {f : Nat → Nat → Int} (h : Rd H A n k f) (hs : Sub H H') : Rd H' A n k f :=
  ⟨fun hn => by
    obtain ⟨b, off, e, hc⟩ := h.at_ hn
    exact ⟨b, off, e, fun i j hi hj => rd_sub hs (hc i j hi hj)⟩⟩
theorem Rd.zero {H : Hp} {A : Option Addr} {k : Nat} {f : Nat → Nat → Int} : Rd H A 0 k f := ⟨fun h => absurd h (by omega)⟩
theorem Rd.rw_ {H : Hp} {b n k : Nat} {f : Nat → Nat → Int} {sp : List Value} {ty : TypeId} (h : H b = some (.rw (flat n k f ++ sp) ty)) : Rd H (some ⟨b, 0, none⟩) n k f :=
  ⟨fun hn => ⟨b, 0, rfl, fun i j hi hj => by
    rw [rd_rw h, Nat.zero_add]
    have h1 : i * k + j < n * k := by
      have : (i + 1) * k ≤ n * k := Nat.mul_le_mul_right _ hi
      rw [Nat.add_mul] at this; omega
    rw [List.getElem?_append_left (by rw [flat_length]; exact h1), flat_get hi hj]⟩⟩
theorem Rd.of {H : Hp} {b n k : Nat} {f : Nat → Nat → Int} {ty : TypeId} (h : H b = some (.rw (flat n k f) ty)) : Rd H (some ⟨b, 0, none⟩) n k f :=
  Rd.rw_ (sp := []) (by simpa using h)
theorem Rd.congr {H : Hp} {A : Option Addr} {n k : Nat} {f g : Nat → Nat → Int} (h : Rd H A n k f) (e : ∀ i j, i < n → j < k → f i j = g i j) : Rd H A n k g :=
  ⟨fun hn => by
    obtain ⟨b, off, ha, hc⟩ := h.at_ hn
    exact ⟨b, off, ha, fun i j hi hj => by rw [← e i j hi hj]; exact hc i j hi hj⟩⟩
/-- A new block that holds n elements. -/
structure NewS (H : Hp) (nx : Nat) (n k : Nat) (f : Nat → Nat → Int) (ty : TypeId) (v : Value) (H' : Hp) (nx' : Nat) : Prop where
  ex : ∃ b, v = .slice (some ⟨b, 0, none⟩) n n ∧ nx ≤ b ∧ b < nx' ∧ H' b = some (.rw (flat n k f) ty)
  s : Sub H H'
theorem toNat1 : Int.toNat 1 = 1 := rfl
theorem sub_upd_old {H H' : Hp} {b : Nat} {o : Blk} (hs : Sub H H') (hb : H b = none) : Sub H (upd H' b o) := fun k o' e => by
  by_cases hk : k = b
  · subst hk; rw [hb] at e; cases e
  · rw [upd_ne hk]; exact hs k o' e
theorem sub_new {H : Hp} {nx b : Nat} {o : Blk} (hB : Bd H nx) (hb : nx ≤ b) : Sub H (upd H b o) := sub_up hb hB (Sub.refl _)
theorem none_of_bd {H : Hp} {nx b : Nat} (hB : Bd H nx) (h : nx ≤ b) : H b = none := by
  cases hb : H b with
  | none => rfl
  | some o => have := hB b o hb; omega
theorem sub_up2 {H H' : Hp} {nx b : Nat} {o : Blk} (hB : Bd H nx) (hs : Sub H H') (hb : nx ≤ b) : Sub H (upd H' b o) := sub_up hb hB hs
/-- Known blocks stay known: the ways that come up. -/
theorem sbX {H H' : Hp} (h : Sub H H' := by first | exact Sub.refl _ | exact sub_del _ _ | exact sub_del_upd (Sub.refl _) | exact sub_del_upd (by with_reducible assumption) | with_reducible assumption | exact Sub.trans (sub_del _ _) (by with_reducible assumption) | exact sub_new (by with_reducible assumption) (by with_reducible assumption) | exact sub_up2 (by with_reducible assumption) (by with_reducible assumption) (by omega) | exact sub_up2 (by with_reducible assumption) (sub_up2 (by with_reducible assumption) (Sub.refl _) (by omega)) (by omega)) : Sub H H' := h
set_option linter.defProp false
/-- How a test's value is read, in one name. -/
def hpL := And.intro @decide_eq_true_eq <| And.intro @decide_eq_false_iff_not <| And.intro @beq_iff_eq.{0} <| And.intro @bne_iff_ne.{0} <| And.intro @beq_eq_false_iff_ne.{0} <| And.intro @Bool.not_eq_true <| And.intro @Bool.and_eq_true <| And.intro @Bool.or_eq_true <| And.intro @Bool.and_eq_false_iff <| And.intro @Bool.or_eq_false_iff <| And.intro @bne_eq_false_iff_eq.{0} <| True.intro
end Go.Proofs.YtnjlleopgjggpaaDoor
