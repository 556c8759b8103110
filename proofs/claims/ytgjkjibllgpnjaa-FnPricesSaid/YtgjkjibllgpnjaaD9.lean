/- A row put among rows, in cells. For every program. -/
import Derived.Test.YtgjkjibllgpnjaaD4
set_option linter.unusedVariables false
set_option linter.unusedSimpArgs false
namespace Go.Proofs.Ytgjkjibllgpnjaa
open Go Go.RowKit

theorem setN_eq9 : ∀ (vs cs : List Value) (off j : Nat), off + j + vs.length ≤ cs.length → setN cs off j vs = cs.take (off + j) ++ vs ++ cs.drop (off + j + vs.length)
  | [], cs, off, j, h => by simp [setN]
  | v :: vs, cs, off, j, h => by
    simp only [List.length_cons] at h
    simp only [setN]
    rw [setN_eq9 vs (cs.set (off + j) v) off (j + 1) (by simp; omega)]
    have h1 : off + j < cs.length := by omega
    rw [List.take_set, List.drop_set_of_lt (by omega)]
    have e1 : (cs.take (off + (j + 1))).set (off + j) v = cs.take (off + j) ++ [v] := by
      rw [show off + (j + 1) = off + j + 1 by omega, List.take_add_one, List.getElem?_eq_getElem h1]
      simp only [Option.toList]
      rw [List.set_append_right _ _ (by simp; omega)]
      simp [List.length_take, Nat.min_eq_left (Nat.le_of_lt h1)]
    rw [e1, show off + (j + 1) + vs.length = off + j + (v :: vs).length by simp only [List.length_cons]; omega]
    simp only [List.append_assoc, List.cons_append, List.nil_append]
theorem setN_len9 : ∀ (vs cs : List Value) (off j : Nat), (setN cs off j vs).length = cs.length
  | [], cs, off, j => rfl
  | v :: vs, cs, off, j => by simp only [setN]; rw [setN_len9]; simp
theorem setN_mid {X Y Z vs : List Value} (h : vs.length = Y.length) : setN (X ++ Y ++ Z) X.length 0 vs = X ++ vs ++ Z := by
  rw [setN_eq9 _ _ _ _ (by simp only [List.length_append]; omega), Nat.add_zero]
  rw [List.append_assoc X Y Z, List.take_left, List.drop_append, List.drop_eq_nil_of_le (by omega), List.nil_append,
    show X.length + vs.length - X.length = Y.length by omega, List.drop_left]
def insF (f : Nat → Nat → Int) (i : Nat) (e : Nat → Int) : Nat → Nat → Int := fun a j => if a < i then f a j else if a = i then e j else f (a - 1) j
def cellsE (K : Nat) (e : Nat → Int) : List Value := (List.range K).map fun j => Value.int .i64 (e j)
theorem cellsE_len (K : Nat) (e : Nat → Int) : (cellsE K e).length = K := by simp [cellsE]
theorem cellsE_all (K : Nat) (e : Nat → Int) : (cellsE K e).all Value.oneCell' = true := by simp [cellsE, Value.oneCell']
theorem flat_split {n K i : Nat} {f : Nat → Nat → Int} (hi : i ≤ n) : flat n K f = flat i K f ++ flat (n - i) K (fun a j => f (i + a) j) := by
  rw [flat_cat, show i + (n - i) = n by omega]
  refine flat_congr fun a j ha hj => ?_
  unfold cat
  split
  · rfl
  · show f a j = f (i + (a - i)) j
    rw [show i + (a - i) = a by omega]
theorem flat_take {n K i : Nat} {f : Nat → Nat → Int} (hi : i ≤ n) : (flat n K f).take (i * K) = flat i K f := by
  rw [flat_split hi]
  exact List.take_left' (flat_length i K f)
theorem flat_drop {n K i : Nat} {f : Nat → Nat → Int} (hi : i ≤ n) : (flat n K f).drop (i * K) = flat (n - i) K (fun a j => f (i + a) j) := by
  rw [flat_split hi]
  exact List.drop_left' (flat_length i K f)
theorem flat_ins {n K i : Nat} {f : Nat → Nat → Int} {e : Nat → Int} (hi : i ≤ n) : flat i K f ++ cellsE K e ++ flat (n - i) K (fun a j => f (i + a) j) = flat (n + 1) K (insF f i e) := by
  unfold cellsE
  rw [flat_snoc, flat_cat, show i + 1 + (n - i) = n + 1 by omega]
  refine flat_congr fun a j ha hj => ?_
  unfold cat snoc insF
  by_cases h1 : a < i
  · rw [if_pos (show a < i + 1 by omega), if_pos h1, if_pos h1]
  · by_cases h2 : a = i
    · rw [if_pos (show a < i + 1 by omega), if_neg h1, if_neg h1, if_pos h2]
    · rw [if_neg (show ¬ a < i + 1 by omega), if_neg h1, if_neg h2]
      show f (i + (a - (i + 1))) j = f (a - 1) j
      rw [show i + (a - (i + 1)) = a - 1 by omega]
/-- There is room: what stands behind moves on, the new row comes in. -/
theorem ins_room {T D sp E : List Value} {o1 o2 : Nat} (h1 : o1 = T.length + E.length) (h2 : o2 = T.length) (hs : E.length ≤ sp.length) :
    setN (setN (T ++ D ++ sp) o1 0 D) o2 0 E = T ++ E ++ D ++ sp.drop E.length := by
  subst h1 h2
  have e1 : T ++ D ++ sp = (T ++ (D ++ sp).take E.length) ++ ((D ++ sp).drop E.length).take D.length ++ ((D ++ sp).drop E.length).drop D.length := by
    rw [List.append_assoc (T ++ _), List.take_append_drop, List.append_assoc T ((D ++ sp).take E.length), List.take_append_drop, List.append_assoc]
  have e2 : ((D ++ sp).drop E.length).drop D.length = sp.drop E.length := by
    rw [List.drop_drop, Nat.add_comm, ← List.drop_drop, List.drop_left]
  have e3 : T.length + E.length = (T ++ (D ++ sp).take E.length).length := by
    simp only [List.length_append, List.length_take]
    omega
  have e4 : D.length = (((D ++ sp).drop E.length).take D.length).length := by
    simp only [List.length_append, List.length_take, List.length_drop]
    omega
  rw [e1, e3, setN_mid e4, e2]
  have e5 : E.length = ((D ++ sp).take E.length).length := by
    simp only [List.length_append, List.length_take]
    omega
  rw [List.append_assoc (T ++ _), setN_mid e5]
  simp only [List.append_assoc]
/-- There is none: in a new row the new one comes in, and behind it what stood behind. -/
theorem ins_new {T D r E : List Value} {o1 o2 : Nat} (h1 : o1 = T.length + E.length) (h2 : o2 = T.length) (hr : E.length + D.length ≤ r.length) :
    setN (setN (T ++ r) o2 0 E) o1 0 D = T ++ E ++ D ++ r.drop (E.length + D.length) := by
  subst h1 h2
  have e1 : T ++ r = T ++ r.take E.length ++ r.drop E.length := by rw [List.append_assoc, List.take_append_drop]
  have e2 : E.length = (r.take E.length).length := by rw [List.length_take]; omega
  rw [e1, setN_mid e2]
  have e3 : T ++ E ++ r.drop E.length = (T ++ E) ++ (r.drop E.length).take D.length ++ (r.drop E.length).drop D.length := by rw [List.append_assoc (T ++ E), List.take_append_drop]
  have e4 : D.length = ((r.drop E.length).take D.length).length := by rw [List.length_take, List.length_drop]; omega
  rw [e3, ← List.length_append, setN_mid e4, List.drop_drop]
/-- A row of rows as cells: what a slice of it covers. -/
theorem flat_row {n K i : Nat} {f : Nat → Nat → Int} (hi : i ≤ n) {H : Hp} {b : Nat} {sp : List Value} {ty : TypeId} (h : H b = some (.rw (flat n K f ++ sp) ty)) :
    isRow H (some ⟨b, i * K, none⟩) ((n - i) * K) (flat (n - i) K (fun a j => f (i + a) j)) := by
  refine ⟨flat_length _ _ _, fun h0 => ⟨b, i * K, rfl, fun p u hu => ?_⟩⟩
  rw [rd_rw h, flat_split hi, List.append_assoc, List.getElem?_append_right (by rw [flat_length]; omega), flat_length, show i * K + p - i * K = p by omega]
  have hp := (List.getElem?_eq_some_iff.1 hu).1
  rw [List.getElem?_append_left hp]
  exact hu
theorem flat_row0 {n K i : Nat} {f : Nat → Nat → Int} (hi : i ≤ n) {H : Hp} {b : Nat} {sp : List Value} {ty : TypeId} (h : H b = some (.rw (flat n K f ++ sp) ty)) :
    isRow H (some ⟨b, 0, none⟩) (i * K) (flat i K f) := by
  refine ⟨flat_length _ _ _, fun h0 => ⟨b, 0, rfl, fun p u hu => ?_⟩⟩
  rw [rd_rw h, flat_split hi, List.append_assoc, Nat.zero_add]
  have hp := (List.getElem?_eq_some_iff.1 hu).1
  rw [List.getElem?_append_left hp]
  exact hu
theorem OwnR.ofRow {H : Hp} {lo nx b cap n K : Nat} {f : Nat → Nat → Int} {sp : List Value} {ty : TypeId} (h1 : lo ≤ b) (h2 : b < nx) (h3 : H b = some (.rw (flat n K f ++ sp) ty)) (h4 : n ≤ cap) (h5 : cap ≤ maxLen) (h6 : (flat n K f ++ sp).length = cap * K) :
    OwnR H lo nx n K f ty (.slice (some ⟨b, 0, none⟩) n cap) :=
  ⟨.inr ⟨b, cap, sp, rfl, h1, h2, h3, h4, h5, by rw [List.length_append, flat_length] at h6; rw [Nat.sub_mul]; omega⟩⟩
end Go.Proofs.Ytgjkjibllgpnjaa
