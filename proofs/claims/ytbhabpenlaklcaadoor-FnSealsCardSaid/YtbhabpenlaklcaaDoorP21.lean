/- Puzzles: plain laws. No program stands here. -/
import Derived.Test.YtbhabpenlaklcaaDoorD4
set_option linter.unusedVariables false
set_option linter.unusedSimpArgs false
namespace Go.Proofs.YtbhabpenlaklcaaDoor
open Go Go.RowKit

theorem take_snoc (l : List Int) (k : Nat) (h : k < l.length) : l.take (k + 1) = l.take k ++ [l.getD k 0] := by
  rw [List.take_add_one, List.getElem?_eq_getElem h, List.getD_eq_getElem?_getD, List.getElem?_eq_getElem h]
  rfl
theorem nodup_snoc (l : List Int) (x : Int) : (l ++ [x]).Nodup ↔ l.Nodup ∧ x ∉ l := by
  rw [List.nodup_append]
  constructor
  · rintro ⟨h1, _, h3⟩
    exact ⟨h1, fun hx => h3 x hx x (by simp) rfl⟩
  · rintro ⟨h1, h2⟩
    refine ⟨h1, by simp, fun a ha b hb => ?_⟩
    simp only [List.mem_singleton] at hb
    subst hb
    exact fun e => h2 (e ▸ ha)
theorem nodup_cat (l m : List Int) : (l ++ m).Nodup ↔ l.Nodup ∧ m.Nodup ∧ ∀ x ∈ l, x ∉ m := by
  rw [List.nodup_append]
  constructor
  · rintro ⟨h1, h2, h3⟩
    exact ⟨h1, h2, fun x hx hm => h3 x hx x hm rfl⟩
  · rintro ⟨h1, h2, h3⟩
    exact ⟨h1, h2, fun a ha b hb e => h3 a ha (e ▸ hb)⟩
/-- The numbers from 1 to t. -/
def upto : Nat → List Int
  | 0 => []
  | t + 1 => upto t ++ [((t : Int) + 1)]
theorem mem_upto {x : Int} : ∀ {t : Nat}, x ∈ upto t ↔ 1 ≤ x ∧ x ≤ t
  | 0 => by simp [upto]; omega
  | t + 1 => by
    simp only [upto, List.mem_append, mem_upto (t := t), List.mem_singleton]
    omega
/-- The numbers from 1 to t that are not in l. -/
def notIn (l : List Int) (t : Nat) : List Int := (upto t).filter fun x => !l.contains x
theorem notIn_succ (l : List Int) (t : Nat) : notIn l (t + 1) = if ((t : Int) + 1) ∈ l then notIn l t else notIn l t ++ [((t : Int) + 1)] := by
  unfold notIn
  simp only [upto, List.filter_append]
  by_cases h : ((t : Int) + 1) ∈ l
  · simp [h]
  · simp [h]
theorem mem_notIn {l : List Int} {t : Nat} {x : Int} : x ∈ notIn l t ↔ 1 ≤ x ∧ x ≤ t ∧ x ∉ l := by
  simp [notIn, mem_upto]; exact and_assoc
theorem notIn_congr {l m : List Int} {t : Nat} (h : ∀ x : Int, 1 ≤ x → x ≤ t → (x ∈ l ↔ x ∈ m)) : notIn l t = notIn m t := by
  unfold notIn
  refine List.filter_congr fun x hx => ?_
  have hx := mem_upto.1 hx
  simp [h x hx.1 hx.2]
theorem len_filter_ne (l : List Int) (a : Int) : l.Nodup → (l.filter (fun x => decide (x ≠ a))).length + (if a ∈ l then 1 else 0) = l.length := by
  induction l with
  | nil => intro _; simp
  | cons b l ih =>
    intro h
    rw [List.nodup_cons] at h
    have := ih h.2
    by_cases hb : b = a
    · subst hb
      have e : (l.filter (fun x => decide (x ≠ b))).length = l.length := by
        have := this; rw [if_neg h.1] at this; omega
      simp only [List.filter_cons]
      simp
      simpa using e
    · have e1 : (a ∈ b :: l) = (a ∈ l) := by simp [Ne.symm hb]
      simp only [List.filter_cons]
      simp only [ne_eq, hb, not_false_eq_true, decide_true, ↓reduceIte, List.length_cons, e1]
      simp only [ne_eq] at this
      omega
/-- As many in as out. -/
theorem len_notIn : ∀ (t : Nat) (l : List Int), l.Nodup → (∀ x ∈ l, 1 ≤ x ∧ x ≤ t) → l.length + (notIn l t).length = t
  | 0, l, _, h => by
    cases l with
    | nil => simp [notIn, upto]
    | cons a l => have := h a (by simp); omega
  | t + 1, l, hn, h => by
    have hf := len_filter_ne l ((t : Int) + 1) hn
    have ih := len_notIn t (l.filter (fun x => decide (x ≠ (t : Int) + 1))) (hn.filter _) (fun x hx => by
      simp only [List.mem_filter, decide_eq_true_eq] at hx
      have := h x hx.1
      have h2 := hx.2
      constructor
      · omega
      · have h3 := this.2
        have : x ≠ (t : Int) + 1 := h2
        omega)
    have e : notIn (l.filter (fun x => decide (x ≠ (t : Int) + 1))) t = notIn l t := notIn_congr fun x h1 h2 => by
      simp only [List.mem_filter, decide_eq_true_eq]
      exact ⟨fun hh => hh.1, fun hh => ⟨hh, by omega⟩⟩
    rw [e] at ih
    rw [notIn_succ]
    by_cases hm : ((t : Int) + 1) ∈ l
    · rw [if_pos hm] at hf ⊢
      omega
    · rw [if_neg hm] at hf ⊢
      simp only [List.length_append, List.length_singleton]
      omega
theorem len_le {t : Nat} {l : List Int} (hn : l.Nodup) (h : ∀ x ∈ l, 1 ≤ x ∧ x ≤ t) : l.length ≤ t := by
  have := len_notIn t l hn h
  omega

/-- All pieces that are somewhere. -/
def pcs (la rj : List Int) (hand : Int) : List Int := (la ++ rj) ++ (if hand = 0 then [] else [hand])
structure PzOk (tot : Int) (la : List Int) (hand : Int) (rj : List Int) (sealed : Bool) : Prop where
  t1 : 1 ≤ tot
  t2 : tot ≤ 20
  asc : ∀ i, i + 1 < rj.length → rj.getD i 0 < rj.getD (i + 1) 0
  nd : (pcs la rj hand).Nodup
  rg : ∀ x ∈ pcs la rj hand, 1 ≤ x ∧ x ≤ tot
  sl : sealed = true → hand = 0 ∧ ((pcs la rj hand).length : Int) = tot
open Classical in
noncomputable def pzB (tot : Int) (la : List Int) (hand : Int) (rj : List Int) (sealed : Bool) : Bool := decide (PzOk tot la hand rj sealed)
open Classical in
theorem pzB_iff {tot : Int} {la : List Int} {hand : Int} {rj : List Int} {sealed : Bool} : pzB tot la hand rj sealed = true ↔ PzOk tot la hand rj sealed := by unfold pzB; exact decide_eq_true_iff
theorem pzB_no {tot : Int} {la : List Int} {hand : Int} {rj : List Int} {sealed : Bool} (h : ¬ PzOk tot la hand rj sealed) : pzB tot la hand rj sealed = false := by
  rw [Bool.eq_false_iff, Ne, pzB_iff]; exact h
theorem pzB_yes {tot : Int} {la : List Int} {hand : Int} {rj : List Int} {sealed : Bool} (h : PzOk tot la hand rj sealed) : pzB tot la hand rj sealed = true := pzB_iff.2 h
theorem nodup_asc {l : List Int} (h : ∀ i, i + 1 < l.length → l.getD i 0 < l.getD (i + 1) 0) : l.Nodup := by
  have key : ∀ d i, i + d + 1 < l.length → l.getD i 0 < l.getD (i + d + 1) 0 := by
    intro d
    induction d with
    | zero => intro i hi; exact h i hi
    | succ d ih =>
      intro i hi
      have h1 := ih i (by omega)
      have h2 := h (i + d + 1) (by omega)
      rw [show i + (d + 1) + 1 = i + d + 1 + 1 by omega]
      omega
  rw [List.nodup_iff_pairwise_ne, List.pairwise_iff_getElem]
  intro i j hi hj hij
  obtain ⟨d, rfl⟩ : ∃ d, j = i + d + 1 := ⟨j - i - 1, by omega⟩
  have := key d i hj
  rw [List.getD_eq_getElem?_getD, List.getD_eq_getElem?_getD, List.getElem?_eq_getElem hi, List.getElem?_eq_getElem hj] at this
  simp only [Option.getD_some] at this
  omega
/-- What the reference asks. -/
structure PzSp (tot : Int) (la : List Int) (hand : Int) (rj : List Int) (sealed : Bool) : Prop where
  t1 : 1 ≤ tot
  t2 : tot ≤ 20
  h1 : 0 ≤ hand
  h2 : hand ≤ tot
  ll : (la.length : Int) ≤ tot
  asc : ∀ i, i < rj.length → (1 ≤ rj.getD i 0 ∧ rj.getD i 0 ≤ tot) ∧ (0 < i → rj.getD (i - 1) 0 < rj.getD i 0)
  lay : ∀ i, i < la.length → (1 ≤ la.getD i 0 ∧ la.getD i 0 ≤ tot) ∧ la.getD i 0 ≠ hand ∧ la.getD i 0 ∉ la.take i ∧ la.getD i 0 ∉ rj
  hr : 0 < hand → hand ∉ rj
  sl : sealed = true → hand = 0 ∧ notIn (pcs la rj hand) tot.toNat = []
theorem getD_mem {l : List Int} {i : Nat} (h : i < l.length) : l.getD i 0 ∈ l := by
  rw [List.getD_eq_getElem?_getD, List.getElem?_eq_getElem h]
  exact List.getElem_mem h
theorem mem_getD {l : List Int} {x : Int} (h : x ∈ l) : ∃ i, i < l.length ∧ l.getD i 0 = x := by
  obtain ⟨i, hi, e⟩ := List.getElem_of_mem h
  exact ⟨i, hi, by rw [List.getD_eq_getElem?_getD, List.getElem?_eq_getElem hi]; exact e⟩
theorem nodup_takes {l : List Int} (h : ∀ i, i < l.length → l.getD i 0 ∉ l.take i) : ∀ k, k ≤ l.length → (l.take k).Nodup
  | 0, _ => by simp
  | k + 1, hk => by
    rw [take_snoc l k (by omega), nodup_snoc]
    exact ⟨nodup_takes h k (by omega), h k (by omega)⟩
theorem nodup_not_take {l : List Int} (h : l.Nodup) {i : Nat} (hi : i < l.length) : l.getD i 0 ∉ l.take i := by
  have h2 : (l.take (i + 1)).Nodup := h.sublist (List.take_sublist _ _)
  rw [take_snoc l i hi, nodup_snoc] at h2
  exact h2.2
theorem pz_iff {tot : Int} {la : List Int} {hand : Int} {rj : List Int} {sealed : Bool} : PzSp tot la hand rj sealed ↔ PzOk tot la hand rj sealed := by
  constructor
  · intro h
    have hla : la.Nodup := by
      have := nodup_takes (fun i hi => (h.lay i hi).2.2.1) la.length (Nat.le_refl _)
      rwa [List.take_length] at this
    have hrj : rj.Nodup := nodup_asc fun i hi => by
      have := (h.asc (i + 1) hi).2 (by omega)
      simpa using this
    have hd : ∀ x ∈ la, x ∉ rj ∧ x ≠ hand ∧ 1 ≤ x ∧ x ≤ tot := fun x hx => by
      obtain ⟨i, hi, rfl⟩ := mem_getD hx
      have := h.lay i hi
      exact ⟨this.2.2.2, this.2.1, this.1.1, this.1.2⟩
    have hd2 : ∀ x ∈ rj, 1 ≤ x ∧ x ≤ tot := fun x hx => by
      obtain ⟨i, hi, rfl⟩ := mem_getD hx
      exact (h.asc i hi).1
    have hlr : (la ++ rj).Nodup := (nodup_cat _ _).2 ⟨hla, hrj, fun x hx => (hd x hx).1⟩
    have hnd : (pcs la rj hand).Nodup := by
      unfold pcs
      split
      · simpa using hlr
      · rename_i h0
        rw [nodup_snoc]
        refine ⟨hlr, fun hm => ?_⟩
        rcases List.mem_append.1 hm with hm | hm
        · exact (hd _ hm).2.1 rfl
        · exact h.hr (by have := h.h1; omega) hm
    have hrg : ∀ x ∈ pcs la rj hand, 1 ≤ x ∧ x ≤ tot := fun x hx => by
      unfold pcs at hx
      rcases List.mem_append.1 hx with hx | hx
      · rcases List.mem_append.1 hx with hx | hx
        · exact (hd x hx).2.2
        · exact hd2 x hx
      · split at hx
        · simp at hx
        · simp only [List.mem_singleton] at hx
          subst hx
          have := h.h1; have := h.h2
          omega
    refine ⟨h.t1, h.t2, fun i hi => ?_, hnd, hrg, fun hs => ?_⟩
    · have := (h.asc (i + 1) hi).2 (by omega)
      simpa using this
    · obtain ⟨h0, hw⟩ := h.sl hs
      have h1 := h.t1
      have := len_notIn tot.toNat (pcs la rj hand) hnd (fun x hx => by have := hrg x hx; omega)
      rw [hw] at this
      simp only [List.length_nil] at this
      exact ⟨h0, by omega⟩
  · intro h
    have h1 := h.t1
    have hnd := h.nd
    have hrg := h.rg
    have hlr : (la ++ rj).Nodup := by
      unfold pcs at hnd
      exact hnd.sublist (List.sublist_append_left _ _)
    obtain ⟨hla, hrj, hdis⟩ := (nodup_cat _ _).1 hlr
    have hml : ∀ x ∈ la, x ∈ pcs la rj hand := fun x hx => by unfold pcs; simp [hx]
    have hmr : ∀ x ∈ rj, x ∈ pcs la rj hand := fun x hx => by unfold pcs; simp [hx]
    have hh : 0 ≤ hand ∧ hand ≤ tot := by
      by_cases h0 : hand = 0
      · omega
      · have := hrg hand (by unfold pcs; simp [h0])
        omega
    have hhn : hand ≠ 0 → hand ∉ la ∧ hand ∉ rj := fun h0 => by
      unfold pcs at hnd
      rw [if_neg h0, nodup_snoc] at hnd
      simpa using hnd.2
    refine ⟨h1, h.t2, hh.1, hh.2, ?_, fun i hi => ⟨hrg _ (hmr _ (getD_mem hi)), fun hp => ?_⟩, fun i hi => ⟨hrg _ (hml _ (getD_mem hi)), fun e => ?_, nodup_not_take hla hi, hdis _ (getD_mem hi)⟩, fun h0 => (hhn (by omega)).2, fun hs => ?_⟩
    · have := len_le (t := tot.toNat) hla (fun x hx => by have := hrg x (hml x hx); omega)
      omega
    · have := h.asc (i - 1) (by omega)
      rwa [show i - 1 + 1 = i by omega] at this
    · by_cases h0 : hand = 0
      · have := hrg _ (hml _ (getD_mem hi))
        omega
      · exact (hhn h0).1 (e ▸ getD_mem hi)
    · obtain ⟨h0, hl⟩ := h.sl hs
      have := len_notIn tot.toNat (pcs la rj hand) hnd (fun x hx => by have := hrg x hx; omega)
      exact ⟨h0, List.eq_nil_of_length_eq_zero (by omega)⟩
/-- The pieces that wait. -/
def waitL (tot : Int) (la : List Int) (hand : Int) (rj : List Int) : List Int := (upto tot.toNat).filter fun x => decide (x ≠ hand ∧ x ∉ la ∧ x ∉ rj)
theorem waitL_notIn (tot : Int) (la : List Int) (hand : Int) (rj : List Int) : waitL tot la hand rj = notIn (pcs la rj hand) tot.toNat := by
  unfold waitL notIn
  refine List.filter_congr fun x hx => ?_
  have hx := mem_upto.1 hx
  unfold pcs
  rw [Bool.eq_iff_iff]
  by_cases h0 : hand = 0
  · subst h0
    simp
    omega
  · simp [h0]
    constructor
    · rintro ⟨a, b, c⟩; exact ⟨b, c, a⟩
    · rintro ⟨a, b, c⟩; exact ⟨c, a, b⟩
theorem waitL_len {tot : Int} {la : List Int} {hand : Int} {rj : List Int} {sealed : Bool} (h : PzOk tot la hand rj sealed) : (waitL tot la hand rj).length + (pcs la rj hand).length = tot.toNat := by
  rw [waitL_notIn]
  have h1 := h.t1
  have := len_notIn tot.toNat (pcs la rj hand) h.nd (fun x hx => by have := h.rg x hx; omega)
  omega
end Go.Proofs.YtbhabpenlaklcaaDoor
