/- A puzzle's steps: plain laws. No program stands here. -/
import Derived.Test.YtbhabpenlaklcaaDoorP21
set_option linter.unusedVariables false
set_option linter.unusedSimpArgs false
namespace Go.Proofs.YtbhabpenlaklcaaDoor
open Go Go.RowKit

/-- Whether a step is valid. -/
def stepB (kd pc : Int) : Bool := if kd = 1 ∨ kd = 3 then decide (1 ≤ pc ∧ pc ≤ 20) else decide (2 ≤ kd ∧ kd ≤ 6) && decide (pc = 0)
/-- A number put to its place in a rising row. -/
def insA (l : List Int) (x : Int) : List Int := l.takeWhile (fun y => decide (y < x)) ++ [x] ++ l.dropWhile (fun y => decide (y < x))
structure PzD where
  tot : Int
  la : List Int
  hand : Int
  rj : List Int
  sl : Bool
def PzD.ok (p : PzD) : Prop := PzOk p.tot p.la p.hand p.rj p.sl
def PzD.zero : PzD := ⟨0, [], 0, [], false⟩
/-- Whether a valid step is possible. -/
def stOk (p : PzD) (kd pc : Int) : Bool :=
  if p.sl = true then decide (kd = 6)
  else if kd = 1 then decide (p.hand = 0) && decide (pc ∈ waitL p.tot p.la p.hand p.rj)
  else if kd = 2 then decide (0 < p.hand)
  else if kd = 3 then decide (p.hand = 0) && decide (p.la ≠ []) && decide (p.la.getD (p.la.length - 1) 0 = pc)
  else if kd = 4 then decide (0 < p.hand)
  else if kd = 5 then decide (p.hand = 0) && decide (waitL p.tot p.la p.hand p.rj = [])
  else false
/-- What a possible step makes. -/
def stP (p : PzD) (kd pc : Int) : PzD :=
  if p.sl = true then { p with sl := false }
  else if kd = 1 then { p with hand := pc }
  else if kd = 2 then { p with la := p.la ++ [p.hand], hand := 0 }
  else if kd = 3 then { p with la := p.la.take (p.la.length - 1), hand := pc }
  else if kd = 4 then { p with rj := insA p.rj p.hand, hand := 0 }
  else { p with sl := true }
theorem insA_perm (l : List Int) (x : Int) : List.Perm (insA l x) (l ++ [x]) := by
  unfold insA
  have h := List.takeWhile_append_dropWhile (p := fun y => decide (y < x)) (l := l)
  have h1 : List.Perm (l.takeWhile (fun y => decide (y < x)) ++ [x] ++ l.dropWhile (fun y => decide (y < x))) (l.takeWhile (fun y => decide (y < x)) ++ (l.dropWhile (fun y => decide (y < x)) ++ [x])) := by
    rw [List.append_assoc]
    exact List.Perm.append_left _ List.perm_append_comm
  rw [← List.append_assoc, h] at h1
  exact h1
def ascL (l : List Int) : Prop := ∀ i, i + 1 < l.length → l.getD i 0 < l.getD (i + 1) 0
theorem ascL_pair {l : List Int} : ascL l ↔ l.Pairwise (· < ·) := by
  constructor
  · intro h
    have key : ∀ d i, i + d + 1 < l.length → l.getD i 0 < l.getD (i + d + 1) 0 := by
      intro d
      induction d with
      | zero => intro i hi; exact h i hi
      | succ d ih =>
        intro i hi
        have h1 := ih i (by omega)
        have h2 := h (i + d + 1) (by omega)
        rw [show i + (d + 1) + 1 = i + d + 1 + 1 by omega]
        omega
    rw [List.pairwise_iff_getElem]
    intro i j hi hj hij
    obtain ⟨d, rfl⟩ : ∃ d, j = i + d + 1 := ⟨j - i - 1, by omega⟩
    have := key d i hj
    rw [List.getD_eq_getElem?_getD, List.getD_eq_getElem?_getD, List.getElem?_eq_getElem hi, List.getElem?_eq_getElem hj] at this
    simpa using this
  · intro h i hi
    rw [List.pairwise_iff_getElem] at h
    have := h i (i + 1) (by omega) hi (by omega)
    rw [List.getD_eq_getElem?_getD, List.getD_eq_getElem?_getD, List.getElem?_eq_getElem hi, List.getElem?_eq_getElem (show i < l.length by omega)]
    simpa using this
theorem pair_tw {x : Int} : ∀ {l : List Int}, l.Pairwise (· < ·) → (∀ y ∈ l.takeWhile (fun y => decide (y < x)), y < x) ∧ (∀ y ∈ l.dropWhile (fun y => decide (y < x)), x ≤ y)
  | [], _ => by simp
  | a :: l, h => by
    rw [List.pairwise_cons] at h
    have ih := pair_tw (x := x) h.2
    by_cases ha : a < x
    · simp only [List.takeWhile_cons, List.dropWhile_cons, ha, decide_true, if_true]
      refine ⟨fun y hy => ?_, ih.2⟩
      rcases List.mem_cons.1 hy with rfl | hy
      · exact ha
      · exact ih.1 y hy
    · simp only [List.takeWhile_cons, List.dropWhile_cons, ha, decide_false, Bool.false_eq_true, if_false]
      refine ⟨by simp, fun y hy => ?_⟩
      rcases List.mem_cons.1 hy with rfl | hy
      · omega
      · have := h.1 y hy; omega
theorem insA_asc {l : List Int} {x : Int} (h : ascL l) (hx : x ∉ l) : ascL (insA l x) := by
  rw [ascL_pair] at h ⊢
  unfold insA
  obtain ⟨h1, h2⟩ := pair_tw (x := x) h
  have hs := List.takeWhile_append_dropWhile (p := fun y => decide (y < x)) (l := l)
  rw [← hs, List.pairwise_append] at h
  obtain ⟨ha, hb, hc⟩ := h
  have h3 : ∀ y ∈ l.dropWhile (fun y => decide (y < x)), x < y := fun y hy => by
    have := h2 y hy
    have hne : y ≠ x := fun e => hx (e ▸ (List.dropWhile_sublist _).subset hy)
    omega
  rw [List.append_assoc, List.pairwise_append]
  refine ⟨ha, ?_, fun a ha' b hb' => ?_⟩
  · simp only [List.singleton_append, List.pairwise_cons]
    exact ⟨h3, hb⟩
  · simp only [List.singleton_append, List.mem_cons] at hb'
    rcases hb' with rfl | hb'
    · exact h1 a ha'
    · exact hc a ha' b hb'
/-- The place at which a number stands in a rising row. -/
def plc (l : List Int) (x : Int) (k : Nat) : Prop := k ≤ l.length ∧ (∀ i, i < k → l.getD i 0 < x) ∧ (k < l.length → x ≤ l.getD k 0)
theorem plc_take {l : List Int} {x : Int} {k : Nat} (h : plc l x k) : l.takeWhile (fun y => decide (y < x)) = l.take k ∧ l.dropWhile (fun y => decide (y < x)) = l.drop k := by
  obtain ⟨hk, h, h2⟩ := h
  induction l generalizing k with
  | nil => simp
  | cons a l ih =>
    cases k with
    | zero =>
      have := h2 (by simp)
      simp at this
      simp [List.takeWhile_cons, List.dropWhile_cons, Int.not_lt.2 this]
    | succ k =>
      have h0 : a < x := by simpa using h 0 (by omega)
      have := ih (k := k) (by simpa using hk) (fun i hi => by simpa using h (i + 1) (by omega)) (fun hk => by simpa using h2 (by simpa using hk))
      simp [List.takeWhile_cons, List.dropWhile_cons, h0, this]
theorem insA_plc {l : List Int} {x : Int} {k : Nat} (h : plc l x k) : insA l x = l.take k ++ [x] ++ l.drop k := by
  unfold insA
  rw [(plc_take h).1, (plc_take h).2]
/-- A possible step of a valid puzzle makes a valid puzzle. -/
theorem st_valid {p : PzD} {kd pc : Int} (hp : p.ok) (hs : stepB kd pc = true) (ho : stOk p kd pc = true) : (stP p kd pc).ok := by
  obtain ⟨tot, la, hand, rj, sl⟩ := p
  unfold PzD.ok at hp ⊢
  simp only at hp
  unfold stOk at ho
  unfold stP
  simp only at ho ⊢
  have hnp : ∀ {l m : List Int}, List.Perm l m → m.Nodup → l.Nodup := fun h hm => (h.nodup_iff).2 hm
  by_cases h0 : sl = true
  · rw [if_pos h0]
    exact ⟨hp.t1, hp.t2, hp.asc, hp.nd, hp.rg, fun e => by cases e⟩
  · rw [if_neg h0] at ho ⊢
    have h0' : sl = false := by simpa using h0
    subst h0'
    by_cases h1 : kd = 1
    · rw [if_pos h1] at ho ⊢
      simp only [Bool.and_eq_true, decide_eq_true_eq] at ho
      obtain ⟨hh, hw⟩ := ho
      subst hh
      rw [waitL_notIn, mem_notIn] at hw
      obtain ⟨w1, w2, w3⟩ := hw
      have e1 : pcs la rj 0 = la ++ rj := by simp [pcs]
      have e2 : pcs la rj pc = la ++ rj ++ [pc] := by simp only [pcs]; rw [if_neg (by omega)]
      have hnd := hp.nd
      have hrg := hp.rg
      rw [e1] at w3 hnd hrg
      have ht := hp.t1
      refine ⟨hp.t1, hp.t2, hp.asc, ?_, ?_, fun e => by cases e⟩
      · rw [e2, nodup_snoc]; exact ⟨hnd, w3⟩
      · rw [e2]
        intro x hx
        rcases List.mem_append.1 hx with hx | hx
        · exact hrg x hx
        · simp only [List.mem_singleton] at hx
          rw [hx]
          refine ⟨w1, ?_⟩
          show pc ≤ tot
          omega
    · rw [if_neg h1] at ho ⊢
      by_cases h2 : kd = 2
      · rw [if_pos h2] at ho ⊢
        simp only [decide_eq_true_eq] at ho
        have e1 : pcs la rj hand = la ++ rj ++ [hand] := by simp only [pcs]; rw [if_neg (by omega)]
        have e2 : pcs (la ++ [hand]) rj 0 = la ++ [hand] ++ rj := by simp [pcs]
        have hpm : List.Perm (pcs (la ++ [hand]) rj 0) (pcs la rj hand) := by
          rw [e1, e2, List.append_assoc, List.append_assoc]
          exact List.Perm.append_left _ List.perm_append_comm
        exact ⟨hp.t1, hp.t2, hp.asc, hnp hpm hp.nd, fun x hx => hp.rg x (hpm.mem_iff.1 hx), fun e => by cases e⟩
      · rw [if_neg h2] at ho ⊢
        by_cases h3 : kd = 3
        · rw [if_pos h3] at ho ⊢
          simp only [Bool.and_eq_true, decide_eq_true_eq] at ho
          obtain ⟨⟨hh, hne⟩, hl⟩ := ho
          subst hh
          have hlen : 0 < la.length := List.length_pos_iff.2 hne
          have hsp : la = la.take (la.length - 1) ++ [pc] := by
            have := take_snoc la (la.length - 1) (by omega)
            rw [show la.length - 1 + 1 = la.length by omega, List.take_length, hl] at this
            exact this
          have hpc : pc ≠ 0 := by
            have h1 : pc ∈ pcs la rj 0 := by
              have : pc ∈ la := by rw [hsp]; simp
              simp [pcs, this]
            have := hp.rg pc h1
            omega
          have e1 : pcs la rj 0 = la ++ rj := by simp [pcs]
          have e2 : pcs (la.take (la.length - 1)) rj pc = la.take (la.length - 1) ++ rj ++ [pc] := by simp only [pcs]; rw [if_neg hpc]
          have hpm : List.Perm (pcs (la.take (la.length - 1)) rj pc) (pcs la rj 0) := by
            rw [e1, e2]
            have : List.Perm (la.take (la.length - 1) ++ rj ++ [pc]) ((la.take (la.length - 1) ++ [pc]) ++ rj) := by
              rw [List.append_assoc, List.append_assoc]
              exact List.Perm.append_left _ List.perm_append_comm
            rw [← hsp] at this
            exact this
          exact ⟨hp.t1, hp.t2, hp.asc, hnp hpm hp.nd, fun x hx => hp.rg x (hpm.mem_iff.1 hx), fun e => by cases e⟩
        · rw [if_neg h3] at ho ⊢
          by_cases h4 : kd = 4
          · rw [if_pos h4] at ho ⊢
            simp only [decide_eq_true_eq] at ho
            have e1 : pcs la rj hand = la ++ rj ++ [hand] := by simp only [pcs]; rw [if_neg (by omega)]
            have e2 : pcs la (insA rj hand) 0 = la ++ insA rj hand := by simp [pcs]
            have hpm : List.Perm (pcs la (insA rj hand) 0) (pcs la rj hand) := by
              rw [e1, e2, List.append_assoc]
              exact List.Perm.append_left _ (insA_perm rj hand)
            have hnr : hand ∉ rj := by
              have := hp.nd
              rw [e1, nodup_snoc] at this
              exact fun hm => this.2 (by simp [hm])
            exact ⟨hp.t1, hp.t2, insA_asc hp.asc hnr, hnp hpm hp.nd, fun x hx => hp.rg x (hpm.mem_iff.1 hx), fun e => by cases e⟩
          · rw [if_neg h4] at ho ⊢
            by_cases h5 : kd = 5
            · rw [if_pos h5] at ho
              simp only [Bool.and_eq_true, decide_eq_true_eq] at ho
              obtain ⟨hh, hw⟩ := ho
              have hl := waitL_len hp
              rw [hw] at hl
              simp only [List.length_nil, Nat.zero_add] at hl
              have ht := hp.t1
              exact ⟨hp.t1, hp.t2, hp.asc, hp.nd, hp.rg, fun _ => ⟨hh, by show ((pcs la rj hand).length : Int) = tot; omega⟩⟩
            · rw [if_neg h5] at ho
              cases ho
end Go.Proofs.YtbhabpenlaklcaaDoor
