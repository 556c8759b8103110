/- What the search for exchanges visits: plain laws. No program stands here. -/
import Derived.Test.YtnaldmmdhpobgaaP20e
set_option linter.unusedVariables false
set_option linter.unusedSimpArgs false
namespace Go.Proofs.Ytnaldmmdhpobgaa
open Go Go.RowKit

theorem restS_inv {T : Type} {ls : List (List Int)} {w : List Int → Int} {sub : Nat → List (List Int) → Int → T → T} {first : Nat} {bg : List (List Int)} {val : Int} (I : T → Prop)
    (hs : ∀ k, first ≤ k → k < ls.length → freeB bg (rowOf ls k) = true → ∀ t, I t → I (sub (k + 1) (bg ++ [rowOf ls k]) (val + w (rowOf ls k)) t)) {t : T} (ht : I t) : ∀ j, j ≤ ls.length - first → I (restS ls w sub first bg val t j)
  | 0, _ => ht
  | j + 1, hj => by
    have ih := restS_inv I hs ht j (by omega)
    simp only [restS]
    split
    · rename_i h
      exact hs _ (by omega) (by omega) h _ ih
    · exact ih
/-- What holds of all that is visited holds of what the search keeps. -/
theorem srch_inv {T : Type} {ls : List (List Int)} {w : List Int → Int} {at_ : List (List Int) → Int → T → T} (I : T → Prop) (V : List (List Int) → Nat → Int → Prop)
    (hV : ∀ bg first val k, V bg first val → first ≤ k → k < ls.length → freeB bg (rowOf ls k) = true → V (bg ++ [rowOf ls k]) (k + 1) (val + w (rowOf ls k)))
    (hat : ∀ bg first val t, V bg first val → I t → I (at_ bg val t)) : ∀ (u first : Nat) (bg : List (List Int)) (val : Int) (t : T), V bg first val → I t → I (srch ls w at_ u first bg val t)
  | 0, first, bg, val, t, hv, ht => hat _ _ _ _ hv ht
  | u + 1, first, bg, val, t, hv, ht => by
    simp only [srch]
    exact restS_inv I (fun k h1 h2 h3 t ht => srch_inv I V hV hat u (k + 1) _ _ t (hV _ _ _ _ hv h1 h2 h3) ht) (hat _ _ _ _ hv ht) _ (Nat.le_refl _)
def sumW (w : List Int → Int) : List (List Int) → Int
  | [] => 0
  | c :: l => w c + sumW w l
theorem sumW_app (w : List Int → Int) : ∀ a b, sumW w (a ++ b) = sumW w a + sumW w b
  | [], b => by simp [sumW]
  | c :: a, b => by
    have := sumW_app w a b
    simp only [List.cons_append, sumW]
    omega
theorem sumW_one (w : List Int → Int) (c : List Int) : sumW w [c] = w c := by simp [sumW]
/-- An exchange begun, by what it takes. -/
structure SV (ls : List (List Int)) (w : List Int → Int) (bg : List (List Int)) (first : Nat) (val : Int) : Prop where
  ix : ∃ is : List Nat, bg = is.map (rowOf ls) ∧ is.Pairwise (fun a b => a < b) ∧ ∀ i ∈ is, i < first ∧ i < ls.length
  ap : bg.Pairwise fun d c => aptB d c = true
  val : val = sumW w bg
theorem freeB_iff {bg : List (List Int)} {c : List Int} : freeB bg c = true ↔ ∀ d ∈ bg, aptB d c = true := by
  unfold freeB
  rw [List.all_eq_true]
theorem SV.zero {ls : List (List Int)} {w : List Int → Int} : SV ls w [] 0 0 := ⟨⟨[], rfl, .nil, fun i hi => by simp at hi⟩, .nil, rfl⟩
theorem SV.next {ls : List (List Int)} {w : List Int → Int} (bg : List (List Int)) (first : Nat) (val : Int) (k : Nat) (h : SV ls w bg first val) (h1 : first ≤ k) (h2 : k < ls.length) (h3 : freeB bg (rowOf ls k) = true) : SV ls w (bg ++ [rowOf ls k]) (k + 1) (val + w (rowOf ls k)) := by
  obtain ⟨⟨is, rfl, hp, hi⟩, hap, hv⟩ := h
  refine ⟨⟨is ++ [k], by simp, ?_, fun i hm => ?_⟩, ?_, ?_⟩
  · rw [List.pairwise_append]
    refine ⟨hp, List.pairwise_singleton _ _, fun a ha b hb => ?_⟩
    have : b = k := by simpa using hb
    have := hi a ha
    omega
  · rw [List.mem_append, List.mem_singleton] at hm
    rcases hm with hm | rfl
    · have := hi i hm; omega
    · omega
  · rw [List.pairwise_append]
    refine ⟨hap, List.pairwise_singleton _ _, fun a ha b hb => ?_⟩
    have : b = rowOf ls k := by simpa using hb
    subst this
    exact freeB_iff.1 h3 a ha
  · rw [sumW_app, sumW_one, ← hv]
/-- What the reference keeps is an exchange that it visited. -/
theorem srch_sv (ls : List (List Int)) (w : List Int → Int) (u : Nat) : ∃ first, SV ls w (srch ls w updS u 0 [] 0 ([], 0)).1 first (srch ls w updS u 0 [] 0 ([], 0)).2 := by
  refine srch_inv (I := fun t : List (List Int) × Int => ∃ first, SV ls w t.1 first t.2) (SV ls w) (fun bg first val k => SV.next bg first val k) (fun bg first val t hv ht => ?_) u 0 [] 0 ([], 0) .zero ⟨0, .zero⟩
  unfold updS
  split
  · exact ⟨first, hv⟩
  · exact ht
theorem restS_more {T : Type} {ls : List (List Int)} {w : List Int → Int} {sub : Nat → List (List Int) → Int → T → T} {first : Nat} {bg : List (List Int)} {val : Int} {t : T} (I : T → Prop)
    (hs : ∀ k t, I t → I (sub (k + 1) (bg ++ [rowOf ls k]) (val + w (rowOf ls k)) t)) {j : Nat} (h : I (restS ls w sub first bg val t j)) : ∀ i, I (restS ls w sub first bg val t (j + i))
  | 0 => h
  | i + 1 => by
    have ih := restS_more I hs h i
    rw [← Nat.add_assoc]
    simp only [restS]
    split
    · exact hs _ _ ih
    · exact ih
/-- Every exchange is visited: what is reached there and is never lost holds in the end. -/
theorem srch_path {T : Type} {ls : List (List Int)} {w : List Int → Int} {at_ : List (List Int) → Int → T → T} (I : T → Prop) (hm : ∀ bg val t, I t → I (at_ bg val t)) :
    ∀ (is : List Nat) (u first : Nat) (bg : List (List Int)) (val : Int) (t : T), is.Pairwise (fun a b => a < b) → (∀ i ∈ is, first ≤ i ∧ i < ls.length) → (bg ++ is.map (rowOf ls)).Pairwise (fun d c => aptB d c = true) → ls.length - first ≤ u →
      (∀ t, I (at_ (bg ++ is.map (rowOf ls)) (val + sumW w (is.map (rowOf ls))) t)) → I (srch ls w at_ u first bg val t)
  | [], u, first, bg, val, t, hp, hi, hap, hu, h => by
    have h0 : ∀ t, I (at_ bg val t) := fun t => by
      have := h t
      simp only [List.map_nil, List.append_nil, sumW, Int.add_zero] at this
      exact this
    cases u with
    | zero => exact h0 t
    | succ u =>
      simp only [srch]
      exact restS_inv I (fun k h1 h2 h3 t ht => srch_inv I (fun _ _ _ => True) (fun _ _ _ _ _ _ _ _ => trivial) (fun _ _ _ _ _ ht => hm _ _ _ ht) u _ _ _ t trivial ht) (h0 t) _ (Nat.le_refl _)
  | i :: is, u, first, bg, val, t, hp, hi, hap, hu, h => by
    obtain ⟨hi1, hi2⟩ := hi i List.mem_cons_self
    rw [List.pairwise_cons] at hp
    cases u with
    | zero => omega
    | succ u =>
      simp only [srch]
      have hfree : freeB bg (rowOf ls i) = true := freeB_iff.2 fun d hd => (List.pairwise_append.1 hap).2.2 d hd _ (by simp)
      have hsub : ∀ t, I (srch ls w at_ u (i + 1) (bg ++ [rowOf ls i]) (val + w (rowOf ls i)) t) := fun t =>
        srch_path I hm is u (i + 1) (bg ++ [rowOf ls i]) (val + w (rowOf ls i)) t hp.2 (fun k hk => ⟨by have := hp.1 k hk; omega, (hi k (List.mem_cons_of_mem _ hk)).2⟩) (by simpa using hap) (by omega) (fun t => by
          have := h t
          simp only [List.map_cons, sumW] at this
          rw [List.append_assoc, List.singleton_append, Int.add_assoc]
          exact this)
      obtain ⟨j, rfl⟩ : ∃ j, i = first + j := ⟨i - first, by omega⟩
      have h1 : I (restS ls w (srch ls w at_ u) first bg val (at_ bg val t) (j + 1)) := by
        simp only [restS, hfree, if_true]
        exact hsub _
      have h2 := restS_more I (fun k t ht => srch_inv I (fun _ _ _ => True) (fun _ _ _ _ _ _ _ _ => trivial) (fun _ _ _ _ _ ht => hm _ _ _ ht) u _ _ _ t trivial ht) h1 (ls.length - first - (j + 1))
      rw [show j + 1 + (ls.length - first - (j + 1)) = ls.length - first by omega] at h2
      exact h2
/-- No exchange is better than the one that is kept. -/
theorem srch_ge (ls : List (List Int)) (w : List Int → Int) {bg : List (List Int)} {first : Nat} {val : Int} (h : SV ls w bg first val) (t : List (List Int) × Int) : val ≤ (srch ls w updS ls.length 0 [] 0 t).2 := by
  obtain ⟨⟨is, rfl, hp, hi⟩, hap, hv⟩ := h
  refine srch_path (I := fun t : List (List Int) × Int => val ≤ t.2) (fun bg v t ht => ?_) is ls.length 0 [] 0 t hp (fun i hi' => ⟨Nat.zero_le _, (hi i hi').2⟩) (by simpa using hap) (by omega) (fun t => ?_)
  · rw [updS_snd]; omega
  · rw [updS_snd, Int.zero_add, ← hv]; omega
theorem SV.other {ls : List (List Int)} {w w' : List Int → Int} {bg : List (List Int)} {first : Nat} {val : Int} (h : SV ls w bg first val) : SV ls w' bg first (sumW w' bg) := ⟨h.ix, h.ap, rfl⟩
theorem SV.one {ls : List (List Int)} {w : List Int → Int} {k : Nat} (hk : k < ls.length) : SV ls w [rowOf ls k] (k + 1) (w (rowOf ls k)) := by
  have := SV.next [] 0 0 k (SV.zero (ls := ls) (w := w)) (Nat.zero_le _) hk rfl
  rw [Int.zero_add, List.nil_append] at this
  exact this
theorem rowOf_get {ls : List (List Int)} {i : Nat} (h : i < ls.length) : rowOf ls i = ls[i] := by
  unfold rowOf
  rw [List.getD_eq_getElem?_getD, List.getElem?_eq_getElem h]
  rfl
theorem take_rowOf {ls : List (List Int)} {k : Nat} (h : k < ls.length) : ls.take (k + 1) = ls.take k ++ [rowOf ls k] := by
  rw [List.take_succ_eq_append_getElem h, rowOf_get h]
theorem llLen_flat (ls : List (List Int)) : ∀ k, k ≤ ls.length → llLen ls k = (ls.take k).flatten.length
  | 0, _ => by simp [llLen]
  | k + 1, hk => by
    have ih := llLen_flat ls k (by omega)
    rw [llLen, ih, take_rowOf (by omega), List.flatten_append, List.length_append]
    simp
theorem pplL_flat (ls : List (List Int)) : pplL ls = ls.flatten.length := by
  have := llLen_flat ls ls.length (Nat.le_refl _)
  rw [List.take_length] at this
  exact this
theorem pplL_sum : ∀ ls : List (List Int), ((pplL ls : Nat) : Int) = sumW (fun c => (c.length : Int)) ls := by
  intro ls
  rw [pplL_flat]
  induction ls with
  | nil => rfl
  | cons c ls ih =>
    simp only [List.flatten_cons, List.length_append, sumW, Int.natCast_add]
    omega
theorem nd_le : ∀ (n : Nat) (l : List Int), l.Nodup → (∀ x ∈ l, 0 ≤ x ∧ x < (n : Int)) → l.length ≤ n
  | 0, l, _, h => by
    cases l with
    | nil => simp
    | cons a l => have := h a List.mem_cons_self; omega
  | n + 1, l, hd, h => by
    have ih := nd_le n (l.erase (n : Int)) (hd.erase _) (fun x hx => by
      have := hd.mem_erase_iff.1 hx
      have h2 := h x this.2
      have h3 := this.1
      omega)
    by_cases hm : (n : Int) ∈ l
    · rw [List.length_erase_of_mem hm] at ih
      omega
    · rw [List.erase_of_not_mem hm] at ih
      omega
theorem apt_iff {a b : List Int} : aptB a b = true ↔ ∀ x ∈ a, x ∉ b := by unfold aptB; simp
theorem ring_nd {n : Int} {l : List Int} (h : rgOk n l.length (rowL l)) : l.Nodup := by
  unfold List.Nodup
  rw [List.pairwise_iff_getElem]
  intro i j hi hj hij
  have := (h.1 j hj).2.2.2 i hij
  simp only [rowL, List.getD_eq_getElem?_getD, List.getElem?_eq_getElem hi, List.getElem?_eq_getElem hj, Option.getD_some] at this
  exact this
theorem ring_in {n : Int} {l : List Int} (h : rgOk n l.length (rowL l)) : ∀ x ∈ l, 0 ≤ x ∧ x < n := by
  intro x hx
  obtain ⟨i, hi, rfl⟩ := List.getElem_of_mem hx
  have := h.1 i hi
  unfold rgAt at this
  simp only [rowL, List.getD_eq_getElem?_getD, List.getElem?_eq_getElem hi, Option.getD_some] at this
  exact ⟨this.1, this.2.1⟩
theorem flat_nd {n : Int} {bg : List (List Int)} (hap : bg.Pairwise fun d c => aptB d c = true) (hr : ∀ c ∈ bg, rgOk n c.length (rowL c)) : bg.flatten.Nodup ∧ ∀ x ∈ bg.flatten, 0 ≤ x ∧ x < n := by
  refine ⟨?_, fun x hx => ?_⟩
  · unfold List.Nodup
    rw [List.pairwise_flatten]
    refine ⟨fun l hl => ring_nd (hr l hl), hap.imp fun {a b} h => ?_⟩
    intro x hx y hy e
    subst e
    exact apt_iff.1 h x hx hy
  · obtain ⟨c, hc, hxc⟩ := List.mem_flatten.1 hx
    exact ring_in (hr c hc) x hxc
theorem SV.mem {ls : List (List Int)} {w : List Int → Int} {bg : List (List Int)} {first : Nat} {val : Int} (h : SV ls w bg first val) : ∀ c ∈ bg, c ∈ ls := by
  obtain ⟨⟨is, rfl, hp, hi⟩, _, _⟩ := h
  intro c hc
  obtain ⟨i, hi', rfl⟩ := List.mem_map.1 hc
  have := (hi i hi').2
  rw [rowOf_get this]
  exact List.getElem_mem _
/-- The first ones of all circles rise. -/
theorem allC_heads {n m : Nat} {f : Nat → Nat → Int} : ∀ k : Nat, k ≤ n → ((allC n m f k).Pairwise fun a b => a.getD 0 0 ≤ b.getD 0 0) ∧ ∀ c ∈ allC n m f k, c.getD 0 0 < (k : Int)
  | 0, _ => ⟨.nil, fun c hc => by simp [allC] at hc⟩
  | k + 1, hk => by
    have ih := allC_heads (n := n) (m := m) (f := f) k (by omega)
    have hc : ∀ c ∈ circs n m f k n [(k : Int)], c.getD 0 0 = (k : Int) := fun c hc => by
      have := (circs_ok (m := m) (f := f) (show k < n by omega) n [(k : Int)] (begC.one (show k < n by omega)) c hc).2
      rw [List.getD_eq_getElem?_getD, this]
      rfl
    simp only [allC]
    refine ⟨?_, fun c h => ?_⟩
    · rw [List.pairwise_append]
      refine ⟨ih.1, ?_, fun a ha b hb => ?_⟩
      · rw [List.pairwise_iff_getElem]
        intro i j hi hj _
        rw [hc _ (List.getElem_mem hi), hc _ (List.getElem_mem hj)]
        omega
      · have := ih.2 a ha
        rw [hc b hb]
        omega
    · rcases List.mem_append.1 h with h | h
      · have := ih.2 c h; omega
      · rw [hc c h]; omega
/-- What is visited is an exchange. -/
theorem SV.ex {n m : Nat} {f : Nat → Nat → Int} {w : List Int → Int} {bg : List (List Int)} {first : Nat} {val : Int} (h : SV (allC n m f n) w bg first val) : exOk (n : Int) m f bg := by
  have hm := h.mem
  have hcr : ∀ i (hi : i < bg.length), crOk (n : Int) m f (rowOf bg i).length (rowL (rowOf bg i)) := fun i hi => allC_ok n (Nat.le_refl _) _ (hm _ (by rw [rowOf_get hi]; exact List.getElem_mem _))
  have hap := List.pairwise_iff_getElem.1 h.ap
  have ap2 : ∀ k i, k < i → i < bg.length → ∀ x ∈ rowOf bg k, x ∉ rowOf bg i := fun k i hki hi => by
    rw [rowOf_get hi, rowOf_get (show k < bg.length by omega)]
    exact apt_iff.1 (hap k i (by omega) hi hki)
  intro i hi
  refine ⟨hcr i hi, fun h0 => ?_, fun k hk => ap2 k i hk hi⟩
  obtain ⟨⟨is, e, hp, his⟩, _, _⟩ := h
  have hlen : bg.length = is.length := by rw [e]; simp
  have hg : ∀ j (hj : j < is.length), rowOf bg j = rowOf (allC n m f n) (is[j]) := fun j hj => by
    rw [rowOf_get (by omega)]
    simp only [e, List.getElem_map]
  have hh := List.pairwise_iff_getElem.1 (allC_heads (n := n) (m := m) (f := f) n (Nat.le_refl _)).1
  have hlt := (List.pairwise_iff_getElem.1 hp) (i - 1) i (by omega) (by omega) (by omega)
  have h1 := (his _ (List.getElem_mem (show i - 1 < is.length by omega))).2
  have h2 := (his _ (List.getElem_mem (show i < is.length by omega))).2
  have hle := hh _ _ h1 h2 hlt
  rw [← rowOf_get h1, ← rowOf_get h2, ← hg (i - 1) (by omega), ← hg i (by omega)] at hle
  have hne : (rowOf bg (i - 1)).getD 0 0 ≠ (rowOf bg i).getD 0 0 := fun e9 => by
    have l1 := (hcr (i - 1) (by omega)).1.2.1
    have l2 := (hcr i hi).1.2.1
    refine ap2 (i - 1) i (by omega) hi ((rowOf bg (i - 1)).getD 0 0) ?_ ?_
    · rw [List.getD_eq_getElem?_getD, List.getElem?_eq_getElem (show 0 < (rowOf bg (i - 1)).length by omega)]
      exact List.getElem_mem _
    · rw [e9, List.getD_eq_getElem?_getD, List.getElem?_eq_getElem (show 0 < (rowOf bg i).length by omega)]
      exact List.getElem_mem _
  omega
/-- The people of an exchange. -/
theorem SV.people {n m : Nat} {f : Nat → Nat → Int} {w : List Int → Int} {bg : List (List Int)} {first : Nat} {val : Int} (h : SV (allC n m f n) w bg first val) : bg.flatten.Nodup ∧ pplL bg ≤ n := by
  obtain ⟨h1, h2⟩ := flat_nd (n := (n : Int)) h.ap (fun c hc => (allC_ok n (Nat.le_refl _) c (h.mem c hc)).1)
  exact ⟨h1, by rw [pplL_flat]; exact nd_le n _ h1 h2⟩
end Go.Proofs.Ytnaldmmdhpobgaa
