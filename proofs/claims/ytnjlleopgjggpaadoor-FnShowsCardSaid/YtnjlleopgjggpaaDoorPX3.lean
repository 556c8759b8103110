/- FnShows: plain laws. -/
import Derived.Test.YtnjlleopgjggpaaDoorR12
import Derived.Test.YtnjlleopgjggpaaDoorR10
import Derived.Test.YtnjlleopgjggpaaDoorXS
set_option linter.unusedVariables false
set_option linter.unusedSimpArgs false
set_option maxRecDepth 100000
set_option maxHeartbeats 1000000
namespace Go.Proofs.YtnjlleopgjggpaaDoor
open Go Go.RowKit Go.Proofs

theorem rkF_perm (bet : Nat → Nat → Bool) : ∀ n, ((List.range n).map (rkF bet n)).Perm (List.range n)
  | 0 => .refl _
  | n + 1 => by
    have ih := rkF_perm bet n
    have hj := insK_le bet (rkF bet n) n n
    show ((List.range (n + 1)).map (insAt (rkF bet n) n (insK bet (rkF bet n) n n))).Perm (List.range (n + 1))
    generalize rkF bet n = L at ih hj ⊢
    generalize insK bet L n n = j at hj ⊢
    obtain ⟨d, rfl⟩ : ∃ d, n = j + d := ⟨n - j, by omega⟩
    have e1 : (List.range (j + d + 1)).map (insAt L (j + d) j) = (List.range j).map L ++ ((j + d) :: (List.range d).map (fun q => L (j + q))) := by
      rw [show j + d + 1 = j + (d + 1) by omega, List.range_add, List.map_append, List.range_succ_eq_map]
      congr 1
      · exact List.map_congr_left fun p hp => by
          have := List.mem_range.1 hp
          unfold insAt
          rw [if_pos this]
      · simp only [List.map_cons, List.map_map]
        congr 1
        · simp [insAt]
        · refine List.map_congr_left fun p _ => ?_
          simp only [Function.comp]
          unfold insAt
          rw [if_neg (by omega), if_neg (by omega)]
          congr 1
    have e2 : (List.range (j + d)).map L = (List.range j).map L ++ (List.range d).map (fun q => L (j + q)) := by
      rw [List.range_add, List.map_append, List.map_map]
      rfl
    rw [e1, List.range_succ]
    refine List.perm_middle.trans ?_
    rw [← e2]
    exact ((List.Perm.cons _ ih).trans (List.perm_append_singleton _ _).symm)
/-- Better in one order, by keys. -/
structure Ord (bet : Nat → Nat → Bool) : Prop where
  asym : ∀ a b, bet a b = true → bet b a = false
  neg : ∀ a b c, bet a c = true → bet a b = true ∨ bet b c = true
theorem insK_spec (bet : Nat → Nat → Bool) (L : Nat → Nat) (x : Nat) : ∀ k, (∀ p, insK bet L x k ≤ p → p < k → bet x (L p) = true) ∧ (0 < insK bet L x k → bet x (L (insK bet L x k - 1)) = false)
  | 0 => ⟨fun p _ h => by omega, fun h => by simp [insK] at h⟩
  | k + 1 => by
    obtain ⟨h1, h2⟩ := insK_spec bet L x k
    unfold insK
    by_cases e : bet x (L k) = true
    · rw [if_pos e]
      refine ⟨fun p hp hk => ?_, h2⟩
      by_cases e2 : p = k
      · subst e2; exact e
      · exact h1 p hp (by omega)
    · rw [if_neg e]
      exact ⟨fun p hp hk => by omega, fun _ => by rw [Nat.add_sub_cancel]; simpa using e⟩
theorem rkF_sorted {bet : Nat → Nat → Bool} (ho : Ord bet) : ∀ n p q, p < q → q < n → bet (rkF bet n q) (rkF bet n p) = false
  | 0, p, q, _, hq => by omega
  | n + 1, p, q, hpq, hq => by
    have ih := rkF_sorted ho n
    have hj := insK_le bet (rkF bet n) n n
    obtain ⟨h1, h2⟩ := insK_spec bet (rkF bet n) n n
    show bet (insAt (rkF bet n) n (insK bet (rkF bet n) n n) q) (insAt (rkF bet n) n (insK bet (rkF bet n) n n) p) = false
    generalize rkF bet n = L at ih hj h1 h2 ⊢
    generalize insK bet L n n = j at hj h1 h2 ⊢
    unfold insAt
    by_cases a1 : p < j
    · rw [if_pos a1]
      by_cases b1 : q < j
      · rw [if_pos b1]; exact ih p q hpq (by omega)
      · rw [if_neg b1]
        by_cases b2 : q = j
        · rw [if_pos b2]
          have h3 := h2 (by omega)
          by_cases e : p = j - 1
          · rw [e]; exact h3
          · rw [Bool.eq_false_iff]
            intro h4
            rcases ho.neg _ (L (j - 1)) _ h4 with h5 | h5
            · rw [h3] at h5; cases h5
            · rw [ih p (j - 1) (by omega) (by omega)] at h5; cases h5
        · rw [if_neg b2]; exact ih p (q - 1) (by omega) (by omega)
    · rw [if_neg a1, if_neg (by omega), if_neg (by omega)]
      by_cases a2 : p = j
      · rw [if_pos a2]
        exact ho.asym _ _ (h1 (q - 1) (by omega) (by omega))
      · rw [if_neg a2]; exact ih (p - 1) (q - 1) (by omega) (by omega)
theorem betS_ord (s : Shw) : Ord (betS s) := by
  refine ⟨fun a b h => ?_, fun a b c h => ?_⟩
  · unfold betS betV at *
    rw [decide_eq_true_eq] at h
    exact decide_eq_false (by omega)
  · unfold betS betV at *
    rw [decide_eq_true_eq] at *
    rw [decide_eq_true_eq]
    omega
theorem plN_count (s : Shw) (x : Nat) : ∀ k, plN s x k = 1 + (((List.range k).countP (fun i => betS s i x) : Nat) : Int)
  | 0 => rfl
  | k + 1 => by
    rw [List.range_succ, List.countP_append]
    have e : plN s x (k + 1) = plN s x k + (if betS s k x = true then 1 else 0) := rfl
    rw [e, plN_count s x k]
    simp only [List.countP_cons, List.countP_nil]
    split <;> simp <;> omega
/-- The place of the one that is i-th in rank. -/
theorem place_rank (s : Shw) (n i : Nat) (hi : i < n) : 1 ≤ plN s (rkF (betS s) n i) n ∧ plN s (rkF (betS s) n i) n ≤ i + 1 := by
  rw [plN_count]
  have hp := (rkF_perm (betS s) n).countP_eq (fun k => betS s k (rkF (betS s) n i))
  rw [← hp, List.countP_map]
  obtain ⟨d, rfl⟩ : ∃ d, n = i + d := ⟨n - i, by omega⟩
  have h1 := (List.range i).countP_le_length (p := (fun k => betS s k (rkF (betS s) (i + d) i)) ∘ rkF (betS s) (i + d))
  have h2 : ((List.range d).map (i + ·)).countP ((fun k => betS s k (rkF (betS s) (i + d) i)) ∘ rkF (betS s) (i + d)) = 0 := by
    rw [List.countP_eq_zero]
    intro k hk
    simp only [List.mem_map, List.mem_range] at hk
    obtain ⟨q, hq, rfl⟩ := hk
    simp only [Function.comp]
    rcases Nat.eq_zero_or_pos q with h0 | h0
    · subst h0
      intro h
      have h' : betS s (rkF (betS s) (i + d) i) (rkF (betS s) (i + d) i) = true := by simpa using h
      have := (betS_ord s).asym _ _ h'
      rw [h'] at this
      cases this
    · rw [rkF_sorted (betS_ord s) (i + d) i (i + q) (by omega) (by omega)]
      simp
  rw [List.range_add, List.countP_append, h2]
  simp only [List.length_range] at h1
  omega
theorem place_mono (s : Shw) (n i j : Nat) (hij : i < j) (hj : j < n) : plN s (rkF (betS s) n i) n ≤ plN s (rkF (betS s) n j) n := by
  rw [plN_count, plN_count]
  have h := List.countP_mono_left (l := List.range n) (p := fun k => betS s k (rkF (betS s) n i)) (q := fun k => betS s k (rkF (betS s) n j)) (fun k _ h1 => by
    rcases (betS_ord s).neg _ (rkF (betS s) n j) _ h1 with h2 | h2
    · exact h2
    · rw [rkF_sorted (betS_ord s) n i j hij hj] at h2; cases h2)
  omega
theorem id_lt {n : Nat} {s : Shw} (h : exsB n s = true) : ∀ j i, i < j → j < n → s.id i < s.id j
  | 0, i, hij, _ => by omega
  | j + 1, i, hij, hj => by
    have h1 := ((exsB_iff.1 h).1 (j + 1) hj).2.2 (by omega)
    rw [Nat.add_sub_cancel] at h1
    by_cases e : i = j
    · subst e; exact h1
    · have := id_lt h j i (by omega) (by omega)
      omega
theorem id_at {n : Nat} {s : Shw} (h : exsB n s = true) {a : Nat} (ha : a < n) : idxOf (isId s (s.id a)) n = a := by
  refine idxOf_hit ha (by simp [isId]) (fun i hi => ?_)
  have := id_lt h a i hi ha
  simp only [isId, beq_eq_false_iff_ne, ne_eq]
  omega
/-- The place of the i-th in rank, as it is told. -/
theorem vPlace_rank {n : Nat} {s : Shw} (h : exsB n s = true) {i : Nat} (hi : i < n) : vPlace n s (rkI n s i 0) = .tuple #[.int .i64 (plN s (rkF (betS s) n i) n), .bool true] := by
  unfold vPlace rkI
  have hl := rkF_lt (betS s) n i hi
  rw [id_at h hl, if_pos ⟨h, by omega⟩, Int.toNat_natCast]
/-- The medals are those of all exhibits. -/
theorem cnt_sum (s : Shw) : ∀ k, cntS s 0 k + cntS s 1 k + cntS s 2 k + cntS s 3 k + cntS s 4 k = k
  | 0 => rfl
  | k + 1 => by
    have ih := cnt_sum s k
    have hb := medV_bd (scV (s.mks k) (s.m k)) ((s.m k : Int) - 2)
    have e : ∀ q, cntS s q (k + 1) = cntS s q k + (if meV s k = q then 1 else 0) := fun _ => rfl
    rw [e, e, e, e, e]
    have hm : meV s k = medV (scV (s.mks k) (s.m k)) ((s.m k : Int) - 2) := rfl
    generalize meV s k = v at hm ⊢
    rcases (show v = 0 ∨ v = 1 ∨ v = 2 ∨ v = 3 ∨ v = 4 by omega) with rfl | rfl | rfl | rfl | rfl <;> simp <;> omega
def sumF (f : Nat → Int) : Nat → Int
  | 0 => 0
  | k + 1 => sumF f k + f k
theorem cnt_sumF (s : Shw) (k : Nat) : sumF (fun j => cntS s j k) 5 = k := by
  have := cnt_sum s k
  simp only [sumF]
  omega
/-- The score in lowest terms, and the medal. -/
theorem score_ex (id : Int) (t : ByteArray) (fr : Int) (m : Nat) (mk : Nat → Int) : ∃ (a b md : Int) (u : Bool), vScore id t fr m mk = .tuple #[.int .i64 a, .int .i64 b, .bool u] ∧ vMedal id t fr m mk = .tuple #[.int .i64 md, .bool u] ∧
    (u = true → 0 ≤ a ∧ a ≤ 1000 ∧ 1 ≤ b ∧ b ≤ 1000 ∧ (md = 4 ↔ 85 * b ≤ a) ∧ (md = 0 ↔ a < 40 * b) ∧ (3 ≤ md ↔ 70 * b ≤ a) ∧ (2 ≤ md ↔ 55 * b ≤ a)) := by
  unfold vScore vMedal
  by_cases h : exB id t fr m mk = true
  · rw [if_pos h, if_pos h]
    refine ⟨_, _, _, _, rfl, rfl, fun _ => ?_⟩
    obtain ⟨_, _, _, _, h3, h7, hok⟩ := exB_bd h
    have hs := scV_bd hok (by omega)
    obtain ⟨v, hv⟩ : ∃ v : Nat, scV mk m = v := ⟨(scV mk m).toNat, by omega⟩
    rw [hv] at hs ⊢
    rw [Int.toNat_natCast]
    obtain ⟨c, hc⟩ : ∃ c, m = c + 2 := ⟨m - 2, by omega⟩
    subst hc
    rw [show c + 2 - 2 = c by omega, show ((c + 2 : Nat) : Int) - 2 = (c : Int) by omega]
    have hg : 0 < Nat.gcd v c := Nat.gcd_pos_of_pos_right _ (by omega)
    obtain ⟨a, ha⟩ := Nat.gcd_dvd_left v c
    obtain ⟨b, hb⟩ := Nat.gcd_dvd_right v c
    generalize Nat.gcd v c = g at hg ha hb ⊢
    subst ha hb
    rw [Nat.mul_div_cancel_left _ hg, Nat.mul_div_cancel_left _ hg]
    have hb0 : 0 < b := by
      rcases Nat.eq_zero_or_pos b with e | e
      · subst e; omega
      · exact e
    have ha1 : a ≤ g * a := Nat.le_mul_of_pos_left _ hg
    have hb1 : b ≤ g * b := Nat.le_mul_of_pos_left _ hg
    have key : ∀ x : Int, x * ((g * b : Nat) : Int) ≤ ((g * a : Nat) : Int) ↔ x * (b : Int) ≤ (a : Int) := fun x => by
      rw [Int.natCast_mul, Int.natCast_mul, show x * ((g : Int) * (b : Int)) = (g : Int) * (x * (b : Int)) by rw [← Int.mul_assoc, Int.mul_comm x, Int.mul_assoc]]
      exact ⟨fun h => Int.le_of_mul_le_mul_left h (by omega), fun h => Int.mul_le_mul_of_nonneg_left h (by omega)⟩
    have k1 := key 85
    have k2 := key 70
    have k3 := key 55
    have k4 := key 40
    refine ⟨by omega, by omega, by omega, by omega, ?_⟩
    unfold medV
    generalize ((g * b : Nat) : Int) = B at *
    generalize ((g * a : Nat) : Int) = A at *
    (repeat' split) <;> refine ⟨?_, ?_, ?_, ?_⟩ <;> omega
  · rw [if_neg h, if_neg h]
    exact ⟨_, _, _, _, rfl, rfl, fun h => by cases h⟩
theorem vShowText_ex (id : Int) (t : ByteArray) (fr : Int) (m : Nat) (mk : Nat → Int) : ∃ (s : ByteArray) (u : Bool), vShowText id t fr m mk = .tuple #[.string s, .bool u] := by
  unfold vShowText
  split <;> exact ⟨_, _, rfl⟩
theorem vPlace_ex (n : Nat) (s : Shw) (x : Int) : ∃ (a : Int) (u : Bool), vPlace n s x = .tuple #[.int .i64 a, .bool u] := by
  unfold vPlace
  split <;> exact ⟨_, _, rfl⟩
end Go.Proofs.YtnjlleopgjggpaaDoor
