/- Prices: a row put among rows; plain laws of its place. -/
import Derived.Test.YtgjkjibllgpnjaaP14
import Derived.Lib.Overlaps
import Derived.Test.YtgjkjibllgpnjaaD9
import Derived.Test.YtgjkjibllgpnjaaD6
set_option linter.unusedVariables false
set_option linter.unusedSimpArgs false
set_option maxRecDepth 100000
set_option maxHeartbeats 1000000
namespace Go.Proofs.Ytgjkjibllgpnjaa
open Go Go.RowKit Go.Proofs

def befR (f : Nat → Nat → Int) (item year : Int) (i : Nat) : Prop := f i 0 < item ∨ (f i 0 = item ∧ f i 1 < year)
instance (f : Nat → Nat → Int) (item year : Int) (i : Nat) : Decidable (befR f item year i) := by unfold befR; infer_instance
theorem befR_mono {n : Nat} {f : Nat → Nat → Int} (hok : prsOk n f) {item year : Int} {i j : Nat} (hij : i < j) (hj : j < n) (h : befR f item year j) : befR f item year i := by
  have := prs_lt hok _ hij hj
  unfold prLt at this
  unfold befR at h ⊢
  omega
/-- How many rows stand before. -/
def posP (f : Nat → Nat → Int) (item year : Int) : Nat → Nat
  | 0 => 0
  | k + 1 => if befR f item year k then k + 1 else posP f item year k
theorem posP_le (f : Nat → Nat → Int) (item year : Int) : ∀ n, posP f item year n ≤ n
  | 0 => Nat.le_refl _
  | k + 1 => by
    have := posP_le f item year k
    unfold posP
    split <;> omega
theorem posP_at {n : Nat} {f : Nat → Nat → Int} (hok : prsOk n f) {item year : Int} {k : Nat} : ∀ m, m ≤ n → k ≤ m → (0 < k → befR f item year (k - 1)) → (k < m → ¬ befR f item year k) → posP f item year m = k
  | 0, _, hk, _, _ => by unfold posP; omega
  | m + 1, hm, hk, h1, h2 => by
    unfold posP
    by_cases e : k = m + 1
    · subst e
      have := h1 (by omega)
      rw [Nat.add_sub_cancel] at this
      rw [if_pos this]
    · have hn : ¬ befR f item year m := fun hb => by
        rcases Nat.eq_or_lt_of_le (show k ≤ m by omega) with e' | e'
        · exact h2 (by omega) (by rw [e']; exact hb)
        · exact h2 (by omega) (befR_mono hok e' (by omega) hb)
      rw [if_neg hn]
      exact posP_at hok m (by omega) (by omega) h1 (fun h => h2 (by omega))
theorem posP_bef {n : Nat} {f : Nat → Nat → Int} (hok : prsOk n f) {item year : Int} {i : Nat} (hi : i < n) : befR f item year i ↔ i < posP f item year n := by
  obtain ⟨k, hk⟩ : ∃ k, k = posP f item year n := ⟨_, rfl⟩
  have key : ∀ m, m ≤ n → (∀ i, i < m → (befR f item year i ↔ i < posP f item year m)) := by
    intro m
    induction m with
    | zero => intro _ i hi; omega
    | succ m ih =>
      intro hm i hi
      unfold posP
      split
      · rename_i hb
        refine ⟨fun _ => hi, fun _ => ?_⟩
        rcases Nat.eq_or_lt_of_le (show i ≤ m by omega) with e | e
        · rw [e]; exact hb
        · exact befR_mono hok e (by omega) hb
      · rename_i hb
        rcases Nat.eq_or_lt_of_le (show i ≤ m by omega) with e | e
        · subst e
          have := posP_le f item year i
          exact ⟨fun h => absurd h hb, fun h => by omega⟩
        · exact ih (by omega) i e
  exact key n (Nat.le_refl _) i hi
def fdP (n : Nat) (f : Nat → Nat → Int) (item year : Int) : Bool := decide (posP f item year n < n ∧ f (posP f item year n) 0 = item ∧ f (posP f item year n) 1 = year)
def eP (item year cents : Int) (j : Nat) : Int := if j = 0 then item else if j = 1 then year else cents
def fdN (n : Nat) (f : Nat → Nat → Int) (item year : Int) : Nat := if fdP n f item year = true then 1 else 0
/-- The rows with the price put in. -/
def spF (n : Nat) (f : Nat → Nat → Int) (item year cents : Int) : Nat → Nat → Int := fun a j =>
  if a < posP f item year n then f a j else if a = posP f item year n then eP item year cents j else f (a - 1 + fdN n f item year) j
def spM (n : Nat) (f : Nat → Nat → Int) (item year : Int) : Nat := n + 1 - fdN n f item year
theorem fdN_yes {n : Nat} {f : Nat → Nat → Int} {item year : Int} (h : fdP n f item year = true) : fdN n f item year = 1 := if_pos h
theorem fdN_no {n : Nat} {f : Nat → Nat → Int} {item year : Int} (h : fdP n f item year = false) : fdN n f item year = 0 := if_neg (by rw [h]; simp)
noncomputable def spB (n : Nat) (f : Nat → Nat → Int) (item year cents : Int) : Bool := prsB n f && prsB (spM n f item year) (spF n f item year cents)
noncomputable def spN (n : Nat) (f : Nat → Nat → Int) (item year cents : Int) : Nat := if spB n f item year cents = true then spM n f item year else 0
theorem spN_le (n : Nat) (f : Nat → Nat → Int) (item year cents : Int) : spN n f item year cents ≤ 15 := by
  unfold spN
  split
  · rename_i h
    simp only [spB, Bool.and_eq_true] at h
    exact (prsB_iff.1 h.2).2
  · omega
theorem spF_pos (n : Nat) (f : Nat → Nat → Int) (item year cents : Int) (j : Nat) : spF n f item year cents (posP f item year n) j = eP item year cents j := by
  unfold spF
  rw [if_neg (by omega), if_pos rfl]
theorem spM_pos {n : Nat} {f : Nat → Nat → Int} {item year : Int} : posP f item year n < spM n f item year := by
  have := posP_le f item year n
  unfold spM fdN
  split
  · rename_i h
    simp only [fdP, decide_eq_true_eq] at h
    omega
  · omega
theorem spB_one {n : Nat} {f : Nat → Nat → Int} {item year cents : Int} (h : spB n f item year cents = true) : inR item 1 999 = true ∧ inR year 1840 2100 = true ∧ inR cents 1 10000000 = true := by
  simp only [spB, Bool.and_eq_true] at h
  have h1 := ((prsB_iff.1 h.2).1 _ (spM_pos (f := f) (item := item) (year := year))).1
  obtain ⟨a, b, c⟩ := h1
  rw [spF_pos] at a b c
  exact ⟨a, b, c⟩
theorem fd_after {n : Nat} {f : Nat → Nat → Int} (hok : prsOk n f) {item year : Int} {i : Nat} (hi : i < n) (hp : posP f item year n ≤ i) : (f i 0 ≠ item ∨ f i 1 ≠ year) ↔ posP f item year n + fdN n f item year ≤ i := by
  have hb : ∀ q, q < n → posP f item year n ≤ q → ¬ befR f item year q := fun q hq hle h => by have := (posP_bef hok hq).1 h; omega
  cases hf : fdP n f item year
  · rw [fdN_no hf]
    refine ⟨fun _ => by omega, fun _ => ?_⟩
    simp only [fdP, decide_eq_false_iff_not] at hf
    rcases Nat.eq_or_lt_of_le hp with e | e
    · subst e; omega
    · have h1 := prs_lt hok _ e hi
      have h2 := hb _ (show posP f item year n < n by omega) (Nat.le_refl _)
      unfold prLt at h1
      unfold befR at h2
      omega
  · rw [fdN_yes hf]
    simp only [fdP, decide_eq_true_eq] at hf
    rcases Nat.eq_or_lt_of_le hp with e | e
    · subst e; omega
    · have h1 := prs_lt hok _ e hi
      unfold prLt at h1
      omega
def SpK (H : Hp) (nx n : Nat) (f : Nat → Nat → Int) (item year cents : Int) (v : Value) (H' : Hp) (nx' : Nat) : Prop := RowFlag H nx (spN n f item year cents) 3 (spF n f item year cents) 56 (spB n f item year cents) v H' nx'
theorem spK_no {H : Hp} {nx n : Nat} {f : Nat → Nat → Int} {item year cents : Int} {w : Value} {H' : Hp} {nx' : Nat} (h : spB n f item year cents = false) (hw : NewR H nx 0 3 (spF n f item year cents) 56 w H' nx') : SpK H nx n f item year cents (.tuple #[w, .bool false]) H' nx' := by
  have e : spN n f item year cents = 0 := if_neg (by rw [h]; simp)
  unfold SpK
  rw [h, e]
  exact ⟨w, rfl, hw⟩
theorem spK_yes {H : Hp} {nx n : Nat} {f : Nat → Nat → Int} {item year cents : Int} {w : Value} {H' : Hp} {nx' : Nat} (h : spB n f item year cents = true) (hw : NewR H nx (spM n f item year) 3 (spF n f item year cents) 56 w H' nx') : SpK H nx n f item year cents (.tuple #[w, .bool true]) H' nx' := by
  have e : spN n f item year cents = spM n f item year := if_pos h
  unfold SpK
  rw [h, e]
  exact ⟨w, rfl, hw⟩

structure InsK3 (H : Hp) (nx lo n : Nat) (f : Nat → Nat → Int) (v v' : Value) (H' : Hp) (nx' : Nat) : Prop where
  own : OwnR H' lo nx' n 3 f 56 v'
  oth : ∀ c, c < nx → some c ≠ ownBlk v → H' c = H c
theorem overlapsP (bX b off n c : Nat) (cx cs : List Value) (tx ty : TypeId) (H : Hp) (nx : Nat) (hX : H bX = some (.rw cx tx)) (hb : H b = some (.rw cs ty)) (hne : bX ≠ b) (hcx : 2 < cx.length) (hcs : 0 < cs.length) :
    PC Try.prog 86 #[.slice (some ⟨bX, 0, none⟩) 1 1, .slice (some ⟨b, off, none⟩) n c] H nx (.bool false) := by
  refine AC_entry (by kernel_rfl) (fun w hw => ?_) (Is_i (Sub.refl H))
  have h1 := hw.rw bX _ _ hX
  have h2 := hw.rw b _ _ hb
  rw [run_callFunc_extern Try.func86 (by kernel_rfl) (by kernel_rfl) (by kernel_rfl) (e := Extern.SlicesOverlaps.overlaps #[25, 25] #[4]) (by kernel_rfl),
    Lib.run_overlaps_apart w 25 4 56 Try.underlying25 3 (fun w => run_sizeOf qs56 w) ⟨bX, 0, none⟩ ⟨b, off, none⟩ 1 1 n c hne tx ty cx.length cs.length (by simp [World.shape?, h1]) (by simp [World.shape?, h2]) (by omega) (by simp [World.frozen?, h1]) (by simp [World.frozen?, h1])]
  rfl
theorem insertP (v : Value) (n i : Nat) (f : Nat → Nat → Int) (e : Nat → Int) (lo bX : Nat) (tx : TypeId) (H : Hp) (nx : Nat) (hlo : lo ≤ nx) (hn : n ≤ 1048576) (hi : i ≤ n) (hO : OwnR H lo nx n 3 f 56 v) (hX : H bX = some (.rw (cellsE 3 e) 56)) (hne : some bX ≠ ownBlk v) (hXn : bX < nx) :
    AC Try.prog 73 #[v, .int .i64 i, .slice (some ⟨bX, 0, none⟩) 1 1] H nx (InsK3 H nx lo (n + 1) (insF f i e) v) := by
  by_cases hin : i = n
  · subst hin
    obtain ⟨A, c, rfl, hc, hR⟩ := OwnR.rd hO
    refine AC_of x_slices_Insert_PriceRow rfl fun hB => ?_
    simp (disch := omega) only [bsW, WOp, WOq, WV, bo, eqN, gdc, gw, bnd, ↓reduceIte, Nat.reduceEqDiff, rsvs, rsv, oneOf, rdN, ne_eq, Nat.reduceAdd, Nat.reduceMul, Nat.reduceLT, reduceCtorEq, Value.cells, setN, Value.oneCell', Nat.reduceLeDiff, undef, fcT, beq_self_eq_true, cutA_zero, c_slices_Insert_PriceRow]
    (repeat' (first | ((with_reducible refine gif_split (fun hs_ => ?_) (fun hs_ => ?_)) <;> (have hp_ := hs_; (try simp only [hpL, ne_eq] at hp_); (try simp (disch := omega) only [bsW, WOp, WOq, WV, bo, eqN, gdc, gw, bnd, ↓reduceIte, Nat.reduceEqDiff, rsvs, rsv, oneOf, rdN, ne_eq, Nat.reduceAdd, Nat.reduceMul, Nat.reduceLT, reduceCtorEq, Value.cells, setN, Value.oneCell', Nat.reduceLeDiff, undef, fcT, beq_self_eq_true, cutA_zero, hs_]))) | ((first | (with_reducible refine newB_i (fun nb_ hb_ => ?_)) | (with_reducible refine RgE_i (fun (hBd_ : Bd _ _) => ?_))); (try simp (disch := omega) only [bsW, WOp, WOq, WV, bo, eqN, gdc, gw, bnd, ↓reduceIte, Nat.reduceEqDiff, rsvs, rsv, oneOf, rdN, ne_eq, Nat.reduceAdd, Nat.reduceMul, Nat.reduceLT, reduceCtorEq, Value.cells, setN, Value.oneCell', Nat.reduceLeDiff, undef, fcT, beq_self_eq_true, cutA_zero])) | (with_reducible refine fun (hBd_ : Bd _ _) => ?_) | ((first | (with_reducible refine @And.intro (Sub _ _) _ ?_ ?_) | ((with_reducible refine @And.intro (Sub _ _ ∧ _) _ ?_ ?_); (with_reducible refine @And.intro (Sub _ _) _ ?_ ?_))); exact sbX) | ((with_reducible refine And.intro ?_ ?_); omega)))
    all_goals try (exfalso; omega)
    refine app_one (k := 3) (bytes := 24) (e := e) (by simp (disch := omega) only [bsW, WOp, WOq, WV, bo, eqN, gdc, gw, bnd, ↓reduceIte, Nat.reduceEqDiff, rsvs, rsv, oneOf, rdN, ne_eq, Nat.reduceAdd, Nat.reduceMul, Nat.reduceLT, reduceCtorEq, Value.cells, setN, Value.oneCell', Nat.reduceLeDiff, undef, fcT, beq_self_eq_true, cutA_zero]) (by simp (disch := omega) only [bsW, WOp, WOq, WV, bo, eqN, gdc, gw, bnd, ↓reduceIte, Nat.reduceEqDiff, rsvs, rsv, oneOf, rdN, ne_eq, Nat.reduceAdd, Nat.reduceMul, Nat.reduceLT, reduceCtorEq, Value.cells, setN, Value.oneCell', Nat.reduceLeDiff, undef, fcT, beq_self_eq_true, cutA_zero]) (by simp (disch := omega) only [bsW, WOp, WOq, WV, bo, eqN, gdc, gw, bnd, ↓reduceIte, Nat.reduceEqDiff, rsvs, rsv, oneOf, rdN, ne_eq, Nat.reduceAdd, Nat.reduceMul, Nat.reduceLT, reduceCtorEq, Value.cells, setN, Value.oneCell', Nat.reduceLeDiff, undef, fcT, beq_self_eq_true, cutA_zero]) ⟨_, qz56, rfl⟩ (by omega) hO hX rfl hlo (by omega) (by unfold maxLen; omega) ?_
    rintro v' b' o nx2 hb' hn2 hown' hO2
    simp (disch := omega) only [bsW, WOp, WOq, WV, bo, eqN, gdc, gw, bnd, ↓reduceIte, Nat.reduceEqDiff, rsvs, rsv, oneOf, rdN, ne_eq, Nat.reduceAdd, Nat.reduceMul, Nat.reduceLT, reduceCtorEq, Value.cells, setN, Value.oneCell', Nat.reduceLeDiff, undef, fcT, beq_self_eq_true, cutA_zero]
    refine ⟨hO2.congr (fun a j ha hj => ?_), fun c hc2 hn => upd_ne (fun e => ?_)⟩
    · unfold snoc insF
      by_cases h1 : a < i
      · rw [if_pos h1, if_pos h1]
      · rw [if_neg h1, if_neg h1, if_pos (show a = i by omega)]
    · subst e
      rcases hb' with e | e
      · exact hn e
      · omega
  · have hlt : i < n := by omega
    rcases OwnR.own hO with ⟨hlen, ⟨rfl, h0⟩ | ⟨b, cap, sp, rfl, hb, hnc, hcm, hcl⟩⟩
    · omega
    have hb12 := OwnR.blk hO (show some b = ownBlk (.slice (some ⟨b, 0, none⟩) n cap) from rfl)
    have hbX : bX ≠ b := fun e => hne (by rw [e]; rfl)
    have hspl : sp.length = (cap - n) * 3 := by simp only [List.length_append, flat_length] at hcl; omega
    have d1 : ((i : Int) == (n : Int)) = false := by simp; omega
    have t1 : ((i : Int) + ((1 : Nat) : Int)).toNat = i + 1 := by omega
    have t2 : ((n : Int) + ((1 : Nat) : Int)).toNat = n + 1 := by omega
    have hEl := cellsE_len 3 e
    have hDl : (flat (n - i) 3 (fun a j => f (i + a) j)).length = (n - i) * 3 := flat_length _ _ _
    have hTl : (flat i 3 f).length = i * 3 := flat_length _ _ _
    by_cases hroom : n + 1 ≤ cap
    · have k1 : cutA (some ⟨b, 0, none⟩) cap (i + 1) 3 = some ⟨b, 0 + (i + 1) * 3, none⟩ := cutA_pos (by omega)
      have k2 : cutA (some ⟨b, 0, none⟩) cap i 3 = some ⟨b, 0 + i * 3, none⟩ := cutA_pos (by omega)
      refine AC_of x_slices_Insert_PriceRow rfl fun hB => ?_
      simp (disch := omega) only [bsW, WOp, WOq, WV, bo, eqN, gdc, gw, bnd, ↓reduceIte, Nat.reduceEqDiff, rsvs, rsv, oneOf, rdN, ne_eq, Nat.reduceAdd, Nat.reduceMul, Nat.reduceLT, reduceCtorEq, Value.cells, setN, Value.oneCell', Nat.reduceLeDiff, undef, fcT, d1, cutA_zero, hb, hX, t1, t2, k1, k2, Nat.zero_add, Nat.sub_zero, c_slices_Insert_PriceRow]
      (repeat' (first | ((with_reducible refine gif_split (fun hs_ => ?_) (fun hs_ => ?_)) <;> (have hp_ := hs_; (try simp only [hpL, ne_eq] at hp_); (try simp (disch := omega) only [bsW, WOp, WOq, WV, bo, eqN, gdc, gw, bnd, ↓reduceIte, Nat.reduceEqDiff, rsvs, rsv, oneOf, rdN, ne_eq, Nat.reduceAdd, Nat.reduceMul, Nat.reduceLT, reduceCtorEq, Value.cells, setN, Value.oneCell', Nat.reduceLeDiff, undef, fcT, d1, cutA_zero, hb, hX, t1, t2, k1, k2, Nat.zero_add, Nat.sub_zero, hs_]))) | ((first | (with_reducible refine newB_i (fun nb_ hb_ => ?_)) | ((with_reducible show QC _ _ _ _ _ _); (first | (refine QC_i (overlapsP bX b ((i + 1) * 3) _ _ (cellsE 3 e) (flat n 3 f ++ sp) 56 56 _ _ hX hb hbX (by omega) (by omega)) ?_))) | ((with_reducible show AC _ _ _ _ _ _); (first | (refine PC.ac (overlapsP bX b ((i + 1) * 3) _ _ (cellsE 3 e) (flat n 3 f ++ sp) 56 56 _ _ hX hb hbX (by omega) (by omega)) ?_))) | (with_reducible refine RgE_i (fun (hBd_ : Bd _ _) => ?_))); (try simp (disch := omega) only [bsW, WOp, WOq, WV, bo, eqN, gdc, gw, bnd, ↓reduceIte, Nat.reduceEqDiff, rsvs, rsv, oneOf, rdN, ne_eq, Nat.reduceAdd, Nat.reduceMul, Nat.reduceLT, reduceCtorEq, Value.cells, setN, Value.oneCell', Nat.reduceLeDiff, undef, fcT, d1, cutA_zero, hb, hX, t1, t2, k1, k2, Nat.zero_add, Nat.sub_zero])) | (with_reducible refine fun (hBd_ : Bd _ _) => ?_) | ((first | (with_reducible refine @And.intro (Sub _ _) _ ?_ ?_) | ((with_reducible refine @And.intro (Sub _ _ ∧ _) _ ?_ ?_); (with_reducible refine @And.intro (Sub _ _) _ ?_ ?_))); exact sbX) | ((with_reducible refine And.intro ?_ ?_); omega)))
      all_goals try (exfalso; omega)
      refine ⟨56, 3, n - i, _, _, _, _, some ⟨b, (i + 1) * 3, none⟩, some ⟨b, i * 3, none⟩, flat (n - i) 3 (fun a j => f (i + a) j), by simp (disch := omega) only [bsW, ↓reduceIte, Nat.reduceEqDiff, ne_eq, reduceCtorEq, fcT, d1, cutA_zero, hb, hX, t1, t2, k1, k2, Nat.zero_add, Nat.sub_zero], by simp (disch := omega) only [bsW, ↓reduceIte, Nat.reduceEqDiff, ne_eq, reduceCtorEq, fcT, d1, cutA_zero, hb, hX, t1, t2, k1, k2, Nat.zero_add, Nat.sub_zero], rfl, rfl, by omega, flat_row hi hb, flat_all _ _ _, fun h => by omega, fun _ => ⟨b, (i + 1) * 3, flat n 3 f ++ sp, 56, rfl, hb, by omega, ?_⟩⟩
      simp (disch := omega) only [bsW, WOp, WOq, WV, bo, eqN, gdc, gw, bnd, ↓reduceIte, Nat.reduceEqDiff, rsvs, rsv, oneOf, rdN, ne_eq, Nat.reduceAdd, Nat.reduceMul, Nat.reduceLT, reduceCtorEq, Value.cells, setN, Value.oneCell', Nat.reduceLeDiff, undef, fcT, cutA_zero, t1, t2, k1, k2, Nat.zero_add, Nat.sub_zero]
      (repeat' (first | ((with_reducible refine gif_split (fun hs_ => ?_) (fun hs_ => ?_)) <;> (have hp_ := hs_; (try simp only [hpL, ne_eq] at hp_); (try simp (disch := omega) only [bsW, WOp, WOq, WV, bo, eqN, gdc, gw, bnd, ↓reduceIte, Nat.reduceEqDiff, rsvs, rsv, oneOf, rdN, ne_eq, Nat.reduceAdd, Nat.reduceMul, Nat.reduceLT, reduceCtorEq, Value.cells, setN, Value.oneCell', Nat.reduceLeDiff, undef, fcT, cutA_zero, t1, t2, k1, k2, Nat.zero_add, Nat.sub_zero, hs_]))) | ((first | (with_reducible refine newB_i (fun nb_ hb_ => ?_)) | (with_reducible refine RgE_i (fun (hBd_ : Bd _ _) => ?_))); (try simp (disch := omega) only [bsW, WOp, WOq, WV, bo, eqN, gdc, gw, bnd, ↓reduceIte, Nat.reduceEqDiff, rsvs, rsv, oneOf, rdN, ne_eq, Nat.reduceAdd, Nat.reduceMul, Nat.reduceLT, reduceCtorEq, Value.cells, setN, Value.oneCell', Nat.reduceLeDiff, undef, fcT, cutA_zero, t1, t2, k1, k2, Nat.zero_add, Nat.sub_zero])) | (with_reducible refine fun (hBd_ : Bd _ _) => ?_) | ((first | (with_reducible refine @And.intro (Sub _ _) _ ?_ ?_) | ((with_reducible refine @And.intro (Sub _ _ ∧ _) _ ?_ ?_); (with_reducible refine @And.intro (Sub _ _) _ ?_ ?_))); exact sbX) | ((with_reducible refine And.intro ?_ ?_); omega)))
      all_goals try (exfalso; omega)
      refine ⟨56, 3, 1, _, _, _, _, some ⟨b, i * 3, none⟩, some ⟨bX, 0, none⟩, cellsE 3 e, by simp (disch := omega) only [bsW, ↓reduceIte, Nat.reduceEqDiff, ne_eq, reduceCtorEq, fcT, cutA_zero, t1, t2, k1, k2, Nat.zero_add, Nat.sub_zero], by simp (disch := omega) only [bsW, ↓reduceIte, Nat.reduceEqDiff, ne_eq, reduceCtorEq, fcT, cutA_zero, t1, t2, k1, k2, Nat.zero_add, Nat.sub_zero], rfl, rfl, by omega, ⟨rfl, fun _ => ⟨bX, 0, rfl, fun p u hu => by rw [rd_upd_ne hbX, rd_rw hX, Nat.zero_add]; exact hu⟩⟩, cellsE_all _ _, fun h => by omega, fun _ => ⟨b, i * 3, _, 56, rfl, upd_same _ _ _, ?_, ?_⟩⟩
      · rw [setN_len9]
        omega
      · rw [flat_split hi, ins_room (T := flat i 3 f) (D := flat (n - i) 3 (fun a j => f (i + a) j)) (E := cellsE 3 e) (sp := sp) (by omega) (by omega) (by omega), flat_ins hi, upd_upd]
        simp (disch := omega) only [bsW, WOp, WOq, WV, bo, eqN, gdc, gw, bnd, ↓reduceIte, Nat.reduceEqDiff, rsvs, rsv, oneOf, rdN, ne_eq, Nat.reduceAdd, Nat.reduceMul, Nat.reduceLT, reduceCtorEq, Value.cells, setN, Value.oneCell', Nat.reduceLeDiff, undef, fcT, cutA_zero, t1, t2, k1, k2, Nat.zero_add, Nat.sub_zero]
        refine ⟨OwnR.ofRow hb12.1 hb12.2 (upd_same _ _ _) (by omega) hcm ?_, fun c hc hn => upd_ne (fun e => hn (by rw [e]; rfl))⟩
        rw [List.length_append, flat_length, List.length_drop]
        omega
    · refine AC_of x_slices_Insert_PriceRow rfl fun hB => ?_
      simp (disch := omega) only [bsW, WOp, WOq, WV, bo, eqN, gdc, gw, bnd, ↓reduceIte, Nat.reduceEqDiff, rsvs, rsv, oneOf, rdN, ne_eq, Nat.reduceAdd, Nat.reduceMul, Nat.reduceLT, reduceCtorEq, Value.cells, setN, Value.oneCell', Nat.reduceLeDiff, undef, fcT, d1, cutA_zero, hb, hX, c_slices_Insert_PriceRow]
      (repeat' (first | ((with_reducible refine gif_split (fun hs_ => ?_) (fun hs_ => ?_)) <;> (have hp_ := hs_; (try simp only [hpL, ne_eq] at hp_); (try simp (disch := omega) only [bsW, WOp, WOq, WV, bo, eqN, gdc, gw, bnd, ↓reduceIte, Nat.reduceEqDiff, rsvs, rsv, oneOf, rdN, ne_eq, Nat.reduceAdd, Nat.reduceMul, Nat.reduceLT, reduceCtorEq, Value.cells, setN, Value.oneCell', Nat.reduceLeDiff, undef, fcT, d1, cutA_zero, hb, hX, hs_]))) | ((first | (with_reducible refine newB_i (fun nb_ hb_ => ?_)) | (with_reducible refine RgE_i (fun (hBd_ : Bd _ _) => ?_))); (try simp (disch := omega) only [bsW, WOp, WOq, WV, bo, eqN, gdc, gw, bnd, ↓reduceIte, Nat.reduceEqDiff, rsvs, rsv, oneOf, rdN, ne_eq, Nat.reduceAdd, Nat.reduceMul, Nat.reduceLT, reduceCtorEq, Value.cells, setN, Value.oneCell', Nat.reduceLeDiff, undef, fcT, d1, cutA_zero, hb, hX])) | (with_reducible refine fun (hBd_ : Bd _ _) => ?_) | ((first | (with_reducible refine @And.intro (Sub _ _) _ ?_ ?_) | ((with_reducible refine @And.intro (Sub _ _ ∧ _) _ ?_ ?_); (with_reducible refine @And.intro (Sub _ _) _ ?_ ?_))); exact sbX) | ((with_reducible refine And.intro ?_ ?_); omega)))
      all_goals try (exfalso; omega)
      refine ⟨56, 3, 24, i, n + 1 - i, cap, _, _, .i64, .i64, flat i 3 f, by simp (disch := omega) only [bsW, ↓reduceIte, Nat.reduceEqDiff, ne_eq, reduceCtorEq, fcT, d1, cutA_zero, hb, hX], by simp (disch := omega) only [bsW, ↓reduceIte, Nat.reduceEqDiff, ne_eq, reduceCtorEq, fcT, d1, cutA_zero, hb, hX], by simp (disch := omega) only [bsW, ↓reduceIte, Nat.reduceEqDiff, ne_eq, reduceCtorEq, fcT, d1, cutA_zero, hb, hX], qz56, rfl, by omega, by simp (disch := omega) only [bsW, ↓reduceIte, Nat.reduceEqDiff, ne_eq, reduceCtorEq, fcT, d1, cutA_zero, hb, hX], rfl, by congr 1; omega, by omega, by omega, by omega, (fun h => by cases h), flat_row0 hi hb, by omega, by unfold maxLen; omega, ?_⟩
      rintro b' cap' sp' nx2 hb' hn2 hlt' hcap' hmx' hlen'
      rw [List.append_assoc] at hlen' ⊢
      generalize hr : (_ ++ sp' : List Value) = r at hlen' ⊢
      have hrl : r.length = (cap' - i) * 3 := by rw [List.length_append, hTl] at hlen'; omega
      have hbb : b ≠ b' := by omega
      have hbb' : b' ≠ b := by omega
      have hbX' : bX ≠ b' := by omega
      have k1 : cutA (some ⟨b', 0, none⟩) cap' (i + 1) 3 = some ⟨b', 0 + (i + 1) * 3, none⟩ := cutA_pos (by omega)
      have k2 : cutA (some ⟨b', 0, none⟩) cap' i 3 = some ⟨b', 0 + i * 3, none⟩ := cutA_pos (by omega)
      have k3 : cutA (some ⟨b, 0, none⟩) cap i 3 = some ⟨b, 0 + i * 3, none⟩ := cutA_pos (by omega)
      have t3 : i + (n + 1 - i) = n + 1 := by omega
      simp (disch := omega) only [bsW, WOp, WOq, WV, bo, eqN, gdc, gw, bnd, ↓reduceIte, Nat.reduceEqDiff, rsvs, rsv, oneOf, rdN, ne_eq, Nat.reduceAdd, Nat.reduceMul, Nat.reduceLT, reduceCtorEq, Value.cells, setN, Value.oneCell', Nat.reduceLeDiff, undef, fcT, cutA_zero, t1, t2, t3, k1, k2, k3, Nat.zero_add, Nat.sub_zero]
      (repeat' (first | ((with_reducible refine gif_split (fun hs_ => ?_) (fun hs_ => ?_)) <;> (have hp_ := hs_; (try simp only [hpL, ne_eq] at hp_); (try simp (disch := omega) only [bsW, WOp, WOq, WV, bo, eqN, gdc, gw, bnd, ↓reduceIte, Nat.reduceEqDiff, rsvs, rsv, oneOf, rdN, ne_eq, Nat.reduceAdd, Nat.reduceMul, Nat.reduceLT, reduceCtorEq, Value.cells, setN, Value.oneCell', Nat.reduceLeDiff, undef, fcT, cutA_zero, t1, t2, t3, k1, k2, k3, Nat.zero_add, Nat.sub_zero, hs_]))) | ((first | (with_reducible refine newB_i (fun nb_ hb_ => ?_)) | (with_reducible refine RgE_i (fun (hBd_ : Bd _ _) => ?_))); (try simp (disch := omega) only [bsW, WOp, WOq, WV, bo, eqN, gdc, gw, bnd, ↓reduceIte, Nat.reduceEqDiff, rsvs, rsv, oneOf, rdN, ne_eq, Nat.reduceAdd, Nat.reduceMul, Nat.reduceLT, reduceCtorEq, Value.cells, setN, Value.oneCell', Nat.reduceLeDiff, undef, fcT, cutA_zero, t1, t2, t3, k1, k2, k3, Nat.zero_add, Nat.sub_zero])) | (with_reducible refine fun (hBd_ : Bd _ _) => ?_) | ((first | (with_reducible refine @And.intro (Sub _ _) _ ?_ ?_) | ((with_reducible refine @And.intro (Sub _ _ ∧ _) _ ?_ ?_); (with_reducible refine @And.intro (Sub _ _) _ ?_ ?_))); exact sbX) | ((with_reducible refine And.intro ?_ ?_); omega)))
      all_goals try (exfalso; omega)
      refine ⟨56, 3, 1, _, _, _, _, some ⟨b', i * 3, none⟩, some ⟨bX, 0, none⟩, cellsE 3 e, by simp (disch := omega) only [bsW, ↓reduceIte, Nat.reduceEqDiff, ne_eq, reduceCtorEq, fcT, cutA_zero, t1, t2, t3, k1, k2, k3, Nat.zero_add, Nat.sub_zero], by simp (disch := omega) only [bsW, ↓reduceIte, Nat.reduceEqDiff, ne_eq, reduceCtorEq, fcT, cutA_zero, t1, t2, t3, k1, k2, k3, Nat.zero_add, Nat.sub_zero], rfl, rfl, by omega, ⟨rfl, fun _ => ⟨bX, 0, rfl, fun p u hu => by rw [rd_upd_ne hbX', rd_rw hX, Nat.zero_add]; exact hu⟩⟩, cellsE_all _ _, fun h => by omega, fun _ => ⟨b', i * 3, _, 56, rfl, upd_same _ _ _, by simp only [List.length_append, hTl]; omega, ?_⟩⟩
      rw [upd_upd]
      simp (disch := omega) only [bsW, WOp, WOq, WV, bo, eqN, gdc, gw, bnd, ↓reduceIte, Nat.reduceEqDiff, rsvs, rsv, oneOf, rdN, ne_eq, Nat.reduceAdd, Nat.reduceMul, Nat.reduceLT, reduceCtorEq, Value.cells, setN, Value.oneCell', Nat.reduceLeDiff, undef, fcT, cutA_zero, t1, t2, t3, k1, k2, k3, Nat.zero_add, Nat.sub_zero]
      (repeat' (first | ((with_reducible refine gif_split (fun hs_ => ?_) (fun hs_ => ?_)) <;> (have hp_ := hs_; (try simp only [hpL, ne_eq] at hp_); (try simp (disch := omega) only [bsW, WOp, WOq, WV, bo, eqN, gdc, gw, bnd, ↓reduceIte, Nat.reduceEqDiff, rsvs, rsv, oneOf, rdN, ne_eq, Nat.reduceAdd, Nat.reduceMul, Nat.reduceLT, reduceCtorEq, Value.cells, setN, Value.oneCell', Nat.reduceLeDiff, undef, fcT, cutA_zero, t1, t2, t3, k1, k2, k3, Nat.zero_add, Nat.sub_zero, hs_]))) | ((first | (with_reducible refine newB_i (fun nb_ hb_ => ?_)) | (with_reducible refine RgE_i (fun (hBd_ : Bd _ _) => ?_))); (try simp (disch := omega) only [bsW, WOp, WOq, WV, bo, eqN, gdc, gw, bnd, ↓reduceIte, Nat.reduceEqDiff, rsvs, rsv, oneOf, rdN, ne_eq, Nat.reduceAdd, Nat.reduceMul, Nat.reduceLT, reduceCtorEq, Value.cells, setN, Value.oneCell', Nat.reduceLeDiff, undef, fcT, cutA_zero, t1, t2, t3, k1, k2, k3, Nat.zero_add, Nat.sub_zero])) | (with_reducible refine fun (hBd_ : Bd _ _) => ?_) | ((first | (with_reducible refine @And.intro (Sub _ _) _ ?_ ?_) | ((with_reducible refine @And.intro (Sub _ _ ∧ _) _ ?_ ?_); (with_reducible refine @And.intro (Sub _ _) _ ?_ ?_))); exact sbX) | ((with_reducible refine And.intro ?_ ?_); omega)))
      all_goals try (exfalso; omega)
      refine ⟨56, 3, n - i, _, _, _, _, some ⟨b', (i + 1) * 3, none⟩, some ⟨b, i * 3, none⟩, flat (n - i) 3 (fun a j => f (i + a) j), by simp (disch := omega) only [bsW, ↓reduceIte, Nat.reduceEqDiff, ne_eq, reduceCtorEq, fcT, cutA_zero, t1, t2, t3, k1, k2, k3, Nat.zero_add, Nat.sub_zero], by simp (disch := omega) only [bsW, ↓reduceIte, Nat.reduceEqDiff, ne_eq, reduceCtorEq, fcT, cutA_zero, t1, t2, t3, k1, k2, k3, Nat.zero_add, Nat.sub_zero], rfl, rfl, by omega, flat_row hi (by rw [upd_ne hbb]; exact hb), flat_all _ _ _, fun h => by omega, fun _ => ⟨b', (i + 1) * 3, _, 56, rfl, upd_same _ _ _, ?_, ?_⟩⟩
      · rw [setN_len9]
        simp only [List.length_append, hTl]
        omega
      · rw [ins_new (T := flat i 3 f) (D := flat (n - i) 3 (fun a j => f (i + a) j)) (E := cellsE 3 e) (r := r) (by omega) (by omega) (by omega), flat_ins hi, upd_upd]
        simp (disch := omega) only [bsW, WOp, WOq, WV, bo, eqN, gdc, gw, bnd, ↓reduceIte, Nat.reduceEqDiff, rsvs, rsv, oneOf, rdN, ne_eq, Nat.reduceAdd, Nat.reduceMul, Nat.reduceLT, reduceCtorEq, Value.cells, setN, Value.oneCell', Nat.reduceLeDiff, undef, fcT, cutA_zero, t1, t2, t3, k1, k2, k3, Nat.zero_add, Nat.sub_zero]
        refine ⟨OwnR.ofRow (by omega) hlt' (upd_same _ _ _) (by omega) hmx' ?_, fun c hc hn => upd_ne (by omega)⟩
        rw [List.length_append, flat_length, List.length_drop]
        omega
end Go.Proofs.Ytgjkjibllgpnjaa
