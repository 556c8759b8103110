/- Rows of rows that grow. No program stands here. -/
import Derived.Test.YtnaldmmdhpobgaaDoorD11
set_option linter.unusedVariables false
set_option linter.unusedSimpArgs false
namespace Go.Proofs.YtnaldmmdhpobgaaDoor
open Go Go.RowKit

/-- The rows, apart from the block of their heads. -/
structure RowsI (H : Hp) (lo hi : Nat) (ls : List (List Int)) (ti : TypeId) (B d : Nat → Nat) : Prop where
  row : ∀ i, i < ls.length → OwnL H lo hi (rowOf ls i) ti (.slice (some ⟨B i, 0, none⟩) (rowOf ls i).length (d i))
  inj : ∀ i j, i < ls.length → j < ls.length → i ≠ j → B i ≠ B j
theorem RowsI.blk {H : Hp} {lo hi : Nat} {ls : List (List Int)} {ti : TypeId} {B d : Nat → Nat} (h : RowsI H lo hi ls ti B d) {i : Nat} (hi' : i < ls.length) : lo ≤ B i ∧ B i < hi := OwnR.blk (h.row i hi') rfl
theorem OwnLL.parts {H : Hp} {lo hi : Nat} {ls : List (List Int)} {te ti : TypeId} {v : Value} (h : OwnLL H lo hi ls te ti v) :
    ∃ B d, OwnV H lo hi ls.length 1 (rowsV ls (fun i => some ⟨B i, 0, none⟩) d) te v ∧ RowsI H lo hi ls ti B d ∧ ∀ i, i < ls.length → some (B i) ≠ ownBlk v := by
  rcases h.ex with ⟨rfl, rfl⟩ | ⟨b, cap, sp, B, d, rfl, h1, h2, h3, h4, h5, h6, h7, h8⟩
  · exact ⟨fun _ => 0, fun _ => 0, .nil, ⟨fun i hi => absurd hi (by simp), fun i j hi => absurd hi (by simp)⟩, fun i hi => absurd hi (by simp)⟩
  · refine ⟨B, d, ⟨.inr ⟨b, cap, sp, rfl, h1, h2, h6, h3, h4, h5⟩⟩, ⟨fun i hi => (h7 i hi).2, h8⟩, fun i hi e => (h7 i hi).1 ?_⟩
    simpa [ownBlk] using e
theorem OwnLL.of {H : Hp} {lo hi : Nat} {ls : List (List Int)} {te ti : TypeId} {v : Value} {B d : Nat → Nat} (h1 : OwnV H lo hi ls.length 1 (rowsV ls (fun i => some ⟨B i, 0, none⟩) d) te v) (h2 : RowsI H lo hi ls ti B d) (h3 : ∀ i, i < ls.length → some (B i) ≠ ownBlk v) : OwnLL H lo hi ls te ti v := by
  rcases h1.ex with ⟨rfl, h0⟩ | ⟨b, cap, sp, rfl, a1, a2, a3, a4, a5, a6⟩
  · have : ls = [] := List.length_eq_zero_iff.1 h0
    subst this
    exact .nil
  · exact ⟨.inr ⟨b, cap, sp, B, d, rfl, a1, a2, a4, a5, a6, a3, fun i hi => ⟨fun e => h3 i hi (by rw [e]; rfl), h2.row i hi⟩, h2.inj⟩⟩
theorem rowOf_left {ls ls2 : List (List Int)} {i : Nat} (h : i < ls.length) : rowOf (ls ++ ls2) i = rowOf ls i := by
  unfold rowOf
  rw [List.getD_eq_getElem?_getD, List.getD_eq_getElem?_getD, List.getElem?_append_left h]
theorem rowOf_right {ls ls2 : List (List Int)} {i : Nat} (h : ls.length ≤ i) : rowOf (ls ++ ls2) i = rowOf ls2 (i - ls.length) := by
  unfold rowOf
  rw [List.getD_eq_getElem?_getD, List.getD_eq_getElem?_getD, List.getElem?_append_right h]
theorem rowsV_one (ls : List (List Int)) (Q : Nat → Option Addr) (d : Nat → Nat) (n : Nat) : oneG n 1 (rowsV ls Q d) := fun i j hi hj => rfl
/-- What is known, some blocks hidden. -/
def hide (H : Hp) (S : Nat → Bool) : Hp := fun k => if S k = true then none else H k
theorem hide_sub (H : Hp) (S : Nat → Bool) : Sub (hide H S) H := fun k o e => by
  unfold hide at e
  split at e
  · cases e
  · exact e
theorem hide_some {H : Hp} {S : Nat → Bool} {k : Nat} {o : Blk} (h : hide H S k = some o) : S k = false ∧ H k = some o := by
  unfold hide at h
  split at h
  · cases h
  · rename_i hk
    exact ⟨by simpa using hk, h⟩
theorem hide_at {H : Hp} {S : Nat → Bool} {k : Nat} (h : S k = false) : hide H S k = H k := by simp [hide, h]
theorem hide_eq {H H' : Hp} {S : Nat → Bool} {k : Nat} (h : H' k = H k) : hide H' S k = hide H S k := by simp [hide, h]
theorem hide_none (H : Hp) : hide H (fun _ => false) = H := by funext k; simp [hide]
theorem OwnV.vis {H : Hp} {S : Nat → Bool} {lo nx n k b : Nat} {g : Nat → Nat → Value} {ty : TypeId} {v : Value} (h : OwnV (hide H S) lo nx n k g ty v) (hb : some b = ownBlk v) : S b = false := by
  rcases h.ex with ⟨rfl, _⟩ | ⟨b', cap, sp, rfl, _, _, h3, _⟩
  · cases hb
  · cases hb; exact (hide_some h3).1
theorem OwnR.vis {H : Hp} {S : Nat → Bool} {lo nx n k b : Nat} {g : Nat → Nat → Int} {ty : TypeId} {v : Value} (h : OwnR (hide H S) lo nx n k g ty v) (hb : some b = ownBlk v) : S b = false := by
  rcases h.ex with ⟨rfl, _⟩ | ⟨b', cap, sp, rfl, _, _, h3, _⟩
  · cases hb
  · cases hb; exact (hide_some h3).1
theorem OwnR.hidden {H : Hp} {S : Nat → Bool} {lo nx n k : Nat} {g : Nat → Nat → Int} {ty : TypeId} {v : Value} (h : OwnR H lo nx n k g ty v) (hS : ∀ b, some b = ownBlk v → S b = false) : OwnR (hide H S) lo nx n k g ty v :=
  h.keep (fun b hb => hide_at (hS b hb)) (Nat.le_refl _)
theorem OwnV.hidden {H : Hp} {S : Nat → Bool} {lo nx n k : Nat} {g : Nat → Nat → Value} {ty : TypeId} {v : Value} (h : OwnV H lo nx n k g ty v) (hS : ∀ b, some b = ownBlk v → S b = false) : OwnV (hide H S) lo nx n k g ty v :=
  h.keep (fun b hb => hide_at (hS b hb)) (Nat.le_refl _)
/-- Rows of rows, more of them; some blocks hidden. -/
theorem appLLS {P : Program} {S : Nat → Bool} {t te ti : TypeId} {lo n1 nx c : Nat} {H : Hp} {ls ls2 : List (List Int)} {A : Option Addr} {sv : Value} {B2 d2 : Nat → Nat} {K : Value → Hp → Nat → Prop}
    (he : qElem P t = some te) (hs : qSize P te = some 1) (hb : qBytes P te = some 24) (hz : ∃ z, qZero P te = some z ∧ z.cells.size = 1)
    (hS : ∀ d, S d = true → d < nx) (ho : OwnLL (hide H S) lo n1 ls te ti sv) (hn1 : n1 ≤ nx) (hlo : lo ≤ n1) (hR : RdV H A ls2.length 1 (rowsV ls2 (fun i => some ⟨B2 i, 0, none⟩) d2)) (h2 : RowsI (hide H S) n1 nx ls2 ti B2 d2)
    (hlen : ls.length + ls2.length ≤ 4000000000)
    (hK : ∀ v' H' nx', OwnLL (hide H' S) lo nx' (ls ++ ls2) te ti v' → (∀ c, c < lo → H' c = H c) → (∀ c, some c ≠ ownBlk sv → c < nx → H' c = H c) → nx ≤ nx' → (Bd H nx → Bd H' nx') → (∀ c, some c = ownBlk v' → some c = ownBlk sv ∨ nx ≤ c) → K v' H' nx') :
    AppK P t sv (.slice A ls2.length c) K H nx := by
  obtain ⟨B1, d1, hV, h1, hne⟩ := ho.parts
  have hown : ∀ c, some c = ownBlk sv → c < n1 := fun c hc => (hV.blk hc).2
  refine app_anyV (k := 1) (bytes := 24) he hs hb hz (by omega) (hV.sub (hide_sub H S) hn1) hR (rowsV_one _ _ _ _) (by omega) (by omega) (by unfold maxLen; omega) (fun v' H' nx' hO hc1 hc2 hx hBd hvb => ?_)
  refine hK v' H' nx' ?_ hc1 hc2 hx hBd hvb
  refine OwnLL.of (B := fun i => if i < ls.length then B1 i else B2 (i - ls.length)) (d := fun i => if i < ls.length then d1 i else d2 (i - ls.length)) ?_ ⟨fun i hi => ?_, fun i j hi hj hij => ?_⟩ (fun i hi e => ?_)
  · rw [List.length_append]
    refine (OwnV.hidden hO (fun b hb => ?_)).congr fun i j hi hj => ?_
    · rcases hvb b hb with h | h
      · exact hV.vis h
      · cases hsb : S b with
        | false => rfl
        | true => have := hS b hsb; omega
    unfold catV rowsV
    by_cases h : i < ls.length
    · simp only [if_pos h, rowOf_left h]
    · simp only [if_neg h, rowOf_right (Nat.le_of_not_lt h)]
  · rw [List.length_append] at hi
    by_cases h : i < ls.length
    · simp only [if_pos h, rowOf_left h]
      have hr := h1.row i h
      have hbk := h1.blk h
      exact OwnR.hiI (OwnR.keep hr (fun c hc => by
        cases hc
        exact hide_eq (hc2 _ (hne i h) (show B1 i < nx by omega))) (Nat.le_refl _)) (by omega)
    · simp only [if_neg h, rowOf_right (Nat.le_of_not_lt h)]
      have hi2 : i - ls.length < ls2.length := by omega
      have hr := h2.row _ hi2
      have hbk := h2.blk hi2
      exact OwnR.hiI (OwnR.lo (OwnR.keep hr (fun c hc => by
        cases hc
        refine hide_eq (hc2 _ (fun e => ?_) (show B2 (i - ls.length) < nx by omega))
        have : B2 (i - ls.length) < n1 := hown _ e
        omega) (Nat.le_refl _)) hlo) (by omega)
  · rw [List.length_append] at hi hj
    by_cases h : i < ls.length
    · by_cases h' : j < ls.length
      · simp only [if_pos h, if_pos h']
        exact h1.inj i j h h' hij
      · simp only [if_pos h, if_neg h']
        have := h1.blk h
        have := h2.blk (show j - ls.length < ls2.length by omega)
        omega
    · by_cases h' : j < ls.length
      · simp only [if_neg h, if_pos h']
        have := h1.blk h'
        have := h2.blk (show i - ls.length < ls2.length by omega)
        omega
      · simp only [if_neg h, if_neg h']
        exact h2.inj _ _ (by omega) (by omega) (by omega)
  · rw [List.length_append] at hi
    rcases hvb _ e with h | h
    · by_cases hl : i < ls.length
      · simp only [if_pos hl] at h
        exact hne i hl h
      · simp only [if_neg hl] at h
        have := hown _ h
        have := h2.blk (show i - ls.length < ls2.length by omega)
        omega
    · by_cases hl : i < ls.length
      · simp only [if_pos hl] at h
        have := h1.blk hl
        omega
      · simp only [if_neg hl] at h
        have := h2.blk (show i - ls.length < ls2.length by omega)
        omega
/-- Rows of rows, more of them. -/
theorem appLL {P : Program} {t te ti : TypeId} {lo n1 nx c : Nat} {H : Hp} {ls ls2 : List (List Int)} {A : Option Addr} {sv : Value} {B2 d2 : Nat → Nat} {K : Value → Hp → Nat → Prop}
    (he : qElem P t = some te) (hs : qSize P te = some 1) (hb : qBytes P te = some 24) (hz : ∃ z, qZero P te = some z ∧ z.cells.size = 1)
    (ho : OwnLL H lo n1 ls te ti sv) (hn1 : n1 ≤ nx) (hlo : lo ≤ n1) (hR : RdV H A ls2.length 1 (rowsV ls2 (fun i => some ⟨B2 i, 0, none⟩) d2)) (h2 : RowsI H n1 nx ls2 ti B2 d2)
    (hlen : ls.length + ls2.length ≤ 4000000000)
    (hK : ∀ v' H' nx', OwnLL H' lo nx' (ls ++ ls2) te ti v' → (∀ c, c < lo → H' c = H c) → (∀ c, some c ≠ ownBlk sv → c < nx → H' c = H c) → nx ≤ nx' → (Bd H nx → Bd H' nx') → (∀ c, some c = ownBlk v' → some c = ownBlk sv ∨ nx ≤ c) → K v' H' nx') :
    AppK P t sv (.slice A ls2.length c) K H nx := by
  have e := hide_none H
  refine appLLS (S := fun _ => false) he hs hb hz (fun d h => by cases h) (by rw [e]; exact ho) hn1 hlo hR (by rw [e]; exact h2) hlen (fun v' H' nx' hO h3 h4 h5 h6 h7 => hK v' H' nx' (by rw [hide_none] at hO; exact hO) h3 h4 h5 h6 h7)
/-- Rows of rows behind rows of rows. -/
theorem appLL_LL {P : Program} {t te ti : TypeId} {lo n1 nx c : Nat} {H : Hp} {ls ls2 : List (List Int)} {sv : Value} {A : Option Addr} {K : Value → Hp → Nat → Prop}
    (he : qElem P t = some te) (hs : qSize P te = some 1) (hb : qBytes P te = some 24) (hz : ∃ z, qZero P te = some z ∧ z.cells.size = 1)
    (ho : OwnLL H lo n1 ls te ti sv) (hn1 : n1 ≤ nx) (hlo : lo ≤ n1) (h2 : OwnLL H n1 nx ls2 te ti (.slice A ls2.length c)) (hlen : ls.length + ls2.length ≤ 4000000000)
    (hK : ∀ v' H' nx', OwnLL H' lo nx' (ls ++ ls2) te ti v' → (∀ c, c < lo → H' c = H c) → (∀ c, some c ≠ ownBlk sv → c < nx → H' c = H c) → nx ≤ nx' → (Bd H nx → Bd H' nx') → (∀ c, some c = ownBlk v' → some c = ownBlk sv ∨ nx ≤ c) → K v' H' nx') :
    AppK P t sv (.slice A ls2.length c) K H nx := by
  obtain ⟨B2, d2, hV, hR, hne⟩ := h2.parts
  obtain ⟨A', c', e, _, hRd⟩ := hV.rd
  cases e
  exact appLL he hs hb hz ho hn1 hlo hRd hR hlen hK
/-- One row behind rows of rows; some blocks hidden. -/
theorem appLL_oneS {P : Program} {S : Nat → Bool} {t te ti : TypeId} {lo n1 nx q qn qc e0 : Nat} {H : Hp} {ls : List (List Int)} {l : List Int} {sv : Value} {K : Value → Hp → Nat → Prop}
    (he : qElem P t = some te) (hs : qSize P te = some 1) (hb : qBytes P te = some 24) (hz : ∃ z, qZero P te = some z ∧ z.cells.size = 1)
    (hS : ∀ d, S d = true → d < nx) (ho : OwnLL (hide H S) lo n1 ls te ti sv) (hn1 : n1 ≤ nx) (hlo : lo ≤ n1) (h2 : OwnL (hide H S) n1 nx l ti (.slice (some ⟨q, 0, none⟩) qn qc)) (hq : qn = l.length) (hx : H e0 = some (.rw [.slice (some ⟨q, 0, none⟩) qn qc] te)) (hlen : ls.length + 1 ≤ 4000000000)
    (hK : ∀ v' H' nx', OwnLL (hide H' S) lo nx' (ls ++ [l]) te ti v' → (∀ c, c < lo → H' c = H c) → (∀ c, some c ≠ ownBlk sv → c < nx → H' c = H c) → nx ≤ nx' → (Bd H nx → Bd H' nx') → (∀ c, some c = ownBlk v' → some c = ownBlk sv ∨ nx ≤ c) → K v' H' nx') :
    AppK P t sv (.slice (some ⟨e0, 0, none⟩) 1 1) K H nx := by
  subst hq
  refine appLLS (ls2 := [l]) (B2 := fun _ => q) (d2 := fun _ => qc) he hs hb hz hS ho hn1 hlo ⟨fun _ => ⟨e0, 0, rfl, fun i j hi hj => ?_⟩⟩ ⟨fun i hi => ?_, fun i j hi hj hij => ?_⟩ (by simpa using hlen) hK
  · have hi0 : i = 0 := by simp at hi; omega
    have hj0 : j = 0 := by omega
    subst hi0 hj0
    rw [rd_rw hx]
    rfl
  · have hi0 : i = 0 := by simp at hi; omega
    subst hi0
    exact h2
  · simp at hi hj; omega
/-- One row behind rows of rows. -/
theorem appLL_one {P : Program} {t te ti : TypeId} {lo n1 nx q qn qc e0 : Nat} {H : Hp} {ls : List (List Int)} {l : List Int} {sv : Value} {K : Value → Hp → Nat → Prop}
    (he : qElem P t = some te) (hs : qSize P te = some 1) (hb : qBytes P te = some 24) (hz : ∃ z, qZero P te = some z ∧ z.cells.size = 1)
    (ho : OwnLL H lo n1 ls te ti sv) (hn1 : n1 ≤ nx) (hlo : lo ≤ n1) (h2 : OwnL H n1 nx l ti (.slice (some ⟨q, 0, none⟩) qn qc)) (hq : qn = l.length) (hx : H e0 = some (.rw [.slice (some ⟨q, 0, none⟩) qn qc] te)) (hlen : ls.length + 1 ≤ 4000000000)
    (hK : ∀ v' H' nx', OwnLL H' lo nx' (ls ++ [l]) te ti v' → (∀ c, c < lo → H' c = H c) → (∀ c, some c ≠ ownBlk sv → c < nx → H' c = H c) → nx ≤ nx' → (Bd H nx → Bd H' nx') → (∀ c, some c = ownBlk v' → some c = ownBlk sv ∨ nx ≤ c) → K v' H' nx') :
    AppK P t sv (.slice (some ⟨e0, 0, none⟩) 1 1) K H nx := by
  subst hq
  refine appLL (ls2 := [l]) (B2 := fun _ => q) (d2 := fun _ => qc) he hs hb hz ho hn1 hlo ⟨fun _ => ⟨e0, 0, rfl, fun i j hi hj => ?_⟩⟩ ⟨fun i hi => ?_, fun i j hi hj hij => ?_⟩ (by simpa using hlen) hK
  · have hi0 : i = 0 := by simp at hi; omega
    have hj0 : j = 0 := by omega
    subst hi0 hj0
    rw [rd_rw hx]
    rfl
  · have hi0 : i = 0 := by simp at hi; omega
    subst hi0
    exact h2
  · simp at hi hj; omega
/-- One element more: in its block where there is room, or in a new one. -/
theorem app_oneC {P : Program} {t ty : TypeId} {lo nx b c cap : Nat} {H : Hp} {l : List Int} {x : Int} {K : Value → Hp → Nat → Prop}
    (he : qElem P t = some ty) (hs : qSize P ty = some 1) (hb : qBytes P ty = some 8) (hz : qZero P ty = some (.int .i64 0))
    (ho : OwnL H lo nx l ty (.slice (some ⟨c, 0, none⟩) l.length cap)) (hx : H b = some (.rw [.int .i64 x] ty)) (hlo : lo ≤ nx) (hlen : l.length + 1 ≤ 1048577)
    (hK : ∀ b' cap' o nx', ((b' = c ∧ cap' = cap) ∨ nx ≤ b') → nx ≤ nx' → b' < nx' → OwnL (upd H b' o) lo nx' (l ++ [x]) ty (.slice (some ⟨b', 0, none⟩) (l.length + 1) cap') → K (.slice (some ⟨b', 0, none⟩) (l.length + 1) cap') (upd H b' o) nx') :
    AppK P t (.slice (some ⟨c, 0, none⟩) l.length cap) (.slice (some ⟨b, 0, none⟩) 1 1) K H nx := by
  refine ⟨ty, 1, 8, l.length, 1, 1, flat l.length 1 (rowL l), [.int .i64 x], some ⟨b, 0, none⟩, he, hs, hb, ⟨_, hz, rfl⟩, by omega, OwnR.own ho, rfl, ⟨rfl, fun _ => ⟨b, 0, rfl, fun i u hu => ?_⟩⟩, rfl, by omega, by unfold maxLen; omega, (fun h => by cases h), fun _ b' cap' sp nx' hb0 hn' hlt hcap hmx hlen' => ?_⟩
  · rw [Nat.zero_add, rd_rw hx]; exact hu
  · have hfl : flat l.length 1 (rowL l) ++ [Value.int .i64 x] = flat (l ++ [x]).length 1 (rowL (l ++ [x])) := by
      have h1 := flat_snoc (n := l.length) (k := 1) (f := rowL l) (e := fun _ => x)
      have h2 : flat (l.length + 1) 1 (snoc l.length (rowL l) (fun _ => x)) = flat (l ++ [x]).length 1 (rowL (l ++ [x])) := by
        have e : (l ++ [x]).length = l.length + 1 := by simp
        rw [e]
        exact flat_congr fun i j hi hj => rowL_snoc l x i j (by omega) hj
      rw [← h2, ← h1]
      rfl
    rw [hfl] at hlen' ⊢
    have e : (l ++ [x]).length = l.length + 1 := by simp
    have hb2 : (b' = c ∧ cap' = cap) ∨ nx ≤ b' := by
      rcases hb0 with ⟨h1, h2⟩ | ⟨h1, h2⟩
      · exact .inl ⟨by simpa [ownBlk] using h1, by simpa [capOf] using h2⟩
      · exact .inr h2
    refine hK b' cap' _ nx' hb2 hn' hlt ⟨.inr ⟨b', cap', sp, by rw [e], ?_, hlt, upd_same _ _ _, by rw [e]; exact hcap, hmx, ?_⟩⟩
    · rcases hb2 with ⟨h, _⟩ | h
      · rw [h]; exact (OwnR.blk ho rfl).1
      · omega
    · rw [List.length_append, flat_length] at hlen'
      omega
/-- What stands before the last one. -/
theorem OwnL.pre {H : Hp} {lo nx c cap : Nat} {l : List Int} {x : Int} {ty : TypeId} (h : OwnL H lo nx (l ++ [x]) ty (.slice (some ⟨c, 0, none⟩) (l.length + 1) cap)) : OwnL H lo nx l ty (.slice (some ⟨c, 0, none⟩) l.length cap) := by
  have e : (l ++ [x]).length = l.length + 1 := by simp
  rcases h.ex with ⟨e1, _⟩ | ⟨b', cap', sp, e1, h1, h2, h3, h4, h5, h6⟩
  · cases e1
  · simp only [Value.slice.injEq, Option.some.injEq, Addr.mk.injEq] at e1
    obtain ⟨⟨rfl, _⟩, _, rfl⟩ := e1
    have hfl : flat (l ++ [x]).length 1 (rowL (l ++ [x])) = flat l.length 1 (rowL l) ++ [Value.int .i64 x] := by
      have h1 := flat_snoc (n := l.length) (k := 1) (f := rowL l) (e := fun _ => x)
      have h2 : flat (l.length + 1) 1 (snoc l.length (rowL l) (fun _ => x)) = flat (l ++ [x]).length 1 (rowL (l ++ [x])) := by
        rw [e]
        exact flat_congr fun i j hi hj => rowL_snoc l x i j (by omega) hj
      rw [← h2, ← h1]
      rfl
    refine ⟨.inr ⟨c, cap, [Value.int .i64 x] ++ sp, rfl, h1, h2, ?_, by omega, h5, ?_⟩⟩
    · rw [h3, hfl, List.append_assoc]
    · rw [List.length_append, List.length_singleton]; omega
end Go.Proofs.YtnaldmmdhpobgaaDoor
