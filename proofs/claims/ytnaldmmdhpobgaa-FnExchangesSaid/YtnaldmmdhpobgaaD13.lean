/- A row of heads that grows in place: whose block it is in, and what stood before. For every program. -/
import Derived.Test.YtnaldmmdhpobgaaD12
set_option linter.unusedVariables false
set_option linter.unusedSimpArgs false
namespace Go.Proofs.Ytnaldmmdhpobgaa
open Go Go.RowKit

theorem flatV_one (e : Value) : flatV 1 1 (fun _ _ => e) = [e] := by simp [flatV, List.range_succ]
/-- One cell more: in its block where there is room, or in a new one. -/
theorem app_oneVC {P : Program} {t ty : TypeId} {bytes lo nx n b : Nat} {H : Hp} {f : Nat → Nat → Value} {e : Value} {sv : Value} {K : Value → Hp → Nat → Prop}
    (he : qElem P t = some ty) (hs : qSize P ty = some 1) (hb : qBytes P ty = some bytes) (hz : ∃ z, qZero P ty = some z ∧ z.cells.size = 1)
    (ho : OwnV H lo nx n 1 f ty sv) (hx : H b = some (.rw [e] ty)) (hg : e.oneCell' = true) (hlo : lo ≤ nx) (hlen : (n + 1) * bytes ≤ 140737488355328) (hmax : n + 1 ≤ maxLen)
    (hK : ∀ b' cap' o nx', ((some b' = ownBlk sv ∧ cap' = capOf sv) ∨ nx ≤ b') → nx ≤ nx' → b' < nx' → OwnV (upd H b' o) lo nx' (n + 1) 1 (catV n f (fun _ _ => e)) ty (.slice (some ⟨b', 0, none⟩) (n + 1) cap') → K (.slice (some ⟨b', 0, none⟩) (n + 1) cap') (upd H b' o) nx') :
    AppK P t sv (.slice (some ⟨b, 0, none⟩) 1 1) K H nx := by
  refine ⟨ty, 1, bytes, n, 1, 1, flatV n 1 f, [e], some ⟨b, 0, none⟩, he, hs, hb, hz, by omega, OwnV.own ho, rfl, ⟨rfl, fun _ => ⟨b, 0, rfl, fun i u hu => ?_⟩⟩, by simp [hg], by omega, hmax, (fun h => by cases h), fun _ b' cap' sp nx' hb0 hn' hlt hcap hmx hlen' => ?_⟩
  · rw [Nat.zero_add, rd_rw hx]; exact hu
  · have hfl : flatV n 1 f ++ [e] = flatV (n + 1) 1 (catV n f (fun _ _ => e)) := by rw [← flatV_cat, flatV_one]
    rw [hfl] at hlen' ⊢
    have hb2 : (some b' = ownBlk sv ∧ cap' = capOf sv) ∨ nx ≤ b' := by
      rcases hb0 with ⟨h1, h2⟩ | ⟨h1, h2⟩
      · exact .inl ⟨h1, h2⟩
      · exact .inr h2
    refine hK b' cap' _ nx' hb2 hn' hlt ⟨.inr ⟨b', cap', sp, rfl, ?_, hlt, upd_same _ _ _, hcap, hmx, ?_⟩⟩
    · rcases hb2 with ⟨h, _⟩ | h
      · exact (OwnV.blk ho h).1
      · omega
    · rw [List.length_append, flatV_length] at hlen'
      omega
/-- A row of heads in a block of its own, of rows that stay known. -/
structure CirO (Hc H : Hp) (lo nx : Nat) (te : TypeId) (bg : List (List Int)) (cv : Value) : Prop where
  ex : ∃ Q d, OwnV H lo nx bg.length 1 (rowsV bg Q d) te cv ∧ ∀ i, i < bg.length → (rowOf bg i).length ≤ d i ∧ RdL Hc (Q i) (rowOf bg i)
theorem CirO.nil {Hc H : Hp} {lo nx : Nat} {te : TypeId} : CirO Hc H lo nx te [] (.slice none 0 0) := ⟨⟨fun _ => none, fun _ => 0, .nil, fun i hi => by simp at hi⟩⟩
theorem CirO.rd {Hc H : Hp} {lo nx : Nat} {te : TypeId} {bg : List (List Int)} {cv : Value} (h : CirO Hc H lo nx te bg cv) (hs : Sub Hc H) : ∃ A c, cv = .slice A bg.length c ∧ bg.length ≤ c ∧ RdLL H A bg := by
  obtain ⟨Q, d, hO, hr⟩ := h.ex
  obtain ⟨A, c, rfl, hc, hR⟩ := hO.rd
  exact ⟨A, c, rfl, hc, ⟨⟨Q, d, hR, fun i hi => ⟨(hr i hi).1, Rd.sub (hr i hi).2 hs⟩⟩⟩⟩
theorem CirO.keep {Hc H H' : Hp} {lo nx nx' : Nat} {te : TypeId} {bg : List (List Int)} {cv : Value} (h : CirO Hc H lo nx te bg cv) (hk : ∀ b o, some b = ownBlk cv → H b = some o → H' b = some o) (hn : nx ≤ nx') : CirO Hc H' lo nx' te bg cv := by
  obtain ⟨Q, d, hO, hr⟩ := h.ex
  refine ⟨⟨Q, d, ?_, hr⟩⟩
  rcases hO.ex with ⟨e, h0⟩ | ⟨b', cap, sp, rfl, h1, h2, h3, h4⟩
  · exact ⟨.inl ⟨e, h0⟩⟩
  · exact ⟨.inr ⟨b', cap, sp, rfl, h1, by omega, hk b' _ rfl h3, h4⟩⟩
theorem CirO.blk {Hc H : Hp} {lo nx b : Nat} {te : TypeId} {bg : List (List Int)} {cv : Value} (h : CirO Hc H lo nx te bg cv) (hb : some b = ownBlk cv) : lo ≤ b ∧ b < nx := by
  obtain ⟨Q, d, hO, hr⟩ := h.ex
  exact hO.blk hb
/-- What stands before the last one. -/
theorem CirO.pre {Hc H : Hp} {lo nx b cap : Nat} {te : TypeId} {bg : List (List Int)} {l : List Int} (h : CirO Hc H lo nx te (bg ++ [l]) (.slice (some ⟨b, 0, none⟩) (bg.length + 1) cap)) : CirO Hc H lo nx te bg (.slice (some ⟨b, 0, none⟩) bg.length cap) := by
  obtain ⟨Q, d, hO, hr⟩ := h.ex
  have e9 : (bg ++ [l]).length = bg.length + 1 := by simp
  refine ⟨⟨Q, d, ?_, fun i hi => ?_⟩⟩
  · rcases hO.ex with ⟨e, _⟩ | ⟨b', cap', sp, e, h1, h2, h3, h4, h5, h6⟩
    · cases e
    · simp only [Value.slice.injEq, Option.some.injEq, Addr.mk.injEq] at e
      obtain ⟨⟨rfl, _⟩, _, rfl⟩ := e
      have hfl : flatV (bg ++ [l]).length 1 (rowsV (bg ++ [l]) Q d) = flatV bg.length 1 (rowsV bg Q d) ++ [.slice (Q bg.length) l.length (d bg.length)] := by
        rw [← flatV_one (.slice (Q bg.length) l.length (d bg.length)), flatV_cat, e9]
        refine flatV_congr fun i j hi hj => ?_
        unfold catV rowsV
        by_cases hi2 : i < bg.length
        · rw [if_pos hi2, rowOf_left hi2]
        · have e1 : i - bg.length = 0 := by omega
          have e2 : i = bg.length := by omega
          rw [if_neg hi2, rowOf_right (Nat.le_of_not_lt hi2), e1, e2]
          rfl
      refine ⟨.inr ⟨b, cap, [.slice (Q bg.length) l.length (d bg.length)] ++ sp, rfl, h1, h2, ?_, by omega, h5, ?_⟩⟩
      · rw [h3, hfl, List.append_assoc]
      · rw [List.length_append, List.length_singleton]; omega
  · have := hr i (by omega)
    rw [rowOf_left hi] at this
    exact this
/-- One head more. -/
theorem CirO.app {P : Program} {t te : TypeId} {bytes lo nx z : Nat} {Hc H : Hp} {bg : List (List Int)} {l : List Int} {q : Option Addr} {e : Nat} {sv : Value} {K : Value → Hp → Nat → Prop}
    (he : qElem P t = some te) (hs : qSize P te = some 1) (hb : qBytes P te = some bytes) (hz : ∃ z, qZero P te = some z ∧ z.cells.size = 1)
    (ho : CirO Hc H lo nx te bg sv) (hX : H z = some (.rw [.slice q l.length e] te)) (hlo : lo ≤ nx) (hlen : (bg.length + 1) * bytes ≤ 140737488355328) (hmax : bg.length + 1 ≤ maxLen) (h2 : l.length ≤ e) (h3 : RdL Hc q l)
    (hK : ∀ b' cap' o nx', (some b' = ownBlk sv ∨ nx ≤ b') → nx ≤ nx' → b' < nx' → CirO Hc (upd H b' o) lo nx' te (bg ++ [l]) (.slice (some ⟨b', 0, none⟩) (bg.length + 1) cap') →
      (some b' = ownBlk sv → ∀ H6 nx6, CirO Hc H6 lo nx6 te (bg ++ [l]) (.slice (some ⟨b', 0, none⟩) (bg.length + 1) cap') → CirO Hc H6 lo nx6 te bg sv) → K (.slice (some ⟨b', 0, none⟩) (bg.length + 1) cap') (upd H b' o) nx') :
    AppK P t sv (.slice (some ⟨z, 0, none⟩) 1 1) K H nx := by
  obtain ⟨Q, d, hO, hr⟩ := ho.ex
  have e9 : (bg ++ [l]).length = bg.length + 1 := by simp
  refine app_oneVC (e := .slice q l.length e) he hs hb hz hO hX rfl hlo hlen hmax ?_
  intro b' cap' o nx' hb' hn' hlt hO'
  refine hK b' cap' o nx' (by rcases hb' with h | h; exact .inl h.1; exact .inr h) hn' hlt ⟨⟨fun i => if i < bg.length then Q i else q, fun i => if i < bg.length then d i else e, ?_, fun i hi => ?_⟩⟩ ?_
  · rw [e9]
    refine hO'.congr fun i j hi hj => ?_
    unfold catV rowsV
    by_cases h : i < bg.length
    · simp only [if_pos h, rowOf_left h]
    · have hi2 : i - bg.length = 0 := by omega
      simp only [if_neg h, rowOf_right (Nat.le_of_not_lt h), hi2]
      rfl
  · rw [e9] at hi
    by_cases h : i < bg.length
    · simp only [if_pos h, rowOf_left h]
      exact hr i h
    · have hi2 : i - bg.length = 0 := by omega
      simp only [if_neg h, rowOf_right (Nat.le_of_not_lt h), hi2]
      exact ⟨h2, h3⟩
  · intro hbs H6 nx6 h6
    rcases hb' with ⟨h, hcap⟩ | h
    · rcases hO.ex with ⟨rfl, _⟩ | ⟨b9, cap9, sp, rfl, _⟩
      · cases h
      · have e1 : b' = b9 := by simpa [ownBlk] using h
        have e2 : cap' = cap9 := by simpa [capOf] using hcap
        subst e1 e2
        exact CirO.pre h6
    · have := (hO.blk hbs).2
      omega
end Go.Proofs.Ytnaldmmdhpobgaa
