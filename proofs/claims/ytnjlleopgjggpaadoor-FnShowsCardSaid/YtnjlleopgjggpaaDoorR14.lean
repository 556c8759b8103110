/- Exhibits: one more; a place cut out of a row. -/
import Derived.Test.YtnjlleopgjggpaaDoorR11
import Derived.Test.YtnjlleopgjggpaaDoorD10
import Derived.Test.YtnjlleopgjggpaaDoorR8
import Derived.Test.YtnjlleopgjggpaaDoorP23b
set_option linter.unusedVariables false
set_option linter.unusedSimpArgs false
set_option maxRecDepth 100000
set_option maxHeartbeats 4000000
namespace Go.Proofs.YtnjlleopgjggpaaDoor
open Go Go.RowKit Go.Proofs

/-- One exhibit more. -/
theorem app_oneSh {P : Program} {t te ti : TypeId} {bytes lo mid nx n bX bN dN : Nat} {H : Hp} {s : Shw} {sv : Value} {K : Value → Hp → Nat → Prop}
    (he : qElem P t = some te) (hs : qSize P te = some 4) (hb : qBytes P te = some bytes) (hz : ∃ z, qZero P te = some z ∧ z.cells.size = 4)
    (ho : OwnSh H lo mid n s te ti sv) (hX : H bX = some (.rw [.int .i64 (s.id n), .string (s.title n), .int .i64 (s.fr n), .slice (some ⟨bN, 0, none⟩) (s.m n) dN] te))
    (hN : OwnR H lo nx (s.m n) 1 (fun q _ => s.mks n q) ti (.slice (some ⟨bN, 0, none⟩) (s.m n) dN)) (hm1 : mid ≤ bN) (hm2 : bN < nx) (hlo : lo ≤ mid) (hlen : (n + 1) * bytes ≤ 140737488355328) (hmax : n + 1 ≤ maxLen)
    (hK : ∀ v' b' o nx', (some b' = ownBlk sv ∨ nx ≤ b') → nx ≤ nx' → some b' = ownBlk v' → OwnSh (upd H b' o) lo nx' (n + 1) s te ti v' → K v' (upd H b' o) nx') :
    AppK P t sv (.slice (some ⟨bX, 0, none⟩) 1 1) K H nx := by
  obtain ⟨B, d, hV, hrows, hdis⟩ : ∃ (B d : Nat → Nat), OwnV H lo mid n 4 (s.cells (fun i => some ⟨B i, 0, none⟩) d) te sv ∧ (∀ i, i < n → some (B i) ≠ ownBlk sv ∧ OwnR H lo mid (s.m i) 1 (fun q _ => s.mks i q) ti (.slice (some ⟨B i, 0, none⟩) (s.m i) (d i))) ∧ (∀ i j, i < n → j < n → i ≠ j → B i ≠ B j) := by
    rcases ho.ex with ⟨rfl, rfl⟩ | ⟨b, cap, sp, B, d, rfl, h1, h2, h3, h4, h5, h6, h7, h8⟩
    · exact ⟨fun _ => 0, fun _ => 0, .nil, fun i hi => by omega, fun i j hi => by omega⟩
    · refine ⟨B, d, ⟨.inr ⟨b, cap, sp, rfl, h1, h2, h6, h3, h4, h5⟩⟩, fun i hi => ⟨fun e => (h7 i hi).1 (by cases e; rfl), (h7 i hi).2⟩, h8⟩
  have hmid : mid ≤ nx := by omega
  have hV' : OwnV H lo nx n 4 (s.cells (fun i => some ⟨B i, 0, none⟩) d) te sv := hV.sub (Sub.refl _) hmid
  refine app_oneV (k := 4) (e := s.cells (fun _ => some ⟨bN, 0, none⟩) (fun _ => dN) n) he hs hb hz (by omega) hV' hX rfl (fun j hj => ?_) (by omega) hlen hmax ?_
  · match j, hj with
    | 0, _ => rfl
    | 1, _ => rfl
    | 2, _ => rfl
    | 3, _ => rfl
  · intro v' b' o nx' hb' hn' hown hO
    refine hK v' b' o nx' hb' hn' hown ?_
    have hbb : ∀ c, (∃ i, i < n ∧ c = B i) ∨ c = bN → b' ≠ c := fun c hc e => by
      rcases hb' with h | h
      · have h9 := hV.blk h
        rcases hc with ⟨i, hi, rfl⟩ | rfl
        · exact (hrows i hi).1 (by rw [← e]; exact h)
        · omega
      · rcases hc with ⟨i, hi, rfl⟩ | rfl
        · have := (hrows i hi).2.blk (show some (B i) = _ from rfl); omega
        · omega
    rcases hO.ex with ⟨rfl, h0⟩ | ⟨b2, cap, sp, rfl, h1, h2, h3, h4, h5, h6⟩
    · omega
    have e2 : b' = b2 := by cases hown; rfl
    subst e2
    refine ⟨.inr ⟨b', cap, sp, fun i => if i < n then B i else bN, fun i => if i < n then d i else dN, rfl, h1, h2, h4, h5, h6, ?_, fun i hi => ?_, fun i j hi hj hij => ?_⟩⟩
    · rw [h3]
      congr 3
      refine flatV_congr fun i j hi hj => ?_
      match j, hj with
      | 0, _ => by_cases h : i < n <;> simp [h, Shw.cells] <;> (congr 1; first | rfl | omega)
      | 1, _ => by_cases h : i < n <;> simp [h, Shw.cells] <;> (congr 1; first | rfl | omega)
      | 2, _ => by_cases h : i < n <;> simp [h, Shw.cells] <;> (congr 1; first | rfl | omega)
      | 3, _ => by_cases h : i < n <;> simp [h, Shw.cells] <;> (congr 1; first | rfl | omega)
    · by_cases h : i < n
      · simp only [if_pos h]
        exact ⟨fun e => hbb (B i) (.inl ⟨i, h, rfl⟩) e.symm, (hrows i h).2.keep (fun c hc => by cases hc; exact upd_ne (hbb (B i) (.inl ⟨i, h, rfl⟩)).symm) (by omega)⟩
      · have : i = n := by omega
        subst this
        simp only [if_neg h]
        exact ⟨fun e => hbb bN (.inr rfl) e.symm, hN.keep (fun c hc => by cases hc; exact upd_ne (hbb bN (.inr rfl)).symm) (by omega)⟩
    · have hlt : ∀ q, q < n → B q ≠ bN := fun q hq e => by
        have := (hrows q hq).2.blk (show some (B q) = _ from rfl); omega
      by_cases h : i < n
      · by_cases h' : j < n
        · simp only [if_pos h, if_pos h']; exact hdis i j h h' hij
        · simp only [if_pos h, if_neg h']; exact hlt i h
      · by_cases h' : j < n
        · simp only [if_neg h, if_pos h']; exact (hlt j h').symm
        · omega
end Go.Proofs.YtnjlleopgjggpaaDoor
