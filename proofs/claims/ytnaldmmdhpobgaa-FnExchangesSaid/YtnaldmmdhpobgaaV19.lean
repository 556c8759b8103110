/- A row of heads that grows by one. -/
import Derived.Test.YtnaldmmdhpobgaaV18
set_option linter.unusedVariables false
set_option linter.unusedSimpArgs false
set_option maxRecDepth 100000
set_option maxHeartbeats 1000000
namespace Go.Proofs.Ytnaldmmdhpobgaa
open Go Go.RowKit Go.Proofs

/-- A row of heads, and one head more: read as rows of rows. -/
theorem RdLL.snoc {H : Hp} {lo nx : Nat} {te : TypeId} {v : Value} {ls : List (List Int)} {l : List Int} {Q : Nat → Option Addr} {d : Nat → Nat} {q : Option Addr} {e : Nat}
    (ho : OwnV H lo nx (ls.length + 1) 1 (fun i j => if i < ls.length then rowsV ls Q d i j else .slice q l.length e) te v)
    (h1 : ∀ i, i < ls.length → (rowOf ls i).length ≤ d i ∧ RdL H (Q i) (rowOf ls i)) (h2 : l.length ≤ e) (h3 : RdL H q l) :
    ∃ A c, v = .slice A (ls ++ [l]).length c ∧ (ls ++ [l]).length ≤ c ∧ RdLL H A (ls ++ [l]) := by
  obtain ⟨A, c, rfl, hc, hR⟩ := ho.rd
  have e9 : (ls ++ [l]).length = ls.length + 1 := by simp
  refine ⟨A, c, by rw [e9], by rw [e9]; exact hc, ⟨⟨fun i => if i < ls.length then Q i else q, fun i => if i < ls.length then d i else e, ?_, fun i hi => ?_⟩⟩⟩
  · rw [e9]
    refine hR.congr fun i j hi hj => ?_
    unfold rowsV
    by_cases h : i < ls.length
    · simp only [if_pos h, rowOf_left h]
    · have hi2 : i - ls.length = 0 := by omega
      simp only [if_neg h, rowOf_right (Nat.le_of_not_lt h), hi2]
      rfl
  · rw [e9] at hi
    by_cases h : i < ls.length
    · simp only [if_pos h, rowOf_left h]
      exact h1 i h
    · have hi2 : i - ls.length = 0 := by omega
      simp only [if_neg h, rowOf_right (Nat.le_of_not_lt h), hi2]
      exact ⟨h2, h3⟩
/-- A row of heads put behind nothing. -/
theorem app_heads {P : Program} {t te : TypeId} {bytes lo nx n c z : Nat} {H H0 : Hp} {g : Nat → Nat → Value} {A : Option Addr} {K : Value → Hp → Nat → Prop}
    (he : qElem P t = some te) (hs : qSize P te = some 1) (hb : qBytes P te = some bytes) (hz : ∃ z, qZero P te = some z ∧ z.cells.size = 1)
    (h1 : lo ≤ z) (h2 : z < nx) (hH : H z = some (.rw [] te)) (hV : RdV H A n 1 g) (hg : oneG n 1 g) (hB : Bd H nx) (hlen : n * bytes ≤ 140737488355328) (hmax : n ≤ maxLen) (hB0 : Bd H0 lo) (hs0 : Sub H0 H)
    (hK : ∀ v H' nx', OwnV H' lo nx' n 1 g te v → (∀ c, c < nx → c ≠ z → H' c = H c) → nx ≤ nx' → Bd H' nx' → Sub H0 H' → K v H' nx') : AppK P t (.slice (some ⟨z, 0, none⟩) 0 0) (.slice A n c) K H nx := by
  refine app_anyV (k := 1) (lo := lo) (n := 0) (f := g) he hs hb hz (by omega) (.empty h1 h2 hH) hV hg (by omega) (by rw [Nat.zero_add]; exact hlen) (by rw [Nat.zero_add]; exact hmax) ?_
  intro v' H' nx' hO hlo hoth hx hBd hat
  replace hO := hO.congr (g := g) (fun i q hi hq => by unfold catV; rw [if_neg (by omega), Nat.sub_zero])
  rw [Nat.zero_add] at hO
  exact hK v' H' nx' hO (fun c hc hcz => hoth c (fun e => hcz (by cases e; rfl)) hc) hx (hBd hB) (fun b o e => by rw [hlo b (hB0 b o e)]; exact hs0 b o e)
/-- One head more. -/
theorem app_head1 {P : Program} {t te : TypeId} {bytes lo nx z : Nat} {H H0 : Hp} {ls : List (List Int)} {l : List Int} {Q : Nat → Option Addr} {d : Nat → Nat} {q : Option Addr} {e : Nat} {sv : Value} {K : Value → Hp → Nat → Prop}
    (he : qElem P t = some te) (hs : qSize P te = some 1) (hb : qBytes P te = some bytes) (hz : ∃ z, qZero P te = some z ∧ z.cells.size = 1)
    (ho : OwnV H lo nx ls.length 1 (rowsV ls Q d) te sv) (hX : H z = some (.rw [.slice q l.length e] te)) (hlo : lo ≤ nx) (hlen : (ls.length + 1) * bytes ≤ 140737488355328) (hmax : ls.length + 1 ≤ maxLen) (hB0 : Bd H0 lo) (hs0 : Sub H0 H)
    (h1 : ∀ i, i < ls.length → (rowOf ls i).length ≤ d i ∧ RdL H0 (Q i) (rowOf ls i)) (h2 : l.length ≤ e) (h3 : RdL H0 q l)
    (hK : ∀ A c H' nx', RdLL H' A (ls ++ [l]) → (ls ++ [l]).length ≤ c → nx ≤ nx' → Sub H0 H' → K (.slice A (ls ++ [l]).length c) H' nx') : AppK P t sv (.slice (some ⟨z, 0, none⟩) 1 1) K H nx := by
  refine app_oneV (k := 1) (e := fun _ => .slice q l.length e) he hs hb hz (by omega) ho hX rfl (fun j hj => rfl) hlo hlen hmax ?_
  intro v' b' o nx' hb' hn' hown hO
  have hsX : Sub H0 (upd H b' o) := OwnV.sub_app ho hb' hlo hB0 hs0
  obtain ⟨A, c, rfl, hc, hR⟩ := RdLL.snoc hO (fun i hi => ⟨(h1 i hi).1, Rd.sub (h1 i hi).2 hsX⟩) h2 (Rd.sub h3 hsX)
  exact hK A c _ _ hR hc hn' hsX
end Go.Proofs.Ytnaldmmdhpobgaa
