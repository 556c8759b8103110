/- A cut: V is monotone in what follows. For every program. -/
import Derived.Test.YtnjlleopgjggpaaDoorD
set_option linter.unusedVariables false
set_option linter.unusedSimpArgs false
namespace Go.Proofs.YtnjlleopgjggpaaDoor
open Go Go.RowKit

theorem eqN_mono {xs ys : Array Value} : ∀ (n i : Nat) {k k' : Bool → Prop}, (∀ r, k r → k' r) → eqN xs ys i n k → eqN xs ys i n k'
  | 0, i, k, k', hk, h => hk _ h
  | n + 1, i, k, k', hk, h => by
    simp only [eqN] at h ⊢
    split at h
    · exact eqN_mono n (i + 1) (fun r hr => hk _ hr) h
    · exact h.elim
theorem bo_mono {P : Program} {op : BinOp} {t : TypeId} {x y : Value} {K K' : Value → Prop} (hK : ∀ v, K v → K' v) (h : bo P op t x y K) : bo P op t x y K' := by
  unfold bo at h ⊢
  split at h
  · cases op <;> simp only at h ⊢ <;> first
      | exact h.elim
      | exact hK _ h
      | exact ⟨h.1, hK _ h.2⟩
      | exact ⟨h.1, h.2.1, hK _ h.2.2⟩
  · cases op <;> simp only at h ⊢ <;> first
      | exact h.elim
      | exact hK _ h
      | exact ⟨h.1, hK _ h.2⟩
  · cases op <;> simp only at h ⊢ <;> first
      | exact h.elim
      | exact hK _ h
      | exact ⟨h.1, hK _ h.2⟩
  · cases op <;> simp only at h ⊢ <;> first
      | exact h.elim
      | exact hK _ h
      | exact ⟨h.1, hK _ h.2⟩
  · cases op <;> simp only at h ⊢ <;> first
      | exact h.elim
      | exact ⟨h.1, eqN_mono _ _ (fun r hr => hK _ hr) h.2⟩
  · exact h.elim
theorem WV_mono {P : Program} {fr : Fr} {H : Hp} {op : Op} {K K' : Value → Prop} (hK : ∀ v, K v → K' v) (h : WV P fr H op K) : WV P fr H op K' := by
  unfold WV at h ⊢
  split at h <;> (try simp only at h ⊢)
  all_goals first
    | exact hK _ h
    | exact bo_mono hK h
    | exact h.elim
    | skip
  all_goals (repeat' (split at h)) <;> first
    | exact h.elim
    | (revert h
       (try simp only [*])
       intro h
       first
       | exact hK _ h
       | exact ⟨h.1, hK _ h.2⟩
       | exact ⟨h.1, h.2.1, hK _ h.2.2⟩
       | exact ⟨h.1, h.2.1, h.2.2.1, hK _ h.2.2.2⟩
       | exact h.elim
       | (simp_all; done))
    | (simp_all; done)
theorem AppK_mono {P : Program} {t : TypeId} {sv xv : Value} {K K' : Value → Hp → Nat → Prop} {H : Hp} {nx : Nat} (hK : ∀ v H nx, K v H nx → K' v H nx) (h : AppK P t sv xv K H nx) : AppK P t sv xv K' H nx := by
  obtain ⟨e, size, bytes, n, m, c, xs, vs, xa, h1, h2, h3, h4, h5, h6, h7, h8, h9, h10, h11, h12, h13⟩ := h
  exact ⟨e, size, bytes, n, m, c, xs, vs, xa, h1, h2, h3, h4, h5, h6, h7, h8, h9, h10, h11, fun h => hK _ _ _ (h12 h), fun hm b cap sp nx' a1 a2 a3 a4 a5 a6 => hK _ _ _ (h13 hm b cap sp nx' a1 a2 a3 a4 a5 a6)⟩
theorem AppZK_mono {P : Program} {t ti : TypeId} {sv xv : Value} {K K' : Value → Hp → Nat → Prop} {H : Hp} {nx : Nat} (hK : ∀ v H nx, K v H nx → K' v H nx) (h : AppZK P t ti sv xv K H nx) : AppZK P t ti sv xv K' H nx := by
  obtain ⟨e, size, bytes, n, m, c, A, z, kl, ki, xs, h1, h2, h3, h4, h5, h6, h7, h8, h9, h10, h11, h12, h13, h14, h15, h16, h17⟩ := h
  exact ⟨e, size, bytes, n, m, c, A, z, kl, ki, xs, h1, h2, h3, h4, h5, h6, h7, h8, h9, h10, h11, h12, h13, h14, h15, h16, fun b cap sp nx' a1 a2 a3 a4 a5 a6 => hK _ _ _ (h17 b cap sp nx' a1 a2 a3 a4 a5 a6)⟩
theorem CopyK_mono {P : Program} {t : TypeId} {dv sv : Value} {K K' : Value → Hp → Nat → Prop} {H : Hp} {nx : Nat} (hK : ∀ v H nx, K v H nx → K' v H nx) (h : CopyK P t dv sv K H nx) : CopyK P t dv sv K' H nx := by
  obtain ⟨e, size, n, dn, dc, sn, sc, A, A', vs, h1, h2, h3, h4, h5, h6, h7, h8, h9⟩ := h
  exact ⟨e, size, n, dn, dc, sn, sc, A, A', vs, h1, h2, h3, h4, h5, h6, h7, fun h => hK _ _ _ (h8 h), fun h => by
    obtain ⟨b, off, cs, ty, a1, a2, a3, a4⟩ := h9 h
    exact ⟨b, off, cs, ty, a1, a2, a3, hK _ _ _ a4⟩⟩
theorem ClearK_mono {P : Program} {t : TypeId} {sv : Value} {K K' : Value → Hp → Nat → Prop} {H : Hp} {nx : Nat} (hK : ∀ v H nx, K v H nx → K' v H nx) (h : ClearK P t sv K H nx) : ClearK P t sv K' H nx := by
  obtain ⟨e, n, c, A, z, h1, h2, h3, h4, h8, h9⟩ := h
  exact ⟨e, n, c, A, z, h1, h2, h3, h4, fun h => hK _ _ _ (h8 h), fun h => by
    obtain ⟨b, off, cs, ty, a1, a2, a3, a4⟩ := h9 h
    exact ⟨b, off, cs, ty, a1, a2, a3, hK _ _ _ a4⟩⟩
theorem WOp_mono {P : Program} {op : Op} {K K' : Value → Hp → Nat → Prop} {fr : Fr} {H : Hp} {nx : Nat} (hK : ∀ v H nx, K v H nx → K' v H nx) (h : WOp P op K fr H nx) : WOp P op K' fr H nx := by
  have q : ∀ op, WV P fr H op (noH K H nx) → WV P fr H op (noH K' H nx) := fun op => WV_mono (fun v hv => hK v H nx hv)
  unfold WOp at h ⊢
  split at h <;> (try simp only at h ⊢)
  · split at h
    · rename_i z hz; exact fun b hb => hK _ _ _ (h b hb)
    · exact h.elim
  · exact fun b hb => hK _ _ _ (h b hb)
  · split at h
    · split at h
      · split at h
        · revert h
          (try simp only [*])
          intro h
          exact ⟨h.1, fun b hb => hK _ _ _ (h.2 b hb)⟩
        · exact h.elim
      · exact h.elim
    · exact h.elim
  · split at h
    · split at h
      · revert h
        (try simp only [*])
        intro h
        exact ⟨h.1, fun b hb => hK _ _ _ (h.2 b hb)⟩
      · exact h.elim
    · exact h.elim
  · split at h
    · split at h
      · revert h
        (try simp only [*])
        intro h
        exact ⟨h.1, h.2.1, h.2.2.1, hK _ _ _ h.2.2.2⟩
      · exact h.elim
    · exact h.elim
  · split at h
    · split at h
      · exact h.mono (fun v H' nx' => hK v H' nx')
      · exact h.elim
    · split at h
      · split at h
        · rename_i hd
          revert h
          (try simp only [*])
          intro h
          first
          | exact AppK_mono hK h
          | (rw [if_pos rfl]; exact AppK_mono hK h)
        · rename_i hd
          revert h
          (try simp only [*])
          intro h
          first
          | exact AppZK_mono hK h
          | (rw [if_neg hd]; exact AppZK_mono hK h)
      · exact h.elim
    · split at h
      · exact ⟨h.1, CopyK_mono hK h.2⟩
      · exact h.elim
    · split at h
      · exact ClearK_mono hK h
      · exact h.elim
    · exact q _ h
  · exact q _ h
theorem WOq_mono {P : Program} {op : Op} {K K' : Value → Prop} {fr : Fr} {H : Hp} {nx : Nat} (hK : ∀ v, K v → K' v) (h : WOq P op K fr H nx) : WOq P op K' fr H nx := by
  unfold WOq at h ⊢
  split at h
  · split at h
    · split at h
      · obtain ⟨v, h1, h2⟩ := h
        (try simp only [*])
        exact ⟨v, h1, hK v h2⟩
      · exact h.elim
    · exact WV_mono hK h
  · exact WV_mono hK h
theorem gif_mono {c : Bool} {A B A' B' : Unit → Prop} (h1 : A () → A' ()) (h2 : B () → B' ()) (h : gif c A B) : gif c A' B' := by
  cases c
  · rw [gif_f] at h ⊢; exact h2 h
  · rw [gif_t] at h ⊢; exact h1 h
theorem VO_mono {P : Program} : ∀ (l : List Oc) {K K' : Fr → Hp → Nat → Prop}, (∀ fr H nx, K fr H nx → K' fr H nx) → ∀ {fr : Fr} {H : Hp} {nx : Nat}, VO P l K fr H nx → VO P l K' fr H nx
  | [], K, K', hK, fr, H, nx, h => hK _ _ _ h
  | o :: rest, K, K', hK, fr, H, nx, h => by
    simp only [VO] at h ⊢
    exact gif_mono (WOp_mono fun v H' nx' hv => VO_mono rest hK hv) (VO_mono rest hK) h
theorem VQ_mono {P : Program} : ∀ (l : List Oc) {K K' : Fr → Prop}, (∀ fr, K fr → K' fr) → ∀ {fr : Fr} {H : Hp} {nx : Nat}, VQ P l K fr H nx → VQ P l K' fr H nx
  | [], K, K', hK, fr, H, nx, h => hK _ h
  | o :: rest, K, K', hK, fr, H, nx, h => by
    simp only [VQ] at h ⊢
    exact gif_mono (WOq_mono fun v hv => VQ_mono rest hK hv) (VQ_mono rest hK) h
theorem VH_mono {P : Program} : ∀ (l : List Oc) {K K' : Fr → Prop}, (∀ fr, K fr → K' fr) → ∀ {fr : Fr} {H : Hp}, VH P l K fr H → VH P l K' fr H
  | [], K, K', hK, fr, H, h => hK _ h
  | o :: rest, K, K', hK, fr, H, h => by
    simp only [VH] at h ⊢
    exact gif_mono (WV_mono fun v hv => VH_mono rest hK hv) (VH_mono rest hK) h
theorem VT_mono {P : Program} {H0 : Hp} : ∀ (t : Tc) {K K' : Fr → Hp → Nat → Prop}, (∀ fr H nx, K fr H nx → K' fr H nx) → ∀ {fr : Fr} {H : Hp} {nx : Nat}, VT P H0 t K fr H nx → VT P H0 t K' fr H nx
  | .done, K, K', hK, fr, H, nx, h => hK _ _ _ h
  | .one nd o t, K, K', hK, fr, H, nx, h => by
    simp only [VT] at h ⊢
    exact gif_mono (WOp_mono fun v H' nx' hv => ⟨hv.1, VT_mono t hK hv.2⟩) (fun hv => ⟨hv.1, VT_mono t hK hv.2⟩) h
  | .alt nd o t r, K, K', hK, fr, H, nx, h => by
    simp only [VT] at h ⊢
    exact ⟨gif_mono (WOp_mono fun v H' nx' hv => ⟨hv.1, VT_mono t hK hv.2⟩) (fun hv => ⟨hv.1, VT_mono t hK hv.2⟩) h.1, VT_mono r hK h.2⟩
  | .now o t, K, K', hK, fr, H, nx, h => by
    simp only [VT] at h ⊢
    exact gif_mono (WV_mono fun v hv => VT_mono t hK hv) (VT_mono t hK) h
  | .bad, _, _, _, _, _, _, h => h.elim
theorem thn_mono {K K' : Fr → Hp → Nat → Prop} {Q Q' : Exit → Fr → Hp → Nat → Prop} (hK : ∀ fr H nx, K fr H nx → K' fr H nx) (hQ : ∀ ex fr H nx, Q ex fr H nx → Q' ex fr H nx) : ∀ ex fr H nx, thn K Q ex fr H nx → thn K' Q' ex fr H nx := by
  intro ex fr H nx h
  cases ex <;> first
    | exact hK _ _ _ h
    | exact hQ _ _ _ _ h
theorem V_mono {P : Program} : ∀ (c : Cd) {Q Q' : Exit → Fr → Hp → Nat → Prop}, (∀ ex fr H nx, Q ex fr H nx → Q' ex fr H nx) → ∀ {fr : Fr} {H : Hp} {nx : Nat}, V P c Q fr H nx → V P c Q' fr H nx
  | .skip, Q, Q', hQ, fr, H, nx, h => hQ _ _ _ _ h
  | .exit _, Q, Q', hQ, fr, H, nx, h => hQ _ _ _ _ h
  | .ret, Q, Q', hQ, fr, H, nx, h => hQ _ _ _ _ h
  | .seq a b, Q, Q', hQ, fr, H, nx, h => V_mono a (thn_mono (fun _ _ _ => V_mono b hQ) hQ) h
  | .cond c a b, Q, Q', hQ, fr, H, nx, h => by
    simp only [V] at h ⊢
    split at h
    · exact gif_mono (V_mono a hQ) (V_mono b hQ) h
    · exact h.elim
  | .block id c, Q, Q', hQ, fr, H, nx, h => V_mono c (fun ex fr H nx h => by
      cases ex <;> simp only [inB] at h ⊢ <;> first
        | exact hQ _ _ _ _ h
        | (split at h
           · rename_i e; rw [if_pos e]; exact hQ _ _ _ _ h
           · rename_i e; rw [if_neg e]; exact hQ _ _ _ _ h)) h
  | .loop c, Q, Q', hQ, fr, H, nx, h => by
    obtain ⟨n, h⟩ := h
    refine ⟨n, ?_⟩
    induction n generalizing fr H nx with
    | zero => exact h.elim
    | succ n ih => exact fun hb => V_mono c (thn_mono (fun fr H nx hh => ih _ _ _ hh) hQ) (h hb)
  | .reg ops, Q, Q', hQ, fr, H, nx, h => VO_mono ops (hQ _) h
  | .regq ops, Q, Q', hQ, fr, H, nx, h => VQ_mono ops (fun fr hh => hQ _ _ _ _ hh) h
  | .regt hd t os, Q, Q', hQ, fr, H, nx, h => fun hb => by
    obtain ⟨H0, h1, h2⟩ := h hb
    exact ⟨H0, h1, VH_mono hd (fun fr hh => VT_mono t (hQ _) hh) h2⟩
  | .bad, _, _, _, _, _, _, h => h.elim
end Go.Proofs.YtnjlleopgjggpaaDoor
