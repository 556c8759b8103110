/- The program's GreatestExchange. -/
import Derived.Test.YtnaldmmdhpobgaaV23
import Derived.Test.YtnaldmmdhpobgaaV25
set_option linter.unusedVariables false
set_option linter.unusedSimpArgs false
set_option maxRecDepth 100000
set_option maxHeartbeats 1000000
namespace Go.Proofs.Ytnaldmmdhpobgaa
open Go Go.RowKit Go.Proofs

theorem exg {T : Type} (TS : T → Hp → Nat → Prop) (hTS : ∀ t G G' nx nx', TS t G nx → Sub G G' → nx ≤ nx' → TS t G' nx') (tellF : List (List Int) → Int → T → T)
    (n m : Nat) (f : Nat → Nat → Int) (Aw As : Option Addr) (cw ca : Nat) (ls : List (List Int)) (Hc : Hp) (lo b5 b6 b7 b8 : Nat) (c2 c3 c1 : Nat)
    (hok : wssOk (n : Int) m f) (hls : ls.length ≤ 1000000) (hcr : ∀ c ∈ ls, crOk (n : Int) m f c.length (rowL c)) (hx8 : ∀ c ∈ ls, c.length ≤ 8 ∧ ∀ x ∈ c, 0 ≤ x ∧ x < 8)
    (E : EnvX Hc lo b5 b6 b7 b8 m f Aw cw As ca ls (.func (.func 66) #[] #[.pointer (some ⟨c2, 0, none⟩), .pointer (some ⟨c3, 0, none⟩), .pointer (some ⟨c1, 0, none⟩)]))
    (hTell : ∀ (bg : List (List Int)) (val : Int) (t : T) (S : Nat → Bool) (cv : Value) (H : Hp) (nx : Nat), (∀ c ∈ bg, c ∈ ls) → bg.length ≤ 1000000 → SOk lo nx S cv → StX TS Hc H lo nx S t bg cv →
      AC Try.prog 66 #[cv, .int .i64 ((pplL bg : Nat) : Int), .int .i64 val, .pointer (some ⟨c2, 0, none⟩), .pointer (some ⟨c3, 0, none⟩), .pointer (some ⟨c1, 0, none⟩)] H nx (TlK TS Hc H S (tellF bg val t))) :
    ∀ (u first : Nat) (bg : List (List Int)) (val : Int), ls.length - first ≤ u → SrP ls bg first val → (∀ c ∈ bg, c ∈ ls) → ∀ (t : T) (S : Nat → Bool) (cv : Value) (H : Hp) (nx : Nat), SOk lo nx S cv → StX TS Hc H lo nx S t bg cv →
      AC Try.prog 84 #[.int .i64 first, cv, .int .i64 ((mskLL bg : Nat) : Int), .int .i64 ((pplL bg : Nat) : Int), .int .i64 val, .pointer (some ⟨b5, 0, none⟩), .pointer (some ⟨b6, 0, none⟩), .pointer (some ⟨b7, 0, none⟩), .pointer (some ⟨b8, 0, none⟩)] H nx (StXK TS Hc H lo S (srch ls (wC (n : Int) m f false) tellF u first bg val t) bg cv) := by
  intro u
  induction u with
  | zero =>
    intro first bg val hu hp hbm t S cv H nx hS hst
    have := exg_step TS hTS tellF n m f Aw As cw ca ls Hc lo b5 b6 b7 b8 c2 c3 c1 (fun _ _ _ t => t) hok hls hcr hx8 E hTell first bg val hp hbm (fun k h1 h2 => by omega) t S cv H nx hS hst
    rw [show ls.length - first = 0 by omega] at this
    exact this
  | succ u ih =>
    intro first bg val hu hp hbm t S cv H nx hS hst
    refine exg_step TS hTS tellF n m f Aw As cw ca ls Hc lo b5 b6 b7 b8 c2 c3 c1 (srch ls (wC (n : Int) m f false) tellF u) hok hls hcr hx8 E hTell first bg val hp hbm (fun k h1 h2 t S cv H nx hS hst => ?_) t S cv H nx hS hst
    have hmem := rowOf_mem h2
    obtain ⟨hw1, hw2⟩ := wC_bd1 hok hcr hx8 _ hmem
    have := ih (k + 1) (bg ++ [rowOf ls k]) (val + wC (n : Int) m f false (rowOf ls k)) (by omega) (hp.next h1 h2 (hx8 _ hmem).1 (by rw [hw1]; exact hw2)) (fun c hc => by
      rw [List.mem_append, List.mem_singleton] at hc
      rcases hc with hc | rfl
      · exact hbm c hc
      · exact hmem) t S cv H nx hS hst
    rw [mskLL_app, pplL_app, Int.natCast_add, Int.natCast_add, Int.natCast_one] at this
    rw [hw1] at this ⊢
    exact this
/-- The circles' facts. -/
theorem exg_all {T : Type} (TS : T → Hp → Nat → Prop) (hTS : ∀ t G G' nx nx', TS t G nx → Sub G G' → nx ≤ nx' → TS t G' nx') (tellF : List (List Int) → Int → T → T)
    (n m : Nat) (f : Nat → Nat → Int) (Aw : Option Addr) (cw : Nat) (c2 c3 c1 : Nat) (C : Nat → Bool) (H : Hp) (nx : Nat) (t : T)
    (hok : wssOk (n : Int) m f) (hw : Rd (hide H C) Aw m 3 f) (hC : ∀ d, C d = true → d < nx) (ht : TS t H nx)
    (hTell : ∀ (Hc : Hp) (lo : Nat), nx ≤ lo → (∀ d, C d = true → Hc d = none) → Bd Hc lo → ∀ (bg : List (List Int)) (val : Int) (t : T) (S : Nat → Bool) (cv : Value) (H : Hp) (nx : Nat), (∀ c ∈ bg, c ∈ allC n m f n) → bg.length ≤ 1000000 → SOk lo nx S cv → StX TS Hc H lo nx S t bg cv →
      AC Try.prog 66 #[cv, .int .i64 ((pplL bg : Nat) : Int), .int .i64 val, .pointer (some ⟨c2, 0, none⟩), .pointer (some ⟨c3, 0, none⟩), .pointer (some ⟨c1, 0, none⟩)] H nx (TlK TS Hc H S (tellF bg val t))) :
    AC Try.prog 63 #[.int .i64 n, .slice Aw m cw, .func (.func 66) #[] #[.pointer (some ⟨c2, 0, none⟩), .pointer (some ⟨c3, 0, none⟩), .pointer (some ⟨c1, 0, none⟩)]] H nx (fun v H' nx' => TS (srch (allC n m f n) (wC (n : Int) m f false) tellF (allC n m f n).length 0 [] 0 t) H' nx' ∧ Sub (hide H C) H') := by
  refine AC_of x_impl_exchanges rfl fun hB => ?_
  simp (disch := omega) only [bsW, WOp, WOq, WV, bo, gdc, gw, bnd, ↓reduceIte, Nat.reduceEqDiff, rsvs, rsv, oneOf, rdN, ne_eq, Nat.reduceAdd, Nat.reduceMul, Nat.reduceLT, reduceCtorEq, Value.cells, setN, Value.oneCell', Nat.reduceLeDiff, undef, fcT, qaT, qsT, qaX, qsX, qzX, c_impl_exchanges]
  (repeat' (first | ((with_reducible refine gif_split (fun hs_ => ?_) (fun hs_ => ?_)) <;> (have hp_ := hs_; (try simp only [hpL, ne_eq] at hp_); (try simp (disch := omega) only [bsW, WOp, WOq, WV, bo, gdc, gw, bnd, ↓reduceIte, Nat.reduceEqDiff, rsvs, rsv, oneOf, rdN, ne_eq, Nat.reduceAdd, Nat.reduceMul, Nat.reduceLT, reduceCtorEq, Value.cells, setN, Value.oneCell', Nat.reduceLeDiff, undef, fcT, qaT, qsT, qaX, qsX, qzX, hs_]))) | ((first | (with_reducible refine newB_i (fun nb_ hb_ => ?_))); (try simp (disch := omega) only [bsW, WOp, WOq, WV, bo, gdc, gw, bnd, ↓reduceIte, Nat.reduceEqDiff, rsvs, rsv, oneOf, rdN, ne_eq, Nat.reduceAdd, Nat.reduceMul, Nat.reduceLT, reduceCtorEq, Value.cells, setN, Value.oneCell', Nat.reduceLeDiff, undef, fcT, qaT, qsT, qaX, qsX, qzX])) | (with_reducible refine fun (hBd_ : Bd _ _) => ?_) | ((first | (with_reducible refine @And.intro (Sub _ _) _ ?_ ?_) | ((with_reducible refine @And.intro (Sub _ _ ∧ _) _ ?_ ?_); (with_reducible refine @And.intro (Sub _ _) _ ?_ ?_))); exact sbX) | ((with_reducible refine And.intro ?_ ?_); omega)))
  rename_i b8 hb8
  have hb5 := hb_
  generalize nb_ = b5 at *
  have hs5 : Sub H (upd (upd H b8 (.rw [.slice Aw m cw] 27)) b5 (.rw [.func (.func 66) #[] #[.pointer (some ⟨c2, 0, none⟩), .pointer (some ⟨c3, 0, none⟩), .pointer (some ⟨c1, 0, none⟩)]] 78)) := (sub_new hB hb8).trans (sub_new (Bd.up hB hb8) hb5)
  refine (allCircles n m f Aw cw hok _ _ ((hw.sub (hide_sub _ _)).sub hs5)).monoC ?_
  rintro v3 H3 nx3 hB3 hx3 ⟨hO3, ht3⟩
  obtain ⟨A3, q3, rfl, hq3, hR3⟩ := hO3.rd
  simp (disch := omega) only [bsW, WOp, WOq, WV, bo, gdc, gw, bnd, ↓reduceIte, Nat.reduceEqDiff, rsvs, rsv, oneOf, rdN, ne_eq, Nat.reduceAdd, Nat.reduceMul, Nat.reduceLT, reduceCtorEq, Value.cells, setN, Value.oneCell', Nat.reduceLeDiff, undef, fcT, qaT, qsT, qaX, qsX, qzX]
  (repeat' (first | ((with_reducible refine gif_split (fun hs_ => ?_) (fun hs_ => ?_)) <;> (have hp_ := hs_; (try simp only [hpL, ne_eq] at hp_); (try simp (disch := omega) only [bsW, WOp, WOq, WV, bo, gdc, gw, bnd, ↓reduceIte, Nat.reduceEqDiff, rsvs, rsv, oneOf, rdN, ne_eq, Nat.reduceAdd, Nat.reduceMul, Nat.reduceLT, reduceCtorEq, Value.cells, setN, Value.oneCell', Nat.reduceLeDiff, undef, fcT, qaT, qsT, qaX, qsX, qzX, hs_]))) | ((first | (with_reducible refine newB_i (fun nb_ hb_ => ?_))); (try simp (disch := omega) only [bsW, WOp, WOq, WV, bo, gdc, gw, bnd, ↓reduceIte, Nat.reduceEqDiff, rsvs, rsv, oneOf, rdN, ne_eq, Nat.reduceAdd, Nat.reduceMul, Nat.reduceLT, reduceCtorEq, Value.cells, setN, Value.oneCell', Nat.reduceLeDiff, undef, fcT, qaT, qsT, qaX, qsX, qzX])) | (with_reducible refine fun (hBd_ : Bd _ _) => ?_) | ((first | (with_reducible refine @And.intro (Sub _ _) _ ?_ ?_) | ((with_reducible refine @And.intro (Sub _ _ ∧ _) _ ?_ ?_); (with_reducible refine @And.intro (Sub _ _) _ ?_ ?_))); exact sbX) | ((with_reducible refine And.intro ?_ ?_); omega)))
  rename_i b6 hb6
  have hb7 := hb_
  generalize nb_ = b7 at *
  have hCn : ∀ d, nx ≤ d → C d = false := fun d hd => by
    cases h : C d
    · rfl
    · have := hC d h; omega
  obtain ⟨Hx, eHx⟩ : ∃ Hx, Hx = (upd (upd H3 b6 (.rw [.slice A3 (allC n m f n).length q3] 33)) b7 (.rw [.func (.func 84) #[] #[.pointer (some ⟨b5, 0, none⟩), .pointer (some ⟨b6, 0, none⟩), .pointer (some ⟨b7, 0, none⟩), .pointer (some ⟨b8, 0, none⟩)]] 92)) := ⟨_, rfl⟩
  rw [← eHx]
  have hBx : Bd Hx (b7 + 1) := by rw [eHx]; exact Bd.up (Bd.up hB3 hb6) hb7
  have h3x : Sub H3 Hx := by rw [eHx]; exact (sub_new hB3 hb6).trans (sub_new (Bd.up hB3 hb6) hb7)
  have hsx : Sub H Hx := (hs5.trans ht3).trans h3x
  have y5 : rd Hx b5 0 = some (.func (.func 66) #[] #[.pointer (some ⟨c2, 0, none⟩), .pointer (some ⟨c3, 0, none⟩), .pointer (some ⟨c1, 0, none⟩)]) := rd_sub (ht3.trans h3x) (by rw [rd_upd_same]; rfl)
  have y8 : rd Hx b8 0 = some (.slice Aw m cw) := rd_sub (ht3.trans h3x) (by rw [rd_upd_ne (by omega), rd_upd_same]; rfl)
  have y6 : rd Hx b6 0 = some (.slice A3 (allC n m f n).length q3) := by rw [eHx, rd_upd_ne (by omega), rd_upd_same]; rfl
  have y7 : rd Hx b7 0 = some (.func (.func 84) #[] #[.pointer (some ⟨b5, 0, none⟩), .pointer (some ⟨b6, 0, none⟩), .pointer (some ⟨b7, 0, none⟩), .pointer (some ⟨b8, 0, none⟩)]) := by rw [eHx, rd_upd_same]; rfl
  have hhs : Sub (hide H C) (hide Hx C) := fun d o e => by
    obtain ⟨h1, h2⟩ := hide_some e
    rw [hide_at h1]
    exact hsx _ _ h2
  have hOx : OwnLL (hide Hx C) (b5 + 1) nx3 (allC n m f n) 23 3 (.slice A3 (allC n m f n).length q3) := hO3.keepI fun c h1 h2 => by
    rw [hide_at (hCn c (by omega)), eHx, upd_ne (by omega), upd_ne (by omega)]
  have hRx : RdLL (hide Hx C) A3 (allC n m f n) := by
    obtain ⟨A9, c9, e9, _, h9⟩ := hOx.rd
    cases e9
    exact h9
  have E : EnvX (hide Hx C) (b7 + 1) b5 b6 b7 b8 m f Aw cw A3 q3 (allC n m f n) (.func (.func 66) #[] #[.pointer (some ⟨c2, 0, none⟩), .pointer (some ⟨c3, 0, none⟩), .pointer (some ⟨c1, 0, none⟩)]) :=
    ⟨fun d o e => hBx d o (hide_sub _ _ _ _ e), by rw [rd_hide (hCn _ (by omega))]; exact y5, by rw [rd_hide (hCn _ (by omega))]; exact y6, by rw [rd_hide (hCn _ (by omega))]; exact y7, by rw [rd_hide (hCn _ (by omega))]; exact y8, hw.sub hhs, hRx⟩
  obtain ⟨hl, hcr, hr8⟩ := allC_all hok
  have hcr' : ∀ c ∈ allC n m f n, crOk (n : Int) m f c.length (rowL c) := allC_ok n (Nat.le_refl _)
  have hx8 : ∀ c ∈ allC n m f n, c.length ≤ 8 ∧ ∀ x ∈ c, 0 ≤ x ∧ x < 8 := fun c hc => cr_x8 hok (hcr' c hc)
  have hcall := exg TS hTS tellF n m f Aw A3 cw q3 (allC n m f n) (hide Hx C) (b7 + 1) b5 b6 b7 b8 c2 c3 c1 hok hl hcr' hx8 E (hTell (hide Hx C) (b7 + 1) (by omega) (fun d hd => by simp [hide, hd]) E.bd) (allC n m f n).length 0 [] 0 (by omega) .zero (fun c hc => by simp at hc) t (fun _ => false) (.slice none 0 0) Hx (b7 + 1) ⟨Nat.le_refl _, fun d hd => by simp at hd, fun b hb => by cases hb⟩ ⟨hide_sub _ _, by rw [hide_none]; exact hTS _ _ _ _ _ ht hsx (by omega), .nil⟩
  refine hcall.monoC ?_
  rintro v4 H4 nx4 hB4 hx4 ⟨⟨hsc4, hts4, hown4⟩, hfr4⟩
  rw [hide_none] at hts4
  simp (disch := omega) only [bsW, WOp, WOq, WV, bo, gdc, gw, bnd, ↓reduceIte, Nat.reduceEqDiff, rsvs, rsv, oneOf, rdN, ne_eq, Nat.reduceAdd, Nat.reduceMul, Nat.reduceLT, reduceCtorEq, Value.cells, setN, Value.oneCell', Nat.reduceLeDiff, undef, fcT]
  exact ⟨hts4, hhs.trans hsc4⟩

theorem TSg_mono {c1 c2 c3 lo0 : Nat} : ∀ t G G' nx nx', TSg c1 c2 c3 lo0 t G nx → Sub G G' → nx ≤ nx' → TSg c1 c2 c3 lo0 t G' nx' := fun t G G' nx nx' h hs hx => by
  obtain ⟨h1, h2, v, h3, h4⟩ := h
  exact ⟨hs _ _ h1, hs _ _ h2, v, hs _ _ h3, (h4.subI hs).wide (Nat.le_refl _) hx⟩
theorem GreatestExchange (N : Int) (Aw : Option Addr) (m cw : Nat) (f : Nat → Nat → Int) (H : Hp) (nx : Nat) (hN : -9223372036854775808 ≤ N ∧ N ≤ 9223372036854775807) (hm : m ≤ 9223372036854775807) (hw : Rd H Aw m 3 f) :
    AC Try.prog 40 #[.int .i64 N, .slice Aw m cw] H nx (LLIFlag H nx (gxL N m f) (gxS N m f) 23 3 (gxB N m f)) := by
  refine AC_of x_impl_GreatestExchange rfl fun hB => ?_
  by_cases hok : wssOk N m f
  case neg =>
    have e := wssB_no hok
    have eb : gxB N m f = false := by simp [gxB, e]
    rw [eb, (gx_no eb).1, (gx_no eb).2]
    simp (disch := omega) only [bsW, WOp, WOq, WV, bo, gdc, gw, bnd, ↓reduceIte, Nat.reduceEqDiff, rsvs, rsv, oneOf, rdN, ne_eq, Nat.reduceAdd, Nat.reduceMul, Nat.reduceLT, reduceCtorEq, Value.cells, setN, Value.oneCell', Nat.reduceLeDiff, undef, fcT, e, Bool.not_false, c_impl_GreatestExchange]
    (repeat' (first | ((with_reducible refine gif_split (fun hs_ => ?_) (fun hs_ => ?_)) <;> (have hp_ := hs_; (try simp only [hpL, ne_eq] at hp_); (try simp (disch := omega) only [bsW, WOp, WOq, WV, bo, gdc, gw, bnd, ↓reduceIte, Nat.reduceEqDiff, rsvs, rsv, oneOf, rdN, ne_eq, Nat.reduceAdd, Nat.reduceMul, Nat.reduceLT, reduceCtorEq, Value.cells, setN, Value.oneCell', Nat.reduceLeDiff, undef, fcT, e, Bool.not_false, hs_]))) | ((first | (with_reducible refine newB_i (fun nb_ hb_ => ?_)) | ((with_reducible show QC _ _ _ _ _ _); (first | (refine QC_i (areWishes N _ _ _ f _ _ hm hN hw) ?_))) | ((with_reducible show AC _ _ _ _ _ _); (first | (refine PC.ac (areWishes N _ _ _ f _ _ hm hN hw) ?_))) | (with_reducible refine RgE_i (fun (hBd_ : Bd _ _) => ?_))); (try simp (disch := omega) only [bsW, WOp, WOq, WV, bo, gdc, gw, bnd, ↓reduceIte, Nat.reduceEqDiff, rsvs, rsv, oneOf, rdN, ne_eq, Nat.reduceAdd, Nat.reduceMul, Nat.reduceLT, reduceCtorEq, Value.cells, setN, Value.oneCell', Nat.reduceLeDiff, undef, fcT, e, Bool.not_false])) | (with_reducible refine fun (hBd_ : Bd _ _) => ?_) | ((first | (with_reducible refine @And.intro (Sub _ _) _ ?_ ?_) | ((with_reducible refine @And.intro (Sub _ _ ∧ _) _ ?_ ?_); (with_reducible refine @And.intro (Sub _ _) _ ?_ ?_))); exact sbX) | ((with_reducible refine And.intro ?_ ?_); omega)))
    exact ⟨_, rfl, .nil, Sub.refl _⟩
  have e := wssB_iff.2 hok
  have hN8 := hok.1
  by_cases h6 : N ≤ 6
  case neg =>
    have d1 : decide ((6 : Int) < N) = true := decide_eq_true (by omega)
    have eb : gxB N m f = false := by simp [gxB, h6]
    rw [eb, (gx_no eb).1, (gx_no eb).2]
    simp (disch := omega) only [bsW, WOp, WOq, WV, bo, gdc, gw, bnd, ↓reduceIte, Nat.reduceEqDiff, rsvs, rsv, oneOf, rdN, ne_eq, Nat.reduceAdd, Nat.reduceMul, Nat.reduceLT, reduceCtorEq, Value.cells, setN, Value.oneCell', Nat.reduceLeDiff, undef, fcT, e, Bool.not_true, d1, c_impl_GreatestExchange]
    (repeat' (first | ((with_reducible refine gif_split (fun hs_ => ?_) (fun hs_ => ?_)) <;> (have hp_ := hs_; (try simp only [hpL, ne_eq] at hp_); (try simp (disch := omega) only [bsW, WOp, WOq, WV, bo, gdc, gw, bnd, ↓reduceIte, Nat.reduceEqDiff, rsvs, rsv, oneOf, rdN, ne_eq, Nat.reduceAdd, Nat.reduceMul, Nat.reduceLT, reduceCtorEq, Value.cells, setN, Value.oneCell', Nat.reduceLeDiff, undef, fcT, e, Bool.not_true, d1, hs_]))) | ((first | (with_reducible refine newB_i (fun nb_ hb_ => ?_)) | ((with_reducible show QC _ _ _ _ _ _); (first | (refine QC_i (areWishes N _ _ _ f _ _ hm hN hw) ?_))) | ((with_reducible show AC _ _ _ _ _ _); (first | (refine PC.ac (areWishes N _ _ _ f _ _ hm hN hw) ?_))) | (with_reducible refine RgE_i (fun (hBd_ : Bd _ _) => ?_))); (try simp (disch := omega) only [bsW, WOp, WOq, WV, bo, gdc, gw, bnd, ↓reduceIte, Nat.reduceEqDiff, rsvs, rsv, oneOf, rdN, ne_eq, Nat.reduceAdd, Nat.reduceMul, Nat.reduceLT, reduceCtorEq, Value.cells, setN, Value.oneCell', Nat.reduceLeDiff, undef, fcT, e, Bool.not_true, d1])) | (with_reducible refine fun (hBd_ : Bd _ _) => ?_) | ((first | (with_reducible refine @And.intro (Sub _ _) _ ?_ ?_) | ((with_reducible refine @And.intro (Sub _ _ ∧ _) _ ?_ ?_); (with_reducible refine @And.intro (Sub _ _) _ ?_ ?_))); exact sbX) | ((with_reducible refine And.intro ?_ ?_); omega)))
    exact ⟨_, rfl, .nil, Sub.refl _⟩
  have d1 : decide ((6 : Int) < N) = false := decide_eq_false (by omega)
  have eb : gxB N m f = true := by simp [gxB, e, h6]
  have eL : gxL N m f = (bestX N.toNat m f false).1 := if_pos eb
  have eS : gxS N m f = (bestX N.toNat m f false).2 := if_pos eb
  rw [eb, eL, eS]
  obtain ⟨n, rfl⟩ : ∃ n : Nat, N = (n : Int) := ⟨N.toNat, by omega⟩
  rw [Int.toNat_natCast]
  simp (disch := omega) only [bsW, WOp, WOq, WV, bo, gdc, gw, bnd, ↓reduceIte, Nat.reduceEqDiff, rsvs, rsv, oneOf, rdN, ne_eq, Nat.reduceAdd, Nat.reduceMul, Nat.reduceLT, reduceCtorEq, Value.cells, setN, Value.oneCell', Nat.reduceLeDiff, undef, fcT, e, Bool.not_true, d1, c_impl_GreatestExchange]
  (repeat' (first | ((with_reducible refine gif_split (fun hs_ => ?_) (fun hs_ => ?_)) <;> (have hp_ := hs_; (try simp only [hpL, ne_eq] at hp_); (try simp (disch := omega) only [bsW, WOp, WOq, WV, bo, gdc, gw, bnd, ↓reduceIte, Nat.reduceEqDiff, rsvs, rsv, oneOf, rdN, ne_eq, Nat.reduceAdd, Nat.reduceMul, Nat.reduceLT, reduceCtorEq, Value.cells, setN, Value.oneCell', Nat.reduceLeDiff, undef, fcT, e, Bool.not_true, d1, hs_]))) | ((first | (with_reducible refine newB_i (fun nb_ hb_ => ?_)) | ((with_reducible show QC _ _ _ _ _ _); (first | (refine QC_i (areWishes (n : Int) _ _ _ f _ _ hm hN hw) ?_))) | ((with_reducible show AC _ _ _ _ _ _); (first | (refine PC.ac (areWishes (n : Int) _ _ _ f _ _ hm hN hw) ?_))) | (with_reducible refine RgE_i (fun (hBd_ : Bd _ _) => ?_))); (try simp (disch := omega) only [bsW, WOp, WOq, WV, bo, gdc, gw, bnd, ↓reduceIte, Nat.reduceEqDiff, rsvs, rsv, oneOf, rdN, ne_eq, Nat.reduceAdd, Nat.reduceMul, Nat.reduceLT, reduceCtorEq, Value.cells, setN, Value.oneCell', Nat.reduceLeDiff, undef, fcT, e, Bool.not_true, d1])) | (with_reducible refine fun (hBd_ : Bd _ _) => ?_) | ((first | (with_reducible refine @And.intro (Sub _ _) _ ?_ ?_) | ((with_reducible refine @And.intro (Sub _ _ ∧ _) _ ?_ ?_); (with_reducible refine @And.intro (Sub _ _) _ ?_ ?_))); exact sbX) | ((with_reducible refine And.intro ?_ ?_); omega)))
  rename_i c1 hc1 c2 hc2
  have hc3 := hb_
  generalize nb_ = c3 at *
  obtain ⟨Hx, eHx⟩ : ∃ Hx, Hx = (upd (upd (upd H c1 (.rw [.slice none 0 0] 33)) c2 (.rw [.int .i64 (-1)] 3)) c3 (.rw [.int .i64 0] 3)) := ⟨_, rfl⟩
  have e5 : upd (upd (upd (upd (upd H c1 (.rw [.slice none 0 0] 33)) c2 (.rw [.int .i64 0] 3)) c3 (.rw [.int .i64 0] 3)) c2 (.rw [.int .i64 (-1)] 3)) c3 (.rw [.int .i64 0] 3) = Hx := by
    rw [eHx]
    funext d
    unfold upd
    by_cases h3 : d = c3 <;> by_cases h2 : d = c2 <;> simp [h3, h2]
  rw [e5]
  have hBx : Bd Hx (c3 + 1) := by rw [eHx]; exact Bd.up (Bd.up (Bd.up hB hc1) hc2) hc3
  have hC : ∀ d, (d == c1 || d == c2 || d == c3) = true ↔ d = c1 ∨ d = c2 ∨ d = c3 := fun d => by simp [or_assoc]
  have hsx : Sub H (hide Hx fun d => d == c1 || d == c2 || d == c3) := fun d o e => by
    have := hB d o e
    have hf : (d == c1 || d == c2 || d == c3) = false := by
      rw [Bool.eq_false_iff, Ne, hC]
      omega
    rw [hide_at hf, eHx, upd_ne (by omega), upd_ne (by omega), upd_ne (by omega)]
    exact e
  have hcall := exg_all (TSg c1 c2 c3 (c3 + 1)) TSg_mono tellG n m f Aw cw c2 c3 c1 (fun d => d == c1 || d == c2 || d == c3) Hx (c3 + 1) ([], -1, 0) hok (hw.sub hsx) (fun d hd => by have := (hC d).1 hd; omega)
    ⟨by rw [eHx, upd_ne (by omega), upd_same], by rw [eHx, upd_same], _, by rw [eHx, upd_ne (by omega), upd_ne (by omega), upd_same], .nil⟩
    (fun Hc lo hlo hn hb bg val t S cv H nx h1 h2 hS hst => tellGx c1 c2 c3 (c3 + 1) Hc lo (hn c1 (by simp)) (hn c2 (by simp)) (hn c3 (by simp)) (by omega) (by omega) (by omega) (by omega) (by omega) (by omega) hlo bg val t S cv H nx h2 (fun i hi => by
      have h3 := allC_ok n (Nat.le_refl _) _ (h1 _ (rowOf_mem hi))
      have := h3.1.2
      omega) hS hst)
  refine hcall.monoC ?_
  rintro v4 H4 nx4 hB4 hx4 ⟨hts4, hs4⟩
  rw [srch_tellG] at hts4
  obtain ⟨y2, y3, v, y1, hO4⟩ := hts4
  obtain ⟨A4, q4, rfl, _, _⟩ := hO4.rd
  have z1 := rd_rw y1
  have z2 := rd_rw y2
  simp (disch := omega) only [bsW, WOp, WOq, WV, bo, gdc, gw, bnd, ↓reduceIte, Nat.reduceEqDiff, rsvs, rsv, oneOf, rdN, ne_eq, Nat.reduceAdd, Nat.reduceMul, Nat.reduceLT, reduceCtorEq, Value.cells, setN, Value.oneCell', Nat.reduceLeDiff, undef, fcT, y1, y2, z1, z2]
  (repeat' (first | ((with_reducible refine gif_split (fun hs_ => ?_) (fun hs_ => ?_)) <;> (have hp_ := hs_; (try simp only [hpL, ne_eq] at hp_); (try simp (disch := omega) only [bsW, WOp, WOq, WV, bo, gdc, gw, bnd, ↓reduceIte, Nat.reduceEqDiff, rsvs, rsv, oneOf, rdN, ne_eq, Nat.reduceAdd, Nat.reduceMul, Nat.reduceLT, reduceCtorEq, Value.cells, setN, Value.oneCell', Nat.reduceLeDiff, undef, fcT, y1, y2, z1, z2, hs_]))) | ((first | (with_reducible refine newB_i (fun nb_ hb_ => ?_)) | (with_reducible refine RgE_i (fun (hBd_ : Bd _ _) => ?_))); (try simp (disch := omega) only [bsW, WOp, WOq, WV, bo, gdc, gw, bnd, ↓reduceIte, Nat.reduceEqDiff, rsvs, rsv, oneOf, rdN, ne_eq, Nat.reduceAdd, Nat.reduceMul, Nat.reduceLT, reduceCtorEq, Value.cells, setN, Value.oneCell', Nat.reduceLeDiff, undef, fcT, y1, y2, z1, z2])) | (with_reducible refine fun (hBd_ : Bd _ _) => ?_) | ((first | (with_reducible refine @And.intro (Sub _ _) _ ?_ ?_) | ((with_reducible refine @And.intro (Sub _ _ ∧ _) _ ?_ ?_); (with_reducible refine @And.intro (Sub _ _) _ ?_ ?_))); exact sbX) | ((with_reducible refine And.intro ?_ ?_); omega)))
  exact ⟨_, rfl, hO4.wide (by omega) (Nat.le_refl _), hsx.trans hs4⟩
end Go.Proofs.Ytnaldmmdhpobgaa
