/- The program's circles. -/
import Derived.Test.YtnaldmmdhpobgaaDoorV11
import Derived.Test.YtnaldmmdhpobgaaDoorV10
set_option linter.unusedVariables false
set_option linter.unusedSimpArgs false
set_option maxRecDepth 100000
set_option maxHeartbeats 1000000
namespace Go.Proofs.YtnaldmmdhpobgaaDoor
open Go Go.RowKit Go.Proofs

theorem extend (n m p : Nat) (f : Nat → Nat → Int) (Aw : Option Addr) (cw : Nat) (Hc : Hp) (lo b1 b2 b3 b4 b5 : Nat) (hok : wssOk (n : Int) m f) (hp : p < n) (E : Env Hc lo b1 b2 b3 b4 b5 n m p f Aw cw) :
    ∀ (u : Nat) (b : List Int), u ≤ 8 → begC n m f p b → absN n b ≤ u → ∀ (ls : List (List Int)) (S : Nat → Bool) (c cap : Nat) (H : Hp) (nx : Nat), lo ≤ nx → S c = true → (∀ d, S d = true → lo ≤ d ∧ d < nx) → ls.length + (circs n m f p u b).length ≤ 4000000 → St Hc H lo nx b3 S ls b c cap →
      AC Tryd.prog 59 #[.slice (some ⟨c, 0, none⟩) b.length cap, PT b1, PT b2, PT b3, PT b4, PT b5] H nx (StK Hc H lo b3 S (ls ++ circs n m f p u b) b c cap)
  | 0, b, hu, hb, ha, ls, S, c, cap, H, nx, h1, h2, h3, h4, h5 => by
    have e := restC_none (sub := fun _ => []) (m := m) (f := f) (p := p) (show absN n b = 0 by omega) (n - (p + 1)) (by omega)
    have e2 : circs n m f p 0 b = ownC m f p b ++ restC (fun _ => []) m f p b (n - (p + 1)) := by rw [e, List.append_nil]; rfl
    rw [e2] at h4 ⊢
    refine extend_step n m p f Aw cw Hc lo b1 b2 b3 b4 b5 b (fun _ => []) hok hp hb E ?_ ls S c cap H nx h1 h2 h3 h4 h5
    intro k g1 g2 g3
    have := absN_pos (cand_not g3).1 n g2
    omega
  | u + 1, b, hu, hb, ha, ls, S, c, cap, H, nx, h1, h2, h3, h4, h5 => by
    refine extend_step n m p f Aw cw Hc lo b1 b2 b3 b4 b5 b (circs n m f p u) hok hp hb E ?_ ls S c cap H nx h1 h2 h3 h4 h5
    intro k g1 g2 g3 ls' S' c' cap' H' nx' i1 i2 i3 i4 i5
    have := absN_step (cand_not g3).1 n g2
    exact extend n m p f Aw cw Hc lo b1 b2 b3 b4 b5 hok hp E u _ (by omega) (hb.next g1 g2 g3) (by omega) ls' S' c' cap' H' nx' i1 i2 i3 i4 i5
theorem qzF : qZero Tryd.prog 79 = some .nilFunc := by kernel_rfl
theorem circlesOf (n m p : Nat) (f : Nat → Nat → Int) (Aw : Option Addr) (cw : Nat) (H : Hp) (nx : Nat) (hok : wssOk (n : Int) m f) (hp : p < n) (hw : Rd H Aw m 3 f) :
    AC Tryd.prog 39 #[.int .i64 n, .slice Aw m cw, .int .i64 p] H nx (NewLL H nx (circs n m f p n [(p : Int)]) 22 3) := by
  have hN8 := hok.1
  refine AC_of x_impl_circlesOf rfl fun hB => ?_
  simp (disch := omega) only [bsW, WOp, WOq, WV, bo, eqN, gdc, gw, bnd, ↓reduceIte, Nat.reduceEqDiff, rsvs, rsv, oneOf, rdN, ne_eq, Nat.reduceAdd, Nat.reduceMul, Nat.reduceLT, reduceCtorEq, Value.cells, setN, Value.oneCell', Nat.reduceLeDiff, undef, fcT, qaF, qsF, qzF, c_impl_circlesOf]
  (repeat' (first | ((with_reducible refine gif_split (fun hs_ => ?_) (fun hs_ => ?_)) <;> (have hp_ := hs_; (try simp only [hpL, ne_eq] at hp_); (try simp (disch := omega) only [bsW, WOp, WOq, WV, bo, eqN, gdc, gw, bnd, ↓reduceIte, Nat.reduceEqDiff, rsvs, rsv, oneOf, rdN, ne_eq, Nat.reduceAdd, Nat.reduceMul, Nat.reduceLT, reduceCtorEq, Value.cells, setN, Value.oneCell', Nat.reduceLeDiff, undef, fcT, qaF, qsF, qzF, hs_]))) | ((first | (with_reducible refine newB_i (fun nb_ hb_ => ?_))); (try simp (disch := omega) only [bsW, WOp, WOq, WV, bo, eqN, gdc, gw, bnd, ↓reduceIte, Nat.reduceEqDiff, rsvs, rsv, oneOf, rdN, ne_eq, Nat.reduceAdd, Nat.reduceMul, Nat.reduceLT, reduceCtorEq, Value.cells, setN, Value.oneCell', Nat.reduceLeDiff, undef, fcT, qaF, qsF, qzF])) | (with_reducible refine fun (hBd_ : Bd _ _) => ?_) | ((first | (with_reducible refine @And.intro (Sub _ _) _ ?_ ?_) | ((with_reducible refine @And.intro (Sub _ _ ∧ _) _ ?_ ?_); (with_reducible refine @And.intro (Sub _ _) _ ?_ ?_))); exact sbX) | ((with_reducible refine And.intro ?_ ?_); omega)))
  rename_i b4 hb4 b1 hb1 b2 hb2 b3 hb3 b5 hb5
  have hbc := hb_
  generalize nb_ = c at *
  obtain ⟨Ha, eHa⟩ : ∃ Ha, Ha = upd (upd (upd (upd (upd H b4 (.rw [.int .i64 n] 3)) b1 (.rw [.slice Aw m cw] 30)) b2 (.rw [.int .i64 p] 3)) b3 (.rw [.slice none 0 0] 33)) b5 (.rw [.func (.func 59) #[] #[PT b1, PT b2, PT b3, PT b4, PT b5]] 79) := ⟨_, rfl⟩
  have hold : ∀ d o, H d = some o → d < nx ∧ Ha d = some o := fun d o e => by
    have h1 := hB d o e
    refine ⟨h1, ?_⟩
    rw [eHa, upd_ne (by omega), upd_ne (by omega), upd_ne (by omega), upd_ne (by omega), upd_ne (by omega)]
    exact e
  have hBa : Bd Ha (b5 + 1) := fun d o e => by
    rcases Nat.lt_or_ge d (b5 + 1) with h | h
    · exact h
    · rw [eHa, upd_ne (by omega), upd_ne (by omega), upd_ne (by omega), upd_ne (by omega), upd_ne (by omega)] at e
      have := hB d o e
      omega
  have y1 : rd Ha b1 0 = some (.slice Aw m cw) := by rw [eHa, rd_upd_ne (by omega), rd_upd_ne (by omega), rd_upd_ne (by omega), rd_upd_same]; rfl
  have y2 : rd Ha b2 0 = some (.int .i64 p) := by rw [eHa, rd_upd_ne (by omega), rd_upd_ne (by omega), rd_upd_same]; rfl
  have y4 : rd Ha b4 0 = some (.int .i64 n) := by rw [eHa, rd_upd_ne (by omega), rd_upd_ne (by omega), rd_upd_ne (by omega), rd_upd_ne (by omega), rd_upd_same]; rfl
  have y5 : rd Ha b5 0 = some (.func (.func 59) #[] #[PT b1, PT b2, PT b3, PT b4, PT b5]) := by rw [eHa, rd_upd_same]; rfl
  have y3 : Ha b3 = some (.rw [.slice none 0 0] 33) := by rw [eHa, upd_ne (by omega), upd_same]
  have E : Env (del Ha b3) (b5 + 1) b1 b2 b3 b4 b5 n m p f Aw cw := by
    refine ⟨fun d o e => hBa d o (sub_del Ha b3 _ _ e), by simp [del], by omega, by rw [rd_del_ne (by omega)]; exact y1, ?_, by rw [rd_del_ne (by omega)]; exact y2, by rw [rd_del_ne (by omega)]; exact y4, by rw [rd_del_ne (by omega)]; exact y5⟩
    refine hw.sub (fun d o e => ?_)
    have h1 := hold d o e
    unfold del
    rw [if_neg (by omega)]
    exact h1.2
  have hsc0 : Sub (del Ha b3) (upd Ha c (.rw [.int .i64 (p : Int)] 3)) := fun d o e => by
    have h1 := sub_del Ha b3 _ _ e
    have := hBa d o h1
    rw [upd_ne (by omega)]
    exact h1
  have hst : St (del Ha b3) (upd Ha c (.rw [.int .i64 (p : Int)] 3)) (b5 + 1) (c + 1) b3 (fun d => d == c) [] [(p : Int)] c 1 := by
    refine ⟨hsc0, ⟨.slice none 0 0, by rw [upd_ne (by omega)]; exact y3, .nil⟩, ?_⟩
    refine OwnR.full (by omega) (by omega) ?_ (by unfold maxLen; simp)
    rw [upd_same]
    have : flat [(p : Int)].length 1 (rowL [(p : Int)]) = [.int .i64 (p : Int)] := by simp [flat, rowL, List.range_succ]
    rw [this]
  have hlen := circs_len (m := m) (f := f) hp n [(p : Int)] (by have := absN_one n hp; omega)
  have htc := tc_le (u := n) (by omega)
  have hcall := extend n m p f Aw cw (del Ha b3) (b5 + 1) b1 b2 b3 b4 b5 hok hp E n [(p : Int)] (by omega) (begC.one hp) (by have := absN_one n hp; omega) [] (fun d => d == c) c 1 _ _ (by omega) (by simp) (fun d hd => by
    have : d = c := by simpa using hd
    omega) (by simp only [List.length_nil]; omega) hst
  rw [List.nil_append, eHa] at hcall
  simp only [PT] at hcall
  refine hcall.monoC ?_
  rintro v3 H3 nx3 hB3 hx3 ⟨⟨hsc3, ⟨ov3, hov3, hOut3⟩, hOwn3⟩, hfr3⟩
  have z3 : rd H3 b3 0 = some ov3 := by rw [rd_rw hov3]; rfl
  simp (disch := omega) only [bsW, WOp, WOq, WV, bo, eqN, gdc, gw, bnd, ↓reduceIte, Nat.reduceEqDiff, rsvs, rsv, oneOf, rdN, ne_eq, Nat.reduceAdd, Nat.reduceMul, Nat.reduceLT, reduceCtorEq, Value.cells, setN, Value.oneCell', Nat.reduceLeDiff, undef, fcT, z3]
  refine ⟨(hOut3.subI (hide_sub _ _)).wide (by omega) (Nat.le_refl _), fun d o e => ?_⟩
  refine hsc3 _ _ ?_
  have h1 := hold d o e
  rw [eHa] at h1
  unfold del
  rw [if_neg (by omega)]
  exact h1.2
end Go.Proofs.YtnaldmmdhpobgaaDoor
