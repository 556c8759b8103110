/- The program's search for exchanges, for any tell. -/
import Derived.Test.YtnaldmmdhpobgaaV21
import Derived.Test.YtnaldmmdhpobgaaD13
import Derived.Test.YtnaldmmdhpobgaaP20d
set_option linter.unusedVariables false
set_option linter.unusedSimpArgs false
set_option maxRecDepth 100000
set_option maxHeartbeats 1000000
namespace Go.Proofs.Ytnaldmmdhpobgaa
open Go Go.RowKit Go.Proofs

theorem qaT : qAgg Try.prog 78 = some false := by kernel_rfl
theorem qsT : qSize Try.prog 78 = some 1 := by kernel_rfl
theorem qaX : qAgg Try.prog 92 = some false := by kernel_rfl
theorem qsX : qSize Try.prog 92 = some 1 := by kernel_rfl
theorem mskL_app : ∀ (a b : List Int), mskL (a ++ b) = mskL a ||| mskL b
  | [], b => by simp [mskL]
  | x :: a, b => by
    have ih := mskL_app a b
    simp only [List.cons_append, mskL, ih, Nat.or_assoc]
theorem mskL_take {l : List Int} {q : Nat} (h : q < l.length) : mskL (l.take (q + 1)) = mskL (l.take q) ||| 1 <<< (l.getD q 0).toNat := by
  rw [List.take_add_one, List.getElem?_eq_getElem h, mskL_app, List.getD_eq_getElem?_getD, List.getElem?_eq_getElem h]
  simp [mskL]
theorem mskLL_app : ∀ (a : List (List Int)) (l : List Int), mskLL (a ++ [l]) = mskLL a ||| mskL l
  | [], l => by simp [mskLL]
  | c :: a, l => by
    have ih := mskLL_app a l
    simp only [List.cons_append, mskLL, ih, Nat.or_assoc]
theorem mskLL_lt : ∀ (ls : List (List Int)), (∀ c ∈ ls, ∀ x ∈ c, 0 ≤ x ∧ x < 8) → mskLL ls < 2 ^ 8
  | [], _ => by simp [mskLL]
  | c :: ls, h => Nat.or_lt_two_pow (mskL_lt c (h c List.mem_cons_self)) (mskLL_lt ls fun d hd => h d (List.mem_cons_of_mem _ hd))
theorem pplL_app (bg : List (List Int)) (l : List Int) : pplL (bg ++ [l]) = pplL bg + l.length := by
  unfold pplL
  have e9 : (bg ++ [l]).length = bg.length + 1 := by simp
  have h1 : ∀ k, k ≤ bg.length → llLen (bg ++ [l]) k = llLen bg k := by
    intro k
    induction k with
    | zero => intro _; rfl
    | succ k ih =>
      intro hk
      rw [llLen, llLen, ih (by omega), rowOf_left (by omega)]
  rw [e9, llLen, h1 _ (Nat.le_refl _), rowOf_right (Nat.le_refl _), Nat.sub_self]
  rfl
theorem shl_one {x : Int} (h0 : 0 ≤ x) (h1 : x < 8) : IntKind.i64.wrap (1 * 2 ^ (min x.toNat IntKind.i64.bits)) = ((1 <<< x.toNat : Nat) : Int) := by
  obtain ⟨n, rfl⟩ : ∃ n : Nat, x = n := ⟨x.toNat, by omega⟩
  have : ∀ i : Fin 8, IntKind.i64.wrap (1 * 2 ^ (min ((i.val : Int)).toNat IntKind.i64.bits)) = ((1 <<< ((i.val : Int)).toNat : Nat) : Int) := by decide
  exact this ⟨n, by omega⟩
theorem free_bits {bg : List (List Int)} {c : List Int} (hc : ∀ x ∈ c, 0 ≤ x) (hl : ∀ d ∈ bg, ∀ x ∈ d, 0 ≤ x) : (((mskL c &&& mskLL bg : Nat) : Int) == 0) = freeB bg c := by
  rw [Bool.eq_iff_iff, beq_iff_eq]
  have h1 := msk_apart hc hl
  have h2 : freeB bg c = true ↔ ∀ d ∈ bg, ∀ x ∈ d, x ∉ c := by
    unfold freeB aptB
    rw [List.all_eq_true]
    exact ⟨fun h d hd => of_decide_eq_true (h d hd), fun h d hd => decide_eq_true (h d hd)⟩
  rw [h2, ← h1]
  omega
/-- What stays known while exchanges are told. -/
structure EnvX (Hc : Hp) (lo b5 b6 b7 b8 m : Nat) (f : Nat → Nat → Int) (Aw : Option Addr) (cw : Nat) (As : Option Addr) (ca : Nat) (ls : List (List Int)) (TV : Value) : Prop where
  bd : Bd Hc lo
  tl : rd Hc b5 0 = some TV
  al : rd Hc b6 0 = some (.slice As ls.length ca)
  cl : rd Hc b7 0 = some (.func (.func 84) #[] #[.pointer (some ⟨b5, 0, none⟩), .pointer (some ⟨b6, 0, none⟩), .pointer (some ⟨b7, 0, none⟩), .pointer (some ⟨b8, 0, none⟩)])
  w : rd Hc b8 0 = some (.slice Aw m cw)
  rw_ : Rd Hc Aw m 3 f
  rls : RdLL Hc As ls
/-- Where the search stands: tell's state, the exchange begun. -/
structure StX {T : Type} (TS : T → Hp → Nat → Prop) (Hc H : Hp) (lo nx : Nat) (S : Nat → Bool) (t : T) (bg : List (List Int)) (cv : Value) : Prop where
  sc : Sub Hc H
  ts : TS t (hide H S) nx
  own : CirO Hc H lo nx 23 bg cv
structure StXK {T : Type} (TS : T → Hp → Nat → Prop) (Hc H : Hp) (lo : Nat) (S : Nat → Bool) (t : T) (bg : List (List Int)) (cv : Value) (v : Value) (H' : Hp) (nx' : Nat) : Prop where
  st : StX TS Hc H' lo nx' S t bg cv
  fr : ∀ d o, S d = true → some d ≠ ownBlk cv → H d = some o → H' d = some o
structure TlK {T : Type} (TS : T → Hp → Nat → Prop) (Hc H : Hp) (S : Nat → Bool) (t : T) (v : Value) (H' : Hp) (nx' : Nat) : Prop where
  ts : TS t (hide H' S) nx'
  s : Sub Hc H'
  fr : ∀ d o, S d = true → H d = some o → H' d = some o
structure SOk (lo nx : Nat) (S : Nat → Bool) (cv : Value) : Prop where
  le : lo ≤ nx
  rg : ∀ d, S d = true → lo ≤ d ∧ d < nx
  own : ∀ b, some b = ownBlk cv → S b = true

theorem wC_bd1 {n m : Nat} {f : Nat → Nat → Int} {ls : List (List Int)} (hok : wssOk (n : Int) m f) (hcr : ∀ c ∈ ls, crOk (n : Int) m f c.length (rowL c)) (hx8 : ∀ c ∈ ls, c.length ≤ 8 ∧ ∀ x ∈ c, 0 ≤ x ∧ x < 8) (c : List Int) (hc : c ∈ ls) :
    wC (n : Int) m f false c = sumG m f c.length (rowL c) c.length ∧ 0 ≤ sumG m f c.length (rowL c) c.length ∧ sumG m f c.length (rowL c) c.length ≤ 8000 := by
  have h1 : wC (n : Int) m f false c = sumV (n : Int) m f c.length (rowL c) := if_neg (by simp)
  have h2 := sumV_yes (hcr c hc)
  have h3 := sumV_bd hok (c := c.length) (g := rowL c)
  rw [h2] at h3
  exact ⟨by rw [h1, h2], h3⟩
theorem pplL_le {bg : List (List Int)} (h : ∀ i, i < bg.length → (rowOf bg i).length ≤ 8) : pplL bg ≤ bg.length * 8 := llLen_le bg.length h

theorem exm_step {T : Type} (TS : T → Hp → Nat → Prop) (hTS : ∀ t G G' nx nx', TS t G nx → Sub G G' → nx ≤ nx' → TS t G' nx') (tellF : List (List Int) → Int → T → T)
    (n m : Nat) (f : Nat → Nat → Int) (Aw As : Option Addr) (cw ca : Nat) (ls : List (List Int)) (Hc : Hp) (lo b5 b6 b7 b8 : Nat) (c1 : Nat) (sub : Nat → List (List Int) → Int → T → T)
    (hok : wssOk (n : Int) m f) (hls : ls.length ≤ 1000000) (hcr : ∀ c ∈ ls, crOk (n : Int) m f c.length (rowL c)) (hx8 : ∀ c ∈ ls, c.length ≤ 8 ∧ ∀ x ∈ c, 0 ≤ x ∧ x < 8)
    (E : EnvX Hc lo b5 b6 b7 b8 m f Aw cw As ca ls (.func (.func 64) #[] #[.pointer (some ⟨c1, 0, none⟩)]))
    (hTell : ∀ (bg : List (List Int)) (val : Int) (t : T) (S : Nat → Bool) (cv : Value) (H : Hp) (nx : Nat), (∀ c ∈ bg, c ∈ ls) → bg.length ≤ 1000000 → SOk lo nx S cv → StX TS Hc H lo nx S t bg cv →
      AC Try.prog 64 #[cv, .int .i64 ((pplL bg : Nat) : Int), .int .i64 val, .pointer (some ⟨c1, 0, none⟩)] H nx (TlK TS Hc H S (tellF bg val t)))
    (first : Nat) (bg : List (List Int)) (val : Int) (hp : SrP ls bg first val) (hbm : ∀ c ∈ bg, c ∈ ls)
    (hsub : ∀ k, first ≤ k → k < ls.length → ∀ (t : T) (S : Nat → Bool) (cv : Value) (H : Hp) (nx : Nat), SOk lo nx S cv → StX TS Hc H lo nx S t (bg ++ [rowOf ls k]) cv →
      AC Try.prog 84 #[.int .i64 ((k : Int) + 1), cv, .int .i64 ((mskLL bg ||| mskL (rowOf ls k) : Nat) : Int), .int .i64 (((pplL bg : Nat) : Int) + ((rowOf ls k).length : Int)), .int .i64 (val + sumG m f (rowOf ls k).length (rowL (rowOf ls k)) (rowOf ls k).length), .pointer (some ⟨b5, 0, none⟩), .pointer (some ⟨b6, 0, none⟩), .pointer (some ⟨b7, 0, none⟩), .pointer (some ⟨b8, 0, none⟩)] H nx (StXK TS Hc H lo S (sub (k + 1) (bg ++ [rowOf ls k]) (val + wC (n : Int) m f false (rowOf ls k)) t) (bg ++ [rowOf ls k]) cv))
    (t : T) (S : Nat → Bool) (cv : Value) (H : Hp) (nx : Nat) (hS : SOk lo nx S cv) (hst : StX TS Hc H lo nx S t bg cv) :
    AC Try.prog 84 #[.int .i64 first, cv, .int .i64 ((mskLL bg : Nat) : Int), .int .i64 ((pplL bg : Nat) : Int), .int .i64 val, .pointer (some ⟨b5, 0, none⟩), .pointer (some ⟨b6, 0, none⟩), .pointer (some ⟨b7, 0, none⟩), .pointer (some ⟨b8, 0, none⟩)] H nx (StXK TS Hc H lo S (restS ls (wC (n : Int) m f false) sub first bg val (tellF bg val t) (ls.length - first)) bg cv) := by
  obtain ⟨Av, cc, rfl, hcc, hRc⟩ := hst.own.rd hst.sc
  have q1 := hp.hval
  have q3 := hp.hbg
  have q5 := hp.hf
  have y5 := rd_sub hst.sc E.tl
  refine AC_of x_impl_exchanges_1 rfl fun hB => ?_
  rw [fr0_9]
  simp (disch := omega) only [bsW, WOp, WOq, WV, bo, gdc, gw, bnd, ↓reduceIte, Nat.reduceEqDiff, rsvs, rsv, oneOf, rdN, ne_eq, Nat.reduceAdd, Nat.reduceMul, Nat.reduceLT, reduceCtorEq, Value.cells, setN, Value.oneCell', Nat.reduceLeDiff, undef, fcT, y5, qaT, qsT, c_impl_exchanges_1]
  (repeat' (first | ((with_reducible refine gif_split (fun hs_ => ?_) (fun hs_ => ?_)) <;> (have hp_ := hs_; (try simp only [hpL, ne_eq] at hp_); (try simp (disch := omega) only [bsW, WOp, WOq, WV, bo, gdc, gw, bnd, ↓reduceIte, Nat.reduceEqDiff, rsvs, rsv, oneOf, rdN, ne_eq, Nat.reduceAdd, Nat.reduceMul, Nat.reduceLT, reduceCtorEq, Value.cells, setN, Value.oneCell', Nat.reduceLeDiff, undef, fcT, y5, qaT, qsT, hs_]))) | ((first | (with_reducible refine newB_i (fun nb_ hb_ => ?_))); (try simp (disch := omega) only [bsW, WOp, WOq, WV, bo, gdc, gw, bnd, ↓reduceIte, Nat.reduceEqDiff, rsvs, rsv, oneOf, rdN, ne_eq, Nat.reduceAdd, Nat.reduceMul, Nat.reduceLT, reduceCtorEq, Value.cells, setN, Value.oneCell', Nat.reduceLeDiff, undef, fcT, y5, qaT, qsT])) | (with_reducible refine fun (hBd_ : Bd _ _) => ?_) | ((first | (with_reducible refine @And.intro (Sub _ _) _ ?_ ?_) | ((with_reducible refine @And.intro (Sub _ _ ∧ _) _ ?_ ?_); (with_reducible refine @And.intro (Sub _ _) _ ?_ ?_))); exact sbX) | ((with_reducible refine And.intro ?_ ?_); omega)))
  refine (hTell bg val t S _ H nx hbm (by omega) hS hst).monoC ?_
  rintro v1 H1 nx1 hB1 hx1 ⟨hts1, hsc1, hfr1⟩
  have hlo := hS.le
  have hst1 : StX TS Hc H1 lo nx1 S (tellF bg val t) bg (.slice Av bg.length cc) := ⟨hsc1, hts1, hst.own.keep (fun b o hb ho => hfr1 b o (hS.own b hb) ho) hx1⟩
  have hfr1' : ∀ d o, S d = true → some d ≠ ownBlk (.slice Av bg.length cc) → H d = some o → H1 d = some o := fun d o h1 _ h2 => hfr1 d o h1 h2
  clear hts1 hsc1 hfr1
  simp (disch := omega) only [bsW, WOp, WOq, WV, bo, gdc, gw, bnd, ↓reduceIte, Nat.reduceEqDiff, rsvs, rsv, oneOf, rdN, ne_eq, Nat.reduceAdd, Nat.reduceMul, Nat.reduceLT, reduceCtorEq, Value.cells, setN, Value.oneCell', Nat.reduceLeDiff, undef, fcT]
  (repeat' (first | ((with_reducible refine gif_split (fun hs_ => ?_) (fun hs_ => ?_)) <;> (have hp_ := hs_; (try simp only [hpL, ne_eq] at hp_); (try simp (disch := omega) only [bsW, WOp, WOq, WV, bo, gdc, gw, bnd, ↓reduceIte, Nat.reduceEqDiff, rsvs, rsv, oneOf, rdN, ne_eq, Nat.reduceAdd, Nat.reduceMul, Nat.reduceLT, reduceCtorEq, Value.cells, setN, Value.oneCell', Nat.reduceLeDiff, undef, fcT, hs_]))) | ((first | (with_reducible refine newB_i (fun nb_ hb_ => ?_))); (try simp (disch := omega) only [bsW, WOp, WOq, WV, bo, gdc, gw, bnd, ↓reduceIte, Nat.reduceEqDiff, rsvs, rsv, oneOf, rdN, ne_eq, Nat.reduceAdd, Nat.reduceMul, Nat.reduceLT, reduceCtorEq, Value.cells, setN, Value.oneCell', Nat.reduceLeDiff, undef, fcT])) | (with_reducible refine fun (hBd_ : Bd _ _) => ?_) | ((first | (with_reducible refine @And.intro (Sub _ _) _ ?_ ?_) | ((with_reducible refine @And.intro (Sub _ _ ∧ _) _ ?_ ?_); (with_reducible refine @And.intro (Sub _ _) _ ?_ ?_))); exact sbX) | ((with_reducible refine And.intro ?_ ?_); omega)))
  refine LpB_rule (fun mm fr H' nx' => ∃ (j : Nat), mm = ls.length - first - j + 1 ∧ j ≤ ls.length - first ∧ fr 1 = .slice Av bg.length cc ∧ fr 2 = .int .i64 ((mskLL bg : Nat) : Int) ∧ fr 3 = .int .i64 ((pplL bg : Nat) : Int) ∧ fr 4 = .int .i64 val ∧ fr 5 = .pointer (some ⟨b5, 0, none⟩) ∧ fr 6 = .pointer (some ⟨b6, 0, none⟩) ∧ fr 7 = .pointer (some ⟨b7, 0, none⟩) ∧ fr 8 = .pointer (some ⟨b8, 0, none⟩) ∧ fr 14 = .int .i64 ((first + j : Nat) : Int) ∧ nx1 ≤ nx' ∧
      StX TS Hc H' lo nx' S (restS ls (wC (n : Int) m f false) sub first bg val (tellF bg val t) j) bg (.slice Av bg.length cc) ∧ ∀ d o, S d = true → some d ≠ ownBlk (.slice Av bg.length cc) → H d = some o → H' d = some o) ?_ ?_ (ls.length - first + 1) ?_
  · rintro mm K hK fr H' nx' hB' ⟨j, hmm, hj, f1, f2, f3, f4, f5, f6, f7, f8, f14, hx, hst2, hfr⟩
    obtain ⟨k, hk⟩ : ∃ k, k = first + j := ⟨_, rfl⟩
    rw [← hk] at f14
    have hsc2 := hst2.sc
    have y6 := rd_sub hsc2 E.al
    by_cases hkn : k < ls.length
    case neg =>
      have d1 : decide ((k : Int) < (ls.length : Int)) = false := decide_eq_false (by omega)
      have hjn : j = ls.length - first := by omega
      subst hjn
      simp (disch := omega) only [bsW, WOp, WOq, WV, bo, gdc, gw, bnd, ↓reduceIte, Nat.reduceEqDiff, rsvs, rsv, oneOf, rdN, ne_eq, Nat.reduceAdd, Nat.reduceMul, Nat.reduceLT, reduceCtorEq, Value.cells, setN, Value.oneCell', Nat.reduceLeDiff, undef, fcT, f1, f2, f3, f4, f5, f6, f7, f8, f14, y6, d1]
      (repeat' (first | ((with_reducible refine gif_split (fun hs_ => ?_) (fun hs_ => ?_)) <;> (have hp_ := hs_; (try simp only [hpL, ne_eq] at hp_); (try simp (disch := omega) only [bsW, WOp, WOq, WV, bo, gdc, gw, bnd, ↓reduceIte, Nat.reduceEqDiff, rsvs, rsv, oneOf, rdN, ne_eq, Nat.reduceAdd, Nat.reduceMul, Nat.reduceLT, reduceCtorEq, Value.cells, setN, Value.oneCell', Nat.reduceLeDiff, undef, fcT, f1, f2, f3, f4, f5, f6, f7, f8, f14, y6, d1, hs_]))) | ((first | (with_reducible refine newB_i (fun nb_ hb_ => ?_))); (try simp (disch := omega) only [bsW, WOp, WOq, WV, bo, gdc, gw, bnd, ↓reduceIte, Nat.reduceEqDiff, rsvs, rsv, oneOf, rdN, ne_eq, Nat.reduceAdd, Nat.reduceMul, Nat.reduceLT, reduceCtorEq, Value.cells, setN, Value.oneCell', Nat.reduceLeDiff, undef, fcT, f1, f2, f3, f4, f5, f6, f7, f8, f14, y6, d1])) | (with_reducible refine fun (hBd_ : Bd _ _) => ?_) | ((first | (with_reducible refine @And.intro (Sub _ _) _ ?_ ?_) | ((with_reducible refine @And.intro (Sub _ _ ∧ _) _ ?_ ?_); (with_reducible refine @And.intro (Sub _ _) _ ?_ ?_))); exact sbX) | ((with_reducible refine And.intro ?_ ?_); omega)))
      exact ⟨hst2, hfr⟩
    have d1 : decide ((k : Int) < (ls.length : Int)) = true := decide_eq_true (by omega)
    obtain ⟨ba, oa, Qa, da, eA, ca0, hda, hRa0⟩ := E.rls.at_ hkn
    subst eA
    have ca1 := rd_sub hsc2 ca0
    have hRa := RdL.sub hRa0 hsc2
    have hmem := rowOf_mem hkn
    obtain ⟨hk8, hv8⟩ := hx8 _ hmem
    simp (disch := omega) only [bsW, WOp, WOq, WV, bo, gdc, gw, bnd, ↓reduceIte, Nat.reduceEqDiff, rsvs, rsv, oneOf, rdN, ne_eq, Nat.reduceAdd, Nat.reduceMul, Nat.reduceLT, reduceCtorEq, Value.cells, setN, Value.oneCell', Nat.reduceLeDiff, undef, fcT, f1, f2, f3, f4, f5, f6, f7, f8, f14, y6, d1, ca1, Nat.mul_one]
    (repeat' (first | ((with_reducible refine gif_split (fun hs_ => ?_) (fun hs_ => ?_)) <;> (have hp_ := hs_; (try simp only [hpL, ne_eq] at hp_); (try simp (disch := omega) only [bsW, WOp, WOq, WV, bo, gdc, gw, bnd, ↓reduceIte, Nat.reduceEqDiff, rsvs, rsv, oneOf, rdN, ne_eq, Nat.reduceAdd, Nat.reduceMul, Nat.reduceLT, reduceCtorEq, Value.cells, setN, Value.oneCell', Nat.reduceLeDiff, undef, fcT, f1, f2, f3, f4, f5, f6, f7, f8, f14, y6, d1, ca1, Nat.mul_one, hs_]))) | ((first | (with_reducible refine newB_i (fun nb_ hb_ => ?_))); (try simp (disch := omega) only [bsW, WOp, WOq, WV, bo, gdc, gw, bnd, ↓reduceIte, Nat.reduceEqDiff, rsvs, rsv, oneOf, rdN, ne_eq, Nat.reduceAdd, Nat.reduceMul, Nat.reduceLT, reduceCtorEq, Value.cells, setN, Value.oneCell', Nat.reduceLeDiff, undef, fcT, f1, f2, f3, f4, f5, f6, f7, f8, f14, y6, d1, ca1, Nat.mul_one])) | (with_reducible refine fun (hBd_ : Bd _ _) => ?_) | ((first | (with_reducible refine @And.intro (Sub _ _) _ ?_ ?_) | ((with_reducible refine @And.intro (Sub _ _ ∧ _) _ ?_ ?_); (with_reducible refine @And.intro (Sub _ _) _ ?_ ?_))); exact sbX) | ((with_reducible refine And.intro ?_ ?_); omega)))
    refine LpB_rule (fun m2 fr2 H2 nx2 => ∃ q : Nat, m2 = (rowOf ls k).length - q + 1 ∧ q ≤ (rowOf ls k).length ∧ fr2 1 = .slice Av bg.length cc ∧ fr2 2 = .int .i64 ((mskLL bg : Nat) : Int) ∧ fr2 3 = .int .i64 ((pplL bg : Nat) : Int) ∧ fr2 4 = .int .i64 val ∧ fr2 5 = .pointer (some ⟨b5, 0, none⟩) ∧ fr2 6 = .pointer (some ⟨b6, 0, none⟩) ∧ fr2 7 = .pointer (some ⟨b7, 0, none⟩) ∧ fr2 8 = .pointer (some ⟨b8, 0, none⟩) ∧ fr2 14 = .int .i64 k ∧ fr2 15 = .int .i64 ((mskL ((rowOf ls k).take q) : Nat) : Int) ∧ fr2 33 = .slice Qa (rowOf ls k).length da ∧ fr2 34 = .int .i64 (rowOf ls k).length ∧ fr2 35 = .int .i64 q ∧ H2 = H' ∧ nx2 = nx') ?_ ?_ ((rowOf ls k).length + 1) ?_
    · rintro m2 K2 hK2 fr2 H2 nx2 hB2 ⟨q, hm2, hq, g1, g2, g3, g4, g5, g6, g7, g8, g14, g15, g33, g34, g35, rfl, rfl⟩
      by_cases hqn : q < (rowOf ls k).length
      case pos =>
        have d2 : decide ((q : Int) < ((rowOf ls k).length : Int)) = true := decide_eq_true (by omega)
        obtain ⟨bq, oq, rfl, cq⟩ := RdL.at_ hRa hqn
        have hxm : (rowOf ls k).getD q 0 ∈ rowOf ls k := by rw [List.getD_eq_getElem?_getD, List.getElem?_eq_getElem hqn]; exact List.getElem_mem _
        have hxv := hv8 _ hxm
        have hlt : mskL ((rowOf ls k).take q) < 2 ^ 8 := mskL_lt _ fun x hx => hv8 x (List.mem_of_mem_take hx)
        have hs1 := shl_one hxv.1 hxv.2
        have hs2 : 1 <<< ((rowOf ls k).getD q 0).toNat < 2 ^ 8 := by
          rw [Nat.one_shiftLeft]
          exact Nat.pow_lt_pow_right (by omega) (by omega)
        have hs3 := bitv_or (a := mskL ((rowOf ls k).take q)) (b := 1 <<< ((rowOf ls k).getD q 0).toNat) (by omega) (by omega)
        rw [← mskL_take hqn] at hs3
        simp (disch := omega) only [bsW, WOp, WOq, WV, bo, gdc, gw, bnd, ↓reduceIte, Nat.reduceEqDiff, rsvs, rsv, oneOf, rdN, ne_eq, Nat.reduceAdd, Nat.reduceMul, Nat.reduceLT, reduceCtorEq, Value.cells, setN, Value.oneCell', Nat.reduceLeDiff, undef, fcT, g1, g2, g3, g4, g5, g6, g7, g8, g14, g15, g33, g34, g35, d2, cq, hs1, hs3, Nat.mul_one]
        (repeat' (first | ((with_reducible refine gif_split (fun hs_ => ?_) (fun hs_ => ?_)) <;> (have hp_ := hs_; (try simp only [hpL, ne_eq] at hp_); (try simp (disch := omega) only [bsW, WOp, WOq, WV, bo, gdc, gw, bnd, ↓reduceIte, Nat.reduceEqDiff, rsvs, rsv, oneOf, rdN, ne_eq, Nat.reduceAdd, Nat.reduceMul, Nat.reduceLT, reduceCtorEq, Value.cells, setN, Value.oneCell', Nat.reduceLeDiff, undef, fcT, g1, g2, g3, g4, g5, g6, g7, g8, g14, g15, g33, g34, g35, d2, cq, hs1, hs3, Nat.mul_one, hs_]))) | ((first | (with_reducible refine newB_i (fun nb_ hb_ => ?_))); (try simp (disch := omega) only [bsW, WOp, WOq, WV, bo, gdc, gw, bnd, ↓reduceIte, Nat.reduceEqDiff, rsvs, rsv, oneOf, rdN, ne_eq, Nat.reduceAdd, Nat.reduceMul, Nat.reduceLT, reduceCtorEq, Value.cells, setN, Value.oneCell', Nat.reduceLeDiff, undef, fcT, g1, g2, g3, g4, g5, g6, g7, g8, g14, g15, g33, g34, g35, d2, cq, hs1, hs3, Nat.mul_one])) | (with_reducible refine fun (hBd_ : Bd _ _) => ?_) | ((first | (with_reducible refine @And.intro (Sub _ _) _ ?_ ?_) | ((with_reducible refine @And.intro (Sub _ _ ∧ _) _ ?_ ?_); (with_reducible refine @And.intro (Sub _ _) _ ?_ ?_))); exact sbX) | ((with_reducible refine And.intro ?_ ?_); omega)))
        exact hK2 _ _ _ ⟨q + 1, by omega, by omega, by simp (disch := omega) only [bsW, ↓reduceIte, Nat.reduceEqDiff, ne_eq, reduceCtorEq, fcT, g1, g2, g3, g4, g5, g6, g7, g8, g14, g15, g33, g34, g35, d2, cq, hs1, hs3, Nat.mul_one], by simp (disch := omega) only [bsW, ↓reduceIte, Nat.reduceEqDiff, ne_eq, reduceCtorEq, fcT, g1, g2, g3, g4, g5, g6, g7, g8, g14, g15, g33, g34, g35, d2, cq, hs1, hs3, Nat.mul_one], by simp (disch := omega) only [bsW, ↓reduceIte, Nat.reduceEqDiff, ne_eq, reduceCtorEq, fcT, g1, g2, g3, g4, g5, g6, g7, g8, g14, g15, g33, g34, g35, d2, cq, hs1, hs3, Nat.mul_one], by simp (disch := omega) only [bsW, ↓reduceIte, Nat.reduceEqDiff, ne_eq, reduceCtorEq, fcT, g1, g2, g3, g4, g5, g6, g7, g8, g14, g15, g33, g34, g35, d2, cq, hs1, hs3, Nat.mul_one], by simp (disch := omega) only [bsW, ↓reduceIte, Nat.reduceEqDiff, ne_eq, reduceCtorEq, fcT, g1, g2, g3, g4, g5, g6, g7, g8, g14, g15, g33, g34, g35, d2, cq, hs1, hs3, Nat.mul_one], by simp (disch := omega) only [bsW, ↓reduceIte, Nat.reduceEqDiff, ne_eq, reduceCtorEq, fcT, g1, g2, g3, g4, g5, g6, g7, g8, g14, g15, g33, g34, g35, d2, cq, hs1, hs3, Nat.mul_one], by simp (disch := omega) only [bsW, ↓reduceIte, Nat.reduceEqDiff, ne_eq, reduceCtorEq, fcT, g1, g2, g3, g4, g5, g6, g7, g8, g14, g15, g33, g34, g35, d2, cq, hs1, hs3, Nat.mul_one], by simp (disch := omega) only [bsW, ↓reduceIte, Nat.reduceEqDiff, ne_eq, reduceCtorEq, fcT, g1, g2, g3, g4, g5, g6, g7, g8, g14, g15, g33, g34, g35, d2, cq, hs1, hs3, Nat.mul_one], by simp (disch := omega) only [bsW, ↓reduceIte, Nat.reduceEqDiff, ne_eq, reduceCtorEq, fcT, g1, g2, g3, g4, g5, g6, g7, g8, g14, g15, g33, g34, g35, d2, cq, hs1, hs3, Nat.mul_one], by simp (disch := omega) only [bsW, ↓reduceIte, Nat.reduceEqDiff, ne_eq, reduceCtorEq, fcT, g1, g2, g3, g4, g5, g6, g7, g8, g14, g15, g33, g34, g35, d2, cq, hs1, hs3, Nat.mul_one], by simp (disch := omega) only [bsW, ↓reduceIte, Nat.reduceEqDiff, ne_eq, reduceCtorEq, fcT, g1, g2, g3, g4, g5, g6, g7, g8, g14, g15, g33, g34, g35, d2, cq, hs1, hs3, Nat.mul_one], by simp (disch := omega) only [bsW, ↓reduceIte, Nat.reduceEqDiff, ne_eq, reduceCtorEq, fcT, g1, g2, g3, g4, g5, g6, g7, g8, g14, g15, g33, g34, g35, d2, cq, hs1, hs3, Nat.mul_one], by simp (disch := omega) only [bsW, ↓reduceIte, Nat.reduceEqDiff, ne_eq, reduceCtorEq, fcT, g1, g2, g3, g4, g5, g6, g7, g8, g14, g15, g33, g34, g35, d2, cq, hs1, hs3, Nat.mul_one, Int.natCast_add, Int.natCast_one], rfl, rfl⟩
      have d2 : decide ((q : Int) < ((rowOf ls k).length : Int)) = false := decide_eq_false (by omega)
      have hqb : q = (rowOf ls k).length := by omega
      subst hqb
      rw [List.take_length] at g15
      have hm1 : mskL (rowOf ls k) < 2 ^ 8 := mskL_lt _ fun x hx => hv8 x hx
      have hm3 : mskLL bg < 2 ^ 8 := mskLL_lt _ fun c hc => (hx8 c (hbm c hc)).2
      have hand := bitv_and (a := mskL (rowOf ls k)) (b := mskLL bg) (by omega) (by omega)
      have hfb := free_bits (bg := bg) (c := rowOf ls k) (fun x hx => (hv8 x hx).1) (fun c hc x hx => ((hx8 c (hbm c hc)).2 x hx).1)
      obtain ⟨t', et⟩ : ∃ t', t' = restS ls (wC (n : Int) m f false) sub first bg val (tellF bg val t) j := ⟨_, rfl⟩
      have hnext : restS ls (wC (n : Int) m f false) sub first bg val (tellF bg val t) (j + 1) = if freeB bg (rowOf ls k) = true then sub (k + 1) (bg ++ [rowOf ls k]) (val + wC (n : Int) m f false (rowOf ls k)) t' else t' := by
        rw [et]; simp only [restS, ← hk]
      rw [← et] at hst2
      cases hfree : freeB bg (rowOf ls k)
      · rw [hfree] at hfb hnext
        rw [if_neg (by simp)] at hnext
        simp (disch := omega) only [bsW, WOp, WOq, WV, bo, gdc, gw, bnd, ↓reduceIte, Nat.reduceEqDiff, rsvs, rsv, oneOf, rdN, ne_eq, Nat.reduceAdd, Nat.reduceMul, Nat.reduceLT, reduceCtorEq, Value.cells, setN, Value.oneCell', Nat.reduceLeDiff, undef, fcT, g1, g2, g3, g4, g5, g6, g7, g8, g14, g15, g33, g34, g35, d2, hand, hfb]
        (repeat' (first | ((with_reducible refine gif_split (fun hs_ => ?_) (fun hs_ => ?_)) <;> (have hp_ := hs_; (try simp only [hpL, ne_eq] at hp_); (try simp (disch := omega) only [bsW, WOp, WOq, WV, bo, gdc, gw, bnd, ↓reduceIte, Nat.reduceEqDiff, rsvs, rsv, oneOf, rdN, ne_eq, Nat.reduceAdd, Nat.reduceMul, Nat.reduceLT, reduceCtorEq, Value.cells, setN, Value.oneCell', Nat.reduceLeDiff, undef, fcT, g1, g2, g3, g4, g5, g6, g7, g8, g14, g15, g33, g34, g35, d2, hand, hfb, hs_]))) | ((first | (with_reducible refine newB_i (fun nb_ hb_ => ?_))); (try simp (disch := omega) only [bsW, WOp, WOq, WV, bo, gdc, gw, bnd, ↓reduceIte, Nat.reduceEqDiff, rsvs, rsv, oneOf, rdN, ne_eq, Nat.reduceAdd, Nat.reduceMul, Nat.reduceLT, reduceCtorEq, Value.cells, setN, Value.oneCell', Nat.reduceLeDiff, undef, fcT, g1, g2, g3, g4, g5, g6, g7, g8, g14, g15, g33, g34, g35, d2, hand, hfb])) | (with_reducible refine fun (hBd_ : Bd _ _) => ?_) | ((first | (with_reducible refine @And.intro (Sub _ _) _ ?_ ?_) | ((with_reducible refine @And.intro (Sub _ _ ∧ _) _ ?_ ?_); (with_reducible refine @And.intro (Sub _ _) _ ?_ ?_))); exact sbX) | ((with_reducible refine And.intro ?_ ?_); omega)))
        exact hK _ _ _ ⟨j + 1, by omega, by omega, by simp (disch := omega) only [bsW, ↓reduceIte, Nat.reduceEqDiff, ne_eq, reduceCtorEq, fcT, g1, g2, g3, g4, g5, g6, g7, g8, g14, g15, g33, g34, g35, d2, hand, hfb], by simp (disch := omega) only [bsW, ↓reduceIte, Nat.reduceEqDiff, ne_eq, reduceCtorEq, fcT, g1, g2, g3, g4, g5, g6, g7, g8, g14, g15, g33, g34, g35, d2, hand, hfb], by simp (disch := omega) only [bsW, ↓reduceIte, Nat.reduceEqDiff, ne_eq, reduceCtorEq, fcT, g1, g2, g3, g4, g5, g6, g7, g8, g14, g15, g33, g34, g35, d2, hand, hfb], by simp (disch := omega) only [bsW, ↓reduceIte, Nat.reduceEqDiff, ne_eq, reduceCtorEq, fcT, g1, g2, g3, g4, g5, g6, g7, g8, g14, g15, g33, g34, g35, d2, hand, hfb], by simp (disch := omega) only [bsW, ↓reduceIte, Nat.reduceEqDiff, ne_eq, reduceCtorEq, fcT, g1, g2, g3, g4, g5, g6, g7, g8, g14, g15, g33, g34, g35, d2, hand, hfb], by simp (disch := omega) only [bsW, ↓reduceIte, Nat.reduceEqDiff, ne_eq, reduceCtorEq, fcT, g1, g2, g3, g4, g5, g6, g7, g8, g14, g15, g33, g34, g35, d2, hand, hfb], by simp (disch := omega) only [bsW, ↓reduceIte, Nat.reduceEqDiff, ne_eq, reduceCtorEq, fcT, g1, g2, g3, g4, g5, g6, g7, g8, g14, g15, g33, g34, g35, d2, hand, hfb], by simp (disch := omega) only [bsW, ↓reduceIte, Nat.reduceEqDiff, ne_eq, reduceCtorEq, fcT, g1, g2, g3, g4, g5, g6, g7, g8, g14, g15, g33, g34, g35, d2, hand, hfb], by (simp (disch := omega) only [bsW, ↓reduceIte, Nat.reduceEqDiff, ne_eq, reduceCtorEq, fcT, g1, g2, g3, g4, g5, g6, g7, g8, g14, g15, g33, g34, g35, d2, hand, hfb]) <;> exact vi (by omega), by omega, by rw [hnext]; exact hst2, hfr⟩
      rw [hfree] at hfb hnext
      rw [if_pos rfl] at hnext
      have hbd := wC_bd1 hok hcr hx8 (rowOf ls k) hmem
      have hor := bitv_or (a := mskLL bg) (b := mskL (rowOf ls k)) (by omega) (by omega)
      have hpp := pplL_le (fun i hi => hp.bgr i hi) (bg := bg)
      simp (disch := omega) only [bsW, WOp, WOq, WV, bo, gdc, gw, bnd, ↓reduceIte, Nat.reduceEqDiff, rsvs, rsv, oneOf, rdN, ne_eq, Nat.reduceAdd, Nat.reduceMul, Nat.reduceLT, reduceCtorEq, Value.cells, setN, Value.oneCell', Nat.reduceLeDiff, undef, fcT, g1, g2, g3, g4, g5, g6, g7, g8, g14, g15, g33, g34, g35, d2, hand, hfb]
      (repeat' (first | ((with_reducible refine gif_split (fun hs_ => ?_) (fun hs_ => ?_)) <;> (have hp_ := hs_; (try simp only [hpL, ne_eq] at hp_); (try simp (disch := omega) only [bsW, WOp, WOq, WV, bo, gdc, gw, bnd, ↓reduceIte, Nat.reduceEqDiff, rsvs, rsv, oneOf, rdN, ne_eq, Nat.reduceAdd, Nat.reduceMul, Nat.reduceLT, reduceCtorEq, Value.cells, setN, Value.oneCell', Nat.reduceLeDiff, undef, fcT, g1, g2, g3, g4, g5, g6, g7, g8, g14, g15, g33, g34, g35, d2, hand, hfb, hs_]))) | ((first | (with_reducible refine newB_i (fun nb_ hb_ => ?_))); (try simp (disch := omega) only [bsW, WOp, WOq, WV, bo, gdc, gw, bnd, ↓reduceIte, Nat.reduceEqDiff, rsvs, rsv, oneOf, rdN, ne_eq, Nat.reduceAdd, Nat.reduceMul, Nat.reduceLT, reduceCtorEq, Value.cells, setN, Value.oneCell', Nat.reduceLeDiff, undef, fcT, g1, g2, g3, g4, g5, g6, g7, g8, g14, g15, g33, g34, g35, d2, hand, hfb])) | (with_reducible refine fun (hBd_ : Bd _ _) => ?_) | ((first | (with_reducible refine @And.intro (Sub _ _) _ ?_ ?_) | ((with_reducible refine @And.intro (Sub _ _ ∧ _) _ ?_ ?_); (with_reducible refine @And.intro (Sub _ _) _ ?_ ?_))); exact sbX) | ((with_reducible refine And.intro ?_ ?_); omega)))
      refine RgE_w hsc2 (fun _ => ?_)
      have z5 := E.cl
      have z6 := E.al
      have z8 := E.w
      simp (disch := omega) only [bsW, WOp, WOq, WV, bo, gdc, gw, bnd, ↓reduceIte, Nat.reduceEqDiff, rsvs, rsv, oneOf, rdN, ne_eq, Nat.reduceAdd, Nat.reduceMul, Nat.reduceLT, reduceCtorEq, Value.cells, setN, Value.oneCell', Nat.reduceLeDiff, undef, fcT, g1, g2, g3, g4, g5, g6, g7, g8, g14, g15, g33, g34, g35, z5, z6, z8, ca0, hor, qaX, qsX, Nat.mul_one]
      (repeat' (first | ((with_reducible refine gif_split (fun hs_ => ?_) (fun hs_ => ?_)) <;> (have hp_ := hs_; (try simp only [hpL, ne_eq] at hp_); (try simp (disch := omega) only [bsW, WOp, WOq, WV, bo, gdc, gw, bnd, ↓reduceIte, Nat.reduceEqDiff, rsvs, rsv, oneOf, rdN, ne_eq, Nat.reduceAdd, Nat.reduceMul, Nat.reduceLT, reduceCtorEq, Value.cells, setN, Value.oneCell', Nat.reduceLeDiff, undef, fcT, g1, g2, g3, g4, g5, g6, g7, g8, g14, g15, g33, g34, g35, z5, z6, z8, ca0, hor, qaX, qsX, Nat.mul_one, hs_]))) | ((first | (with_reducible refine newB_i (fun nb_ hb_ => ?_)) | ((with_reducible show QC _ _ _ _ _ _); (first | (refine QC_i (gainOf (n : Int) _ _ _ _ f (rowOf ls k) _ _ _ _ hok E.rw_ rfl (by omega) hRa0) ?_) | (refine QC_i (gainOf (n : Int) _ _ _ _ f (rowOf ls k) _ _ _ _ hok (E.rw_.sub hsc2) rfl (by omega) hRa) ?_))) | ((with_reducible show AC _ _ _ _ _ _); (first | (refine PC.ac (gainOf (n : Int) _ _ _ _ f (rowOf ls k) _ _ _ _ hok E.rw_ rfl (by omega) hRa0) ?_) | (refine PC.ac (gainOf (n : Int) _ _ _ _ f (rowOf ls k) _ _ _ _ hok (E.rw_.sub hsc2) rfl (by omega) hRa) ?_)))); (try simp (disch := omega) only [bsW, WOp, WOq, WV, bo, gdc, gw, bnd, ↓reduceIte, Nat.reduceEqDiff, rsvs, rsv, oneOf, rdN, ne_eq, Nat.reduceAdd, Nat.reduceMul, Nat.reduceLT, reduceCtorEq, Value.cells, setN, Value.oneCell', Nat.reduceLeDiff, undef, fcT, g1, g2, g3, g4, g5, g6, g7, g8, g14, g15, g33, g34, g35, z5, z6, z8, ca0, hor, qaX, qsX, Nat.mul_one])) | (with_reducible refine fun (hBd_ : Bd _ _) => ?_) | ((first | (with_reducible refine @And.intro (Sub _ _) _ ?_ ?_) | ((with_reducible refine @And.intro (Sub _ _ ∧ _) _ ?_ ?_); (with_reducible refine @And.intro (Sub _ _) _ ?_ ?_))); exact sbX) | ((with_reducible refine And.intro ?_ ?_); omega)))
      have hnx : nx ≤ nx2 := by omega
      have hsn : Sub Hc (upd H2 nb_ (.rw [.slice Qa (rowOf ls k).length da] 23)) := sub_up2 (E.bd.mono (show lo ≤ nx2 by omega)) hsc2 hb_
      refine ⟨hsn, ?_⟩
      have hown2 : CirO Hc (upd H2 nb_ (.rw [.slice Qa (rowOf ls k).length da] 23)) lo (nb_ + 1) 23 bg (.slice Av bg.length cc) := hst2.own.keep (fun b o hb ho => by have := (hst2.own.blk hb).2; rw [upd_ne (by omega)]; exact ho) (by omega)
      refine CirO.app (bytes := 24) (by simp (disch := omega) only [bsW, WOp, WOq, WV, bo, gdc, gw, bnd, ↓reduceIte, Nat.reduceEqDiff, rsvs, rsv, oneOf, rdN, ne_eq, Nat.reduceAdd, Nat.reduceMul, Nat.reduceLT, reduceCtorEq, Value.cells, setN, Value.oneCell', Nat.reduceLeDiff, undef, fcT, g1, g2, g3, g4, g5, g6, g7, g8, g14, g15, g33, g34, g35, z5, z6, z8, ca0, hor, qaX, qsX, Nat.mul_one]) (by simp (disch := omega) only [bsW, WOp, WOq, WV, bo, gdc, gw, bnd, ↓reduceIte, Nat.reduceEqDiff, rsvs, rsv, oneOf, rdN, ne_eq, Nat.reduceAdd, Nat.reduceMul, Nat.reduceLT, reduceCtorEq, Value.cells, setN, Value.oneCell', Nat.reduceLeDiff, undef, fcT, g1, g2, g3, g4, g5, g6, g7, g8, g14, g15, g33, g34, g35, z5, z6, z8, ca0, hor, qaX, qsX, Nat.mul_one]) (by simp (disch := omega) only [bsW, WOp, WOq, WV, bo, gdc, gw, bnd, ↓reduceIte, Nat.reduceEqDiff, rsvs, rsv, oneOf, rdN, ne_eq, Nat.reduceAdd, Nat.reduceMul, Nat.reduceLT, reduceCtorEq, Value.cells, setN, Value.oneCell', Nat.reduceLeDiff, undef, fcT, g1, g2, g3, g4, g5, g6, g7, g8, g14, g15, g33, g34, g35, z5, z6, z8, ca0, hor, qaX, qsX, Nat.mul_one]) ⟨_, qz23, rfl⟩ hown2 (upd_same _ _ _) (by omega) (by omega) (by unfold maxLen; omega) hda hRa0 ?_
      rintro c2 cap2 o2 nx3 hc2 hn2 hlt2 hO2 hpre
      have hlo2 : lo ≤ c2 := (hO2.blk (b := c2) rfl).1
      have hH2 : ∀ d o, d ≠ nb_ → d ≠ c2 → H2 d = some o → (upd (upd H2 nb_ (.rw [.slice Qa (rowOf ls k).length da] 23)) c2 o2) d = some o := fun d o h5 h6 h7 => by rw [upd_ne h6, upd_ne h5]; exact h7
      have hsc4 : Sub Hc (upd (upd H2 nb_ (.rw [.slice Qa (rowOf ls k).length da] 23)) c2 o2) := fun d o e => by
        have h5 := E.bd d o e
        exact hH2 d o (by omega) (by omega) (hsc2 _ _ e)
      generalize (upd (upd H2 nb_ (.rw [.slice Qa (rowOf ls k).length da] 23)) c2 o2) = H3 at *
      have hst3 : StX TS Hc H3 lo nx3 (fun d => S d || d == c2) t' (bg ++ [rowOf ls k]) (.slice (some ⟨c2, 0, none⟩) (bg.length + 1) cap2) := by
        refine ⟨hsc4, hTS _ _ _ _ _ hst2.ts (fun d o e => ?_) (by omega), hO2⟩
        obtain ⟨h5, h6⟩ := hide_some e
        have h7 := hB2 d o h6
        have h8 : d ≠ c2 := fun e8 => by
          rcases hc2 with h9 | h9
          · rw [e8, hS.own c2 h9] at h5; cases h5
          · omega
        rw [hide_at (by simp [h5, h8])]
        exact hH2 d o (by omega) h8 h6
      have hcall := hsub k (by omega) hkn t' (fun d => S d || d == c2) _ H3 nx3 ⟨by omega, fun d hd => by
        rw [Bool.or_eq_true] at hd
        rcases hd with hd | hd
        · have := hS.rg d hd; omega
        · have : d = c2 := by simpa using hd
          omega, fun b hb => by cases hb; simp⟩ hst3
      simp (disch := omega) only [bsW, WOp, WOq, WV, bo, gdc, gw, bnd, ↓reduceIte, Nat.reduceEqDiff, rsvs, rsv, oneOf, rdN, ne_eq, Nat.reduceAdd, Nat.reduceMul, Nat.reduceLT, reduceCtorEq, Value.cells, setN, Value.oneCell', Nat.reduceLeDiff, undef, fcT, g1, g2, g3, g4, g5, g6, g7, g8, g14, g15, g33, g34, g35, hor, qaX, qsX]
      (repeat' (first | ((with_reducible refine gif_split (fun hs_ => ?_) (fun hs_ => ?_)) <;> (have hp_ := hs_; (try simp only [hpL, ne_eq] at hp_); (try simp (disch := omega) only [bsW, WOp, WOq, WV, bo, gdc, gw, bnd, ↓reduceIte, Nat.reduceEqDiff, rsvs, rsv, oneOf, rdN, ne_eq, Nat.reduceAdd, Nat.reduceMul, Nat.reduceLT, reduceCtorEq, Value.cells, setN, Value.oneCell', Nat.reduceLeDiff, undef, fcT, g1, g2, g3, g4, g5, g6, g7, g8, g14, g15, g33, g34, g35, hor, qaX, qsX, hs_]))) | ((first | (with_reducible refine newB_i (fun nb_ hb_ => ?_)) | ((with_reducible show QC _ _ _ _ _ _); (first | (refine QC_i (gainOf (n : Int) _ _ _ _ f (rowOf ls k) _ _ _ _ hok (E.rw_.sub hsc4) rfl (by omega) (RdL.sub hRa0 hsc4)) ?_))) | ((with_reducible show AC _ _ _ _ _ _); (first | (refine PC.ac (gainOf (n : Int) _ _ _ _ f (rowOf ls k) _ _ _ _ hok (E.rw_.sub hsc4) rfl (by omega) (RdL.sub hRa0 hsc4)) ?_)))); (try simp (disch := omega) only [bsW, WOp, WOq, WV, bo, gdc, gw, bnd, ↓reduceIte, Nat.reduceEqDiff, rsvs, rsv, oneOf, rdN, ne_eq, Nat.reduceAdd, Nat.reduceMul, Nat.reduceLT, reduceCtorEq, Value.cells, setN, Value.oneCell', Nat.reduceLeDiff, undef, fcT, g1, g2, g3, g4, g5, g6, g7, g8, g14, g15, g33, g34, g35, hor, qaX, qsX])) | (with_reducible refine fun (hBd_ : Bd _ _) => ?_) | ((first | (with_reducible refine @And.intro (Sub _ _) _ ?_ ?_) | ((with_reducible refine @And.intro (Sub _ _ ∧ _) _ ?_ ?_); (with_reducible refine @And.intro (Sub _ _) _ ?_ ?_))); exact sbX) | ((with_reducible refine And.intro ?_ ?_); omega)))
      refine hcall.monoC ?_
      rintro v4 H4 nx4 hB4 hx4 ⟨hst4, hfr4⟩
      simp (disch := omega) only [bsW, WOp, WOq, WV, bo, gdc, gw, bnd, ↓reduceIte, Nat.reduceEqDiff, rsvs, rsv, oneOf, rdN, ne_eq, Nat.reduceAdd, Nat.reduceMul, Nat.reduceLT, reduceCtorEq, Value.cells, setN, Value.oneCell', Nat.reduceLeDiff, undef, fcT, g1, g2, g3, g4, g5, g6, g7, g8, g14, g15, g33, g34, g35]
      (repeat' (first | ((with_reducible refine gif_split (fun hs_ => ?_) (fun hs_ => ?_)) <;> (have hp_ := hs_; (try simp only [hpL, ne_eq] at hp_); (try simp (disch := omega) only [bsW, WOp, WOq, WV, bo, gdc, gw, bnd, ↓reduceIte, Nat.reduceEqDiff, rsvs, rsv, oneOf, rdN, ne_eq, Nat.reduceAdd, Nat.reduceMul, Nat.reduceLT, reduceCtorEq, Value.cells, setN, Value.oneCell', Nat.reduceLeDiff, undef, fcT, g1, g2, g3, g4, g5, g6, g7, g8, g14, g15, g33, g34, g35, hs_]))) | ((first | (with_reducible refine newB_i (fun nb_ hb_ => ?_))); (try simp (disch := omega) only [bsW, WOp, WOq, WV, bo, gdc, gw, bnd, ↓reduceIte, Nat.reduceEqDiff, rsvs, rsv, oneOf, rdN, ne_eq, Nat.reduceAdd, Nat.reduceMul, Nat.reduceLT, reduceCtorEq, Value.cells, setN, Value.oneCell', Nat.reduceLeDiff, undef, fcT, g1, g2, g3, g4, g5, g6, g7, g8, g14, g15, g33, g34, g35])) | (with_reducible refine fun (hBd_ : Bd _ _) => ?_) | ((first | (with_reducible refine @And.intro (Sub _ _) _ ?_ ?_) | ((with_reducible refine @And.intro (Sub _ _ ∧ _) _ ?_ ?_); (with_reducible refine @And.intro (Sub _ _) _ ?_ ?_))); exact sbX) | ((with_reducible refine And.intro ?_ ?_); omega)))
      refine hK _ _ _ ?_
      refine ⟨j + 1, by omega, by omega, by simp (disch := omega) only [bsW, ↓reduceIte, Nat.reduceEqDiff, ne_eq, reduceCtorEq, fcT, g1, g2, g3, g4, g5, g6, g7, g8, g14, g15, g33, g34, g35], by simp (disch := omega) only [bsW, ↓reduceIte, Nat.reduceEqDiff, ne_eq, reduceCtorEq, fcT, g1, g2, g3, g4, g5, g6, g7, g8, g14, g15, g33, g34, g35], by simp (disch := omega) only [bsW, ↓reduceIte, Nat.reduceEqDiff, ne_eq, reduceCtorEq, fcT, g1, g2, g3, g4, g5, g6, g7, g8, g14, g15, g33, g34, g35], by simp (disch := omega) only [bsW, ↓reduceIte, Nat.reduceEqDiff, ne_eq, reduceCtorEq, fcT, g1, g2, g3, g4, g5, g6, g7, g8, g14, g15, g33, g34, g35], by simp (disch := omega) only [bsW, ↓reduceIte, Nat.reduceEqDiff, ne_eq, reduceCtorEq, fcT, g1, g2, g3, g4, g5, g6, g7, g8, g14, g15, g33, g34, g35], by simp (disch := omega) only [bsW, ↓reduceIte, Nat.reduceEqDiff, ne_eq, reduceCtorEq, fcT, g1, g2, g3, g4, g5, g6, g7, g8, g14, g15, g33, g34, g35], by simp (disch := omega) only [bsW, ↓reduceIte, Nat.reduceEqDiff, ne_eq, reduceCtorEq, fcT, g1, g2, g3, g4, g5, g6, g7, g8, g14, g15, g33, g34, g35], by simp (disch := omega) only [bsW, ↓reduceIte, Nat.reduceEqDiff, ne_eq, reduceCtorEq, fcT, g1, g2, g3, g4, g5, g6, g7, g8, g14, g15, g33, g34, g35], by (simp (disch := omega) only [bsW, ↓reduceIte, Nat.reduceEqDiff, ne_eq, reduceCtorEq, fcT, g1, g2, g3, g4, g5, g6, g7, g8, g14, g15, g33, g34, g35]) <;> exact vi (by omega), by omega, ⟨hst4.sc, ?_, ?_⟩, fun d o h5 h6 e => ?_⟩
      · rw [hnext]
        refine hTS _ _ _ _ _ hst4.ts (fun d o e => ?_) (Nat.le_refl _)
        obtain ⟨h5, h6⟩ := hide_some e
        rw [Bool.or_eq_false_iff] at h5
        rw [hide_at h5.1]
        exact h6
      · rcases hc2 with h9 | h9
        · exact hpre h9 H4 nx4 hst4.own
        · exact hst2.own.keep (fun b o hb ho => by
            have h7 := (hst2.own.blk hb).2
            have h8 : b ≠ c2 := by omega
            exact hfr4 b o (by simp [hS.own b hb]) (by simpa [ownBlk] using h8) (hH2 b o (by omega) h8 ho)) (by omega)
      · have h7 := hS.rg d h5
        have h8 : d ≠ c2 := fun e8 => by
          rcases hc2 with h9 | h9
          · exact h6 (by rw [e8]; exact h9)
          · omega
        exact hfr4 d o (by simp [h5]) (by simpa [ownBlk] using h8) (hH2 d o (by omega) h8 (hfr d o h5 h6 e))
    · rintro fr2 H2 nx2 ⟨q, hm2, _⟩; omega
    · exact ⟨0, by omega, by omega, by simp (disch := omega) only [bsW, ↓reduceIte, Nat.reduceEqDiff, ne_eq, reduceCtorEq, fcT, f1, f2, f3, f4, f5, f6, f7, f8, f14], by simp (disch := omega) only [bsW, ↓reduceIte, Nat.reduceEqDiff, ne_eq, reduceCtorEq, fcT, f1, f2, f3, f4, f5, f6, f7, f8, f14], by simp (disch := omega) only [bsW, ↓reduceIte, Nat.reduceEqDiff, ne_eq, reduceCtorEq, fcT, f1, f2, f3, f4, f5, f6, f7, f8, f14], by simp (disch := omega) only [bsW, ↓reduceIte, Nat.reduceEqDiff, ne_eq, reduceCtorEq, fcT, f1, f2, f3, f4, f5, f6, f7, f8, f14], by simp (disch := omega) only [bsW, ↓reduceIte, Nat.reduceEqDiff, ne_eq, reduceCtorEq, fcT, f1, f2, f3, f4, f5, f6, f7, f8, f14], by simp (disch := omega) only [bsW, ↓reduceIte, Nat.reduceEqDiff, ne_eq, reduceCtorEq, fcT, f1, f2, f3, f4, f5, f6, f7, f8, f14], by simp (disch := omega) only [bsW, ↓reduceIte, Nat.reduceEqDiff, ne_eq, reduceCtorEq, fcT, f1, f2, f3, f4, f5, f6, f7, f8, f14], by simp (disch := omega) only [bsW, ↓reduceIte, Nat.reduceEqDiff, ne_eq, reduceCtorEq, fcT, f1, f2, f3, f4, f5, f6, f7, f8, f14], by simp (disch := omega) only [bsW, ↓reduceIte, Nat.reduceEqDiff, ne_eq, reduceCtorEq, fcT, f1, f2, f3, f4, f5, f6, f7, f8, f14], by (simp (disch := omega) only [bsW, ↓reduceIte, Nat.reduceEqDiff, ne_eq, reduceCtorEq, fcT, f1, f2, f3, f4, f5, f6, f7, f8, f14]) <;> rfl, by simp (disch := omega) only [bsW, ↓reduceIte, Nat.reduceEqDiff, ne_eq, reduceCtorEq, fcT, f1, f2, f3, f4, f5, f6, f7, f8, f14], by simp (disch := omega) only [bsW, ↓reduceIte, Nat.reduceEqDiff, ne_eq, reduceCtorEq, fcT, f1, f2, f3, f4, f5, f6, f7, f8, f14], by simp (disch := omega) only [bsW, ↓reduceIte, Nat.reduceEqDiff, ne_eq, reduceCtorEq, fcT, f1, f2, f3, f4, f5, f6, f7, f8, f14, Int.natCast_zero], rfl, rfl⟩
  · rintro fr H' nx' ⟨j, hmm, _⟩; omega
  · exact ⟨0, by omega, by omega, by simp (disch := omega) only [bsW, ↓reduceIte, Nat.reduceEqDiff, ne_eq, reduceCtorEq, fcT], by simp (disch := omega) only [bsW, ↓reduceIte, Nat.reduceEqDiff, ne_eq, reduceCtorEq, fcT], by simp (disch := omega) only [bsW, ↓reduceIte, Nat.reduceEqDiff, ne_eq, reduceCtorEq, fcT], by simp (disch := omega) only [bsW, ↓reduceIte, Nat.reduceEqDiff, ne_eq, reduceCtorEq, fcT], by simp (disch := omega) only [bsW, ↓reduceIte, Nat.reduceEqDiff, ne_eq, reduceCtorEq, fcT], by simp (disch := omega) only [bsW, ↓reduceIte, Nat.reduceEqDiff, ne_eq, reduceCtorEq, fcT], by simp (disch := omega) only [bsW, ↓reduceIte, Nat.reduceEqDiff, ne_eq, reduceCtorEq, fcT], by simp (disch := omega) only [bsW, ↓reduceIte, Nat.reduceEqDiff, ne_eq, reduceCtorEq, fcT], by (simp (disch := omega) only [bsW, ↓reduceIte, Nat.reduceEqDiff, ne_eq, reduceCtorEq, fcT]) <;> exact vi (by omega), Nat.le_refl _, hst1, hfr1'⟩
end Go.Proofs.Ytnaldmmdhpobgaa
