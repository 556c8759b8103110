/- Exhibits: one more; a place cut out of a row. -/
import Derived.Test.YtnjlleopgjggpaaR11
import Derived.Test.YtnjlleopgjggpaaD10
import Derived.Test.YtnjlleopgjggpaaR8
import Derived.Test.YtnjlleopgjggpaaP23b
set_option linter.unusedVariables false
set_option linter.unusedSimpArgs false
set_option maxRecDepth 100000
set_option maxHeartbeats 4000000
namespace Go.Proofs.Ytnjlleopgjggpaa
open Go Go.RowKit Go.Proofs

/-- One exhibit more. -/
theorem app_oneSh {P : Program} {t te ti : TypeId} {bytes lo mid nx n bX bN dN : Nat} {H : Hp} {s : Shw} {sv : Value} {K : Value → Hp → Nat → Prop}
    (he : qElem P t = some te) (hs : qSize P te = some 4) (hb : qBytes P te = some bytes) (hz : ∃ z, qZero P te = some z ∧ z.cells.size = 4)
    (ho : OwnSh H lo mid n s te ti sv) (hX : H bX = some (.rw [.int .i64 (s.id n), .string (s.title n), .int .i64 (s.fr n), .slice (some ⟨bN, 0, none⟩) (s.m n) dN] te))
    (hN : OwnR H lo nx (s.m n) 1 (fun q _ => s.mks n q) ti (.slice (some ⟨bN, 0, none⟩) (s.m n) dN)) (hm1 : mid ≤ bN) (hm2 : bN < nx) (hlo : lo ≤ mid) (hlen : (n + 1) * bytes ≤ 140737488355328) (hmax : n + 1 ≤ maxLen)
    (hK : ∀ v' b' o nx', (some b' = ownBlk sv ∨ nx ≤ b') → nx ≤ nx' → some b' = ownBlk v' → OwnSh (upd H b' o) lo nx' (n + 1) s te ti v' → K v' (upd H b' o) nx') :
    AppK P t sv (.slice (some ⟨bX, 0, none⟩) 1 1) K H nx := by
  obtain ⟨B, d, hV, hrows, hdis⟩ : ∃ (B d : Nat → Nat), OwnV H lo mid n 4 (s.cells (fun i => some ⟨B i, 0, none⟩) d) te sv ∧ (∀ i, i < n → some (B i) ≠ ownBlk sv ∧ OwnR H lo mid (s.m i) 1 (fun q _ => s.mks i q) ti (.slice (some ⟨B i, 0, none⟩) (s.m i) (d i))) ∧ (∀ i j, i < n → j < n → i ≠ j → B i ≠ B j) := by
    rcases ho.ex with ⟨rfl, rfl⟩ | ⟨b, cap, sp, B, d, rfl, h1, h2, h3, h4, h5, h6, h7, h8⟩
    · exact ⟨fun _ => 0, fun _ => 0, .nil, fun i hi => by omega, fun i j hi => by omega⟩
    · refine ⟨B, d, ⟨.inr ⟨b, cap, sp, rfl, h1, h2, h6, h3, h4, h5⟩⟩, fun i hi => ⟨fun e => (h7 i hi).1 (by cases e; rfl), (h7 i hi).2⟩, h8⟩
  have hmid : mid ≤ nx := by omega
  have hV' : OwnV H lo nx n 4 (s.cells (fun i => some ⟨B i, 0, none⟩) d) te sv := hV.sub (Sub.refl _) hmid
  refine app_oneV (k := 4) (e := s.cells (fun _ => some ⟨bN, 0, none⟩) (fun _ => dN) n) he hs hb hz (by omega) hV' hX rfl (fun j hj => ?_) (by omega) hlen hmax ?_
  · match j, hj with
    | 0, _ => rfl
    | 1, _ => rfl
    | 2, _ => rfl
    | 3, _ => rfl
  · intro v' b' o nx' hb' hn' hown hO
    refine hK v' b' o nx' hb' hn' hown ?_
    have hbb : ∀ c, (∃ i, i < n ∧ c = B i) ∨ c = bN → b' ≠ c := fun c hc e => by
      rcases hb' with h | h
      · have h9 := hV.blk h
        rcases hc with ⟨i, hi, rfl⟩ | rfl
        · exact (hrows i hi).1 (by rw [← e]; exact h)
        · omega
      · rcases hc with ⟨i, hi, rfl⟩ | rfl
        · have := (hrows i hi).2.blk (show some (B i) = _ from rfl); omega
        · omega
    rcases hO.ex with ⟨rfl, h0⟩ | ⟨b2, cap, sp, rfl, h1, h2, h3, h4, h5, h6⟩
    · omega
    have e2 : b' = b2 := by cases hown; rfl
    subst e2
    refine ⟨.inr ⟨b', cap, sp, fun i => if i < n then B i else bN, fun i => if i < n then d i else dN, rfl, h1, h2, h4, h5, h6, ?_, fun i hi => ?_, fun i j hi hj hij => ?_⟩⟩
    · rw [h3]
      congr 3
      refine flatV_congr fun i j hi hj => ?_
      match j, hj with
      | 0, _ => by_cases h : i < n <;> simp [h, Shw.cells] <;> (congr 1; first | rfl | omega)
      | 1, _ => by_cases h : i < n <;> simp [h, Shw.cells] <;> (congr 1; first | rfl | omega)
      | 2, _ => by_cases h : i < n <;> simp [h, Shw.cells] <;> (congr 1; first | rfl | omega)
      | 3, _ => by_cases h : i < n <;> simp [h, Shw.cells] <;> (congr 1; first | rfl | omega)
    · by_cases h : i < n
      · simp only [if_pos h]
        exact ⟨fun e => hbb (B i) (.inl ⟨i, h, rfl⟩) e.symm, (hrows i h).2.keep (fun c hc => by cases hc; exact upd_ne (hbb (B i) (.inl ⟨i, h, rfl⟩)).symm) (by omega)⟩
      · have : i = n := by omega
        subst this
        simp only [if_neg h]
        exact ⟨fun e => hbb bN (.inr rfl) e.symm, hN.keep (fun c hc => by cases hc; exact upd_ne (hbb bN (.inr rfl)).symm) (by omega)⟩
    · have hlt : ∀ q, q < n → B q ≠ bN := fun q hq e => by
        have := (hrows q hq).2.blk (show some (B q) = _ from rfl); omega
      by_cases h : i < n
      · by_cases h' : j < n
        · simp only [if_pos h, if_pos h']; exact hdis i j h h' hij
        · simp only [if_pos h, if_neg h']; exact hlt i h
      · by_cases h' : j < n
        · simp only [if_neg h, if_pos h']; exact (hlt j h').symm
        · omega
theorem app_stay {P : Program} {t e : TypeId} {k bytes n m cap c b : Nat} {H : Hp} {nx : Nat} {xs vs rest : List Value} {xa : Option Addr} {K : Value → Hp → Nat → Prop}
    (he : qElem P t = some e) (hs : qSize P e = some k) (hb : qBytes P e = some bytes) (hz : ∃ z, qZero P e = some z ∧ z.cells.size = k) (hk : 0 < k)
    (hH : H b = some (.rw (xs ++ rest) e)) (hxl : xs.length = n * k) (hcl : (xs ++ rest).length = cap * k) (hrow : isRow H xa (m * k) vs) (hv : vs.all Value.oneCell' = true) (hnm : n + m ≤ cap) (hcm : cap ≤ maxLen) (hlen : (n + m) * bytes ≤ 140737488355328)
    (hK : ∀ H' nx' sp', H' b = some (.rw ((xs ++ vs) ++ sp') e) → ((xs ++ vs) ++ sp').length = cap * k → (∀ c, c ≠ b → H' c = H c) → nx ≤ nx' → (Bd H nx → Bd H' nx') → K (.slice (some ⟨b, 0, none⟩) (n + m) cap) H' nx') :
    AppK P t (.slice (some ⟨b, 0, none⟩) n cap) (.slice xa m c) K H nx := by
  refine ⟨e, k, bytes, n, m, c, xs, vs, xa, he, hs, hb, hz, hk, ⟨hxl, .inr ⟨b, cap, rest, rfl, hH, by omega, hcm, hcl⟩⟩, rfl, hrow, hv, hlen, by omega, fun h0 => ?_, fun hm b' cap' sp nx' hat hn' hlt _ _ hl => ?_⟩
  · subst h0
    have hv0 : vs = [] := List.eq_nil_of_length_eq_zero (by rw [hrow.1]; omega)
    subst hv0
    exact hK H nx rest (by rw [List.append_nil]; exact hH) (by rw [List.append_nil]; exact hcl) (fun _ _ => rfl) (Nat.le_refl _) (fun h => h)
  · rcases hat with ⟨e1, e2⟩ | ⟨e1, _⟩
    · cases e1
      have e2 : cap' = cap := e2
      subst e2
      exact hK _ _ sp (upd_same _ _ _) hl (fun q hq => upd_ne hq) hn' (fun h => (h.set (h _ _ hH)).mono hn')
    · have : cap < n + m := e1
      omega
def delF (f : Nat → Nat → Int) (i : Nat) : Nat → Nat → Int := fun a j => if a < i then f a j else f (a + 1) j
theorem flat_split1 {n i : Nat} {f : Nat → Nat → Int} (hi : i ≤ n) : flat n 1 f = flat i 1 f ++ flat (n - i) 1 (fun a j => f (i + a) j) := by
  rw [flat_cat, show i + (n - i) = n by omega]
  refine flat_congr fun a j ha hj => ?_
  unfold cat
  split
  · rfl
  · show f a j = f (i + (a - i)) j
    rw [show i + (a - i) = a by omega]
structure DelK (H : Hp) (b cap n i : Nat) (f : Nat → Nat → Int) (v : Value) (H' : Hp) (nx' : Nat) : Prop where
  v : v = .slice (some ⟨b, 0, none⟩) (n - 1) cap
  own : ∃ sp, H' b = some (.rw (flat (n - 1) 1 (delF f i) ++ sp) 3) ∧ sp.length = (cap - (n - 1)) * 1
  oth : ∀ c, c ≠ b → H' c = H c
theorem setN_one (cs : List Value) (o : Nat) (v : Value) : setN cs o 0 [v] = cs.set o v := rfl
theorem deleteI (b cap n i : Nat) (f : Nat → Nat → Int) (sp : List Value) (H : Hp) (nx : Nat) (hi : i < n) (hn : n ≤ 1048576) (hb : H b = some (.rw (flat n 1 f ++ sp) 3)) (hcap : n ≤ cap) (hcm : cap ≤ maxLen) (hsp : sp.length = (cap - n) * 1) :
    AC Try.prog 40 #[.slice (some ⟨b, 0, none⟩) n cap, .int .i64 i, .int .i64 ((i : Int) + 1)] H nx (DelK H b cap n i f) := by
  refine AC_of x_slices_Delete_int rfl fun hB => ?_
  have hbx := hB _ _ hb
  have d1 : ((i : Int) == (i : Int) + 1) = false := by simp; omega
  have t1 : ((i : Int) + 1).toNat = i + 1 := by omega
  have k1 : cutA (some ⟨b, 0, none⟩) n i 1 = some ⟨b, 0 + i * 1, none⟩ := cutA_pos (by omega)
  have hfi := flat_split1 (f := f) (show i ≤ n by omega)
  have hfj := flat_split1 (f := f) (show i + 1 ≤ n by omega)
  have hclr : ∀ (sp1 : List Value), sp1.length = (cap - (n - 1)) * 1 → ∃ sp2, (flat (n - 1) 1 (delF f i) ++ sp1).set (n - 1) (.int .i64 0) = flat (n - 1) 1 (delF f i) ++ sp2 ∧ sp2.length = (cap - (n - 1)) * 1 := fun sp1 h => by
    refine ⟨sp1.set 0 (.int .i64 0), ?_, by simpa using h⟩
    rw [List.set_append_right _ _ (by rw [flat_length]; omega), flat_length]
    congr 2
    omega
  have k2 : cutA (some ⟨b, 0, none⟩) cap (n - 1) 1 = some ⟨b, 0 + (n - 1) * 1, none⟩ := cutA_pos (by omega)
  have n1 : ((n - 1 : Nat) : Int).toNat = n - 1 := by omega
  simp (disch := omega) only [bsW, WOp, WOq, WV, bo, eqN, gdc, gw, bnd, ↓reduceIte, Nat.reduceEqDiff, rsvs, rsv, oneOf, rdN, ne_eq, Nat.reduceAdd, Nat.reduceMul, Nat.reduceLT, reduceCtorEq, Value.cells, setN, Value.oneCell', Nat.reduceLeDiff, undef, fcT, d1, t1, k1, cutA_zero, hb, c_slices_Delete_int]
  (repeat' (first | ((with_reducible refine gif_split (fun hs_ => ?_) (fun hs_ => ?_)) <;> (have hp_ := hs_; (try simp only [hpL, ne_eq] at hp_); (try simp (disch := omega) only [bsW, WOp, WOq, WV, bo, eqN, gdc, gw, bnd, ↓reduceIte, Nat.reduceEqDiff, rsvs, rsv, oneOf, rdN, ne_eq, Nat.reduceAdd, Nat.reduceMul, Nat.reduceLT, reduceCtorEq, Value.cells, setN, Value.oneCell', Nat.reduceLeDiff, undef, fcT, d1, t1, k1, cutA_zero, hb, hs_]))) | ((first | (with_reducible refine newB_i (fun nb_ hb_ => ?_)) | (with_reducible refine RgE_i (fun (hBd_ : Bd _ _) => ?_))); (try simp (disch := omega) only [bsW, WOp, WOq, WV, bo, eqN, gdc, gw, bnd, ↓reduceIte, Nat.reduceEqDiff, rsvs, rsv, oneOf, rdN, ne_eq, Nat.reduceAdd, Nat.reduceMul, Nat.reduceLT, reduceCtorEq, Value.cells, setN, Value.oneCell', Nat.reduceLeDiff, undef, fcT, d1, t1, k1, cutA_zero, hb])) | (with_reducible refine fun (hBd_ : Bd _ _) => ?_) | ((first | (with_reducible refine @And.intro (Sub _ _) _ ?_ ?_) | ((with_reducible refine @And.intro (Sub _ _ ∧ _) _ ?_ ?_); (with_reducible refine @And.intro (Sub _ _) _ ?_ ?_))); exact sbX) | ((with_reducible refine And.intro ?_ ?_); omega)))
  all_goals try (exfalso; omega)
  refine app_stay (k := 1) (bytes := 8) (xs := flat i 1 f) (vs := flat (n - (i + 1)) 1 (fun a j => f (i + 1 + a) j)) (rest := flat (n - i) 1 (fun a j => f (i + a) j) ++ sp) (by simp (disch := omega) only [bsW, WOp, WOq, WV, bo, eqN, gdc, gw, bnd, ↓reduceIte, Nat.reduceEqDiff, rsvs, rsv, oneOf, rdN, ne_eq, Nat.reduceAdd, Nat.reduceMul, Nat.reduceLT, reduceCtorEq, Value.cells, setN, Value.oneCell', Nat.reduceLeDiff, undef, fcT, d1, t1, k1, cutA_zero, hb]) (by simp (disch := omega) only [bsW, WOp, WOq, WV, bo, eqN, gdc, gw, bnd, ↓reduceIte, Nat.reduceEqDiff, rsvs, rsv, oneOf, rdN, ne_eq, Nat.reduceAdd, Nat.reduceMul, Nat.reduceLT, reduceCtorEq, Value.cells, setN, Value.oneCell', Nat.reduceLeDiff, undef, fcT, d1, t1, k1, cutA_zero, hb]) (by simp (disch := omega) only [bsW, WOp, WOq, WV, bo, eqN, gdc, gw, bnd, ↓reduceIte, Nat.reduceEqDiff, rsvs, rsv, oneOf, rdN, ne_eq, Nat.reduceAdd, Nat.reduceMul, Nat.reduceLT, reduceCtorEq, Value.cells, setN, Value.oneCell', Nat.reduceLeDiff, undef, fcT, d1, t1, k1, cutA_zero, hb]) ⟨_, qz3, rfl⟩ (by omega) (by rw [hb, hfi, List.append_assoc]) (by rw [flat_length]) (by simp only [List.length_append, flat_length, hsp]; omega) ⟨flat_length _ _ _, fun h => ?_⟩ (flat_all _ _ _) (by omega) hcm (by omega) ?_
  · refine ⟨b, i + 1, by rw [cutA_pos (by omega)]; congr 2; omega, fun p u hu => ?_⟩
    have hp := (List.getElem?_eq_some_iff.1 hu).1
    rw [rd_rw hb, hfj, List.append_assoc, List.getElem?_append_right (by rw [flat_length]; omega), flat_length, show i + 1 + p - (i + 1) * 1 = p by omega, List.getElem?_append_left hp]
    exact hu
  rintro H1 nx1 sp1 hb1 hl1 hoth1 hx1 hB1
  have en : i + (n - (i + 1)) = n - 1 := by omega
  have eF : flat i 1 f ++ flat (n - (i + 1)) 1 (fun a j => f (i + 1 + a) j) = flat (n - 1) 1 (delF f i) := by
    rw [flat_cat, en]
    refine flat_congr fun a j ha hj => ?_
    unfold cat delF
    split
    · rfl
    · show f (i + 1 + (a - i)) j = f (a + 1) j
      rw [show i + 1 + (a - i) = a + 1 by omega]
  rw [eF] at hb1 hl1
  rw [en]
  have hs1 : sp1.length = (cap - (n - 1)) * 1 := by simp only [List.length_append, flat_length] at hl1; omega
  have n2 : ((n : Int)).toNat - (n - 1) = 1 := by omega
  (try (simp (disch := omega) only [bsW, WOp, WOq, WV, bo, eqN, gdc, gw, bnd, ↓reduceIte, Nat.reduceEqDiff, rsvs, rsv, oneOf, rdN, ne_eq, Nat.reduceAdd, Nat.reduceMul, Nat.reduceLT, reduceCtorEq, Value.cells, setN, Value.oneCell', Nat.reduceLeDiff, undef, fcT, d1, t1, k1, k2, n1, n2, cutA_zero]))
  (repeat' (first | ((with_reducible refine gif_split (fun hs_ => ?_) (fun hs_ => ?_)) <;> (have hp_ := hs_; (try simp only [hpL, ne_eq] at hp_); (try simp (disch := omega) only [bsW, WOp, WOq, WV, bo, eqN, gdc, gw, bnd, ↓reduceIte, Nat.reduceEqDiff, rsvs, rsv, oneOf, rdN, ne_eq, Nat.reduceAdd, Nat.reduceMul, Nat.reduceLT, reduceCtorEq, Value.cells, setN, Value.oneCell', Nat.reduceLeDiff, undef, fcT, d1, t1, k1, k2, n1, n2, cutA_zero, hs_]))) | ((first | (with_reducible refine newB_i (fun nb_ hb_ => ?_)) | (with_reducible refine RgE_i (fun (hBd_ : Bd _ _) => ?_))); (try simp (disch := omega) only [bsW, WOp, WOq, WV, bo, eqN, gdc, gw, bnd, ↓reduceIte, Nat.reduceEqDiff, rsvs, rsv, oneOf, rdN, ne_eq, Nat.reduceAdd, Nat.reduceMul, Nat.reduceLT, reduceCtorEq, Value.cells, setN, Value.oneCell', Nat.reduceLeDiff, undef, fcT, d1, t1, k1, k2, n1, n2, cutA_zero])) | (with_reducible refine fun (hBd_ : Bd _ _) => ?_) | ((first | (with_reducible refine @And.intro (Sub _ _) _ ?_ ?_) | ((with_reducible refine @And.intro (Sub _ _ ∧ _) _ ?_ ?_); (with_reducible refine @And.intro (Sub _ _) _ ?_ ?_))); exact sbX) | ((with_reducible refine And.intro ?_ ?_); omega)))
  all_goals try (exfalso; omega)
  have ez : (Builtin.zeroCells (Value.int .i64 0).cells (n - (n - 1))).toList = [.int .i64 0] := by rw [show n - (n - 1) = 1 by omega]; simp [Builtin.zeroCells, Value.cells]
  refine ⟨3, n - (n - 1), cap - (n - 1), some ⟨b, (n - 1) * 1, none⟩, .int .i64 0, by simp (disch := omega) only [bsW, ↓reduceIte, Nat.reduceEqDiff, ne_eq, reduceCtorEq, fcT, d1, t1, k1, k2, n1, n2, cutA_zero], by simp (disch := omega) only [bsW, ↓reduceIte, Nat.reduceEqDiff, ne_eq, reduceCtorEq, fcT, d1, t1, k1, k2, n1, n2, cutA_zero], rfl, rfl, fun h => by omega, fun _ => ⟨b, (n - 1) * 1, _, 3, rfl, hb1, ?_, ?_⟩⟩
  · show (n - 1) * 1 + (n - (n - 1)) * 1 ≤ _
    rw [hl1]
    omega
  · rw [ez]
    simp only [Nat.mul_one, setN_one]
    obtain ⟨sp2, e2, hs2⟩ := hclr sp1 hs1
    rw [e2]
    (try (simp (disch := omega) only [bsW, WOp, WOq, WV, bo, eqN, gdc, gw, bnd, ↓reduceIte, Nat.reduceEqDiff, rsvs, rsv, oneOf, rdN, ne_eq, Nat.reduceAdd, Nat.reduceMul, Nat.reduceLT, reduceCtorEq, Value.cells, setN, Value.oneCell', Nat.reduceLeDiff, undef, fcT, d1, t1, k1, k2, n1, n2, cutA_zero]))
    exact ⟨rfl, ⟨sp2, upd_same _ _ _, hs2⟩, fun c hc => by rw [upd_ne hc]; exact hoth1 c hc⟩
end Go.Proofs.Ytnjlleopgjggpaa
