/- ShowText. -/
import Derived.Test.YtnjlleopgjggpaaDoorX1
import Derived.Test.YtnjlleopgjggpaaDoorR4
set_option linter.unusedVariables false
set_option linter.unusedSimpArgs false
set_option maxRecDepth 100000
set_option maxHeartbeats 1000000
namespace Go.Proofs.YtnjlleopgjggpaaDoor
open Go Go.RowKit Go.Proofs

def mdN (k : Int) : List UInt8 := if k = 0 then [116, 104, 97, 110, 107, 115] else if k = 1 then [100, 105, 112, 108, 111, 109, 97] else if k = 2 then [98, 114, 111, 110, 122, 101] else if k = 3 then [115, 105, 108, 118, 101, 114] else [103, 111, 108, 100]
def shT (id : Int) (tl : List UInt8) (fr k : Int) : List UInt8 := Lib.itoa id ++ ([32] ++ (tl ++ ([32, 40] ++ (Lib.itoa fr ++ ([102, 41, 58, 32] ++ mdN k)))))
def vShowText (id : Int) (t : ByteArray) (fr : Int) (m : Nat) (mk : Nat → Int) : Value :=
  if exB id t fr m mk = true then .tuple #[.string (bs (shT id t.data.toList fr (medV (scV mk m) ((m : Int) - 2)))), .bool true] else .tuple #[.string (bs []), .bool false]
theorem vShow_yes {id : Int} {tl : List UInt8} {fr : Int} {m : Nat} {mk : Nat → Int} (h : exB id (bs tl) fr m mk = true) : vShowText id (bs tl) fr m mk = .tuple #[.string (bs (shT id tl fr (medV (scV mk m) ((m : Int) - 2)))), .bool true] := if_pos h
theorem vShow_no {id : Int} {t : ByteArray} {fr : Int} {m : Nat} {mk : Nat → Int} (h : exB id t fr m mk = false) : vShowText id t fr m mk = .tuple #[.string (bs []), .bool false] := if_neg (by rw [h]; simp)
theorem bs_ex (t : ByteArray) : ∃ tl, t = bs tl := ⟨t.data.toList, by unfold bs; rw [Array.toArray_toList]⟩
theorem exB_title {id : Int} {t : ByteArray} {fr : Int} {m : Nat} {mk : Nat → Int} (h : exB id t fr m mk = true) : t.size ≤ 10 := by
  simp only [exB, Bool.and_eq_true, wordB] at h
  have := inR_true.1 h.1.1.1.2.2
  omega
theorem tn1 : Int.toNat 1 = 1 := rfl
theorem tn2 : Int.toNat 2 = 2 := rfl
theorem tn3 : Int.toNat 3 = 3 := rfl
theorem tn4 : Int.toNat 4 = 4 := rfl
theorem med_cases {sc c : Int} : medV sc c = 0 ∨ medV sc c = 1 ∨ medV sc c = 2 ∨ medV sc c = 3 ∨ medV sc c = 4 := by
  have := medV_bd sc c
  omega
theorem ShowText (g : Nat) (ty : TypeId) (id : Int) (t : ByteArray) (fr : Int) (B : Option Addr) (m d : Nat) (mk : Nat → Int) (H : Hp) (nx : Nat) (hg : g = 0) (hT : H g = some (.rw powCells ty)) (ht : t.size ≤ 9223372036854775807) (hm : m ≤ 9223372036854775807) (h : Rd H B m 1 (fun q _ => mk q)) :
    PC Tryd.prog 58 #[.agg #[.int .i64 id, .string t, .int .i64 fr, .slice B m d]] H nx (vShowText id t fr m mk) := by
  refine AC_of x_impl_ShowText rfl fun hB => ?_
  have hne : ∀ b, nx ≤ b → ∀ o, upd H b o g = some (.rw powCells ty) := fun b hb o => by
    have := hB _ _ hT
    rw [upd_ne (by omega)]
    exact hT
  by_cases hv : exB id t fr m mk = true
  case neg =>
    have hv : exB id t fr m mk = false := by simpa using hv
    rw [vShow_no hv]
    simp (disch := omega) only [bsW, WOp, WOq, WV, bo, eqN, gdc, gw, bnd, ↓reduceIte, Nat.reduceEqDiff, rsvs, rsv, oneOf, rdN, ne_eq, Nat.reduceAdd, Nat.reduceMul, Nat.reduceLT, reduceCtorEq, Value.cells, setN, Value.oneCell', Nat.reduceLeDiff, undef, fcT, hv, mk_bs, c_impl_ShowText]
    (repeat' (first | ((with_reducible refine gif_split (fun hs_ => ?_) (fun hs_ => ?_)) <;> (have hp_ := hs_; (try simp only [hpL, ne_eq] at hp_); (try simp (disch := omega) only [bsW, WOp, WOq, WV, bo, eqN, gdc, gw, bnd, ↓reduceIte, Nat.reduceEqDiff, rsvs, rsv, oneOf, rdN, ne_eq, Nat.reduceAdd, Nat.reduceMul, Nat.reduceLT, reduceCtorEq, Value.cells, setN, Value.oneCell', Nat.reduceLeDiff, undef, fcT, hv, mk_bs, hs_]))) | ((first | (with_reducible refine newB_i (fun nb_ hb_ => ?_)) | ((with_reducible show QC _ _ _ _ _ _); (first | (refine QC_i (isExhibit _ _ _ _ _ _ m d mk _ _ ht (by omega) (by rw [rd_upd_same]; rfl) (by rw [rd_upd_same]; rfl) (by rw [rd_upd_same]; rfl) (by rw [rd_upd_same]; rfl) (h.sub (by (repeat (first | assumption | exact Sub.refl _ | (refine sub_up (nx := nx) ?_ hB ?_; omega)))))) ?_))) | ((with_reducible show AC _ _ _ _ _ _); (first | (refine PC.ac (isExhibit _ _ _ _ _ _ m d mk _ _ ht (by omega) (by rw [rd_upd_same]; rfl) (by rw [rd_upd_same]; rfl) (by rw [rd_upd_same]; rfl) (by rw [rd_upd_same]; rfl) (h.sub (by (repeat (first | assumption | exact Sub.refl _ | (refine sub_up (nx := nx) ?_ hB ?_; omega)))))) ?_))) | (with_reducible refine RgE_i (fun (hBd_ : Bd _ _) => ?_))); (try simp (disch := omega) only [bsW, WOp, WOq, WV, bo, eqN, gdc, gw, bnd, ↓reduceIte, Nat.reduceEqDiff, rsvs, rsv, oneOf, rdN, ne_eq, Nat.reduceAdd, Nat.reduceMul, Nat.reduceLT, reduceCtorEq, Value.cells, setN, Value.oneCell', Nat.reduceLeDiff, undef, fcT, hv, mk_bs])) | (with_reducible refine fun (hBd_ : Bd _ _) => ?_) | ((first | (with_reducible refine @And.intro (Sub _ _) _ ?_ ?_) | ((with_reducible refine @And.intro (Sub _ _ ∧ _) _ ?_ ?_); (with_reducible refine @And.intro (Sub _ _) _ ?_ ?_))); exact sbX) | ((with_reducible refine And.intro ?_ ?_); omega)))
    all_goals try (exfalso; omega)
    exact Is_i (by (repeat (first | assumption | exact Sub.refl _ | (refine sub_up (nx := nx) ?_ hB ?_; omega))))
  have htl := exB_title hv
  obtain ⟨tl, rfl⟩ := bs_ex t
  rw [bs_size] at htl
  obtain ⟨hid, hid2, hfr, hfr2, hm3, hm7, hok⟩ := exB_bd hv
  have l0 := itoa_len id (by omega) (by omega)
  have l1 := itoa_len fr (by omega) (by omega)
  rw [vShow_yes hv]
  rcases med_cases (sc := scV mk m) (c := (m : Int) - 2) with e | e | e | e | e <;> rw [e]
  all_goals
    simp (disch := omega) only [bsW, WOp, WOq, WV, bo, eqN, gdc, gw, bnd, ↓reduceIte, Nat.reduceEqDiff, rsvs, rsv, oneOf, rdN, ne_eq, Nat.reduceAdd, Nat.reduceMul, Nat.reduceLT, reduceCtorEq, Value.cells, setN, Value.oneCell', Nat.reduceLeDiff, undef, fcT, hv, e, tn1, tn2, tn3, tn4, Nat.mul_one, Nat.zero_mul, Int.toNat_zero, mk_bs, i64max, bs_size, bs_app, List.length_append, List.length_cons, List.length_nil, List.append_assoc, c_impl_ShowText]
    (repeat' (first | ((with_reducible refine gif_split (fun hs_ => ?_) (fun hs_ => ?_)) <;> (have hp_ := hs_; (try simp only [hpL, ne_eq] at hp_); (try simp (disch := omega) only [bsW, WOp, WOq, WV, bo, eqN, gdc, gw, bnd, ↓reduceIte, Nat.reduceEqDiff, rsvs, rsv, oneOf, rdN, ne_eq, Nat.reduceAdd, Nat.reduceMul, Nat.reduceLT, reduceCtorEq, Value.cells, setN, Value.oneCell', Nat.reduceLeDiff, undef, fcT, hv, e, tn1, tn2, tn3, tn4, Nat.mul_one, Nat.zero_mul, Int.toNat_zero, mk_bs, i64max, bs_size, bs_app, List.length_append, List.length_cons, List.length_nil, List.append_assoc, hs_]))) | ((first | (with_reducible refine newB_i (fun nb_ hb_ => ?_)) | ((with_reducible show QC _ _ _ _ _ _); (first | (refine QC_i (isExhibit _ _ _ _ _ _ m d mk _ _ ht (by omega) (by rw [rd_upd_same]; rfl) (by rw [rd_upd_same]; rfl) (by rw [rd_upd_same]; rfl) (by rw [rd_upd_same]; rfl) (h.sub (by (repeat (first | assumption | exact Sub.refl _ | (refine sub_up (nx := nx) ?_ hB ?_; omega)))))) ?_) | (refine QC_i (Itoa g ty _ _ hg (hne _ (by with_reducible assumption) _) _ (by omega) (by omega)) ?_) | (refine QC_i (medalOf B m d mk _ _ (by omega) (by omega) hok (h.sub (by (repeat (first | assumption | exact Sub.refl _ | (refine sub_up (nx := nx) ?_ hB ?_; omega)))))) ?_))) | ((with_reducible show AC _ _ _ _ _ _); (first | (refine PC.ac (isExhibit _ _ _ _ _ _ m d mk _ _ ht (by omega) (by rw [rd_upd_same]; rfl) (by rw [rd_upd_same]; rfl) (by rw [rd_upd_same]; rfl) (by rw [rd_upd_same]; rfl) (h.sub (by (repeat (first | assumption | exact Sub.refl _ | (refine sub_up (nx := nx) ?_ hB ?_; omega)))))) ?_) | (refine PC.ac (Itoa g ty _ _ hg (hne _ (by with_reducible assumption) _) _ (by omega) (by omega)) ?_) | (refine PC.ac (medalOf B m d mk _ _ (by omega) (by omega) hok (h.sub (by (repeat (first | assumption | exact Sub.refl _ | (refine sub_up (nx := nx) ?_ hB ?_; omega)))))) ?_))) | (with_reducible refine RgE_i (fun (hBd_ : Bd _ _) => ?_))); (try simp (disch := omega) only [bsW, WOp, WOq, WV, bo, eqN, gdc, gw, bnd, ↓reduceIte, Nat.reduceEqDiff, rsvs, rsv, oneOf, rdN, ne_eq, Nat.reduceAdd, Nat.reduceMul, Nat.reduceLT, reduceCtorEq, Value.cells, setN, Value.oneCell', Nat.reduceLeDiff, undef, fcT, hv, e, tn1, tn2, tn3, tn4, Nat.mul_one, Nat.zero_mul, Int.toNat_zero, mk_bs, i64max, bs_size, bs_app, List.length_append, List.length_cons, List.length_nil, List.append_assoc])) | (with_reducible refine fun (hBd_ : Bd _ _) => ?_) | ((first | (with_reducible refine @And.intro (Sub _ _) _ ?_ ?_) | ((with_reducible refine @And.intro (Sub _ _ ∧ _) _ ?_ ?_); (with_reducible refine @And.intro (Sub _ _) _ ?_ ?_))); exact sbX) | ((with_reducible refine And.intro ?_ ?_); omega) | (with_reducible refine And.intro ?_ ?_)))
    all_goals (refine Is_e ?_ ?_; (· first | rfl | simp [shT, mdN]); (· (repeat (first | assumption | exact Sub.refl _ | (refine sub_up (nx := nx) ?_ hB ?_; omega)))))
theorem sShowText (id : Int) (t : ByteArray) (fr : Int) (B : Option Addr) (m d : Nat) (mk : Nat → Int) (H : Hp) (nx : Nat) (ht : t.size ≤ 9223372036854775807) (hm : m ≤ 9223372036854775807) (h : Rd H B m 1 (fun q _ => mk q)) :
    PC Tryd.prog 59 #[.agg #[.int .i64 id, .string t, .int .i64 fr, .slice B m d]] H nx (vShowText id t fr m mk) := by
  refine AC_of x_spec_ShowText rfl fun hB => ?_
  by_cases hv : exB id t fr m mk = true
  case neg =>
    have hv : exB id t fr m mk = false := by simpa using hv
    rw [vShow_no hv]
    simp (disch := omega) only [bsW, WOp, WOq, WV, bo, eqN, gdc, gw, bnd, ↓reduceIte, Nat.reduceEqDiff, rsvs, rsv, oneOf, rdN, ne_eq, Nat.reduceAdd, Nat.reduceMul, Nat.reduceLT, reduceCtorEq, Value.cells, setN, Value.oneCell', Nat.reduceLeDiff, undef, fcT, hv, mk_bs, c_spec_ShowText]
    (repeat' (first | ((with_reducible refine gif_split (fun hs_ => ?_) (fun hs_ => ?_)) <;> (have hp_ := hs_; (try simp only [hpL, ne_eq] at hp_); (try simp (disch := omega) only [bsW, WOp, WOq, WV, bo, eqN, gdc, gw, bnd, ↓reduceIte, Nat.reduceEqDiff, rsvs, rsv, oneOf, rdN, ne_eq, Nat.reduceAdd, Nat.reduceMul, Nat.reduceLT, reduceCtorEq, Value.cells, setN, Value.oneCell', Nat.reduceLeDiff, undef, fcT, hv, mk_bs, hs_]))) | ((first | (with_reducible refine newB_i (fun nb_ hb_ => ?_)) | ((with_reducible show QC _ _ _ _ _ _); (first | (refine QC_i (l23One _ _ _ B m d mk _ _ ht (by omega) (h.sub (by (repeat (first | assumption | exact Sub.refl _ | (refine sub_up (nx := nx) ?_ hB ?_; omega)))))) ?_))) | ((with_reducible show AC _ _ _ _ _ _); (first | (refine PC.ac (l23One _ _ _ B m d mk _ _ ht (by omega) (h.sub (by (repeat (first | assumption | exact Sub.refl _ | (refine sub_up (nx := nx) ?_ hB ?_; omega)))))) ?_))) | (with_reducible refine RgE_i (fun (hBd_ : Bd _ _) => ?_))); (try simp (disch := omega) only [bsW, WOp, WOq, WV, bo, eqN, gdc, gw, bnd, ↓reduceIte, Nat.reduceEqDiff, rsvs, rsv, oneOf, rdN, ne_eq, Nat.reduceAdd, Nat.reduceMul, Nat.reduceLT, reduceCtorEq, Value.cells, setN, Value.oneCell', Nat.reduceLeDiff, undef, fcT, hv, mk_bs])) | (with_reducible refine fun (hBd_ : Bd _ _) => ?_) | ((first | (with_reducible refine @And.intro (Sub _ _) _ ?_ ?_) | ((with_reducible refine @And.intro (Sub _ _ ∧ _) _ ?_ ?_); (with_reducible refine @And.intro (Sub _ _) _ ?_ ?_))); exact sbX) | ((with_reducible refine And.intro ?_ ?_); omega)))
    all_goals try (exfalso; omega)
    exact Is_i (by (repeat (first | assumption | exact Sub.refl _ | (refine sub_up (nx := nx) ?_ hB ?_; omega))))
  have htl := exB_title hv
  obtain ⟨tl, rfl⟩ := bs_ex t
  rw [bs_size] at htl
  obtain ⟨hid, hid2, hfr, hfr2, hm3, hm7, hok⟩ := exB_bd hv
  have l0 := itoa_len id (by omega) (by omega)
  have l1 := itoa_len fr (by omega) (by omega)
  rw [vShow_yes hv]
  rcases med_cases (sc := scV mk m) (c := (m : Int) - 2) with e | e | e | e | e <;> rw [e]
  all_goals
    simp (disch := omega) only [bsW, WOp, WOq, WV, bo, eqN, gdc, gw, bnd, ↓reduceIte, Nat.reduceEqDiff, rsvs, rsv, oneOf, rdN, ne_eq, Nat.reduceAdd, Nat.reduceMul, Nat.reduceLT, reduceCtorEq, Value.cells, setN, Value.oneCell', Nat.reduceLeDiff, undef, fcT, hv, e, tn1, tn2, tn3, tn4, Nat.mul_one, Nat.zero_mul, Int.toNat_zero, mk_bs, i64max, bs_size, bs_app, List.length_append, List.length_cons, List.length_nil, List.append_assoc, c_spec_ShowText]
    (repeat' (first | ((with_reducible refine gif_split (fun hs_ => ?_) (fun hs_ => ?_)) <;> (have hp_ := hs_; (try simp only [hpL, ne_eq] at hp_); (try simp (disch := omega) only [bsW, WOp, WOq, WV, bo, eqN, gdc, gw, bnd, ↓reduceIte, Nat.reduceEqDiff, rsvs, rsv, oneOf, rdN, ne_eq, Nat.reduceAdd, Nat.reduceMul, Nat.reduceLT, reduceCtorEq, Value.cells, setN, Value.oneCell', Nat.reduceLeDiff, undef, fcT, hv, e, tn1, tn2, tn3, tn4, Nat.mul_one, Nat.zero_mul, Int.toNat_zero, mk_bs, i64max, bs_size, bs_app, List.length_append, List.length_cons, List.length_nil, List.append_assoc, hs_]))) | ((first | (with_reducible refine newB_i (fun nb_ hb_ => ?_)) | ((with_reducible show QC _ _ _ _ _ _); (first | (refine QC_i (l23One _ _ _ B m d mk _ _ ht (by omega) (h.sub (by (repeat (first | assumption | exact Sub.refl _ | (refine sub_up (nx := nx) ?_ hB ?_; omega)))))) ?_) | (refine QC_i (l1Num _ (by omega) (by omega) _ _) ?_) | (refine QC_i (l23Medal B m d mk _ _ (by omega) (by omega) hok (h.sub (by (repeat (first | assumption | exact Sub.refl _ | (refine sub_up (nx := nx) ?_ hB ?_; omega)))))) ?_))) | ((with_reducible show AC _ _ _ _ _ _); (first | (refine PC.ac (l23One _ _ _ B m d mk _ _ ht (by omega) (h.sub (by (repeat (first | assumption | exact Sub.refl _ | (refine sub_up (nx := nx) ?_ hB ?_; omega)))))) ?_) | (refine PC.ac (l1Num _ (by omega) (by omega) _ _) ?_) | (refine PC.ac (l23Medal B m d mk _ _ (by omega) (by omega) hok (h.sub (by (repeat (first | assumption | exact Sub.refl _ | (refine sub_up (nx := nx) ?_ hB ?_; omega)))))) ?_))) | (with_reducible refine RgE_i (fun (hBd_ : Bd _ _) => ?_))); (try simp (disch := omega) only [bsW, WOp, WOq, WV, bo, eqN, gdc, gw, bnd, ↓reduceIte, Nat.reduceEqDiff, rsvs, rsv, oneOf, rdN, ne_eq, Nat.reduceAdd, Nat.reduceMul, Nat.reduceLT, reduceCtorEq, Value.cells, setN, Value.oneCell', Nat.reduceLeDiff, undef, fcT, hv, e, tn1, tn2, tn3, tn4, Nat.mul_one, Nat.zero_mul, Int.toNat_zero, mk_bs, i64max, bs_size, bs_app, List.length_append, List.length_cons, List.length_nil, List.append_assoc])) | (with_reducible refine fun (hBd_ : Bd _ _) => ?_) | ((first | (with_reducible refine @And.intro (Sub _ _) _ ?_ ?_) | ((with_reducible refine @And.intro (Sub _ _ ∧ _) _ ?_ ?_); (with_reducible refine @And.intro (Sub _ _) _ ?_ ?_))); exact sbX) | ((with_reducible refine And.intro ?_ ?_); omega) | (with_reducible refine And.intro ?_ ?_)))
    all_goals (refine Is_e ?_ ?_; (· first | rfl | simp [shT, mdN]); (· (repeat (first | assumption | exact Sub.refl _ | (refine sub_up (nx := nx) ?_ hB ?_; omega)))))
end Go.Proofs.YtnjlleopgjggpaaDoor
