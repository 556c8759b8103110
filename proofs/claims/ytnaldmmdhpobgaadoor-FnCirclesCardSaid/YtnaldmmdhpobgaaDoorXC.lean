/- CircleText. -/
import Derived.Test.YtnaldmmdhpobgaaDoorXI
import Derived.Test.YtnaldmmdhpobgaaDoorV4
set_option linter.unusedVariables false
set_option linter.unusedSimpArgs false
set_option maxRecDepth 100000
set_option maxHeartbeats 1000000
namespace Go.Proofs.YtnaldmmdhpobgaaDoor
open Go Go.RowKit Go.Proofs

theorem join_end (s : List UInt8) : ∀ (x : List UInt8) (r : List (List UInt8)), Lib.join (x :: r) s ++ s = ((x :: r).map fun y => y ++ s).flatten
  | x, [] => by simp [Lib.join_one]
  | x, y :: r => by
    have ih := join_end s y r
    rw [Lib.join_cons] at ih ⊢
    simp only [Lib.joinTail, List.map_cons, List.flatten_cons, List.append_assoc] at ih ⊢
    rw [ih]
/-- The first people of a circle, each with the sign behind. -/
def cirT (l : List Int) (k : Nat) : List UInt8 := ((l.take k).map fun x => Lib.itoa x ++ [62]).flatten
theorem cirT_succ {l : List Int} {k : Nat} (h : k < l.length) : cirT l (k + 1) = cirT l k ++ (Lib.itoa (l.getD k 0) ++ [62]) := by
  unfold cirT
  rw [List.take_add_one, List.getElem?_eq_getElem h, List.getD_eq_getElem?_getD, List.getElem?_eq_getElem h]
  simp only [List.map_append, List.flatten_append, Option.toList, List.map_cons, List.map_nil, List.flatten_cons, List.flatten_nil, List.append_nil, Option.getD]
theorem cirT_end {l : List Int} (h : 0 < l.length) : cirT l l.length = Lib.join (l.map Lib.itoa) [62] ++ [62] := by
  cases l with
  | nil => simp at h
  | cons x r =>
    rw [List.map_cons, join_end, cirT, List.take_length]
    simp [List.map_map, Function.comp_def]
noncomputable def vCircleText (l : List Int) : Value :=
  if rgB 8 l.length (rowL l) = true then .tuple #[.string (bs (cirT l l.length ++ Lib.itoa (l.getD 0 0))), .bool true] else .tuple #[.string (bs []), .bool false]
theorem rg_all {l : List Int} (h : rgOk 8 l.length (rowL l)) : l.length ≤ 8 ∧ 2 ≤ l.length ∧ ∀ x ∈ l, 0 ≤ x ∧ x ≤ 1000 := by
  obtain ⟨h1, h2, h3⟩ := h
  refine ⟨by omega, h2, fun x hx => ?_⟩
  obtain ⟨i, hi, rfl⟩ := List.getElem_of_mem hx
  have := h1 i hi
  unfold rgAt at this
  have e : rowL l i 0 = l[i] := by simp [rowL, List.getD_eq_getElem?_getD, List.getElem?_eq_getElem hi]
  rw [e] at this
  omega
theorem CircleText (g : Nat) (ty : TypeId) (A : Option Addr) (l : List Int) (n c : Nat) (H : Hp) (nx : Nat) (hg : g = 0) (hT : H g = some (.rw powCells ty)) (hl : l.length = n) (hn : n ≤ 17592186044416) (hc : n ≤ c) (h : RdL H A l) :
    PC Tryd.prog 7 #[.slice A n c] H nx (vCircleText l) := by
  subst hl
  refine AC_of x_impl_CircleText rfl fun hB => ?_
  by_cases hr : rgOk 8 l.length (rowL l)
  case neg =>
    have e := rgB_no hr
    rw [vCircleText, if_neg (by rw [e]; simp)]
    simp (disch := omega) only [bsW, WOp, WOq, WV, bo, eqN, gdc, gw, bnd, ↓reduceIte, Nat.reduceEqDiff, rsvs, rsv, oneOf, rdN, ne_eq, Nat.reduceAdd, Nat.reduceMul, Nat.reduceLT, reduceCtorEq, Value.cells, setN, Value.oneCell', Nat.reduceLeDiff, undef, fcT, mk_bs, e, c_impl_CircleText]
    (repeat' (first | ((with_reducible refine gif_split (fun hs_ => ?_) (fun hs_ => ?_)) <;> (have hp_ := hs_; (try simp only [hpL, ne_eq] at hp_); (try simp (disch := omega) only [bsW, WOp, WOq, WV, bo, eqN, gdc, gw, bnd, ↓reduceIte, Nat.reduceEqDiff, rsvs, rsv, oneOf, rdN, ne_eq, Nat.reduceAdd, Nat.reduceMul, Nat.reduceLT, reduceCtorEq, Value.cells, setN, Value.oneCell', Nat.reduceLeDiff, undef, fcT, mk_bs, e, hs_]))) | ((first | (with_reducible refine newB_i (fun nb_ hb_ => ?_)) | ((with_reducible show QC _ _ _ _ _ _); (first | (refine QC_i (arePeople 8 A l _ c _ _ (by omega) rfl (by omega) hc h) ?_))) | ((with_reducible show AC _ _ _ _ _ _); (first | (refine PC.ac (arePeople 8 A l _ c _ _ (by omega) rfl (by omega) hc h) ?_))) | (with_reducible refine RgE_i (fun (hBd_ : Bd _ _) => ?_))); (try simp (disch := omega) only [bsW, WOp, WOq, WV, bo, eqN, gdc, gw, bnd, ↓reduceIte, Nat.reduceEqDiff, rsvs, rsv, oneOf, rdN, ne_eq, Nat.reduceAdd, Nat.reduceMul, Nat.reduceLT, reduceCtorEq, Value.cells, setN, Value.oneCell', Nat.reduceLeDiff, undef, fcT, mk_bs, e])) | (with_reducible refine fun (hBd_ : Bd _ _) => ?_) | ((first | (with_reducible refine @And.intro (Sub _ _) _ ?_ ?_) | ((with_reducible refine @And.intro (Sub _ _ ∧ _) _ ?_ ?_); (with_reducible refine @And.intro (Sub _ _) _ ?_ ?_))); exact sbX) | ((with_reducible refine And.intro ?_ ?_); omega)))
    exact Is_i (Sub.refl _)
  have e := rgB_yes hr
  obtain ⟨g1, g2, g3⟩ := rg_all hr
  rw [vCircleText, if_pos e, cirT_end (by omega)]
  obtain ⟨bl, ol, rfl, c1⟩ := RdL.at_ (l := l) h (show 0 < l.length by omega)
  rw [Nat.add_zero] at c1
  have hx1 : l.getD 0 0 ∈ l := by rw [List.getD_eq_getElem?_getD, List.getElem?_eq_getElem (by omega)]; exact List.getElem_mem _
  have hx2 := g3 _ hx1
  have l0 := join_len (xs := l.map Lib.itoa) (sep := [62]) (fun x hx => by obtain ⟨y, hy, rfl⟩ := List.mem_map.1 hx; have := g3 y hy; exact itoa_len y (by omega) (by omega)) (by simp)
  rw [List.length_map] at l0
  have l1 := itoa_len (l.getD 0 0) (by omega) (by omega)
  simp (disch := omega) only [bsW, WOp, WOq, WV, bo, eqN, gdc, gw, bnd, ↓reduceIte, Nat.reduceEqDiff, rsvs, rsv, oneOf, rdN, ne_eq, Nat.reduceAdd, Nat.reduceMul, Nat.reduceLT, reduceCtorEq, Value.cells, setN, Value.oneCell', Nat.reduceLeDiff, undef, fcT, mk_bs, e, c1, i64max, bs_size, bs_app, List.length_append, List.length_cons, List.length_nil, List.append_assoc, Nat.add_zero, c_impl_CircleText]
  (repeat' (first | ((with_reducible refine gif_split (fun hs_ => ?_) (fun hs_ => ?_)) <;> (have hp_ := hs_; (try simp only [hpL, ne_eq] at hp_); (try simp (disch := omega) only [bsW, WOp, WOq, WV, bo, eqN, gdc, gw, bnd, ↓reduceIte, Nat.reduceEqDiff, rsvs, rsv, oneOf, rdN, ne_eq, Nat.reduceAdd, Nat.reduceMul, Nat.reduceLT, reduceCtorEq, Value.cells, setN, Value.oneCell', Nat.reduceLeDiff, undef, fcT, mk_bs, e, c1, i64max, bs_size, bs_app, List.length_append, List.length_cons, List.length_nil, List.append_assoc, Nat.add_zero, hs_]))) | ((first | (with_reducible refine newB_i (fun nb_ hb_ => ?_)) | ((with_reducible show QC _ _ _ _ _ _); (first | (refine QC_i (arePeople 8 _ l _ c _ _ (by omega) rfl (by omega) hc h) ?_) | (refine QC_i (joinInts g ty _ l _ _ [62] _ _ hg hT rfl (by omega) (by omega) g3 (by simp) h) ?_) | (refine QC_i (Itoa g ty _ _ hg hT _ (by omega) (by omega)) ?_))) | ((with_reducible show AC _ _ _ _ _ _); (first | (refine PC.ac (arePeople 8 _ l _ c _ _ (by omega) rfl (by omega) hc h) ?_) | (refine PC.ac (joinInts g ty _ l _ _ [62] _ _ hg hT rfl (by omega) (by omega) g3 (by simp) h) ?_) | (refine PC.ac (Itoa g ty _ _ hg hT _ (by omega) (by omega)) ?_))) | (with_reducible refine RgE_i (fun (hBd_ : Bd _ _) => ?_))); (try simp (disch := omega) only [bsW, WOp, WOq, WV, bo, eqN, gdc, gw, bnd, ↓reduceIte, Nat.reduceEqDiff, rsvs, rsv, oneOf, rdN, ne_eq, Nat.reduceAdd, Nat.reduceMul, Nat.reduceLT, reduceCtorEq, Value.cells, setN, Value.oneCell', Nat.reduceLeDiff, undef, fcT, mk_bs, e, c1, i64max, bs_size, bs_app, List.length_append, List.length_cons, List.length_nil, List.append_assoc, Nat.add_zero])) | (with_reducible refine fun (hBd_ : Bd _ _) => ?_) | ((first | (with_reducible refine @And.intro (Sub _ _) _ ?_ ?_) | ((with_reducible refine @And.intro (Sub _ _ ∧ _) _ ?_ ?_); (with_reducible refine @And.intro (Sub _ _) _ ?_ ?_))); exact sbX) | ((with_reducible refine And.intro ?_ ?_); omega)))
  all_goals try (exfalso; omega)
  all_goals trace_state
  exact Is_i (Sub.refl _)
theorem sCircleText (A : Option Addr) (l : List Int) (n c : Nat) (H : Hp) (nx : Nat) (hl : l.length = n) (hn : n ≤ 17592186044416) (h : RdL H A l) :
    PC Tryd.prog 5 #[.slice A n c] H nx (vCircleText l) := by
  subst hl
  refine AC_of x_spec_CircleText rfl fun hB => ?_
  by_cases hr : rgOk 8 l.length (rowL l)
  case neg =>
    have e := rgB_no hr
    rw [vCircleText, if_neg (by rw [e]; simp)]
    simp (disch := omega) only [bsW, WOp, WOq, WV, bo, eqN, gdc, gw, bnd, ↓reduceIte, Nat.reduceEqDiff, rsvs, rsv, oneOf, rdN, ne_eq, Nat.reduceAdd, Nat.reduceMul, Nat.reduceLT, reduceCtorEq, Value.cells, setN, Value.oneCell', Nat.reduceLeDiff, undef, fcT, mk_bs, e, c_spec_CircleText]
    (repeat' (first | ((with_reducible refine gif_split (fun hs_ => ?_) (fun hs_ => ?_)) <;> (have hp_ := hs_; (try simp only [hpL, ne_eq] at hp_); (try simp (disch := omega) only [bsW, WOp, WOq, WV, bo, eqN, gdc, gw, bnd, ↓reduceIte, Nat.reduceEqDiff, rsvs, rsv, oneOf, rdN, ne_eq, Nat.reduceAdd, Nat.reduceMul, Nat.reduceLT, reduceCtorEq, Value.cells, setN, Value.oneCell', Nat.reduceLeDiff, undef, fcT, mk_bs, e, hs_]))) | ((first | (with_reducible refine newB_i (fun nb_ hb_ => ?_)) | ((with_reducible show QC _ _ _ _ _ _); (first | (refine QC_i (l20Ring 8 A l _ c _ _ (by omega) rfl (by omega) h) ?_))) | ((with_reducible show AC _ _ _ _ _ _); (first | (refine PC.ac (l20Ring 8 A l _ c _ _ (by omega) rfl (by omega) h) ?_))) | (with_reducible refine RgE_i (fun (hBd_ : Bd _ _) => ?_))); (try simp (disch := omega) only [bsW, WOp, WOq, WV, bo, eqN, gdc, gw, bnd, ↓reduceIte, Nat.reduceEqDiff, rsvs, rsv, oneOf, rdN, ne_eq, Nat.reduceAdd, Nat.reduceMul, Nat.reduceLT, reduceCtorEq, Value.cells, setN, Value.oneCell', Nat.reduceLeDiff, undef, fcT, mk_bs, e])) | (with_reducible refine fun (hBd_ : Bd _ _) => ?_) | ((first | (with_reducible refine @And.intro (Sub _ _) _ ?_ ?_) | ((with_reducible refine @And.intro (Sub _ _ ∧ _) _ ?_ ?_); (with_reducible refine @And.intro (Sub _ _) _ ?_ ?_))); exact sbX) | ((with_reducible refine And.intro ?_ ?_); omega)))
    exact Is_i (Sub.refl _)
  have e := rgB_yes hr
  obtain ⟨g1, g2, g3⟩ := rg_all hr
  rw [vCircleText, if_pos e]
  have hlen : ∀ k, k ≤ l.length → (cirT l k).length ≤ 22 * k := by
    intro k
    induction k with
    | zero => intro _; simp [cirT]
    | succ k ih =>
      intro hk
      have ih := ih (by omega)
      have hx1 : l.getD k 0 ∈ l := by rw [List.getD_eq_getElem?_getD, List.getElem?_eq_getElem (by omega)]; exact List.getElem_mem _
      have hx2 := g3 _ hx1
      have l1 := itoa_len (l.getD k 0) (by omega) (by omega)
      rw [cirT_succ (by omega)]
      simp only [List.length_append, List.length_cons, List.length_nil]
      omega
  simp (disch := omega) only [bsW, WOp, WOq, WV, bo, eqN, gdc, gw, bnd, ↓reduceIte, Nat.reduceEqDiff, rsvs, rsv, oneOf, rdN, ne_eq, Nat.reduceAdd, Nat.reduceMul, Nat.reduceLT, reduceCtorEq, Value.cells, setN, Value.oneCell', Nat.reduceLeDiff, undef, fcT, mk_bs, e, c_spec_CircleText]
  (repeat' (first | ((with_reducible refine gif_split (fun hs_ => ?_) (fun hs_ => ?_)) <;> (have hp_ := hs_; (try simp only [hpL, ne_eq] at hp_); (try simp (disch := omega) only [bsW, WOp, WOq, WV, bo, eqN, gdc, gw, bnd, ↓reduceIte, Nat.reduceEqDiff, rsvs, rsv, oneOf, rdN, ne_eq, Nat.reduceAdd, Nat.reduceMul, Nat.reduceLT, reduceCtorEq, Value.cells, setN, Value.oneCell', Nat.reduceLeDiff, undef, fcT, mk_bs, e, hs_]))) | ((first | (with_reducible refine newB_i (fun nb_ hb_ => ?_)) | ((with_reducible show QC _ _ _ _ _ _); (first | (refine QC_i (l20Ring 8 A l _ c _ _ (by omega) rfl (by omega) h) ?_))) | ((with_reducible show AC _ _ _ _ _ _); (first | (refine PC.ac (l20Ring 8 A l _ c _ _ (by omega) rfl (by omega) h) ?_))) | (with_reducible refine RgE_i (fun (hBd_ : Bd _ _) => ?_))); (try simp (disch := omega) only [bsW, WOp, WOq, WV, bo, eqN, gdc, gw, bnd, ↓reduceIte, Nat.reduceEqDiff, rsvs, rsv, oneOf, rdN, ne_eq, Nat.reduceAdd, Nat.reduceMul, Nat.reduceLT, reduceCtorEq, Value.cells, setN, Value.oneCell', Nat.reduceLeDiff, undef, fcT, mk_bs, e])) | (with_reducible refine fun (hBd_ : Bd _ _) => ?_) | ((first | (with_reducible refine @And.intro (Sub _ _) _ ?_ ?_) | ((with_reducible refine @And.intro (Sub _ _ ∧ _) _ ?_ ?_); (with_reducible refine @And.intro (Sub _ _) _ ?_ ?_))); exact sbX) | ((with_reducible refine And.intro ?_ ?_); omega)))
  refine LpB_rule (fun m fr H' nx' => ∃ k : Nat, m = l.length - k + 1 ∧ k ≤ l.length ∧ fr 0 = .slice A l.length c ∧ fr 5 = .int .i64 k ∧ fr 4 = .string (bs (cirT l k)) ∧ H' = H ∧ nx' = nx) ?_ ?_ (l.length + 1) ?_
  · rintro m K hK fr H' nx' hB' ⟨k, hm, hk, f0, f5, f4, rfl, rfl⟩
    have l0 := hlen k hk
    by_cases hkn : k < l.length
    case neg =>
      have d1 : decide ((k : Int) < (l.length : Int)) = false := decide_eq_false (by omega)
      have hkl : k = l.length := by omega
      subst hkl
      obtain ⟨bl, ol, rfl, c1⟩ := RdL.at_ (l := l) h (show 0 < l.length by omega)
      rw [Nat.add_zero] at c1
      have hx1 : l.getD 0 0 ∈ l := by rw [List.getD_eq_getElem?_getD, List.getElem?_eq_getElem (by omega)]; exact List.getElem_mem _
      have hx2 := g3 _ hx1
      have l1 := itoa_len (l.getD 0 0) (by omega) (by omega)
      simp (disch := omega) only [bsW, WOp, WOq, WV, bo, eqN, gdc, gw, bnd, ↓reduceIte, Nat.reduceEqDiff, rsvs, rsv, oneOf, rdN, ne_eq, Nat.reduceAdd, Nat.reduceMul, Nat.reduceLT, reduceCtorEq, Value.cells, setN, Value.oneCell', Nat.reduceLeDiff, undef, fcT, f0, f5, f4, d1, c1, mk_bs, i64max, bs_size, bs_app, List.length_append, List.length_cons, List.length_nil, List.append_assoc, Nat.add_zero]
      (repeat' (first | ((with_reducible refine gif_split (fun hs_ => ?_) (fun hs_ => ?_)) <;> (have hp_ := hs_; (try simp only [hpL, ne_eq] at hp_); (try simp (disch := omega) only [bsW, WOp, WOq, WV, bo, eqN, gdc, gw, bnd, ↓reduceIte, Nat.reduceEqDiff, rsvs, rsv, oneOf, rdN, ne_eq, Nat.reduceAdd, Nat.reduceMul, Nat.reduceLT, reduceCtorEq, Value.cells, setN, Value.oneCell', Nat.reduceLeDiff, undef, fcT, f0, f5, f4, d1, c1, mk_bs, i64max, bs_size, bs_app, List.length_append, List.length_cons, List.length_nil, List.append_assoc, Nat.add_zero, hs_]))) | ((first | (with_reducible refine newB_i (fun nb_ hb_ => ?_)) | ((with_reducible show QC _ _ _ _ _ _); (first | (refine QC_i (l1Num _ (by omega) (by omega) _ _) ?_))) | ((with_reducible show AC _ _ _ _ _ _); (first | (refine PC.ac (l1Num _ (by omega) (by omega) _ _) ?_))) | (with_reducible refine RgE_i (fun (hBd_ : Bd _ _) => ?_))); (try simp (disch := omega) only [bsW, WOp, WOq, WV, bo, eqN, gdc, gw, bnd, ↓reduceIte, Nat.reduceEqDiff, rsvs, rsv, oneOf, rdN, ne_eq, Nat.reduceAdd, Nat.reduceMul, Nat.reduceLT, reduceCtorEq, Value.cells, setN, Value.oneCell', Nat.reduceLeDiff, undef, fcT, f0, f5, f4, d1, c1, mk_bs, i64max, bs_size, bs_app, List.length_append, List.length_cons, List.length_nil, List.append_assoc, Nat.add_zero])) | (with_reducible refine fun (hBd_ : Bd _ _) => ?_) | ((first | (with_reducible refine @And.intro (Sub _ _) _ ?_ ?_) | ((with_reducible refine @And.intro (Sub _ _ ∧ _) _ ?_ ?_); (with_reducible refine @And.intro (Sub _ _) _ ?_ ?_))); exact sbX) | ((with_reducible refine And.intro ?_ ?_); omega)))
      all_goals try (exfalso; omega)
      exact Is_i (Sub.refl _)
    have d1 : decide ((k : Int) < (l.length : Int)) = true := decide_eq_true (by omega)
    obtain ⟨bl, ol, rfl, c1⟩ := RdL.at_ (l := l) h hkn
    have hx1 : l.getD k 0 ∈ l := by rw [List.getD_eq_getElem?_getD, List.getElem?_eq_getElem (by omega)]; exact List.getElem_mem _
    have hx2 := g3 _ hx1
    have l1 := itoa_len (l.getD k 0) (by omega) (by omega)
    simp (disch := omega) only [bsW, WOp, WOq, WV, bo, eqN, gdc, gw, bnd, ↓reduceIte, Nat.reduceEqDiff, rsvs, rsv, oneOf, rdN, ne_eq, Nat.reduceAdd, Nat.reduceMul, Nat.reduceLT, reduceCtorEq, Value.cells, setN, Value.oneCell', Nat.reduceLeDiff, undef, fcT, f0, f5, f4, d1, c1, mk_bs, i64max, bs_size, bs_app, List.length_append, List.length_cons, List.length_nil, List.append_assoc, Nat.mul_one]
    (repeat' (first | ((with_reducible refine gif_split (fun hs_ => ?_) (fun hs_ => ?_)) <;> (have hp_ := hs_; (try simp only [hpL, ne_eq] at hp_); (try simp (disch := omega) only [bsW, WOp, WOq, WV, bo, eqN, gdc, gw, bnd, ↓reduceIte, Nat.reduceEqDiff, rsvs, rsv, oneOf, rdN, ne_eq, Nat.reduceAdd, Nat.reduceMul, Nat.reduceLT, reduceCtorEq, Value.cells, setN, Value.oneCell', Nat.reduceLeDiff, undef, fcT, f0, f5, f4, d1, c1, mk_bs, i64max, bs_size, bs_app, List.length_append, List.length_cons, List.length_nil, List.append_assoc, Nat.mul_one, hs_]))) | ((first | (with_reducible refine newB_i (fun nb_ hb_ => ?_)) | ((with_reducible show QC _ _ _ _ _ _); (first | (refine QC_i (l1Num _ (by omega) (by omega) _ _) ?_))) | ((with_reducible show AC _ _ _ _ _ _); (first | (refine PC.ac (l1Num _ (by omega) (by omega) _ _) ?_))) | (with_reducible refine RgE_i (fun (hBd_ : Bd _ _) => ?_))); (try simp (disch := omega) only [bsW, WOp, WOq, WV, bo, eqN, gdc, gw, bnd, ↓reduceIte, Nat.reduceEqDiff, rsvs, rsv, oneOf, rdN, ne_eq, Nat.reduceAdd, Nat.reduceMul, Nat.reduceLT, reduceCtorEq, Value.cells, setN, Value.oneCell', Nat.reduceLeDiff, undef, fcT, f0, f5, f4, d1, c1, mk_bs, i64max, bs_size, bs_app, List.length_append, List.length_cons, List.length_nil, List.append_assoc, Nat.mul_one])) | (with_reducible refine fun (hBd_ : Bd _ _) => ?_) | ((first | (with_reducible refine @And.intro (Sub _ _) _ ?_ ?_) | ((with_reducible refine @And.intro (Sub _ _ ∧ _) _ ?_ ?_); (with_reducible refine @And.intro (Sub _ _) _ ?_ ?_))); exact sbX) | ((with_reducible refine And.intro ?_ ?_); omega)))
    all_goals try (exfalso; omega)
    exact hK _ _ _ ⟨k + 1, by omega, by omega, by simp (disch := omega) only [bsW, ↓reduceIte, Nat.reduceEqDiff, ne_eq, reduceCtorEq, fcT, f0, f5, f4, d1, c1, mk_bs, i64max, bs_size, bs_app, List.length_append, List.length_cons, List.length_nil, List.append_assoc, Nat.mul_one], by simp (disch := omega) only [bsW, ↓reduceIte, Nat.reduceEqDiff, ne_eq, reduceCtorEq, fcT, f0, f5, f4, d1, c1, mk_bs, i64max, bs_size, bs_app, List.length_append, List.length_cons, List.length_nil, List.append_assoc, Nat.mul_one, Int.natCast_add, Int.natCast_one], by simp (disch := omega) only [bsW, ↓reduceIte, Nat.reduceEqDiff, ne_eq, reduceCtorEq, fcT, f0, f5, f4, d1, c1, mk_bs, i64max, bs_size, bs_app, List.length_append, List.length_cons, List.length_nil, List.append_assoc, Nat.mul_one, cirT_succ hkn], rfl, rfl⟩
  · rintro fr H' nx' ⟨k, hm, _⟩; omega
  · exact ⟨0, by omega, by omega, by simp (disch := omega) only [bsW, ↓reduceIte, Nat.reduceEqDiff, ne_eq, reduceCtorEq, fcT], by simp (disch := omega) only [bsW, ↓reduceIte, Nat.reduceEqDiff, ne_eq, reduceCtorEq, fcT, Int.natCast_zero], by simp (disch := omega) only [bsW, ↓reduceIte, Nat.reduceEqDiff, ne_eq, reduceCtorEq, fcT, cirT, List.take_zero, List.map_nil, List.flatten_nil], rfl, rfl⟩
end Go.Proofs.YtnaldmmdhpobgaaDoor
