/- Texts: numbers as decimal numerals. -/
import Derived.Lib.ItoaLen
import Derived.Test.YtnjlleopgjggpaaDoorT
import Derived.Test.YtnjlleopgjggpaaDoorD6
import Derived.Test.YtnjlleopgjggpaaDoorE6
import Derived.Test.YtnjlleopgjggpaaDoorSh
set_option linter.unusedVariables false
set_option linter.unusedSimpArgs false
set_option maxRecDepth 100000
set_option maxHeartbeats 1000000
namespace Go.Proofs.YtnjlleopgjggpaaDoor
open Go Go.RowKit Go.Proofs

/-- A text, by its bytes. -/
def bs (l : List UInt8) : ByteArray := ⟨l.toArray⟩
theorem bs_app (a b : List UInt8) : bs a ++ bs b = bs (a ++ b) := by
  unfold bs
  apply ByteArray.ext
  simp [ByteArray.data_append]
theorem bs_size (a : List UInt8) : (bs a).size = a.length := of_eq_true (eq_self _)
theorem mk_bs (a : List UInt8) : ByteArray.mk a.toArray = bs a := of_eq_true (eq_self _)
theorem i64max : IntKind.i64.max = 9223372036854775807 := of_eq_true (eq_self _)
def digs : List UInt8 := [48, 49, 50, 51, 52, 53, 54, 55, 56, 57]
theorem digs_bs : bs [48, 49, 50, 51, 52, 53, 54, 55, 56, 57] = bs digs := of_eq_true (eq_self _)
theorem digs_size : (bs digs).size = 10 := of_eq_true (eq_self _)
theorem digs_at (d : Nat) (h : d < 10) : (bs digs).extract d (d + 1) = bs [UInt8.ofNat (48 + d)] := by
  have : ∀ i : Fin 10, (bs digs).extract i.val (i.val + 1) = bs [UInt8.ofNat (48 + i.val)] := by decide +kernel
  exact this ⟨d, h⟩
theorem tdiv10 (n : Nat) : (n : Int).tdiv 10 = ((n / 10 : Nat) : Int) := by rw [Int.tdiv_eq_ediv_of_nonneg (by omega)]; rfl
theorem tmod10 (n : Nat) : (n : Int).tmod 10 = ((n % 10 : Nat) : Int) := by rw [Int.tmod_eq_emod_of_nonneg (by omega)]; rfl
theorem l1Num_nat : ∀ (n : Nat), n ≤ 4611686018427387904 → ∀ (H : Hp) (nx : Nat),
    PC Tryd.prog 80 #[.int .i64 n] H nx (.string (bs (Lib.decDigits n))) := by
  intro n
  induction n using Nat.strongRecOn with
  | _ n ih =>
  intro hn H nx
  refine AC_of x_spec_l1Num rfl fun hB => ?_
  have d0 : decide ((n : Int) < 0) = false := decide_eq_false (by omega)
  by_cases h : n < 10
  · have d1 : decide ((n : Int) < 10) = true := decide_eq_true (by omega)
    simp (disch := omega) only [bsW, WOp, WOq, WV, bo, eqN, gdc, gw, bnd, ↓reduceIte, Nat.reduceEqDiff, rsvs, rsv, oneOf, rdN, ne_eq, Nat.reduceAdd, Nat.reduceMul, Nat.reduceLT, reduceCtorEq, Value.cells, setN, Value.oneCell', Nat.reduceLeDiff, undef, fcT, d0, d1, mk_bs, digs_bs, digs_size, c_spec_l1Num]
    (repeat' (first | ((with_reducible refine gif_split (fun hs_ => ?_) (fun hs_ => ?_)) <;> (have hp_ := hs_; (try simp only [hpL, ne_eq] at hp_); (try simp (disch := omega) only [bsW, WOp, WOq, WV, bo, eqN, gdc, gw, bnd, ↓reduceIte, Nat.reduceEqDiff, rsvs, rsv, oneOf, rdN, ne_eq, Nat.reduceAdd, Nat.reduceMul, Nat.reduceLT, reduceCtorEq, Value.cells, setN, Value.oneCell', Nat.reduceLeDiff, undef, fcT, d0, d1, mk_bs, digs_bs, digs_size, hs_]))) | ((first | (with_reducible refine newB_i (fun nb_ hb_ => ?_)) | (with_reducible refine RgE_i (fun (hBd_ : Bd _ _) => ?_))); (try simp (disch := omega) only [bsW, WOp, WOq, WV, bo, eqN, gdc, gw, bnd, ↓reduceIte, Nat.reduceEqDiff, rsvs, rsv, oneOf, rdN, ne_eq, Nat.reduceAdd, Nat.reduceMul, Nat.reduceLT, reduceCtorEq, Value.cells, setN, Value.oneCell', Nat.reduceLeDiff, undef, fcT, d0, d1, mk_bs, digs_bs, digs_size])) | (with_reducible refine fun (hBd_ : Bd _ _) => ?_) | ((first | (with_reducible refine @And.intro (Sub _ _) _ ?_ ?_) | ((with_reducible refine @And.intro (Sub _ _ ∧ _) _ ?_ ?_); (with_reducible refine @And.intro (Sub _ _) _ ?_ ?_))); exact sbX) | ((with_reducible refine And.intro ?_ ?_); omega)))
    all_goals try (exfalso; omega)
    rw [digs_at n h, ← Lib.decDigits_one h]
    exact Is_i (Sub.refl H)
  · have d1 : decide ((n : Int) < 10) = false := decide_eq_false (by omega)
    have hl := Lib.nDigits_le20 (n / 10) (by omega)
    rw [← Lib.decDigits_length] at hl
    have e := digs_at (n % 10) (by omega)
    have e3 : Lib.decDigits n = Lib.decDigits (n / 10) ++ [UInt8.ofNat (48 + n % 10)] := by rw [Lib.decDigits, dif_neg h]
    simp (disch := omega) only [bsW, WOp, WOq, WV, bo, eqN, gdc, gw, bnd, ↓reduceIte, Nat.reduceEqDiff, rsvs, rsv, oneOf, rdN, ne_eq, Nat.reduceAdd, Nat.reduceMul, Nat.reduceLT, reduceCtorEq, Value.cells, setN, Value.oneCell', Nat.reduceLeDiff, undef, fcT, d0, d1, mk_bs, digs_bs, digs_size, tdiv10, tmod10, i64max, bs_size, bs_app, List.length_append, List.length_cons, List.length_nil, c_spec_l1Num]
    (repeat' (first | ((with_reducible refine gif_split (fun hs_ => ?_) (fun hs_ => ?_)) <;> (have hp_ := hs_; (try simp only [hpL, ne_eq] at hp_); (try simp (disch := omega) only [bsW, WOp, WOq, WV, bo, eqN, gdc, gw, bnd, ↓reduceIte, Nat.reduceEqDiff, rsvs, rsv, oneOf, rdN, ne_eq, Nat.reduceAdd, Nat.reduceMul, Nat.reduceLT, reduceCtorEq, Value.cells, setN, Value.oneCell', Nat.reduceLeDiff, undef, fcT, d0, d1, mk_bs, digs_bs, digs_size, tdiv10, tmod10, i64max, bs_size, bs_app, List.length_append, List.length_cons, List.length_nil, hs_]))) | ((first | (with_reducible refine newB_i (fun nb_ hb_ => ?_)) | ((with_reducible show QC _ _ _ _ _ _); (first | (refine QC_i (ih (n / 10) (by omega) (by omega) _ _) ?_))) | ((with_reducible show AC _ _ _ _ _ _); (first | (refine PC.ac (ih (n / 10) (by omega) (by omega) _ _) ?_))) | (with_reducible refine RgE_i (fun (hBd_ : Bd _ _) => ?_))); (try simp (disch := omega) only [bsW, WOp, WOq, WV, bo, eqN, gdc, gw, bnd, ↓reduceIte, Nat.reduceEqDiff, rsvs, rsv, oneOf, rdN, ne_eq, Nat.reduceAdd, Nat.reduceMul, Nat.reduceLT, reduceCtorEq, Value.cells, setN, Value.oneCell', Nat.reduceLeDiff, undef, fcT, d0, d1, mk_bs, digs_bs, digs_size, tdiv10, tmod10, i64max, bs_size, bs_app, List.length_append, List.length_cons, List.length_nil])) | (with_reducible refine fun (hBd_ : Bd _ _) => ?_) | ((first | (with_reducible refine @And.intro (Sub _ _) _ ?_ ?_) | ((with_reducible refine @And.intro (Sub _ _ ∧ _) _ ?_ ?_); (with_reducible refine @And.intro (Sub _ _) _ ?_ ?_))); exact sbX) | ((with_reducible refine And.intro ?_ ?_); omega)))
    all_goals try (exfalso; omega)
    rw [e, bs_size, bs_app, ← e3]
    have hd : digs.length = 10 := rfl
    exact ⟨⟨by omega, by omega, by omega⟩, by simp only [List.length_cons, List.length_nil]; omega, Is_i (Sub.refl H)⟩
theorem l1Num (x : Int) (h0 : 0 ≤ x) (h1 : x ≤ 4611686018427387904) (H : Hp) (nx : Nat) : PC Tryd.prog 80 #[.int .i64 x] H nx (.string (bs (Lib.itoa x))) := by
  obtain ⟨n, rfl⟩ : ∃ n : Nat, x = n := ⟨x.toNat, by omega⟩
  rw [Lib.itoa_nonneg]
  exact l1Num_nat n (by omega) H nx
theorem itoa_len (x : Int) (h0 : 0 ≤ x) (h1 : x ≤ 4611686018427387904) : (Lib.itoa x).length ≤ 21 := Lib.itoa_length_le x (by omega) (by omega)
/-- The block of the library's table of powers of ten. -/
def powCells : List Value := Lib.pow10Tab.map fun z => Value.int .u64 z
theorem Itoa (g : Nat) (ty : TypeId) (H : Hp) (nx : Nat) (hg : g = 0) (hH : H g = some (.rw powCells ty)) (x : Int) (h0 : 0 ≤ x) (h1 : x ≤ 4611686018427387904) :
    PC Tryd.prog 79 #[.int .i64 x] H nx (.string (bs (Lib.itoa x))) := by
  subst hg
  exact itoa_pc (by kernel_rfl) (fun n h0 h1 w ht => Any.strconv_Itoa sh_laysM171 n h0 h1 w ht) (by kernel_rfl) hH x (by omega) (by omega)
end Go.Proofs.YtnjlleopgjggpaaDoor
