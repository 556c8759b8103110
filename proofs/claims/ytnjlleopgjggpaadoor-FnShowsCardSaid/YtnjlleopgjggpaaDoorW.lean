/- A machine for Go functions: what is known of memory (H), a weakest precondition over it (W, V), proved sound over the kit's own Code.wp. For every program; nothing of one program stands here. -/
import Derived.WalkKit
import Derived.WalkLawsBesides
import Derived.WalkSpells
import Derived.Deep.Quiet
import Derived.OrdersHeld
import Derived.StillTail
import Derived.Maps.AppendAt
import Derived.Deep.OwnRows
import Derived.LoopN
import Derived.Laws.BytesString
import Derived.Laws.Externs
import Derived.Lib.AppendZeros
set_option linter.unusedVariables false
set_option linter.unusedSimpArgs false
namespace Go.Proofs.YtnjlleopgjggpaaDoor
open Go Go.RowKit
/-! The known part of a world: what is known of a block. -/
inductive Blk where
  | ro (f : Nat → Option Value)
  | rw (cs : List Value) (ty : TypeId)
abbrev Hp := Nat → Option Blk
abbrev Fr := Nat → Value
def rdB : Option Blk → Nat → Option Value
  | some (.ro f), i => f i
  | some (.rw cs _), i => cs[i]?
  | none, _ => none
def rd (H : Hp) (b off : Nat) : Option Value := rdB (H b) off
def upd (H : Hp) (b : Nat) (o : Blk) : Hp := fun k => if k = b then some o else H k
def rdN (H : Hp) (b off : Nat) : (j n : Nat) → Option (List Value)
  | _, 0 => some []
  | j, n + 1 => match rd H b (off + j), rdN H b off (j + 1) n with
    | some v, some vs => some (v :: vs)
    | _, _ => none
def fset (fr : Fr) (d : Nat) (v : Value) : Fr := fun i => if i = d then v else fr i
def fput (fr : Fr) : Option Nat → Value → Fr
  | some d, v => fset fr d v
  | none, _ => fr
def ev (fr : Fr) : Operand → Value
  | .tmp t => fr t
  | .const v => v
  | .global g => .pointer (some ⟨g, 0, none⟩)
  | .func f => .func (.func f) #[] #[]

/-! Questions on the table of types, each a closed fact of the program. -/
def qSize (P : Program) (t : TypeId) : Option Nat := (P.info? t).map (·.size)
def qBytes (P : Program) (t : TypeId) : Option Nat := (P.info? t).map (·.bytes)
def qZero (P : Program) (t : TypeId) : Option Value := (P.info? t).bind (·.zero)
def qAgg (P : Program) (t : TypeId) : Option Bool := match P.underlying t with
  | some (.struct _) | some (.array _ _) => some true
  | some _ => some false
  | none => none
def qField (P : Program) (t : TypeId) (i : Nat) : Option (Nat × TypeId) := match P.underlying t with
  | some (.struct fs) => (fs[i]?).map fun f => (f.offset, f.type)
  | _ => none
def qFields (P : Program) (t : TypeId) : Option (List (Nat × Nat)) := match P.underlying t with
  | some (.struct fs) => if (fs.all fun f => (qSize P f.type).isSome) = true then some (fs.map fun f => (f.offset, (qSize P f.type).getD 0)).toList else none
  | some (.array n e) => (match qSize P e with
    | some sz => some ((List.range n).map fun i => (i * sz, sz))
    | none => none)
  | _ => none
def qElem (P : Program) (t : TypeId) : Option TypeId := match P.underlying t with
  | some (.slice e) => some e
  | _ => none
def qKind (P : Program) (t : TypeId) : Option IntKind := match P.underlying t with
  | some (.int k) => some k
  | _ => none
def qStr (P : Program) (t : TypeId) : Bool := match P.underlying t with
  | some .string => true
  | _ => false
def qBool (P : Program) (t : TypeId) : Bool := match P.underlying t with
  | some .bool => true
  | _ => false
def qArr (P : Program) (t : TypeId) : Option (Nat × TypeId) := match P.underlying t with
  | some (.array n e) => some (n, e)
  | _ => none

structure Rel (H : Hp) (nx : Nat) (w : World) : Prop where
  size : nx ≤ w.heap.size
  lt : ∀ b o, H b = some o → b < nx
  ro : ∀ b f i v, H b = some (.ro f) → f i = some v → w.cell? ⟨b, i, none⟩ = some v
  rw : ∀ b cs ty, H b = some (.rw cs ty) → w.heap[b]? = some (.cells cs.toArray ty (0, 0))
structure Keep (H0 : Hp) (w0 : World) (H : Hp) (w : World) : Prop where
  os : w.os = w0.os
  tape : w.tape = w0.tape
  output : w.output = w0.output
  size : w0.heap.size ≤ w.heap.size
  block : ∀ b, b < w0.heap.size → (∀ cs ty, H0 b ≠ some (.rw cs ty)) → w.heap[b]? = w0.heap[b]?
  rws : ∀ b cs ty, H b = some (.rw cs ty) → b < w0.heap.size → ∃ cs' ty', H0 b = some (.rw cs' ty')

theorem Rel.rdc {H : Hp} {nx : Nat} {w : World} (h : Rel H nx w) {b off : Nat} {v : Value} (hr : rd H b off = some v) : w.cell? ⟨b, off, none⟩ = some v := by
  unfold rd rdB at hr
  split at hr
  · rename_i f hb; exact h.ro b f _ v hb hr
  · rename_i cs ty hb
    have := h.rw b cs ty hb
    simp only [World.cell?, this]
    simpa using hr
  · cases hr

theorem addr_add (b off n : Nat) : Addr.add ⟨b, off, none⟩ n = ⟨b, off + n, none⟩ := by
  unfold Addr.add
  split
  · rename_i h; subst h; rfl
  · rfl

theorem run_loadCellsFrom {P : Program} {H : Hp} {nx : Nat} {w : World} (h : Rel H nx w) {b off : Nat} : ∀ (n j : Nat) (vs : List Value) (acc : Array Value),
    rdN H b off j n = some vs → (loadCellsFrom ⟨b, off, none⟩ j n acc).run P w = .ok (acc ++ vs.toArray) w := by
  intro n
  induction n with
  | zero => intro j vs acc hv; simp only [rdN, Option.some.injEq] at hv; subst hv; simp [loadCellsFrom]
  | succ n ih =>
    intro j vs acc hv
    unfold rdN at hv
    split at hv
    · rename_i v vs' h1 h2
      simp only [Option.some.injEq] at hv
      subst hv
      have hc := h.rdc h1
      have := ih (j + 1) vs' (acc.push v) h2
      simp only [loadCellsFrom, addr_add, Sem.run_bind, Go.load, Sem.run, hc, Result.andThen_ok, this]
      simp
    · cases hv

def bitv (op : BinOp) (k : IntKind) (x y : Int) : Int :=
  let a := BitVec.ofInt k.bits x
  let b := BitVec.ofInt k.bits y
  match op with
  | .and => k.wrap (a &&& b).toNat
  | .or => k.wrap (a ||| b).toNat
  | .xor => k.wrap (a ^^^ b).toNat
  | _ => k.wrap (a &&& ~~~b).toNat

/-- The cells of two structs of ints, one after the other: whether they are the same. -/
def eqN (xs ys : Array Value) : (i n : Nat) → (Bool → Prop) → Prop
  | _, 0, k => k true
  | i, n + 1, k => match xs[i]?, ys[i]? with
    | some (.int .i64 a), some (.int .i64 b) => eqN xs ys (i + 1) n fun r => k (a == b && r)
    | _, _ => False
def qEqF (P : Program) : (i : Nat) → List Field → Bool
  | _, [] => true
  | i, f :: fs => decide (f.name ≠ "_") && decide (qKind P f.type = some .i64) && decide (f.offset = i) && qEqF P (i + 1) fs
/-- A struct of so many ints, which may be compared. -/
def qEqS (P : Program) (t : TypeId) (n : Nat) : Bool := match P.underlying t with
  | some (.struct fs) => !P.stoodInHeld t && !P.eqGuardType P.depth t && decide (fs.size = n) && qEqF P 0 fs.toList
  | _ => false

/-- A binary operation on two values. -/
def bo (P : Program) (op : BinOp) (t : TypeId) (x y : Value) (K : Value → Prop) : Prop :=
  match x, y with
  | .int k a, .int k' b =>
    match op with
    | .shl => 0 ≤ b ∧ K (.int k (k.wrap (a * 2 ^ (min b.toNat k.bits))))
    | .shr => 0 ≤ b ∧ K (.int k (a.fdiv (2 ^ (min b.toNat k.bits))))
    | .add => k = k' ∧ K (.int k (k.wrap (a + b)))
    | .sub => k = k' ∧ K (.int k (k.wrap (a - b)))
    | .mul => k = k' ∧ K (.int k (k.wrap (a * b)))
    | .quo => k = k' ∧ b ≠ 0 ∧ K (.int k (k.wrap (a.tdiv b)))
    | .rem => k = k' ∧ b ≠ 0 ∧ K (.int k (a.tmod b))
    | .and => k = k' ∧ K (.int k (bitv .and k a b))
    | .or => k = k' ∧ K (.int k (bitv .or k a b))
    | .xor => k = k' ∧ K (.int k (bitv .xor k a b))
    | .andNot => k = k' ∧ K (.int k (bitv .andNot k a b))
    | .eql => k = k' ∧ K (.bool (a == b))
    | .neq => k = k' ∧ K (.bool (a != b))
    | .lss => k = k' ∧ K (.bool (decide (a < b)))
    | .leq => k = k' ∧ K (.bool (decide (a ≤ b)))
    | .gtr => k = k' ∧ K (.bool (decide (b < a)))
    | .geq => k = k' ∧ K (.bool (decide (b ≤ a)))
  | .string a, .string b =>
    match op with
    | .add => ((a.size + b.size : Nat) : Int) ≤ IntKind.i64.max ∧ K (.string (a ++ b))
    | .eql => K (.bool (a.toList == b.toList))
    | .neq => K (.bool (!(a.toList == b.toList)))
    | .lss => K (.bool (Op.bytesLess a.toList b.toList))
    | _ => False
  | .bool a, .bool b =>
    match op with
    | .eql => qBool P t = true ∧ K (.bool (a == b))
    | .neq => qBool P t = true ∧ K (.bool (!(a == b)))
    | _ => False
  | .slice a _ _, .slice none _ _ =>
    match op with
    | .eql => (qElem P t).isSome ∧ K (.bool a.isNone)
    | .neq => (qElem P t).isSome ∧ K (.bool (!a.isNone))
    | _ => False
  | .agg xs, .agg ys =>
    match op with
    | .eql => qEqS P t xs.size = true ∧ eqN xs ys 0 xs.size fun r => K (.bool r)
    | .neq => qEqS P t xs.size = true ∧ eqN xs ys 0 xs.size fun r => K (.bool (!r))
    | _ => False
  | _, _ => False

theorem underlying_of_qBool {P : Program} {t : TypeId} (h : qBool P t = true) : P.underlying t = some .bool := by
  unfold qBool at h; split at h <;> simp_all
theorem underlying_of_qElem {P : Program} {t e : TypeId} (h : qElem P t = some e) : P.underlying t = some (.slice e) := by
  unfold qElem at h; split at h <;> simp_all

theorem run_equal_bool {P : Program} {t : TypeId} (h : P.underlying t = some .bool) (a b : Bool) (w : World) : (Op.equal t (.bool a) (.bool b)).run P w = .ok (a == b) w :=
  have h1 : ∀ d : Nat, (Op.equalIn (d + 1) t (.bool a) (.bool b)).run P w = .ok (a == b) w := fun d => by simp [Op.equalIn, run_underlying h]
  h1 9999
theorem run_equal_nil {P : Program} {t e : TypeId} (h : P.underlying t = some (.slice e)) (a : Option Addr) (n c n' c' : Nat) (w : World) :
    (Op.equal t (.slice a n c) (.slice none n' c')).run P w = .ok a.isNone w :=
  have h1 : ∀ d : Nat, (Op.equalIn (d + 1) t (.slice a n c) (.slice none n' c')).run P w = .ok a.isNone w := fun d => by cases a <;> simp [Op.equalIn, run_underlying h]
  h1 9999
theorem underlying_of_qKind' {P : Program} {t : TypeId} {k : IntKind} (h : qKind P t = some k) : P.underlying t = some (.int k) := by
  unfold qKind at h; split at h <;> simp_all
theorem run_eqFields {P : Program} (d : Nat) (xs ys : Array Value) : ∀ (fs : List Field) (i : Nat) (k : Bool → Prop), qEqF P i fs = true → eqN xs ys i fs.length k → ∃ r, k r ∧ ∀ w, (Op.eqFields (d + 1) xs ys fs).run P w = .ok r w
  | [], i, k, _, h => ⟨true, h, fun w => by simp [Op.eqFields]⟩
  | f :: fs, i, k, hq, h => by
    simp only [qEqF, Bool.and_eq_true, decide_eq_true_eq] at hq
    obtain ⟨⟨⟨hn, hk⟩, ho⟩, hr⟩ := hq
    simp only [List.length_cons, eqN] at h
    split at h
    · rename_i a b hx hy
      obtain ⟨r, h1, h2⟩ := run_eqFields d xs ys fs (i + 1) _ hr h
      have hu := underlying_of_qKind' hk
      have hp : ∀ (cs : Array Value) (v : Value) (w : World), cs[i]? = some v → (part f.type cs f.offset).run P w = .ok v w := fun cs v w hv => by
        rw [ho]
        simp [part, isAgg, run_underlying hu, hv]
      have he : ∀ w, (Op.equalIn (d + 1) f.type (.int .i64 a) (.int .i64 b)).run P w = .ok (a == b) w := fun w => run_equalIn_int w d f.type .i64 .i64 a b hu
      refine ⟨a == b && r, h1, fun w => ?_⟩
      simp only [Op.eqFields, if_pos hn, Sem.run_bind, hp xs _ w hx, Result.andThen_ok, hp ys _ w hy, he w]
      cases hab : a == b
      · simp
      · simp [h2 w]
    · exact h.elim
theorem qEqS_of {P : Program} {t : TypeId} {n : Nat} (h : qEqS P t n = true) : P.underlying t = some (.struct (P.fieldsOf t)) ∧ P.stoodInHeld t = false ∧ P.eqGuardType P.depth t = false ∧ (P.fieldsOf t).toList.length = n ∧ qEqF P 0 (P.fieldsOf t).toList = true := by
  unfold qEqS at h
  split at h
  · rename_i fs hu
    have e : P.fieldsOf t = fs := by unfold Program.fieldsOf; rw [hu]
    simp only [Bool.and_eq_true, Bool.not_eq_eq_eq_not, Bool.not_true, decide_eq_true_eq] at h
    rw [e]
    exact ⟨hu, h.1.1.1, h.1.1.2, by simpa using h.1.2, h.2⟩
  · cases h
theorem run_bo {P : Program} {op : BinOp} {t : TypeId} {x y : Value} {K : Value → Prop} (h : bo P op t x y K) :
    ∃ v, K v ∧ ∀ (xo yo : Operand) (w : World), (do eqGuard op t xo yo x y; binOp op t x y : Sem Value).run P w = .ok v w := by
  unfold bo at h
  split at h
  · rename_i k a k' b
    cases op <;> simp only at h
    case shl => exact ⟨_, h.2, fun xo yo w => by simp [eqGuard, binOp, Op.shift, Int.not_lt.2 h.1]⟩
    case shr => exact ⟨_, h.2, fun xo yo w => by simp [eqGuard, binOp, Op.shift, Int.not_lt.2 h.1]⟩
    case quo => obtain ⟨rfl, h1, h2⟩ := h; exact ⟨_, h2, fun xo yo w => by simp [eqGuard, binOp, Op.intDiv, h1]⟩
    case rem => obtain ⟨rfl, h1, h2⟩ := h; exact ⟨_, h2, fun xo yo w => by simp [eqGuard, binOp, Op.intDiv, h1]⟩
    all_goals
      obtain ⟨rfl, h2⟩ := h
      exact ⟨_, h2, fun xo yo w => by simp [eqGuard, binOp, Op.intArith, Op.intCmp, Op.intBits, bitv]⟩
  · rename_i a b
    cases op <;> simp only at h
    case add =>
      refine ⟨_, h.2, fun xo yo w => ?_⟩
      have h1 : ¬ ((a.size + b.size : Nat) : Int) > IntKind.i64.max := Int.not_lt.2 h.1
      simp only [eqGuard, binOp, Op.stringOp, if_neg h1]
      rfl
    all_goals first
      | exact h.elim
      | exact ⟨_, h, fun xo yo w => by simp [eqGuard, binOp, Op.stringOp]⟩
  · rename_i a b
    cases op <;> simp only at h
    case eql => exact ⟨_, h.2, fun xo yo w => by simp [eqGuard, binOp, run_equal_bool (underlying_of_qBool h.1)]⟩
    case neq => exact ⟨_, h.2, fun xo yo w => by simp [eqGuard, binOp, run_equal_bool (underlying_of_qBool h.1)]⟩
    all_goals exact h.elim
  · rename_i a n c n' c'
    cases op <;> simp only at h
    case eql =>
      obtain ⟨e, he⟩ := Option.isSome_iff_exists.1 h.1
      exact ⟨_, h.2, fun xo yo w => by simp [eqGuard, binOp, run_equal_nil (underlying_of_qElem he)]⟩
    case neq =>
      obtain ⟨e, he⟩ := Option.isSome_iff_exists.1 h.1
      exact ⟨_, h.2, fun xo yo w => by simp [eqGuard, binOp, run_equal_nil (underlying_of_qElem he)]⟩
    all_goals exact h.elim
  · rename_i xs ys
    cases op <;> simp only at h
    case eql =>
      obtain ⟨hu, hs, hg, hl, hf⟩ := qEqS_of h.1
      obtain ⟨r, h1, h2⟩ := run_eqFields 9998 xs ys _ 0 _ hf (by rw [hl]; exact h.2)
      exact ⟨_, h1, fun xo yo w => by
        rw [Sem.run_bind, run_eqGuard_agg w _ _ _ _ _ _ hg, Result.andThen_ok, run_eql_struct, run_equalIn_struct w 9999 t xs ys hu hs, h2 w]
        rfl⟩
    case neq =>
      obtain ⟨hu, hs, hg, hl, hf⟩ := qEqS_of h.1
      obtain ⟨r, h1, h2⟩ := run_eqFields 9998 xs ys _ 0 _ hf (by rw [hl]; exact h.2)
      exact ⟨_, h1, fun xo yo w => by
        rw [Sem.run_bind, run_eqGuard_agg w _ _ _ _ _ _ hg, Result.andThen_ok, run_neq_struct, run_equalIn_struct w 9999 t xs ys hu hs, h2 w]
        rfl⟩
    all_goals exact h.elim
  · exact h.elim

/-- A bound of a slice expression: absent, or an integer. -/
def bnd (o : Option Value) (dflt : Nat) : Option Int :=
  match o with
  | none => some dflt
  | some (.int _ i) => some i
  | some _ => none

/-- The address of a slice that is cut at l. -/
def cutA (a : Option Addr) (cap l sz : Nat) : Option Addr := if cap = l then a else a.map (·.add (l * sz))

/-- Bytes, read as numbers; the text that they are. -/
def u8s : List Value → Option (List Int)
  | [] => some []
  | .int .u8 n :: r => (match u8s r with
    | some ns => some (n :: ns)
    | none => none)
  | _ => none
def strOf (ns : List Int) : ByteArray := ns.foldl (fun r n => r.push (UInt8.ofNat n.toNat)) ByteArray.empty
theorem u8s_map : ∀ (vs : List Value) (ns : List Int), u8s vs = some ns → vs = ns.map (Value.int .u8)
  | [], ns, h => by simp only [u8s, Option.some.injEq] at h; subst h; rfl
  | v :: r, ns, h => by
    unfold u8s at h
    split at h
    · rename_i h0; cases h0
    · rename_i n r' h0
      simp only [List.cons.injEq] at h0
      obtain ⟨rfl, rfl⟩ := h0
      split at h
      · rename_i ns' hns
        simp only [Option.some.injEq] at h
        subst h
        rw [u8s_map _ _ hns]
        rfl
      · cases h
    · cases h

/-- What a quiet operation yields: no change of what is known. -/
def WV (P : Program) (fr : Fr) (H : Hp) (op : Op) (K : Value → Prop) : Prop :=
  match op with
  | .move x => K (ev fr x)
  | .assign x => K (ev fr x)
  | .pick c a b => match ev fr c with
    | .bool t => K (if t = true then ev fr a else ev fr b)
    | _ => False
  | .nilCheck x => match ev fr x with
    | .pointer (some a) => K (.pointer (some a))
    | .func (.func f) first cap => K (.func (.func f) first cap)
    | _ => False
  | .load t x => match ev fr x with
    | .pointer (some ⟨b, off, none⟩) => match qAgg P t, qSize P t with
      | some true, some n => (match rdN H b off 0 n with
        | some vs => K (.agg vs.toArray)
        | none => False)
      | some false, _ => (match rd H b off with
        | some v => K v
        | none => False)
      | _, _ => False
    | _ => False
  | .binOp op t x y _ => bo P op t (ev fr x) (ev fr y) K
  | .unOp .not _ x => match ev fr x with
    | .bool b => K (.bool (!b))
    | _ => False
  | .unOp .neg _ x => match ev fr x with
    | .int k n => K (.int k (k.wrap (0 - n)))
    | _ => False
  | .convert src dst x => match ev fr x with
    | .int _ n => (match qKind P dst with
      | some k => (P.underlying src).isSome = true ∧ K (.int k (k.wrap n))
      | none => False)
    | .slice (some ⟨b, off, none⟩) len _ => (match qElem P src, rdN H b off 0 len with
      | some e, some vs => (match u8s vs with
        | some ns => qKind P e = some .u8 ∧ qStr P dst = true ∧ K (.string (strOf ns))
        | none => False)
      | _, _ => False)
    | _ => False
  | .makeFunc fn first cap => K (.func fn (first.map (ev fr)) (cap.map (ev fr)))
  | .slice t x lo hi none => match ev fr x with
    | .slice a len cap => (match qElem P t with
      | some e => (match qSize P e with
        | some sz => (match bnd (hi.map (ev fr)) len, bnd (lo.map (ev fr)) 0 with
        | some h, some l => (0 ≤ l ∧ l ≤ h ∧ h ≤ cap) ∧ K (.slice (cutA a cap l.toNat sz) (h.toNat - l.toNat) (cap - l.toNat))
        | _, _ => False)
        | none => False)
      | none => False)
    | .string s => (match bnd (hi.map (ev fr)) s.size, bnd (lo.map (ev fr)) 0 with
        | some h, some l => qStr P t = true ∧ (0 ≤ l ∧ l ≤ h ∧ h ≤ s.size) ∧ K (.string (s.extract l.toNat h.toNat))
        | _, _ => False)
    | _ => False
  | .slice t x lo (some hi) (some mx) => match ev fr x, ev fr hi, ev fr mx with
    | .slice a _ cap, .int _ h, .int _ m => (match qElem P t with
      | some e => (match qSize P e with
        | some sz => (match bnd (lo.map (ev fr)) 0 with
        | some l => (0 ≤ l ∧ l ≤ h ∧ h ≤ m ∧ m ≤ cap) ∧ K (.slice (cutA a m.toNat l.toNat sz) (h.toNat - l.toNat) (m.toNat - l.toNat))
        | none => False)
        | none => False)
      | none => False)
    | _, _, _ => False
  | .fieldAddr t x f => match ev fr x, qField P t f with
    | .pointer (some ⟨b, off, none⟩), some (o, ft) => (match qSize P ft with
      | some sz => sz ≠ 0 ∧ K (.pointer (some ⟨b, off + o, none⟩))
      | none => False)
    | _, _ => False
  | .field t x f => match ev fr x, qField P t f with
    | .agg cs, some (o, ft) => (match qAgg P ft, qSize P ft with
      | some true, some sz => K (.agg (cs.extract o (o + sz)))
      | some false, _ => (match cs[o]? with
        | some v => K v
        | none => False)
      | _, _ => False)
    | _, _ => False
  | .indexAddr t x i => match ev fr x, ev fr i, qElem P t with
    | .slice (some ⟨b, off, none⟩) len _, .int _ n, some e => (match qSize P e with
      | some sz => (0 ≤ n ∧ n < len) ∧ K (.pointer (some ⟨b, off + n.toNat * sz, none⟩))
      | none => False)
    | _, _, _ => False
  | .index t x i => match ev fr x, ev fr i with
    | .string s, .int _ n => qStr P t = true ∧ (0 ≤ n ∧ n < s.size) ∧ K (.int .u8 (s.data.toList.getD n.toNat 0).toNat)
    | .agg cs, .int _ n => (match qArr P t with
      | some (len, e) => (match qAgg P e with
        | some false => (match qSize P e with
          | some sz => (0 ≤ n ∧ n < len) ∧ (match cs[n.toNat * sz]? with
            | some v => K v
            | none => False)
          | none => False)
        | _ => False)
      | none => False)
    | _, _ => False
  | .extract x i => match ev fr x with
    | .tuple vs => (match vs[i]? with
      | some v => K v
      | none => False)
    | _ => False
  | .build t parts => match qZero P t, qAgg P t, qFields P t with
    | some z, some true, some ps => (match Instr.fill (fun (i : Nat) => ps[i]?) z.cells (parts.map fun (i, x) => (i, ev fr x)).toList with
      | some cells => K (.agg cells)
      | none => False)
    | _, _, _ => False
  | .call c => match c.callee, c.args.toList, c.argTypes.toList with
    | .builtin .len, [x], [t] => (match ev fr x with
      | .slice _ n _ => (qElem P t).isSome = true ∧ K (.int .i64 n)
      | .string s => qStr P t = true ∧ K (.int .i64 s.size)
      | _ => False)
    | .builtin .cap, [x], [t] => (match ev fr x with
      | .slice _ _ n => (qElem P t).isSome = true ∧ K (.int .i64 n)
      | _ => False)
    | .builtin .max, [x, y], _ => (match ev fr x, ev fr y with
      | .int k a, .int _ b => K (.int k (if b > a then b else a))
      | _, _ => False)
    | .builtin .min, [x, y], _ => (match ev fr x, ev fr y with
      | .int k a, .int _ b => K (.int k (if b < a then b else a))
      | _, _ => False)
    | _, _, _ => False
  | _ => False

theorem info_of_qSize {P : Program} {t : TypeId} {n : Nat} (h : qSize P t = some n) : ∃ i, P.info? t = some i ∧ i.size = n := by
  unfold qSize at h; cases hi : P.info? t <;> simp_all
theorem info_of_qZero {P : Program} {t : TypeId} {z : Value} (h : qZero P t = some z) : ∃ i, P.info? t = some i ∧ i.zero = some z := by
  unfold qZero at h; cases hi : P.info? t <;> simp_all
theorem run_sizeOf {P : Program} {t : TypeId} {n : Nat} (h : qSize P t = some n) (w : World) : (sizeOf t).run P w = .ok n w := by
  obtain ⟨i, h1, h2⟩ := info_of_qSize h
  simp [sizeOf, typeInfo, program, Sem.run, h1, h2]
theorem run_zeroValue {P : Program} {t : TypeId} {z : Value} (h : qZero P t = some z) (w : World) : (zeroValue t).run P w = .ok z w := by
  obtain ⟨i, h1, h2⟩ := info_of_qZero h
  simp [zeroValue, typeInfo, program, Sem.run, h1, h2]
theorem run_isAgg {P : Program} {t : TypeId} {b : Bool} (h : qAgg P t = some b) (w : World) : (isAgg t).run P w = .ok b w := by
  unfold qAgg at h
  split at h
  · rename_i hu; simp only [Option.some.injEq] at h; subst h; simp [isAgg, run_underlying hu]
  · rename_i hu; simp only [Option.some.injEq] at h; subst h; simp [isAgg, run_underlying hu]
  · rename_i d h1 h2 hu
    simp only [Option.some.injEq] at h; subst h
    simp only [isAgg, run_underlying hu, Sem.run_bind, Result.andThen_ok]
    cases d <;> simp_all
  · cases h
theorem underlying_of_qKind {P : Program} {t : TypeId} {k : IntKind} (h : qKind P t = some k) : P.underlying t = some (.int k) := by
  unfold qKind at h; split at h <;> simp_all
theorem underlying_of_qStr {P : Program} {t : TypeId} (h : qStr P t = true) : P.underlying t = some .string := by
  unfold qStr at h; split at h <;> simp_all
theorem underlying_of_qArr {P : Program} {t : TypeId} {n e : Nat} (h : qArr P t = some (n, e)) : P.underlying t = some (.array n e) := by
  unfold qArr at h; split at h <;> simp_all
theorem underlying_of_qField {P : Program} {t : TypeId} {i o ft : Nat} (h : qField P t i = some (o, ft)) :
    ∃ fs f, P.underlying t = some (.struct fs) ∧ fs[i]? = some f ∧ f.offset = o ∧ f.type = ft := by
  unfold qField at h
  split at h
  · rename_i fs hu
    cases hf : fs[i]? with
    | none => simp [hf] at h
    | some f => simp [hf] at h; exact ⟨fs, f, hu, hf, h.1, h.2⟩
  · cases h

theorem run_sliceBound {P : Program} {k : IntKind} {i : Int} {y : Nat} {code : BoundsCode} {w : World} (h : 0 ≤ i ∧ i ≤ y) :
    (Instr.sliceBound (.int k i) y code).run P w = .ok i.toNat w := by
  simp [Instr.sliceBound, asIntOf, h.1, h.2]

theorem run_sliceBounds {P : Program} (is : Bool) {ρ : Operand → Value} {hi lo : Option Operand} {len cap : Nat} {h l : Int} {w : World} (hh : bnd (hi.map ρ) len = some h) (hl : bnd (lo.map ρ) 0 = some l)
    (b0 : 0 ≤ l) (b1 : l ≤ h) (b2 : h ≤ cap) : (Instr.sliceBounds is len cap (lo.map ρ) (hi.map ρ) none).run P w = .ok (l.toNat, h.toNat, cap) w := by
  have hlo : ∀ code, (match lo.map ρ with | some v => Instr.sliceBound v h.toNat code | none => pure 0 : Sem Nat).run P w = .ok l.toNat w := by
    intro code
    cases lo with
    | none => simp only [Option.map_none, bnd, Option.some.injEq] at hl; subst hl; simp
    | some lo =>
      simp only [Option.map_some, bnd] at hl ⊢
      split at hl
      · rename_i h0; cases h0
      · rename_i h0; simp only [Option.some.injEq] at h0 hl; subst hl; rw [h0]; exact run_sliceBound ⟨b0, by omega⟩
      · cases hl
  cases hi with
  | none =>
    simp only [Option.map_none, bnd, Option.some.injEq] at hh
    subst hh
    have := hlo .sliceB
    simp only [Int.toNat_natCast] at this
    simp only [Instr.sliceBounds, Option.map_none, Sem.run_bind, Sem.run_pure, Result.andThen_ok, Option.isSome_none, Bool.false_eq_true, ↓reduceIte, Int.toNat_natCast]
    cases lo with
    | none => simpa using this
    | some lo => simp only [Option.map_some] at this ⊢; simp [this]
  | some hi =>
    simp only [Option.map_some, bnd] at hh
    split at hh
    · rename_i h0; cases h0
    · rename_i h0
      simp only [Option.some.injEq] at h0 hh
      subst hh
      have hr : ∀ code, (Instr.sliceBound (ρ hi) cap code).run P w = .ok (Int.toNat _) w := fun code => by rw [h0]; exact run_sliceBound ⟨by omega, b2⟩
      have := hlo .sliceB
      cases is <;> simp only [Instr.sliceBounds, Option.map_some, Sem.run_bind, Sem.run_pure, Result.andThen_ok, Option.isSome_none, Bool.false_eq_true, ↓reduceIte, hr]
      all_goals
        cases lo with
        | none => simpa using this
        | some lo => simp only [Option.map_some] at this ⊢; simp [this]
    · cases hh
theorem run_sliceBounds3 {P : Program} {ρ : Operand → Value} {lo : Option Operand} {len cap : Nat} {h l m : Int} {kh km : IntKind} {w : World} (hl : bnd (lo.map ρ) 0 = some l)
    (b0 : 0 ≤ l) (b1 : l ≤ h) (b2 : h ≤ m) (b3 : m ≤ cap) : (Instr.sliceBounds true len cap (lo.map ρ) (some (.int kh h)) (some (.int km m))).run P w = .ok (l.toNat, h.toNat, m.toNat) w := by
  have r1 : ∀ code, (Instr.sliceBound (.int km m) cap code).run P w = .ok m.toNat w := fun code => run_sliceBound ⟨by omega, b3⟩
  have r2 : ∀ code, (Instr.sliceBound (.int kh h) m.toNat code).run P w = .ok h.toNat w := fun code => run_sliceBound ⟨by omega, by omega⟩
  cases lo with
  | none =>
    simp only [Option.map_none, bnd, Option.some.injEq] at hl
    subst hl
    simp [Instr.sliceBounds, r1, r2]
  | some lo =>
    simp only [Option.map_some, bnd] at hl
    split at hl
    · rename_i h0; cases h0
    · rename_i h0
      simp only [Option.some.injEq] at h0 hl
      subst hl
      have r3 : ∀ code, (Instr.sliceBound (ρ lo) h.toNat code).run P w = .ok (Int.toNat _) w := fun code => by rw [h0]; exact run_sliceBound ⟨b0, by omega⟩
      simp [Instr.sliceBounds, r1, r2, r3]
    · cases hl
theorem fields_of_qFields {P : Program} {t : TypeId} {ps : List (Nat × Nat)} (h : qFields P t = some ps) : (∃ fs, P.underlying t = some (.struct fs) ∧ (fs.all fun f => (qSize P f.type).isSome) = true ∧ (fs.map fun f => (f.offset, (qSize P f.type).getD 0)).toList = ps) ∨
    ∃ n e sz, P.underlying t = some (.array n e) ∧ qSize P e = some sz ∧ ps = (List.range n).map fun i => (i * sz, sz) := by
  unfold qFields at h
  split at h
  · rename_i fs hu
    split at h
    · rename_i ha
      simp only [Option.some.injEq] at h
      exact .inl ⟨fs, hu, ha, h⟩
    · cases h
  · rename_i n e hu
    split at h
    · rename_i sz hs
      simp only [Option.some.injEq] at h
      exact .inr ⟨n, e, sz, hu, hs, h.symm⟩
    · cases h
  · cases h
theorem fill_mono {f g : Nat → Option (Nat × Nat)} (hfg : ∀ i p, f i = some p → g i = some p) : ∀ (parts : List (Nat × Value)) (cs c : Array Value), Instr.fill f cs parts = some c → Instr.fill g cs parts = some c
  | [], cs, c, h => by simpa [Instr.fill] using h
  | (i, v) :: r, cs, c, h => by
    unfold Instr.fill at h ⊢
    cases hf : f i with
    | none => simp [hf] at h
    | some p =>
      rw [hfg i p hf]
      simp only [hf, Option.bind_eq_bind, Option.bind_some] at h ⊢
      split at h
      · cases h
      · rename_i hne
        rw [if_neg hne]
        exact fill_mono hfg r _ c h
theorem run_list_mapM {P : Program} {α β : Type} (f : α → Sem β) (g : α → β) : ∀ (l : List α), (∀ x ∈ l, ∀ w, (f x).run P w = .ok (g x) w) → ∀ w, (l.mapM f).run P w = .ok (l.map g) w := by
  intro l
  induction l with
  | nil => intro _ w; simp
  | cons x l ih =>
    intro h w
    have h1 := h x (by simp) w
    have h2 := ih (fun y hy => h y (by simp [hy])) w
    simp [List.mapM_cons, h1, h2]
theorem run_arr_mapM {P : Program} {α β : Type} (f : α → Sem β) (g : α → β) (l : Array α) (h : ∀ x ∈ l, ∀ w, (f x).run P w = .ok (g x) w) (w : World) : (l.mapM f).run P w = .ok (l.map g) w := by
  rw [Array.mapM_eq_mapM_toList]
  have := run_list_mapM (P := P) f g l.toList (fun x hx => h x (by simpa using hx)) w
  simp only [Sem.run_map, this, Result.andThen_ok]
  rw [← Array.toList_map, Array.toArray_toList]
theorem WV_sound {P : Program} {a : Act} {fr : Fr} (hfr : ∀ x, ev fr x = a.eval x) {H : Hp} {nx : Nat} {o : Oper} {K : Value → Prop} (h : WV P fr H o.op K) :
    ∃ v, K v ∧ ∀ w, Rel H nx w → (execOp a.eval o).run P w = .ok (.value v) w := by
  obtain ⟨dst, op, ty, pos, after, guard⟩ := o
  simp only at h
  have he : ev fr = a.eval := funext hfr
  unfold WV at h
  rw [he] at h
  split at h
  · exact ⟨_, h, fun w _ => by simp [execOp]⟩
  · exact ⟨_, h, fun w _ => by simp [execOp]⟩
  · rename_i c x y
    split at h
    · rename_i t ht
      exact ⟨_, h, fun w _ => by simp [execOp, ht, asBool]⟩
    · exact h.elim
  · rename_i x
    split at h
    · rename_i ad hx; exact ⟨_, h, fun w _ => by simp [execOp, hx]⟩
    · rename_i f first cap hx; exact ⟨_, h, fun w _ => by simp [execOp, hx]⟩
    · exact h.elim
  · rename_i t x
    split at h
    · rename_i b off hx
      split at h
      · rename_i n ha hs
        split at h
        · rename_i vs hv
          refine ⟨_, h, fun w hw => ?_⟩
          have := run_loadCellsFrom (P := P) hw n 0 vs #[] hv
          simp [execOp, Instr.loadAt, Instr.sureAddr, hx, loadVar, run_isAgg ha, run_sizeOf hs, loadCells, this]
        · exact h.elim
      · rename_i n ha
        split at h
        · rename_i v hv
          refine ⟨_, h, fun w hw => ?_⟩
          have := hw.rdc hv
          simp [execOp, Instr.loadAt, Instr.sureAddr, hx, loadVar, run_isAgg ha, Go.load, Sem.run, this]
        · exact h.elim
      · exact h.elim
    · exact h.elim
  · rename_i op t x y yt
    obtain ⟨v, h1, h2⟩ := run_bo h
    exact ⟨v, h1, fun w _ => by
      have := h2 x y w
      simp only [execOp]
      rw [Sem.run_bind, this]
      rfl⟩
  · rename_i t x
    split at h
    · rename_i b hx; exact ⟨_, h, fun w _ => by simp [execOp, hx, Op.unary]⟩
    · exact h.elim
  · rename_i t x
    split at h
    · rename_i k n hx; exact ⟨_, h, fun w _ => by simp [execOp, hx, Op.unary, Op.intArith]⟩
    · exact h.elim
  · rename_i src dst' x
    split at h
    · rename_i k0 n hx
      split at h
      · rename_i k hk
        obtain ⟨d, hd⟩ := Option.isSome_iff_exists.1 h.1
        exact ⟨_, h.2, fun w _ => by simp [execOp, hx, convert, run_underlying hd, run_underlying (underlying_of_qKind hk), Conv.intToInt]⟩
      · exact h.elim
    · rename_i b off len cap hx
      split at h
      · rename_i e vs he hv
        split at h
        · rename_i ns hns
          obtain ⟨hk, hq, h⟩ := h
          refine ⟨_, h, fun w hw => ?_⟩
          have hl : (loadCells ⟨b, off, none⟩ len).run P w = .ok (ns.map (Value.int .u8)).toArray w := by
            have := run_loadCellsFrom (P := P) hw len 0 vs #[] hv
            rw [← u8s_map _ _ hns]
            simp [loadCells, this]
          have h1 := run_convert_bytes_string (P := P) w src dst' e (some ⟨b, off, none⟩) len cap (underlying_of_qElem he) (underlying_of_qKind hk) (underlying_of_qStr hq)
          have h2 := run_bytesToString (P := P) w ⟨b, off, none⟩ len cap ns hl
          simp only [execOp, hx, Sem.run_bind, h1, h2, Result.andThen_ok, Sem.run_pure]
          rfl
        · exact h.elim
      · exact h.elim
    · exact h.elim
  · rename_i fn first cap
    exact ⟨_, h, fun w _ => by simp [execOp, Instr.makeFunc]⟩
  · rename_i t x lo hi
    split at h
    · rename_i ad len cap hx
      split at h
      · rename_i e he
        split at h
        · rename_i sz hsz
          have hu := underlying_of_qElem he
          split at h
          · rename_i h' l' hh hl
            obtain ⟨⟨b0, b1, b2⟩, h⟩ := h
            refine ⟨_, h, fun w _ => ?_⟩
            have := run_sliceBounds (P := P) true (w := w) hh hl b0 b1 b2
            simp [execOp, hx, Instr.sliceAt, Instr.slice, run_underlying hu, this, run_sizeOf hsz, cutA]
          · exact h.elim
        · exact h.elim
      · exact h.elim
    · rename_i s hx
      split at h
      · rename_i h' l' hh hl
        obtain ⟨hq, ⟨b0, b1, b2⟩, h⟩ := h
        have hu := underlying_of_qStr hq
        refine ⟨_, h, fun w _ => ?_⟩
        have := run_sliceBounds (P := P) false (w := w) hh hl b0 b1 b2
        simp [execOp, hx, Instr.sliceAt, Instr.slice, run_underlying hu, this]
      · exact h.elim
    · exact h.elim
  · rename_i t x lo hi mx
    split at h
    · rename_i ad len cap kh h' km m' hx hh hm
      split at h
      · rename_i e he
        split at h
        · rename_i sz hsz
          have hu := underlying_of_qElem he
          split at h
          · rename_i l' hl
            obtain ⟨⟨b0, b1, b2, b3⟩, h⟩ := h
            refine ⟨_, h, fun w _ => ?_⟩
            have := run_sliceBounds3 (P := P) (w := w) (len := len) (kh := kh) (km := km) hl b0 b1 b2 b3
            simp [execOp, hx, hh, hm, Instr.sliceAt, Instr.slice, run_underlying hu, this, run_sizeOf hsz, cutA]
          · exact h.elim
        · exact h.elim
      · exact h.elim
    · exact h.elim
  · rename_i t x f
    split at h
    · rename_i b off o ft hx hq
      split at h
      · rename_i sz hsz
        obtain ⟨fs, fd, hu, hf, rfl, rfl⟩ := underlying_of_qField hq
        exact ⟨_, h.2, fun w _ => by simp [execOp, hx, Instr.fieldAt, run_underlying hu, hf, Instr.sureAddr, fieldPlace, run_sizeOf hsz, h.1, addr_add]⟩
      · exact h.elim
    · exact h.elim
  · rename_i t x f
    split at h
    · rename_i cs o ft hx hq
      obtain ⟨fs, fd, hu, hf, rfl, rfl⟩ := underlying_of_qField hq
      split at h
      · rename_i sz ha hsz
        exact ⟨_, h, fun w _ => by simp [execOp, hx, Instr.field, run_underlying hu, hf, asAgg, part, run_isAgg ha, run_sizeOf hsz]⟩
      · rename_i ha
        split at h
        · rename_i v hv
          exact ⟨_, h, fun w _ => by simp [execOp, hx, Instr.field, run_underlying hu, hf, asAgg, part, run_isAgg ha, hv]⟩
        · exact h.elim
      · exact h.elim
    · exact h.elim
  · rename_i t x i
    split at h
    · rename_i b off len cap k n e hx hi he
      split at h
      · rename_i sz hsz
        obtain ⟨⟨h1, h2⟩, h⟩ := h
        exact ⟨_, h, fun w _ => by simp [execOp, hx, hi, Instr.indexAt, run_underlying (underlying_of_qElem he), asIntOf, run_sizeOf hsz, h1, h2, addr_add]⟩
      · exact h.elim
    · exact h.elim
  · rename_i t x i
    split at h
    · rename_i s k n hx hi
      obtain ⟨hq, ⟨h1, h2⟩, h⟩ := h
      have h3 : n.toNat < s.size := by omega
      refine ⟨_, h, fun w _ => ?_⟩
      have h4 : s[n.toNat]? = some (s.data.toList.getD n.toNat 0) := by
        rw [getElem?_pos s n.toNat h3]
        simp [List.getD_eq_getElem?_getD, ByteArray.getElem_eq_getElem_data, Array.getElem?_eq_getElem (show n.toNat < s.data.size from h3)]
      simp [execOp, hx, hi, Instr.index, run_underlying (underlying_of_qStr hq), asIntOf, h1, h4]
    · rename_i cs k n hx hi
      split at h
      · rename_i len e hq
        split at h
        · rename_i ha
          split at h
          · rename_i sz hsz
            obtain ⟨⟨h1, h2⟩, h⟩ := h
            split at h
            · rename_i v hv
              exact ⟨_, h, fun w _ => by simp [execOp, hx, hi, Instr.index, run_underlying (underlying_of_qArr hq), asIntOf, h1, h2, part, run_isAgg ha, run_sizeOf hsz, hv]⟩
            · exact h.elim
          · exact h.elim
        · exact h.elim
      · exact h.elim
    · exact h.elim
  · rename_i x i
    split at h
    · rename_i vs hx
      split at h
      · rename_i v hv
        exact ⟨_, h, fun w _ => by simp [execOp, hx, Instr.extract, hv]⟩
      · exact h.elim
    · exact h.elim
  · rename_i t parts
    split at h
    · rename_i z ps hz ha hq
      rcases fields_of_qFields hq with ⟨fields, hu, hall, hps⟩ | ⟨n, e, sz, hu, hse, rfl⟩
      · have hpl : (fun (i : Nat) => ps[i]?) = fun (i : Nat) => (fields.map fun f => (f.offset, (qSize P f.type).getD 0))[i]? := by
          funext i
          rw [← hps]
          simp
        rw [hpl] at h
        split at h
        · rename_i cells hf
          have hm : ∀ w, (fields.mapM fun f => do pure (f.offset, ← sizeOf f.type) : Sem (Array (Nat × Nat))).run P w = .ok (fields.map fun f => (f.offset, (qSize P f.type).getD 0)) w := by
            intro w
            refine run_arr_mapM _ _ _ (fun f hf => ?_) w
            intro w
            have := Array.all_eq_true'.1 hall f hf
            obtain ⟨n, hn⟩ := Option.isSome_iff_exists.1 this
            simp [run_sizeOf hn, hn]
          exact ⟨_, h, fun w _ => by
            simp only [execOp, Instr.build, Sem.run_bind, run_zeroValue hz, Result.andThen_ok, run_underlying hu, hm w]
            rw [hf]
            rfl⟩
        · exact h.elim
      · split at h
        · rename_i cells hf
          have hf' := fill_mono (g := fun i => some (i * sz, sz)) (fun i p hp => by
            rw [List.getElem?_map] at hp
            by_cases hi : i < n
            · rw [List.getElem?_range hi] at hp
              simpa using hp
            · rw [List.getElem?_eq_none (by simpa using hi)] at hp
              cases hp) _ _ _ hf
          exact ⟨_, h, fun w _ => by
            simp only [execOp, Instr.build, Sem.run_bind, run_zeroValue hz, Result.andThen_ok, run_underlying hu, run_sizeOf hse]
            rw [hf']
            rfl⟩
        · exact h.elim
    · exact h.elim
  · rename_i c
    split at h
    · rename_i x t hc ha ht
      have ha' : c.args = #[x] := by rw [← Array.toList_inj] ; simpa using ha
      have ht' : c.argTypes = #[t] := by rw [← Array.toList_inj] ; simpa using ht
      split at h
      · rename_i ad n cap hx
        obtain ⟨e, he⟩ := Option.isSome_iff_exists.1 h.1
        exact ⟨_, h.2, fun w _ => by simp [execOp, resolve, hc, ha', ht', invoke, builtin, Builtin.len_, hx, run_underlying (underlying_of_qElem he), goInt]⟩
      · rename_i s hx
        exact ⟨_, h.2, fun w _ => by simp [execOp, resolve, hc, ha', ht', invoke, builtin, Builtin.len_, hx, run_underlying (underlying_of_qStr h.1), goInt]⟩
      · exact h.elim
    · rename_i x t hc ha ht
      have ha' : c.args = #[x] := by rw [← Array.toList_inj] ; simpa using ha
      have ht' : c.argTypes = #[t] := by rw [← Array.toList_inj] ; simpa using ht
      split at h
      · rename_i ad n cap hx
        obtain ⟨e, he⟩ := Option.isSome_iff_exists.1 h.1
        exact ⟨_, h.2, fun w _ => by simp [execOp, resolve, hc, ha', ht', invoke, builtin, Builtin.cap_, hx, run_underlying (underlying_of_qElem he), goInt]⟩
      · exact h.elim
    · rename_i x y hc ha
      have ha' : c.args = #[x, y] := by rw [← Array.toList_inj] ; simpa using ha
      split at h
      · rename_i k n k' n' hx hy
        exact ⟨_, h, fun w _ => by simp [execOp, resolve, hc, ha', invoke, builtin, Builtin.max_, Builtin.max2, hx, hy]⟩
      · exact h.elim
    · rename_i x y hc ha
      have ha' : c.args = #[x, y] := by rw [← Array.toList_inj] ; simpa using ha
      split at h
      · rename_i k n k' n' hx hy
        exact ⟨_, h, fun w _ => by simp [execOp, resolve, hc, ha', invoke, builtin, Builtin.min_, Builtin.min2, hx, hy]⟩
      · exact h.elim
    · exact h.elim
  · exact h.elim

def callable (P : Program) (f : FuncId) : Bool := match P.funcs[f]? with
  | some fn => !(fn.name == "runtime.NumGoroutine") && fn.body.isSome
  | none => false
def Sub (H H' : Hp) : Prop := ∀ b o, H b = some o → H' b = some o
theorem Sub.refl (H : Hp) : Sub H H := fun _ _ h => h
theorem Sub.trans {H H' H'' : Hp} (h : Sub H H') (h' : Sub H' H'') : Sub H H'' := fun b o e => h' b o (h b o e)

/-- An entry of the model's own that yields at once. -/
def entry (P : Program) (f : FuncId) : Bool := match P.funcs[f]? with
  | some fn => !(fn.name == "runtime.NumGoroutine") && fn.body.isNone
  | none => false
/-- A call whichever way it goes: into a body, or an entry that yields at once and leaves the world. -/
def CallsX (P : Program) (f : FuncId) (args : Array Value) (w : World) (R : Ending → World → Prop) : Prop :=
  (callable P f = true ∧ Calls P f args w R) ∨ (callable P f = false ∧ ∃ v, (callFunc f args).run P w = .ok (.value v) w ∧ R (.returned v) w)
theorem CallsX.mono {P : Program} {f : FuncId} {args : Array Value} {w : World} {R R' : Ending → World → Prop} (h : CallsX P f args w R) (hr : ∀ e w', R e w' → R' e w') : CallsX P f args w R' := by
  rcases h with ⟨h1, h2⟩ | ⟨h1, v, h2, h3⟩
  · exact .inl ⟨h1, h2.mono hr⟩
  · exact .inr ⟨h1, v, h2, hr _ _ h3⟩
theorem CallsX.calls {P : Program} {f : FuncId} {args : Array Value} {w : World} {R : Ending → World → Prop} (h : CallsX P f args w R) (hc : callable P f = true) : Calls P f args w R := by
  rcases h with ⟨h1, h2⟩ | ⟨h1, _⟩
  · exact h2
  · rw [hc] at h1; cases h1
/-- The contract of a call over what is known. -/
structure AC (P : Program) (f : FuncId) (args : Array Value) (H : Hp) (nx : Nat) (R : Value → Hp → Nat → Prop) : Prop where
  call : True
  run : ∀ w, Rel H nx w → CallsX P f args w fun e w' => ∃ v H' nx', e = .returned v ∧ Rel H' nx' w' ∧ Keep H w H' w' ∧ nx ≤ nx' ∧ R v H' nx'

theorem Rel.sub {H H' : Hp} {nx nx' : Nat} {w : World} (h : Rel H' nx' w) (hn : nx ≤ nx') (hs : Sub H H') (hl : ∀ b o, H b = some o → b < nx) : Rel H nx w :=
  ⟨Nat.le_trans hn h.size, hl, fun b f i v hb hv => h.ro b f i v (hs _ _ hb) hv, fun b cs ty hb => h.rw b cs ty (hs _ _ hb)⟩
theorem Keep.refl (H : Hp) (w : World) : Keep H w H w := ⟨rfl, rfl, rfl, Nat.le_refl _, fun _ _ _ => rfl, fun _ cs ty h _ => ⟨cs, ty, h⟩⟩
theorem Keep.trans {H0 H H' : Hp} {w0 w w' : World} (h : Keep H0 w0 H w) (k : Keep H w H' w') : Keep H0 w0 H' w' :=
  ⟨k.os.trans h.os, k.tape.trans h.tape, k.output.trans h.output, Nat.le_trans h.size k.size,
   fun b hb hn => (k.block b (Nat.lt_of_lt_of_le hb h.size) (fun cs ty e => by obtain ⟨c', t', e'⟩ := h.rws b cs ty e hb; exact hn _ _ e')).trans (h.block b hb hn),
   fun b cs ty e hb => by
     obtain ⟨c', t', e'⟩ := k.rws b cs ty e (Nat.lt_of_lt_of_le hb h.size)
     exact h.rws b c' t' e' hb⟩
/-- Forget: what was known ahead is known still. -/
theorem Keep.forget {H0 H H' : Hp} {w0 w : World} (h : Keep H0 w0 H' w) (hs : Sub H H') : Keep H0 w0 H w :=
  ⟨h.os, h.tape, h.output, h.size, h.block, fun b cs ty e hb => h.rws b cs ty (hs _ _ e) hb⟩

theorem AC.mono {P : Program} {f : FuncId} {args : Array Value} {H : Hp} {nx : Nat} {R R' : Value → Hp → Nat → Prop} (h : AC P f args H nx R) (hr : ∀ v H' nx', R v H' nx' → R' v H' nx') : AC P f args H nx R' :=
  ⟨h.1, fun w hw => (h.2 w hw).mono fun _ _ ⟨v, H', nx', e, r, k, n, q⟩ => ⟨v, H', nx', e, r, k, n, hr _ _ _ q⟩⟩
/-- v and no more. -/
structure Is (v : Value) (H : Hp) (v' : Value) (H' : Hp) (nx : Nat) : Prop where
  e : v' = v
  s : Sub H H'
/-- What is known lies below nx. -/
def Bd (H : Hp) (nx : Nat) : Prop := ∀ b o, H b = some o → b < nx
/-- A call that only yields v: what was known is known, no more. -/
def PC (P : Program) (f : FuncId) (args : Array Value) (H : Hp) (nx : Nat) (v : Value) : Prop := AC P f args H nx (Is v H)
theorem PC.ac {P : Program} {f : FuncId} {args : Array Value} {H : Hp} {nx : Nat} {v : Value} (h : PC P f args H nx v) {R : Value → Hp → Nat → Prop} (hr : R v H nx) : AC P f args H nx R :=
  ⟨h.1, fun w hw => (h.2 w hw).mono fun _ _ ⟨v', H', _, e, r, k, n, ⟨hv, hs⟩⟩ => by
    subst hv
    exact ⟨_, H, nx, e, r.sub n hs hw.lt, k.forget hs, Nat.le_refl _, hr⟩⟩
theorem PC.of {P : Program} {f : FuncId} {args : Array Value} {H : Hp} {nx : Nat} {v : Value} (h : AC P f args H nx (Is v H)) : PC P f args H nx v := h

def setN : List Value → Nat → Nat → List Value → List Value
  | cs, _, _, [] => cs
  | cs, off, j, v :: vs => setN (cs.set (off + j) v) off (j + 1) vs

theorem upd_same (H : Hp) (b : Nat) (o : Blk) : upd H b o b = some o := by simp [upd]
theorem upd_other (H : Hp) (b k : Nat) (o : Blk) (h : k ≠ b) : upd H b o k = H k := by simp [upd, h]

/-- A new block. -/
theorem Rel.alloc {H : Hp} {nx : Nat} {w : World} (h : Rel H nx w) (cs : Array Value) (ty : TypeId) :
    Rel (upd H w.heap.size (.rw cs.toList ty)) (w.heap.size + 1) (w.alloc (.cells cs ty)) := by
  refine ⟨by simp, fun b o hb => ?_, fun b f i v hb hv => ?_, fun b cs' ty' hb => ?_⟩
  · unfold upd at hb
    split at hb
    · omega
    · have := h.lt b o hb; have := h.size; omega
  · unfold upd at hb
    split at hb
    · cases hb
    · have h1 := h.lt b _ hb
      have h2 := h.size
      rw [World.cell?_alloc_lt _ _ _ (by simp; omega)]
      exact h.ro b f i v hb hv
  · unfold upd at hb
    split at hb
    · rename_i e
      subst e
      simp only [Option.some.injEq, Blk.rw.injEq] at hb
      obtain ⟨rfl, rfl⟩ := hb
      exact heap_alloc_new w _
    · have h1 := h.lt b _ hb
      have h2 := h.size
      rw [Below.heap_alloc _ _ _ (by omega)]
      exact h.rw b cs' ty' hb
theorem Keep.alloc {H0 H : Hp} {w0 w : World} (h : Keep H0 w0 H w) (cs : Array Value) (ty : TypeId) (o : Blk) : Keep H0 w0 (upd H w.heap.size o) (w.alloc (.cells cs ty)) := by
  refine ⟨h.os, h.tape, h.output, by have := h.size; simp; omega, fun b hb hn => ?_, fun b cs' ty' hb hlt => ?_⟩
  · rw [Below.heap_alloc _ _ _ (Nat.lt_of_lt_of_le hb h.size)]
    exact h.block b hb hn
  · unfold upd at hb
    split at hb
    · rename_i e
      subst e
      have := h.size
      omega
    · exact h.rws b cs' ty' hb hlt

theorem run_store_rw {P : Program} {H : Hp} {nx : Nat} {w : World} (h : Rel H nx w) {b off : Nat} {cs : List Value} {ty : TypeId} (hb : H b = some (.rw cs ty)) (ho : off < cs.length) {v : Value} (hv : v.oneCell' = true) :
    (Go.store ⟨b, off, none⟩ v).run P w = .ok () (w.setCell ⟨b, off, none⟩ v) := by
  have hh := h.rw b cs ty hb
  have hc : w.cell? ⟨b, off, none⟩ = some cs[off] := by simp [World.cell?, hh, ho]
  have hf : w.frozen? ⟨b, off, none⟩ = false := by simp [World.frozen?, hh]
  cases v <;> first
    | (simp [Value.oneCell'] at hv; done)
    | simp [Go.store, Sem.run, hc, hf]
theorem Rel.set {H : Hp} {nx : Nat} {w : World} (h : Rel H nx w) {b off : Nat} {cs : List Value} {ty : TypeId} (hb : H b = some (.rw cs ty)) (v : Value) :
    Rel (upd H b (.rw (cs.set off v) ty)) nx (w.setCell ⟨b, off, none⟩ v) := by
  have hh := h.rw b cs ty hb
  refine ⟨by simpa [World.setCell] using h.size, fun b' o hb' => ?_, fun b' f i u hb' hu => ?_, fun b' cs' ty' hb' => ?_⟩
  · unfold upd at hb'
    split at hb'
    · rename_i e; subst e; exact h.lt _ _ hb
    · exact h.lt _ _ hb'
  · unfold upd at hb'
    split at hb'
    · cases hb'
    · rename_i hne
      rw [World.cell?_of_block (w := w) (Below.heap_setCell _ _ _ _ (by simpa using hne))]
      exact h.ro b' f i u hb' hu
  · unfold upd at hb'
    split at hb'
    · rename_i e
      subst e
      simp only [Option.some.injEq, Blk.rw.injEq] at hb'
      obtain ⟨rfl, rfl⟩ := hb'
      simp [World.setCell, Array.getElem?_modify, hh]
    · rename_i hne
      rw [Below.heap_setCell _ _ _ _ (by simpa using hne)]
      exact h.rw b' cs' ty' hb'
theorem Keep.set {H0 H : Hp} {w0 w : World} (h : Keep H0 w0 H w) {b off : Nat} {cs : List Value} {ty : TypeId} (hb : H b = some (.rw cs ty)) (v : Value) (cs2 : List Value) :
    Keep H0 w0 (upd H b (.rw cs2 ty)) (w.setCell ⟨b, off, none⟩ v) := by
  refine ⟨h.os, h.tape, h.output, by simpa [World.setCell] using h.size, fun b' hb' hn => ?_, fun b' cs' ty' hb' hlt => ?_⟩
  · have hne : b' ≠ b := by
      rintro rfl
      obtain ⟨c, t, e⟩ := h.rws b' cs ty hb hb'
      exact hn _ _ e
    rw [Below.heap_setCell _ _ _ _ (by simpa using hne)]
    exact h.block b' hb' hn
  · unfold upd at hb'
    split at hb'
    · rename_i e; subst e; exact h.rws _ cs ty hb hlt
    · exact h.rws b' cs' ty' hb' hlt
theorem upd_upd (H : Hp) (b : Nat) (o o' : Blk) : upd (upd H b o) b o' = upd H b o' := by funext k; simp only [upd]; split <;> rfl
theorem run_storeCells_rw {P : Program} {H0 : Hp} {w0 : World} : ∀ (vs : List Value) (j : Nat) {H : Hp} {nx : Nat} {w : World} {b off : Nat} {cs : List Value} {ty : TypeId},
    Rel H nx w → Keep H0 w0 H w → H b = some (.rw cs ty) → off + j + vs.length ≤ cs.length → vs.all Value.oneCell' = true →
    ∃ w', (storeCells ⟨b, off, none⟩ vs j).run P w = .ok () w' ∧ Rel (upd H b (.rw (setN cs off j vs) ty)) nx w' ∧ Keep H0 w0 (upd H b (.rw (setN cs off j vs) ty)) w' := by
  intro vs
  induction vs with
  | nil =>
    intro j H nx w b off cs ty h k hb _ _
    have e : upd H b (.rw cs ty) = H := by funext k; simp only [upd]; split <;> simp_all
    exact ⟨w, by simp [storeCells], by simpa [setN, e] using h, by simpa [setN, e] using k⟩
  | cons v vs ih =>
    intro j H nx w b off cs ty h k hb hl ho
    simp only [List.all_cons, Bool.and_eq_true] at ho
    simp only [List.length_cons] at hl
    have h1 := run_store_rw (P := P) h hb (off := off + j) (by omega) ho.1
    obtain ⟨w', r1, r2, r3⟩ := ih (j + 1) (off := off) (h.set hb (off := off + j) v) (k.set hb (off := off + j) v _) (upd_same _ _ _) (by simp; omega) ho.2
    rw [upd_upd] at r2 r3
    exact ⟨w', by simp [storeCells, addr_add, h1, r1], r2, r3⟩

/-! A region that draws its order: operations that only read come first, then some that make new blocks, then a forced rest. One order serves all. -/
section
variable {P : Program} {ops : Array Oper} {Q : Exit → Act → World → Prop} {md : Region.Mode} {S : World → Prop} {need : Nat → Bool}
/-- As wpAny, but behind each operation that 'need' names S is to be shown. -/
def wpAnyN (P : Program) (md : Region.Mode) (ops : Array Oper) (Q : Exit → Act → World → Prop) (S : World → Prop) (need : Nat → Bool) : Nat → Array Bool → Act → World → Prop
  | 0, listed, a, w => Region.ready md ops listed = [] ∧ Q .normal a w
  | fuel + 1, listed, a, w =>
    (Region.ready md ops listed = [] → Q .normal a w) ∧
    ∀ i ∈ Region.ready md ops listed, wpOp P ops Q i (fun a' w' => (need i = true → S w → S w') ∧ wpAnyN P md ops Q S need fuel (listed.setIfInBounds i true) a' w') a w
theorem wpAny_of_need : ∀ (fuel : Nat) (listed : Array Bool) (a : Act) (w : World), wpAnyN P md ops Q S need fuel listed a w → wpAny P md ops Q fuel listed a w
  | 0, _, _, _, h => h
  | fuel + 1, _, _, _, h => ⟨h.1, fun i hi => wpOp_mono (fun a' w' h' => wpAny_of_need fuel _ a' w' h'.2) (h.2 i hi)⟩

/-- What is listed has what it waits for listed. -/
def Clo (md : Region.Mode) (ops : Array Oper) (listed : Array Bool) : Prop :=
  ∀ j oj, ops[j]? = some oj → listed.getD j false = true → ∀ e ∈ oj.after, Region.binds md e = true → listed.getD e.on false = true
theorem Clo.set {i : Nat} {listed : Array Bool} (h : Clo md ops listed) (hi : i ∈ Region.ready md ops listed) : Clo md ops (listed.setIfInBounds i true) := by
  obtain ⟨_, oi, hoi, hall⟩ := mem_ready.1 hi
  intro j oj hj hl e he hb
  by_cases hij : i = j
  · subst hij
    have : oj = oi := Option.some.inj (hj.symm.trans hoi)
    subst this
    exact getD_set_true (hall e he hb)
  · rw [getD_set_ne false hij] at hl
    exact getD_set_true (h j oj hj hl e he hb)
def waitsT (md : Region.Mode) (ops : Array Oper) : Nat → Nat → Nat → Bool
  | 0, _, _ => false
  | f + 1, j, i => Region.waitsFor md ops j i || (List.range ops.size).any fun m => Region.waitsFor md ops j m && waitsT md ops f m i
theorem waitsT_spec {listed : Array Bool} (h : Clo md ops listed) {i : Nat} : ∀ (f j : Nat), waitsT md ops f j i = true → (∀ oj, ops[j]? = some oj → ∀ e ∈ oj.after, Region.binds md e = true → listed.getD e.on false = true) → listed.getD i false = true
  | 0, _, hw, _ => by simp [waitsT] at hw
  | f + 1, j, hw, hd => by
    simp only [waitsT, Bool.or_eq_true, List.any_eq_true, Bool.and_eq_true] at hw
    rcases hw with hw | ⟨m, _, h1, h2⟩
    · obtain ⟨oj, hoj, e, he, hb, rfl⟩ := Region.waitsFor_spec hw
      exact hd oj hoj e he hb
    · obtain ⟨oj, hoj, e, he, hb, rfl⟩ := Region.waitsFor_spec h1
      have hl := hd oj hoj e he hb
      exact waitsT_spec h f e.on h2 (fun o ho e' he' hb' => h _ o ho hl e' he' hb')

theorem wpAnyN_first {i : Nat} {oi : Oper} {v : Value} {N : Nat} (hi : ops[i]? = some oi) (hsel : ∀ (j : Nat) (o : Oper) cs b, ops[j]? = some o → o.op ≠ .select cs b)
    (hQ : ∀ c a w, Q (.panic c) (a.put oi.dst v) w → Q (.panic c) a w) (hneed : ∀ j, need j = false → j < ops.size → waitsT md ops N j i = true) :
    ∀ (fuel : Nat) (listed : Array Bool) (a : Act) (w : World), Clo md ops listed →
      (∀ j oj, ops[j]? = some oj → j ≠ i → listed.getD j true = false → (∀ e ∈ oj.after, Region.binds md e = true → e.on ≠ i) → oi.apart ops oj = true) →
      i ∈ Region.ready md ops listed → YieldsIf P ops S oi v a → S w →
      wpAnyN P md ops Q S need fuel (listed.setIfInBounds i true) (a.put oi.dst v) w → wpAnyN P md ops Q S need (fuel + 1) listed a w := by
  intro fuel
  induction fuel with
  | zero =>
    intro listed a w _ _ hr hy hS H
    refine ⟨fun h => (by rw [h] at hr; cases hr), fun j hj => ?_⟩
    by_cases hji : j = i
    · subst hji; exact hy.wpOp hi hS ⟨fun _ h => h, H⟩
    · have := ready_mono hj hji
      rw [H.1] at this
      cases this
  | succ fuel ih =>
    intro listed a w hclo hfree hr hy hS H
    refine ⟨fun h => (by rw [h] at hr; cases hr), fun j hj => ?_⟩
    by_cases hji : j = i
    · subst hji; exact hy.wpOp hi hS ⟨fun _ h => h, H⟩
    · have h1 := H.2 j (ready_mono hj hji)
      obtain ⟨hjun, oj, hoj, hall⟩ := mem_ready.1 hj
      have hiun : listed.getD i false = false := getD_both (mem_ready.1 hr).1
      have hnot : ∀ e ∈ oj.after, Region.binds md e = true → e.on ≠ i := fun e he hb heq => by
        have h1 := hall e he hb
        rw [heq, hiun] at h1
        cases h1
      have hnj : need j = true := by
        cases hn : need j with
        | true => rfl
        | false =>
          have hjs : j < ops.size := (Array.getElem?_eq_some_iff.1 hoj).1
          have := waitsT_spec hclo N j (hneed j hn hjs) (fun o ho e he hb => by
            have : o = oj := Option.some.inj (ho.symm.trans hoj)
            subst this
            exact hall e he hb)
          rw [hiun] at this
          cases this
      have h2 := wpOp_putIf hoj (hfree j oj hoj hji hjun hnot) (fun cs b => hsel i oi cs b hi) (fun cs b => hsel j oj cs b hoj) hQ hy h1
      have hfree' : ∀ k ok, ops[k]? = some ok → k ≠ i → (listed.setIfInBounds j true).getD k true = false →
          (∀ e ∈ ok.after, Region.binds md e = true → e.on ≠ i) → oi.apart ops ok = true := fun k ok hk hki hun hno => by
        refine hfree k ok hk hki ?_ hno
        by_cases hjk : j = k
        · subst hjk; exact hjun
        · rw [getD_set_ne true hjk] at hun; exact hun
      refine wpOp_mono (fun a' w' h3 => ⟨h3.2.1, ih (listed.setIfInBounds j true) a' w' (hclo.set hj) hfree' (ready_mono hr (Ne.symm hji)) h3.1 (h3.2.1 hnj hS) ?_⟩) h2
      rw [Array.setIfInBounds_comm _ _ hji]
      exact h3.2.2


/-- An operation that looks at no memory may always be taken first. -/
theorem wpAnyN_firstP {i : Nat} {oi : Oper} {v : Value} (hi : ops[i]? = some oi) (hsel : ∀ (j : Nat) (o : Oper) cs b, ops[j]? = some o → o.op ≠ .select cs b)
    (hQ : ∀ c a w, Q (.panic c) (a.put oi.dst v) w → Q (.panic c) a w) :
    ∀ (fuel : Nat) (listed : Array Bool) (a : Act) (w : World),
      (∀ j oj, ops[j]? = some oj → j ≠ i → listed.getD j true = false → (∀ e ∈ oj.after, Region.binds md e = true → e.on ≠ i) → oi.apart ops oj = true) →
      i ∈ Region.ready md ops listed → YieldsIf P ops (fun _ => True) oi v a →
      wpAnyN P md ops Q S need fuel (listed.setIfInBounds i true) (a.put oi.dst v) w → wpAnyN P md ops Q S need (fuel + 1) listed a w := by
  intro fuel
  induction fuel with
  | zero =>
    intro listed a w _ hr hy H
    refine ⟨fun h => (by rw [h] at hr; cases hr), fun j hj => ?_⟩
    by_cases hji : j = i
    · subst hji; exact hy.wpOp hi trivial ⟨fun _ h => h, H⟩
    · have := ready_mono hj hji
      rw [H.1] at this
      cases this
  | succ fuel ih =>
    intro listed a w hfree hr hy H
    refine ⟨fun h => (by rw [h] at hr; cases hr), fun j hj => ?_⟩
    by_cases hji : j = i
    · subst hji; exact hy.wpOp hi trivial ⟨fun _ h => h, H⟩
    · have h1 := H.2 j (ready_mono hj hji)
      obtain ⟨hjun, oj, hoj, hall⟩ := mem_ready.1 hj
      have hiun : listed.getD i false = false := getD_both (mem_ready.1 hr).1
      have hnot : ∀ e ∈ oj.after, Region.binds md e = true → e.on ≠ i := fun e he hb heq => by
        have h1 := hall e he hb
        rw [heq, hiun] at h1
        cases h1
      have h2 := wpOp_putIf hoj (hfree j oj hoj hji hjun hnot) (fun cs b => hsel i oi cs b hi) (fun cs b => hsel j oj cs b hoj) hQ hy h1
      have hfree' : ∀ k ok, ops[k]? = some ok → k ≠ i → (listed.setIfInBounds j true).getD k true = false →
          (∀ e ∈ ok.after, Region.binds md e = true → e.on ≠ i) → oi.apart ops ok = true := fun k ok hk hki hun hno => by
        refine hfree k ok hk hki ?_ hno
        by_cases hjk : j = k
        · subst hjk; exact hjun
        · rw [getD_set_ne true hjk] at hun; exact hun
      refine wpOp_mono (fun a' w' h3 => ⟨h3.2.1, ih (listed.setIfInBounds j true) a' w' hfree' (ready_mono hr (Ne.symm hji)) h3.1 ?_⟩) h2
      rw [Array.setIfInBounds_comm _ _ hji]
      exact h3.2.2

/-- Operations that look at no memory. -/
def pureOp : Op → Bool
  | .move _ => true
  | .assign _ => true
  | .pick _ _ _ => true
  | .binOp _ _ _ _ _ => true
  | .unOp _ _ _ => true
  | .makeFunc _ _ _ => true
  | .slice _ _ _ _ none => true
  | .fieldAddr _ _ _ => true
  | .field _ _ _ => true
  | .indexAddr _ _ _ => true
  | .index _ _ _ => true
  | .extract _ _ => true
  | .build _ _ => true
  | _ => false
def pureAt (ops : Array Oper) (i : Nat) : Bool := match ops[i]? with
  | some o => pureOp o.op
  | none => false
/-- The head: operations that yield one value in every world that meets S, in an order of our own. -/
def wpHi (P : Program) (ops : Array Oper) (S : World → Prop) (K : Act → Prop) : List Nat → Act → Prop
  | [], a => K a
  | i :: l, a => match ops[i]? with
    | none => False
    | some o => if Region.wanted o (yielded ops a.tmps) = true then ∃ v, (∀ w, (if pureOp o.op = true then True else S w) → (execOp a.eval o).run P w = .ok (.value v) w) ∧ wpHi P ops S K l (a.put o.dst v) else wpHi P ops S K l (a.put o.dst undef)
/-- The rest: whichever comes up, as a tree. -/
inductive Tr where
  | done
  | one (i : Nat) (t : Tr)
  | alt (i : Nat) (t r : Tr)
  | now (i : Nat) (t : Tr)
def trB (md : Region.Mode) (ops : Array Oper) : Tr → Nat → Array Bool → List Nat → Bool
  | .done, _, _, rs => rs.isEmpty
  | .one i t, g, listed, rs => (match g with
    | 0 => false
    | g + 1 => decide (rs = [i]) && trB md ops t g (listed.setIfInBounds i true) (Region.ready md ops (listed.setIfInBounds i true)))
  | .alt i t r, g, listed, rs => (match g, rs with
    | g' + 1, j :: rs' => decide (j = i) && !rs'.isEmpty && trB md ops r g listed rs' && trB md ops t g' (listed.setIfInBounds i true) (Region.ready md ops (listed.setIfInBounds i true))
    | _, _ => false)
  | .now i t, g, listed, rs => (match g with
    | 0 => false
    | g' + 1 => decide (rs = Region.ready md ops listed) && Region.noSelect ops && rs.contains i && Region.free md ops listed i && pureAt ops i && trB md ops t g' (listed.setIfInBounds i true) (Region.ready md ops (listed.setIfInBounds i true)))
def wpT (P : Program) (ops : Array Oper) (Q : Exit → Act → World → Prop) (S : World → Prop) (need : Nat → Bool) : Tr → Act → World → Prop
  | .done, a, w => Q .normal a w
  | .one i t, a, w => wpOp P ops Q i (fun a' w' => (need i = true → S w') ∧ wpT P ops Q S need t a' w') a w
  | .alt i t r, a, w => wpOp P ops Q i (fun a' w' => (need i = true → S w') ∧ wpT P ops Q S need t a' w') a w ∧ wpT P ops Q S need r a w
  | .now i t, a, w => match ops[i]? with
    | none => False
    | some o => if Region.wanted o (yielded ops a.tmps) = true then ∃ v, (∀ w, (execOp a.eval o).run P w = .ok (.value v) w) ∧ wpT P ops Q S need t (a.put o.dst v) w else wpT P ops Q S need t (a.put o.dst undef) w

theorem wpAnyN_or {g : Nat} {listed : Array Bool} {a : Act} {w : World}
    (h : (Region.ready md ops listed = [] ∧ Q .normal a w) ∨ ∃ g', g = g' + 1 ∧ Region.ready md ops listed ≠ [] ∧ ∀ i ∈ Region.ready md ops listed, wpOp P ops Q i (fun a' w' => (need i = true → S w → S w') ∧ wpAnyN P md ops Q S need g' (listed.setIfInBounds i true) a' w') a w) :
    wpAnyN P md ops Q S need g listed a w := by
  rcases h with ⟨h1, h2⟩ | ⟨g', rfl, h1, h2⟩
  · cases g with
    | zero => exact ⟨h1, h2⟩
    | succ g => exact ⟨fun _ => h2, by rw [h1]; simp⟩
  · exact ⟨fun h0 => absurd h0 h1, h2⟩
theorem wpAnyN_tr (hQ : ∀ c a w d v, Q (.panic c) (a.put d v) w → Q (.panic c) a w) : ∀ (t : Tr) (g : Nat) (listed : Array Bool) (rs : List Nat) (a : Act) (w : World), trB md ops t g listed rs = true → wpT P ops Q S need t a w →
    (rs = [] ∧ Q .normal a w) ∨ ∃ g', g = g' + 1 ∧ rs ≠ [] ∧ ∀ i ∈ rs, wpOp P ops Q i (fun a' w' => (need i = true → S w → S w') ∧ wpAnyN P md ops Q S need g' (listed.setIfInBounds i true) a' w') a w := by
  intro t
  induction t with
  | done => intro g listed rs a w hB h; exact .inl ⟨by simpa [trB] using hB, h⟩
  | one i t ih =>
    intro g listed rs a w hB h
    cases g with
    | zero => simp [trB] at hB
    | succ g =>
      simp only [trB, Bool.and_eq_true, decide_eq_true_eq] at hB
      obtain ⟨rfl, hB⟩ := hB
      refine .inr ⟨g, rfl, by simp, fun j hj => ?_⟩
      have : j = i := by simpa using hj
      subst this
      exact wpOp_mono (fun a' w' h' => ⟨fun hn _ => h'.1 hn, wpAnyN_or (ih g _ _ a' w' hB h'.2)⟩) h
  | alt i t r iht ihr =>
    intro g listed rs a w hB h
    cases g with
    | zero => simp [trB] at hB
    | succ g =>
      cases rs with
      | nil => simp [trB] at hB
      | cons j rs =>
        simp only [trB, Bool.and_eq_true, decide_eq_true_eq, Bool.not_eq_true'] at hB
        obtain ⟨⟨⟨rfl, hne⟩, hr⟩, ht⟩ := hB
        refine .inr ⟨g, rfl, by simp, fun k hk => ?_⟩
        rcases List.mem_cons.1 hk with rfl | hk
        · exact wpOp_mono (fun a' w' h' => ⟨fun hn _ => h'.1 hn, wpAnyN_or (iht g _ _ a' w' ht h'.2)⟩) h.1
        · rcases ihr (g + 1) listed rs a w hr h.2 with ⟨e, _⟩ | ⟨g', e, _, hall⟩
          · subst e; cases hk
          · have : g' = g := by omega
            subst this
            exact hall k hk
  | now i t ih =>
    intro g listed rs a w hB h
    cases g with
    | zero => simp [trB] at hB
    | succ g =>
      simp only [trB, Bool.and_eq_true, decide_eq_true_eq] at hB
      obtain ⟨⟨⟨⟨⟨rfl, hsel⟩, hr⟩, hf⟩, hp⟩, hB⟩ := hB
      have hr' : i ∈ Region.ready md ops listed := by simpa using hr
      unfold wpT at h
      cases h0 : ops[i]? with
      | none => simp only [h0] at h
      | some o =>
        simp only [h0] at h
        obtain ⟨v, hy, hK⟩ : ∃ v, YieldsIf P ops (fun _ => True) o v a ∧ wpT P ops Q S need t (a.put o.dst v) w := by
          split at h
          · rename_i hw
            obtain ⟨v, h1, h2⟩ := h
            exact ⟨v, .inl ⟨hw, fun w _ => h1 w⟩, h2⟩
          · rename_i hw
            exact ⟨undef, .inr ⟨by simpa using hw, rfl⟩, h⟩
        have := wpAnyN_firstP (need := need) (S := S) (P := P) h0 (Region.noSelect_spec hsel) (fun c a w => hQ c a w o.dst v) g listed a w (Region.free_spec h0 hf) hr' hy
          (wpAnyN_or (ih g _ _ _ w hB hK))
        exact .inr ⟨g, rfl, (fun e => by rw [e] at hr'; cases hr'), this.2⟩

def hdB (md : Region.Mode) (ops : Array Oper) (t : Tr) (g : Nat) : List Nat → Array Bool → Bool
  | [], listed => trB md ops t g listed (Region.ready md ops listed)
  | i :: l, listed => (Region.ready md ops listed).contains i && Region.free md ops listed i && hdB md ops t g l (listed.setIfInBounds i true)

theorem wpAnyN_hd {g N : Nat} {t : Tr} (hsel : Region.noSelect ops = true) (hQ : ∀ c a w d v, Q (.panic c) (a.put d v) w → Q (.panic c) a w) {K : Act → Prop} {w : World}
    (hK : ∀ a listed, K a → trB md ops t g listed (Region.ready md ops listed) = true → wpAnyN P md ops Q S need g listed a w) :
    ∀ (l : List Nat) (listed : Array Bool) (a : Act), (∀ i ∈ l, pureAt ops i = false → ∀ j, need j = false → j < ops.size → waitsT md ops N j i = true) → Clo md ops listed →
    hdB md ops t g l listed = true → S w → wpHi P ops S K l a → wpAnyN P md ops Q S need (l.length + g) listed a w
  | [], listed, a, _, _, hB, hS, h => by
    have := hK a listed h (by simpa [hdB] using hB)
    simpa using this
  | k :: l, listed, a, hneed, hclo, hB, hS, h => by
    simp only [hdB, Bool.and_eq_true] at hB
    obtain ⟨⟨hr, hf⟩, hB'⟩ := hB
    have hr' : k ∈ Region.ready md ops listed := by simpa using hr
    unfold wpHi at h
    split at h
    · exact h.elim
    · rename_i o h0
      have e : (k :: l).length + g = l.length + g + 1 := by simp only [List.length_cons]; omega
      rw [e]
      cases hp : pureOp o.op
      · have hpa : pureAt ops k = false := by unfold pureAt; rw [h0]; exact hp
        obtain ⟨v, hy, hK'⟩ : ∃ v, YieldsIf P ops S o v a ∧ wpHi P ops S K l (a.put o.dst v) := by
          split at h
          · rename_i hw
            obtain ⟨v, h1, h2⟩ := h
            exact ⟨v, .inl ⟨hw, fun w hs => h1 w (by simpa [hp] using hs)⟩, h2⟩
          · rename_i hw
            exact ⟨undef, .inr ⟨by simpa using hw, rfl⟩, h⟩
        exact wpAnyN_first (need := need) (S := S) (P := P) (N := N) h0 (Region.noSelect_spec hsel) (fun c a w => hQ c a w o.dst v) (fun j hj hjs => hneed k (by simp) hpa j hj hjs) (l.length + g) listed a w hclo (Region.free_spec h0 hf) hr' hy hS
          (wpAnyN_hd hsel hQ hK l _ _ (fun i hi => hneed i (by simp [hi])) (hclo.set hr') hB' hS hK')
      · obtain ⟨v, hy, hK'⟩ : ∃ v, YieldsIf P ops (fun _ => True) o v a ∧ wpHi P ops S K l (a.put o.dst v) := by
          split at h
          · rename_i hw
            obtain ⟨v, h1, h2⟩ := h
            exact ⟨v, .inl ⟨hw, fun w _ => h1 w (by simp)⟩, h2⟩
          · rename_i hw
            exact ⟨undef, .inr ⟨by simpa using hw, rfl⟩, h⟩
        exact wpAnyN_firstP (need := need) (S := S) (P := P) h0 (Region.noSelect_spec hsel) (fun c a w => hQ c a w o.dst v) (l.length + g) listed a w (Region.free_spec h0 hf) hr' hy
          (wpAnyN_hd hsel hQ hK l _ _ (fun i hi => hneed i (by simp [hi])) (hclo.set hr') hB' hS hK')

def needOf (ops : Array Oper) (hd : List Nat) (j : Nat) : Bool := !(hd.all fun i => pureAt ops i || decide (ops.size ≤ j) || waitsT .any ops ops.size j i)
def planB (ops : Array Oper) (hd : List Nat) (t : Tr) : Bool :=
  Region.noSelect ops && decide (hd.length ≤ ops.size) && hdB .any ops t (ops.size - hd.length) hd (Array.replicate ops.size false)
theorem wp_region_tree {id : Nat} {hd : List Nat} {t : Tr} {a : Act} {w : World} (hm : P.follows .mixedOrders = true) (hB : planB ops hd t = true) (hS : S w.drew)
    (hQ : ∀ c a w d v, Q (.panic c) (a.put d v) w → Q (.panic c) a w)
    (H : wpHi P ops S (fun a' => wpT P ops Q S (needOf ops hd) t a' w.drew) hd a) : (Code.region id ops true).wp P Q a w := by
  simp only [planB, Bool.and_eq_true, decide_eq_true_eq] at hB
  obtain ⟨⟨hsel, hh⟩, hlex⟩ := hB
  refine wp_region_any hm (wpAny_of_need (S := S) (need := needOf ops hd) _ _ _ _ ?_)
  have key := wpAnyN_hd (P := P) (Q := Q) (S := S) (need := needOf ops hd) (md := .any) (g := ops.size - hd.length) (N := ops.size) (t := t) hsel hQ
    (K := fun a' => wpT P ops Q S (needOf ops hd) t a' w.drew)
    (fun a listed hK hB => wpAnyN_or (wpAnyN_tr hQ t _ listed _ a w.drew hB hK))
    hd (Array.replicate ops.size false) a
    (fun i hi hpa j hj hjs => by
      simp only [needOf, Bool.not_eq_false', List.all_eq_true, Bool.or_eq_true, decide_eq_true_eq] at hj
      rcases hj i hi with (h1 | h1) | h1
      · rw [hpa] at h1; cases h1
      · omega
      · exact h1)
    (fun j oj _ hl => (by rw [getD_replicate_false] at hl; cases hl)) hlex hS H
  have e2 : hd.length + (ops.size - hd.length) = ops.size := by omega
  rw [e2] at key
  exact key
end
/-- Operations that change the world, or may. -/
def effOp : Op → Bool
  | .alloc _ => true
  | .box _ _ => true
  | .buildSlice _ _ _ => true
  | .makeSlice _ _ _ => true
  | .store _ _ _ => true
  | .call c => (match c.callee with
    | .builtin .append => true
    | .builtin .copy => true
    | .builtin .clear => true
    | _ => false)
  | _ => false
def callOp : Op → Bool
  | .call c => (match c.callee with
    | .value _ => true
    | _ => false)
  | _ => false
/-- The head: whatever only reads, as soon as it may come up. -/
def headOf (ops : Array Oper) : Nat → Nat → Array Bool → List Nat
  | 0, _, _ => []
  | f + 1, k, listed => match ops[k]? with
    | none => []
    | some o => if (effOp o.op || callOp o.op) = false ∧ (Region.ready .any ops listed).contains k = true ∧ Region.free .any ops listed k = true then k :: headOf ops f (k + 1) (listed.setIfInBounds k true) else headOf ops f (k + 1) listed
/-- One that looks at no memory and may come up. -/
def nowOf (ops : Array Oper) (listed : Array Bool) : List Nat → Option Nat
  | [] => none
  | i :: rs => if pureAt ops i = true ∧ Region.free .any ops listed i = true then some i else nowOf ops listed rs
def treeOf (ops : Array Oper) : Nat → Array Bool → Bool → List Nat → Tr
  | 0, _, _, _ => .done
  | _ + 1, _, _, [] => .done
  | f + 1, listed, whole, i :: rs => match (if whole = true ∧ rs.isEmpty = false then nowOf ops listed (i :: rs) else none) with
    | some k => .now k (treeOf ops f (listed.setIfInBounds k true) true (Region.ready .any ops (listed.setIfInBounds k true)))
    | none => match rs with
      | [] => .one i (treeOf ops f (listed.setIfInBounds i true) true (Region.ready .any ops (listed.setIfInBounds i true)))
      | j :: rs => .alt i (treeOf ops f (listed.setIfInBounds i true) true (Region.ready .any ops (listed.setIfInBounds i true))) (treeOf ops f listed false (j :: rs))
/-- Two loads, and a call that takes what a call has made: a law's last look at a struct. -/
def lateOp : List Op → Bool
  | [.load .., .load .., .call c, .call d, .unOp ..] => callOp (.call c) && callOp (.call d)
  | _ => false
/-- A call that takes what a call has made. -/
def buildOp : Op → Bool
  | .build _ _ => true
  | _ => false
def nestOp (ops : Array Oper) : Bool := ops.any fun o => match o.op with
  | .call c => callOp (.call c) && ops.any fun p => (callOp p.op || buildOp p.op) && (match p.dst with
    | some d => c.args.any fun x => (match x with
      | .tmp t => t == d
      | _ => false)
    | none => false)
  | _ => false
def planOf (ops : Array Oper) : Option (List Nat × Tr) :=
  if ops.any (fun o => effOp o.op) || lateOp (ops.toList.map (·.op)) || nestOp ops then
    some (headOf ops ops.size 0 (Array.replicate ops.size false), let l := (headOf ops ops.size 0 (Array.replicate ops.size false)).foldl (fun l i => l.setIfInBounds i true) (Array.replicate ops.size false)
      treeOf ops (ops.size * 8 + 8) l true (Region.ready .any ops l))
  else none

/-- The cells of a new row: the zero value's, again and again, n cells. -/
def mkRow (z : Array Value) (n : Nat) : List Value := (madeCells z n).toList

/-- A row of n cells that a slice value covers. -/
def isRow (H : Hp) (a : Option Addr) (n : Nat) (vs : List Value) : Prop :=
  vs.length = n ∧ (0 < n → ∃ b off, a = some ⟨b, off, none⟩ ∧ ∀ i u, vs[i]? = some u → rd H b (off + i) = some u)

/-- A slice value of n elements (size cells each) that is nil, or begins its own whole block. -/
def isOwn (H : Hp) (e size : Nat) (v : Value) (n : Nat) (xs : List Value) : Prop :=
  xs.length = n * size ∧ ((v = .slice none 0 0 ∧ n = 0) ∨
    ∃ b cap sp, v = .slice (some ⟨b, 0, none⟩) n cap ∧ H b = some (.rw (xs ++ sp) e) ∧ n ≤ cap ∧ cap ≤ maxLen ∧ (xs ++ sp).length = cap * size)
def ownBlk : Value → Option Nat
  | .slice (some a) _ _ => some a.block
  | _ => none

/-- What follows a new block. -/
def nbP (K : Value → Hp → Nat → Prop) (H : Hp) (cs : List Value) (ty : TypeId) (b : Nat) : Prop := K (.pointer (some ⟨b, 0, none⟩)) (upd H b (.rw cs ty)) (b + 1)
def nbS (K : Value → Hp → Nat → Prop) (H : Hp) (cs : List Value) (ty : TypeId) (l c b : Nat) : Prop := K (.slice (some ⟨b, 0, none⟩) l c) (upd H b (.rw cs ty)) (b + 1)
/-- For every new block. -/
def newB (nx : Nat) (F : Nat → Prop) : Prop := ∀ b, nx ≤ b → F b

def capOf : Value → Nat
  | .slice _ _ c => c
  | _ => 0
/-- Where an append puts its row: there is room and it stays, or there is none and it is new. -/
def appAt (sv : Value) (n nx b cap : Nat) : Prop := (some b = ownBlk sv ∧ cap = capOf sv) ∨ (capOf sv < n ∧ nx ≤ b)
theorem appAt.or {sv : Value} {n nx b cap : Nat} (h : appAt sv n nx b cap) : some b = ownBlk sv ∨ nx ≤ b := h.imp (fun x => x.1) (fun x => x.2)
/-- What an append leaves: the new row, in the old block or in a new one; all else that was known is known. -/
def AppK (P : Program) (t : TypeId) (sv xv : Value) (K : Value → Hp → Nat → Prop) (H : Hp) (nx : Nat) : Prop :=
  ∃ (e size bytes : Nat) (n m c : Nat) (xs vs : List Value) (xa : Option Addr),
    qElem P t = some e ∧ qSize P e = some size ∧ qBytes P e = some bytes ∧ (∃ z, qZero P e = some z ∧ z.cells.size = size) ∧ 0 < size ∧
    isOwn H e size sv n xs ∧ xv = .slice xa m c ∧ isRow H xa (m * size) vs ∧ vs.all Value.oneCell' = true ∧ (n + m) * bytes ≤ 140737488355328 ∧ n + m ≤ maxLen ∧
    (m = 0 → K sv H nx) ∧
    (0 < m → ∀ b cap sp nx', appAt sv (n + m) nx b cap → nx ≤ nx' → b < nx' → n + m ≤ cap → cap ≤ maxLen → ((xs ++ vs) ++ sp).length = cap * size →
      K (.slice (some ⟨b, 0, none⟩) (n + m) cap) (upd H b (.rw ((xs ++ vs) ++ sp) e)) nx')

/-- What append(s, make(..)..) leaves where there is no room: a new row, zeros behind the old ones. -/
def AppZK (P : Program) (t ti : TypeId) (sv lv : Value) (K : Value → Hp → Nat → Prop) (H : Hp) (nx : Nat) : Prop :=
  ∃ (e size bytes n m c : Nat) (A : Option Addr) (z : Value) (kl ki : IntKind) (xs : List Value),
    qElem P t = some e ∧ qSize P e = some size ∧ qBytes P e = some bytes ∧ qZero P e = some z ∧ z.cells.size = size ∧ 0 < size ∧ qKind P ti = some ki ∧
    sv = .slice A n c ∧ lv = .int kl m ∧ 0 < m ∧ c < n + m ∧ n ≤ c ∧ (A = none → c = 0) ∧ isRow H A (n * size) xs ∧ (n + m) * bytes ≤ 140737488355328 ∧ n + m ≤ maxLen ∧
    (∀ b cap sp nx', nx ≤ b → nx ≤ nx' → b < nx' → n + m ≤ cap → cap ≤ maxLen → ((xs ++ mkRow z.cells (m * size)) ++ sp).length = cap * size →
      K (.slice (some ⟨b, 0, none⟩) (n + m) cap) (upd H b (.rw ((xs ++ mkRow z.cells (m * size)) ++ sp) e)) nx')

/-- What a copy leaves: the first cells of the row, over those that stood there. -/
def CopyK (P : Program) (t : TypeId) (dv sv : Value) (K : Value → Hp → Nat → Prop) (H : Hp) (nx : Nat) : Prop :=
  ∃ (e size n dn dc sn sc : Nat) (A A' : Option Addr) (vs : List Value),
    qElem P t = some e ∧ qSize P e = some size ∧ dv = .slice A dn dc ∧ sv = .slice A' sn sc ∧ n = min sn dn ∧ isRow H A' (n * size) vs ∧ vs.all Value.oneCell' = true ∧
    (n = 0 → K (.int .i64 0) H nx) ∧
    (0 < n → ∃ b off cs ty, A = some ⟨b, off, none⟩ ∧ H b = some (.rw cs ty) ∧ off + n * size ≤ cs.length ∧ K (.int .i64 n) (upd H b (.rw (setN cs off 0 vs) ty)) nx)
/-- What clear leaves: zeros. -/
def ClearK (P : Program) (t : TypeId) (sv : Value) (K : Value → Hp → Nat → Prop) (H : Hp) (nx : Nat) : Prop :=
  ∃ (e n c : Nat) (A : Option Addr) (z : Value),
    qElem P t = some e ∧ qZero P e = some z ∧ sv = .slice A n c ∧ z.cells.toList.all Value.oneCell' = true ∧
    (n = 0 → K (.tuple #[]) H nx) ∧
    (0 < n → ∃ b off cs ty, A = some ⟨b, off, none⟩ ∧ H b = some (.rw cs ty) ∧ off + n * z.cells.size ≤ cs.length ∧ K (.tuple #[]) (upd H b (.rw (setN cs off 0 (Builtin.zeroCells z.cells n).toList) ty)) nx)

/-- Nothing new is known. -/
def noH (K : Value → Hp → Nat → Prop) (H : Hp) (nx : Nat) (v : Value) : Prop := K v H nx

/-- One operation, whatever it does to what is known. -/
def WOp (P : Program) (op : Op) (K : Value → Hp → Nat → Prop) (fr : Fr) (H : Hp) (nx : Nat) : Prop :=
  match op with
  | .alloc t => match qZero P t with
    | some z => newB nx (nbP K H z.cells.toList t)
    | none => False
  | .box t x => newB nx (nbP K H (ev fr x).cells.toList t)
  | .buildSlice t len parts => match qElem P t with
    | some e => (match qSize P e, qZero P e with
      | some size, some z => (match Instr.fill (fun i => some (i * size, size)) (madeCells z.cells (len * size)) (parts.map fun (i, x) => (i, ev fr x)).toList with
        | some cells => len * size ≤ 16777216 ∧ newB nx (nbS K H cells.toList e len len)
        | none => False)
      | _, _ => False)
    | none => False
  | .makeSlice t l c => match ev fr l, ev fr c, qElem P t with
    | .int _ l, .int _ c, some e => (match qSize P e, qZero P e, qBytes P e with
      | some size, some z, some bytes => (0 ≤ l ∧ l ≤ c ∧ (bytes : Int) * c ≤ 281474976710656 ∧ c ≤ 9223372036854775807) ∧
          newB nx (nbS K H (mkRow z.cells (c.toNat * size)) e l.toNat c.toNat)
      | _, _, _ => False)
    | _, _, _ => False
  | .store t x y => match ev fr x with
    | .pointer (some ⟨b, off, none⟩) => (match H b, qSize P t with
      | some (.rw cs ty), some n => (ev fr y).cells.size = n ∧ off + n ≤ cs.length ∧ (ev fr y).cells.toList.all Value.oneCell' = true ∧
          K undef (upd H b (.rw (setN cs off 0 (ev fr y).cells.toList) ty)) nx
      | _, _ => False)
    | _ => False
  | .call c => match c.callee with
    | .value f => (match ev fr f with
      | .func (.func g) first cap => AC P g (first ++ c.args.map (ev fr) ++ cap) H nx K
      | _ => False)
    | .builtin .append => (match c.args.toList, c.argTypes.toList with
      | [s, x], [t, t'] => if t = t' then AppK P t (ev fr s) (ev fr x) K H nx else AppZK P t t' (ev fr s) (ev fr x) K H nx
      | _, _ => False)
    | .builtin .copy => (match c.args.toList, c.argTypes.toList with
      | [s, x], [t, t'] => t = t' ∧ CopyK P t (ev fr s) (ev fr x) K H nx
      | _, _ => False)
    | .builtin .clear => (match c.args.toList, c.argTypes.toList with
      | [s], [t] => ClearK P t (ev fr s) K H nx
      | _, _ => False)
    | _ => WV P fr H op (noH K H nx)
  | _ => WV P fr H op (noH K H nx)

/-- A call that must yield one value. -/
def QC (P : Program) (f : FuncId) (args : Array Value) (H : Hp) (nx : Nat) (K : Value → Prop) : Prop := ∃ v, PC P f args H nx v ∧ K v

/-- One operation that must leave what is known as it is, one value for all orders. -/
def WOq (P : Program) (op : Op) (K : Value → Prop) (fr : Fr) (H : Hp) (nx : Nat) : Prop :=
  match op with
  | .call c => match c.callee with
    | .value f => (match ev fr f with
      | .func (.func g) first cap => QC P g (first ++ c.args.map (ev fr) ++ cap) H nx K
      | _ => False)
    | _ => WV P fr H op K
  | _ => WV P fr H op K

/-- Does the guard let the operation run? -/
def gd (ops : Array Oper) (fr : Fr) (o : Oper) : Bool :=
  match o.guard with
  | none => true
  | some (j, want) => match (ops[j]?).bind (·.dst) with
    | some t => (match fr t with
      | .bool b => b == want
      | _ => false)
    | none => false

def WO (P : Program) (ops : Array Oper) : List Oper → (Fr → Hp → Nat → Prop) → Fr → Hp → Nat → Prop
  | [], K => K
  | o :: rest, K => fun fr H nx =>
    if gd ops fr o = true then WOp P o.op (fun v H' nx' => WO P ops rest K (fput fr o.dst v) H' nx') fr H nx else WO P ops rest K (fput fr o.dst undef) H nx
def WQ (P : Program) (ops : Array Oper) : List Oper → (Fr → Prop) → Fr → Hp → Nat → Prop
  | [], K => fun fr _ _ => K fr
  | o :: rest, K => fun fr H nx =>
    if gd ops fr o = true then WOq P o.op (fun v => WQ P ops rest K (fput fr o.dst v) H nx) fr H nx else WQ P ops rest K (fput fr o.dst undef) H nx

def WH (P : Program) (ops : Array Oper) : List Nat → (Fr → Prop) → Fr → Hp → Prop
  | [], K => fun fr _ => K fr
  | i :: rest, K => fun fr H => match ops[i]? with
    | none => False
    | some o => if gd ops fr o = true then WV P fr H o.op (fun v => WH P ops rest K (fput fr o.dst v) H) else WH P ops rest K (fput fr o.dst undef) H
/-- Nothing is known. -/
def noKnown : Hp := fun _ => none
/-- What was known is known still, where it is asked. -/
def sbs (nd : Bool) (H H' : Hp) : Prop := nd = true → Sub H H'
def WT (P : Program) (ops : Array Oper) (need : Nat → Bool) (H0 : Hp) : Tr → (Fr → Hp → Nat → Prop) → Fr → Hp → Nat → Prop
  | .done, K => K
  | .one i t, K => fun fr H nx => match ops[i]? with
    | none => False
    | some o => if gd ops fr o = true then WOp P o.op (fun v H' nx' => sbs (need i) H0 H' ∧ WT P ops need H0 t K (fput fr o.dst v) H' nx') fr H nx else sbs (need i) H0 H ∧ WT P ops need H0 t K (fput fr o.dst undef) H nx
  | .alt i t r, K => fun fr H nx => (match ops[i]? with
    | none => False
    | some o => if gd ops fr o = true then WOp P o.op (fun v H' nx' => sbs (need i) H0 H' ∧ WT P ops need H0 t K (fput fr o.dst v) H' nx') fr H nx else sbs (need i) H0 H ∧ WT P ops need H0 t K (fput fr o.dst undef) H nx) ∧ WT P ops need H0 r K fr H nx
  | .now i t, K => fun fr H nx => match ops[i]? with
    | none => False
    | some o => if gd ops fr o = true then WV P fr noKnown o.op (fun v => WT P ops need H0 t K (fput fr o.dst v) H nx) else WT P ops need H0 t K (fput fr o.dst undef) H nx

/-- The places, known ahead of a region, that it stores to: what is read may not hang on them. -/
def outs (ops : Array Oper) : List Operand := ops.toList.filterMap fun o => match o.op with
  | .store _ (.tmp t) _ => if ops.any (fun p => p.dst == some t) = true then none else some (.tmp t)
  | _ => none
def del (H : Hp) (b : Nat) : Hp := fun k => if k = b then none else H k
def dels : List Operand → Fr → Hp → Hp
  | [], _, H => H
  | x :: l, fr, H => match ev fr x with
    | .pointer (some a) => dels l fr (del H a.block)
    | _ => dels l fr H
theorem sub_del (H : Hp) (b : Nat) : Sub (del H b) H := fun k o e => by
  unfold del at e
  split at e
  · cases e
  · exact e
theorem sub_dels : ∀ (l : List Operand) (fr : Fr) (H : Hp), Sub (dels l fr H) H
  | [], _, H => Sub.refl H
  | x :: l, fr, H => by
    unfold dels
    split
    · exact (sub_dels l fr _).trans (sub_del H _)
    · exact sub_dels l fr H
def inB (id : Nat) (Q : Exit → Fr → Hp → Nat → Prop) : Exit → Fr → Hp → Nat → Prop
  | .exit i => if i = id then Q .normal else Q (.exit i)
  | e => Q e
def thn (K : Fr → Hp → Nat → Prop) (Q : Exit → Fr → Hp → Nat → Prop) : Exit → Fr → Hp → Nat → Prop
  | .normal => K
  | e => Q e
/-- n rounds at most, and out. -/
def Lp (B : (Exit → Fr → Hp → Nat → Prop) → Fr → Hp → Nat → Prop) (Q : Exit → Fr → Hp → Nat → Prop) : Nat → Fr → Hp → Nat → Prop
  | 0 => fun _ _ _ => False
  | n + 1 => fun fr H nx => Bd H nx → B (thn (Lp B Q n) Q) fr H nx
def W (P : Program) : Code → (Exit → Fr → Hp → Nat → Prop) → Fr → Hp → Nat → Prop
  | .skip, Q => Q .normal
  | .seq a b, Q => W P a (thn (W P b Q) Q)
  | .cond c x y, Q => fun fr H nx => match ev fr c with
    | .bool t => if t = true then W P x Q fr H nx else W P y Q fr H nx
    | _ => False
  | .block id c, Q => W P c (inB id Q)
  | .exit id, Q => Q (.exit id)
  | .ret, Q => Q .ret
  | .loop c, Q => fun fr H nx => ∃ n, Lp (W P c) Q n fr H nx
  | .region _ ops draw, Q => fun fr H nx => if draw = true then (match planOf ops with
    | none => WQ P ops ops.toList (fun fr' => Q .normal fr' H nx) fr H nx
    | some (hd, t) => Bd H nx → ∃ H0, Sub H0 H ∧ WH P ops hd (fun fr' => WT P ops (needOf ops hd) H0 t (Q .normal) fr' H nx) fr H0) else WO P ops ops.toList (Q .normal) fr H nx
  | _, _ => fun _ _ _ => False

/-- What is checked of the text once: each operation's slot lies in the frame; each region that draws its order is of the good form. -/
def Code.fine (nt : Nat) : Code → Bool
  | .seq a b => fine nt a && fine nt b
  | .cond _ a b => fine nt a && fine nt b
  | .block _ c => fine nt c
  | .loop c => fine nt c
  | .region _ ops draw => ops.all (fun o => o.dst.all (fun d => decide (d < nt))) && (!draw || (match planOf ops with
    | none => Region.lexB .any ops
    | some (hd, t) => planB ops hd t))
  | _ => true

def frOf (a : Act) : Fr := fun i => a.tmps.getD i undef
theorem ev_frOf (a : Act) (x : Operand) : ev (frOf a) x = a.eval x := by cases x <;> rfl
theorem frOf_put (a : Act) (d : Option Nat) (v : Value) (h : d.all (fun d => decide (d < a.tmps.size)) = true) : frOf (a.put d v) = fput (frOf a) d v := by
  cases d with
  | none => rfl
  | some d =>
    simp only [Option.all_some, decide_eq_true_eq] at h
    funext i
    simp only [frOf, Act.put, fput, fset]
    by_cases e : i = d
    · subst e; simp [Array.getD_eq_getD_getElem?, h]
    · simp [Array.getD_eq_getD_getElem?, e, Ne.symm e]
theorem size_put (a : Act) (d : Option Nat) (v : Value) : (a.put d v).tmps.size = a.tmps.size := by cases d <;> simp [Act.put]
theorem defers_put (a : Act) (d : Option Nat) (v : Value) : (a.put d v).defers = a.defers := by cases d <;> rfl
theorem gd_eq (ops : Array Oper) (a : Act) (o : Oper) (hd : ∀ o ∈ ops, o.dst.all (fun d => decide (d < a.tmps.size)) = true) : Region.wanted o (yielded ops a.tmps) = gd ops (frOf a) o := by
  unfold Region.wanted gd
  cases hg : o.guard with
  | none => rfl
  | some p =>
    obtain ⟨j, want⟩ := p
    simp only [yielded]
    cases hj : ops[j]? with
    | none => rfl
    | some oj =>
      simp only [Option.bind_some]
      have hm : oj ∈ ops := Array.mem_of_getElem? hj
      have := hd oj hm
      cases hdst : oj.dst with
      | none => rfl
      | some t =>
        rw [hdst] at this
        simp only [Option.all_some, decide_eq_true_eq] at this
        simp only [Option.bind_some, frOf, Array.getD_eq_getD_getElem?, Array.getElem?_eq_getElem this, Option.getD_some]
        cases a.tmps[t] <;> simp

theorem underlying_info {P : Program} {e : TypeId} {size bytes : Nat} {z : Value} (h1 : qSize P e = some size) (h2 : qBytes P e = some bytes) (h3 : qZero P e = some z) :
    ∃ i, P.info? e = some i ∧ i.size = size ∧ i.bytes = bytes ∧ i.zero = some z := by
  unfold qSize at h1; unfold qBytes at h2; unfold qZero at h3
  cases hi : P.info? e with
  | none => simp [hi] at h1
  | some i => simp only [hi, Option.map_some, Option.some.injEq, Option.bind_some] at h1 h2 h3; exact ⟨i, rfl, h1, h2, h3⟩

theorem Rel.setRow {H : Hp} {nx : Nat} {w : World} (h : Rel H nx w) {b : Nat} {cs : List Value} {ty : TypeId} (hb : H b = some (.rw cs ty)) (cs2 : List Value) :
    Rel (upd H b (.rw cs2 ty)) nx (w.setRow b cs2.toArray) := by
  have hh := h.rw b cs ty hb
  refine ⟨by simpa [World.setRow] using h.size, fun b' o hb' => ?_, fun b' f i u hb' hu => ?_, fun b' cs' ty' hb' => ?_⟩
  · unfold upd at hb'
    split at hb'
    · rename_i e; subst e; exact h.lt _ _ hb
    · exact h.lt _ _ hb'
  · unfold upd at hb'
    split at hb'
    · cases hb'
    · rename_i hne
      rw [World.cell?_of_block (w := w) (setRow_other _ _ _ _ hne)]
      exact h.ro b' f i u hb' hu
  · unfold upd at hb'
    split at hb'
    · rename_i e
      subst e
      simp only [Option.some.injEq, Blk.rw.injEq] at hb'
      obtain ⟨rfl, rfl⟩ := hb'
      exact setRow_heap _ _ _ _ _ _ hh
    · rename_i hne
      rw [setRow_other _ _ _ _ hne]
      exact h.rw b' cs' ty' hb'
theorem Keep.setRow {H0 H : Hp} {w0 w : World} (h : Keep H0 w0 H w) {b : Nat} {cs : List Value} {ty : TypeId} (hb : H b = some (.rw cs ty)) (cs2 : List Value) :
    Keep H0 w0 (upd H b (.rw cs2 ty)) (w.setRow b cs2.toArray) := by
  refine ⟨h.os, h.tape, h.output, by simpa [World.setRow] using h.size, fun b' hb' hn => ?_, fun b' cs' ty' hb' hlt => ?_⟩
  · have hne : b' ≠ b := by
      rintro rfl
      obtain ⟨c, t, e⟩ := h.rws b' cs ty hb hb'
      exact hn _ _ e
    rw [setRow_other _ _ _ _ hne]
    exact h.block b' hb' hn
  · unfold upd at hb'
    split at hb'
    · rename_i e; subst e; exact h.rws _ cs ty hb hlt
    · exact h.rws b' cs' ty' hb' hlt
theorem Rel.drew {H : Hp} {nx : Nat} {w : World} (h : Rel H nx w) : Rel H nx w.drew := ⟨h.size, h.lt, h.ro, h.rw⟩
theorem Keep.drew {H0 H : Hp} {w0 w : World} (h : Keep H0 w0 H w) : Keep H0 w0 H w.drew := ⟨h.os, h.tape, h.output, h.size, h.block, h.rws⟩

theorem run_append_none {P : Program} (w : World) (t ty e : TypeId) (ht : P.underlying t = some (.slice e)) (size : Nat) (hs : qSize P e = some size) (a : Option Addr) (n cap : Nat) (hn : n ≤ cap) (x : Option Addr) (c : Nat) :
    (Builtin.append_ #[t, t] ty #[.slice a n cap, .slice x 0 c]).run P w = .ok (.slice a n cap) w := by
  have h1 : (Builtin.firstCells size 0 (.slice x 0 c)).run P w = .ok #[] w := by
    cases x <;> simp [Builtin.firstCells, loadCells, loadCellsFrom]
  cases a <;> simp [Builtin.append_, run_underlying ht, run_sizeOf hs, Builtin.lenOf, hn, h1, storeCells]

theorem AppK_sound {P : Program} {t ty : TypeId} {sv xv : Value} {K : Value → Hp → Nat → Prop} {H0 H : Hp} {nx : Nat} {w0 w : World} (hw : Rel H nx w) (hk : Keep H0 w0 H w) (h : AppK P t sv xv K H nx) :
    ∃ v w' H' nx', (Builtin.append_ #[t, t] ty #[sv, xv]).run P w = .ok v w' ∧ Rel H' nx' w' ∧ Keep H0 w0 H' w' ∧ nx ≤ nx' ∧ K v H' nx' := by
  obtain ⟨e, size, bytes, n, m, c, xs, vs, xa, he, hsz, hby, ⟨z, hz, hzs⟩, hpos, hown, rfl, hrow, hone, hbytes, h63, hzero, hmore⟩ := h
  have hu := underlying_of_qElem he
  obtain ⟨i, hi, hi1, hi2, hi3⟩ := underlying_info hsz hby hz
  subst hi1
  rcases Nat.eq_zero_or_pos m with hm | hm
  · subst hm
    rcases hown.2 with ⟨rfl, rfl⟩ | ⟨b, cap, sp, rfl, hb, hnc, _, _⟩
    · exact ⟨_, w, H, nx, run_append_none w t ty e hu i.size hsz none 0 0 (Nat.le_refl _) xa c, hw, hk, Nat.le_refl _, hzero rfl⟩
    · exact ⟨_, w, H, nx, run_append_none w t ty e hu i.size hsz _ n cap hnc xa c, hw, hk, Nat.le_refl _, hzero rfl⟩
  · obtain ⟨hlen, hcells⟩ := hrow
    obtain ⟨xb, xoff, rfl, hcell⟩ := hcells (Nat.mul_pos hm hpos)
    have hnews : ∀ j u, vs[j]? = some u → w.cell? ((⟨xb, xoff, none⟩ : Addr).add j) = some u := fun j u hu => by
      rw [addr_add]; exact hw.rdc (hcell j u hu)
    have h1 : ∀ u ∈ vs, u.oneCell' = true := fun u hu => List.all_eq_true.1 hone u hu
    have hsmall : n + m ≤ 9223372036854775807 := by simp only [maxLen] at h63; omega
    have hmore := hmore hm
    rcases hown.2 with ⟨rfl, rfl⟩ | ⟨b, cap, sp, rfl, hb, hnc, hcap, hcl⟩
    · have hx : xs = [] := List.eq_nil_of_length_eq_zero (by simpa using hown.1)
      subst hx
      have hr := run_append_nil (P := P) w t ty e i z hu hi hi3 ⟨xb, xoff, none⟩ m c vs hlen hnews hm (by omega) (by rw [hi2]; have hb := hbytes; simp only [Nat.zero_add] at hb; omega)
      have hge := grownCap_ge w m 0 e
      have hle := grownCap_le_maxLen w m 0 e (by simpa using h63)
      have hR := (hw.drew).alloc (vs.toArray ++ Builtin.zeroCells z.cells (grownCap w m 0 e - m)) e
      have hK := (hk.drew).alloc (vs.toArray ++ Builtin.zeroCells z.cells (grownCap w m 0 e - m)) e (.rw (vs ++ (Builtin.zeroCells z.cells (grownCap w m 0 e - m)).toList) e)
      simp only [Array.toList_append] at hR
      have hsz2 := hw.size
      have hm2 := hmore w.heap.size (grownCap w m 0 e) (Builtin.zeroCells z.cells (grownCap w m 0 e - m)).toList (w.heap.size + 1) (.inr ⟨by show 0 < _; omega, hsz2⟩) (by omega) (by omega) (by omega) hle (by
        simp only [List.nil_append, List.length_append, Array.length_toList, size_zeroCells, hzs, hlen, ← Nat.add_mul]
        congr 1; omega)
      simp only [List.nil_append, Nat.zero_add] at hm2
      exact ⟨_, _, _, _, hr, hR, hK, by show nx ≤ w.heap.size + 1; omega, hm2⟩
    · by_cases hroom : n + m ≤ cap
      · have hg := hw.rw b _ e hb
        have hr := run_append_room (P := P) w t ty e i hu hi b n cap _ hg ⟨xb, xoff, none⟩ m c vs hlen hnews h1 hroom (by
          rw [hlen, List.size_toArray, hcl, ← Nat.add_mul]; exact Nat.mul_le_mul_right _ hroom)
        have hlen1 := hown.1
        have e1 : ((xs ++ sp).toArray.toList.take (n * i.size) ++ vs ++ (xs ++ sp).toArray.toList.drop (n * i.size + vs.length)) = (xs ++ vs) ++ sp.drop vs.length := by
          rw [← hlen1]
          simp [List.drop_append]
        rw [e1] at hr
        refine ⟨_, _, _, nx, hr, hw.setRow hb _, hk.setRow hb _, Nat.le_refl _, ?_⟩
        refine hmore b cap _ nx (.inl ⟨rfl, rfl⟩) (Nat.le_refl _) (hw.lt _ _ hb) hroom hcap ?_
        have := Nat.mul_le_mul_right i.size hroom
        simp only [List.length_append, List.length_drop] at hcl ⊢
        rw [Nat.add_mul] at this
        omega
      · have holds : ∀ j u, xs[j]? = some u → w.cell? ((⟨b, 0, none⟩ : Addr).add j) = some u := fun j u hu => by
          rw [addr_add]
          refine hw.rdc ?_
          have hj : j < xs.length := (List.getElem?_eq_some_iff.1 hu).1
          simp only [rd, hb, rdB, Nat.zero_add]
          rw [List.getElem?_append_left hj]
          exact hu
        have hr := run_append_grow (P := P) w t ty e i z hu hi hi3 ⟨b, 0, none⟩ n cap xs hown.1 holds ⟨xb, xoff, none⟩ m c vs hlen hnews (by omega) (by omega) (by rw [hi2]; exact growslice_fits (by omega) hbytes)
        have hge := grownCap_ge w (n + m) cap e
        have hle := grownCap_le_maxLen w (n + m) cap e h63
        have hR := (hw.drew).alloc (xs.toArray ++ vs.toArray ++ Builtin.zeroCells z.cells (grownCap w (n + m) cap e - (n + m))) e
        have hK := (hk.drew).alloc (xs.toArray ++ vs.toArray ++ Builtin.zeroCells z.cells (grownCap w (n + m) cap e - (n + m))) e (.rw ((xs ++ vs) ++ (Builtin.zeroCells z.cells (grownCap w (n + m) cap e - (n + m))).toList) e)
        simp only [Array.toList_append] at hR
        have hsz2 := hw.size
        have hm2 := hmore w.heap.size (grownCap w (n + m) cap e) (Builtin.zeroCells z.cells (grownCap w (n + m) cap e - (n + m))).toList (w.heap.size + 1) (.inr ⟨by show cap < _; omega, hsz2⟩) (by omega) (by omega) (by omega) hle (by
          simp only [List.length_append, Array.length_toList, size_zeroCells, hzs, hlen, hown.1, ← Nat.add_mul]
          congr 1; omega)
        exact ⟨_, _, _, _, hr, hR, hK, by show nx ≤ w.heap.size + 1; omega, hm2⟩

theorem run_append_grow_zeros {P : Program} (w : World) (t tn ty e : TypeId) (i : TypeInfo) (z : Value) (k kn : IntKind) (ht : P.underlying t = some (.slice e)) (htn : P.underlying tn = some (.int kn)) (hi : P.info? e = some i) (hz : i.zero = some z)
    (b : Addr) (sLen sCap n : Nat) (olds : List Value) (hlo : olds.length = sLen * i.size) (holds : ∀ j v, olds[j]? = some v → w.cell? (b.add j) = some v)
    (h0 : 0 < n) (hs : 0 < i.size) (hg : sCap < sLen + n) (h63 : ((sLen + n : Nat) : Int) ≤ 9223372036854775807) (hfit : Builtin.nextslicecap (sLen + n) sCap * i.bytes ≤ 281474976710656) (h48 : n * i.bytes ≤ 281474976710656) :
    (Builtin.append_ #[t, tn] ty #[.slice (some b) sLen sCap, .int k n]).run P w =
      .ok (.slice (some ⟨w.heap.size, 0, none⟩) (sLen + n) (grownCap w (sLen + n) sCap e))
        (w.drew.alloc (.cells (olds.toArray ++ Builtin.zeroCells z.cells n ++ Builtin.zeroCells z.cells (grownCap w (sLen + n) sCap e - (sLen + n))) e)) := by
  have hn : ¬ (sLen + n ≤ sCap) := by omega
  have h63' : ¬ (9223372036854775807 < ((sLen : Int) + (n : Int))) := by omega
  have h48' : ¬ (281474976710656 < Builtin.nextslicecap (sLen + n) sCap * i.bytes) := by omega
  have hfo := run_firstCells_some (P := P) w.drew i.size sLen b sLen sCap olds hlo (by simpa using holds)
  have hw : IntKind.i64.wrap (n : Int) = n := by rw [IntKind.wrap_i64]; omega
  have h48i : ¬ (281474976710656 < (n : Int) * (i.bytes : Int)) := by
    rw [← Int.natCast_mul]
    omega
  have hneg : ¬ ((n : Int) < 0) := by omega
  have hns : ¬ (n * i.size = 0) := Nat.mul_ne_zero (by omega) (by omega)
  have hne0 : ¬ n = 0 := by omega
  have hns0 : ¬ i.size = 0 := by omega
  simp [Builtin.append_, run_underlying ht, run_underlying htn, sizeOf, typeInfo, zeroValue, hi, hz, asInt, asIntOf, hw, hn, hneg, hns, hne0, hns0, h63', h48', h48i, Question.forced, hfo, newRow, grownCap]
theorem AppZK_sound {P : Program} {t ti ty : TypeId} {sv lv : Value} {K : Value → Hp → Nat → Prop} {H0 H : Hp} {nx : Nat} {w0 w : World} (hw : Rel H nx w) (hk : Keep H0 w0 H w) (h : AppZK P t ti sv lv K H nx) :
    ∃ v w' H' nx', (Builtin.append_ #[t, ti] ty #[sv, lv]).run P w = .ok v w' ∧ Rel H' nx' w' ∧ Keep H0 w0 H' w' ∧ nx ≤ nx' ∧ K v H' nx' := by
  obtain ⟨e, size, bytes, n, m, c, A, z, kl, ki, xs, he, hsz, hby, hz, hzs, hpos, hki, rfl, rfl, hm, hg, hnc, hnil, hrow, hbytes, h63, hmore⟩ := h
  have hu := underlying_of_qElem he
  have hui := underlying_of_qKind hki
  obtain ⟨i, hi, hi1, hi2, hi3⟩ := underlying_info hsz hby hz
  subst hi1
  have hsmall : n + m ≤ 9223372036854775807 := by simp only [maxLen] at h63; omega
  obtain ⟨hlen, hcells⟩ := hrow
  have holds : ∀ b, A = some b → ∀ j u, xs[j]? = some u → w.cell? (b.add j) = some u := fun b hb j u hu => by
    have hj : j < xs.length := (List.getElem?_eq_some_iff.1 hu).1
    obtain ⟨xb, xoff, e1, hcell⟩ := hcells (by omega)
    rw [hb] at e1
    cases e1
    rw [addr_add]; exact hw.rdc (hcell j u hu)
  have hmb : m * i.bytes ≤ 140737488355328 := Nat.le_trans (show m * i.bytes ≤ (n + m) * i.bytes from Nat.mul_le_mul_right _ (by omega)) (by rw [hi2]; exact hbytes)
  have hr : (Builtin.append_ #[t, ti] ty #[.slice A n c, .int kl m]).run P w =
      .ok (.slice (some ⟨w.heap.size, 0, none⟩) (n + m) (grownCap w (n + m) c e))
        (w.drew.alloc (.cells (xs.toArray ++ Builtin.zeroCells z.cells m ++ Builtin.zeroCells z.cells (grownCap w (n + m) c e - (n + m))) e)) := by
    cases A with
    | none =>
      have hc0 := hnil rfl
      subst hc0
      have hn0 : n = 0 := by omega
      subst hn0
      have hx0 : xs = [] := List.eq_nil_of_length_eq_zero (by omega)
      subst hx0
      have := Lib.run_append_nil_zeros (P := P) w t ti ty e i z kl ki hu hui hi hi3 m hm hpos (by omega) (by omega)
      simpa using this
    | some b => exact run_append_grow_zeros (P := P) w t ti ty e i z kl ki hu hui hi hi3 b n c m xs hlen (holds b rfl) hm hpos hg (by omega) (by rw [hi2]; exact growslice_fits (by omega) hbytes) (by omega)
  have hge := grownCap_ge w (n + m) c e
  have hle := grownCap_le_maxLen w (n + m) c e h63
  have hR := (hw.drew).alloc (xs.toArray ++ Builtin.zeroCells z.cells m ++ Builtin.zeroCells z.cells (grownCap w (n + m) c e - (n + m))) e
  have hK := (hk.drew).alloc (xs.toArray ++ Builtin.zeroCells z.cells m ++ Builtin.zeroCells z.cells (grownCap w (n + m) c e - (n + m))) e (.rw ((xs ++ (Builtin.zeroCells z.cells m).toList) ++ (Builtin.zeroCells z.cells (grownCap w (n + m) c e - (n + m))).toList) e)
  simp only [Array.toList_append] at hR
  have hsz2 := hw.size
  have e2 : mkRow z.cells (m * i.size) = (Builtin.zeroCells z.cells m).toList := by
    rw [← hzs]; rfl
  have hm2 := hmore w.heap.size (grownCap w (n + m) c e) (Builtin.zeroCells z.cells (grownCap w (n + m) c e - (n + m))).toList (w.heap.size + 1) hsz2 (by omega) (by omega) (by omega) hle (by
    rw [e2]
    simp only [List.length_append, Array.length_toList, size_zeroCells, hzs, hlen, ← Nat.add_mul]
    congr 1; omega)
  rw [e2] at hm2
  exact ⟨_, _, _, _, hr, hR, hK, by show nx ≤ w.heap.size + 1; omega, hm2⟩

theorem upd_self {H : Hp} {b : Nat} {o : Blk} (h : H b = some o) : upd H b o = H := by funext k; simp only [upd]; split <;> simp_all
theorem run_firstCells {P : Program} {H : Hp} {nx : Nat} {w : World} (hw : Rel H nx w) {A' : Option Addr} {size n sn sc : Nat} {vs : List Value} (h : isRow H A' (n * size) vs) :
    (Builtin.firstCells size n (.slice A' sn sc)).run P w = .ok vs.toArray w := by
  obtain ⟨hl, hc⟩ := h
  rcases Nat.eq_zero_or_pos (n * size) with h0 | h0
  · have hv : vs = [] := List.eq_nil_of_length_eq_zero (by omega)
    subst hv
    cases A' <;> simp [Builtin.firstCells, loadCells, loadCellsFrom, h0]
  · obtain ⟨b, off, rfl, hc2⟩ := hc h0
    have key : ∀ (m j : Nat) (us : List Value), us.length = m → (∀ i u, us[i]? = some u → rd H b (off + (j + i)) = some u) → rdN H b off j m = some us := by
      intro m
      induction m with
      | zero => intro j us hu _; have : us = [] := List.eq_nil_of_length_eq_zero hu; subst this; rfl
      | succ m ih =>
        intro j us hu hr
        cases us with
        | nil => simp at hu
        | cons u us =>
          have h1 := hr 0 u rfl
          have h2 := ih (j + 1) us (by simpa using hu) (fun i u' hu' => by have := hr (i + 1) u' (by simpa using hu'); rw [show j + 1 + i = j + (i + 1) by omega]; exact this)
          simp only [rdN]
          rw [show off + j = off + (j + 0) by omega, h1, h2]
    have := run_loadCellsFrom (P := P) hw (n * size) 0 vs #[] (key _ 0 vs hl (fun i u hu => by simpa using hc2 i u hu))
    simp [Builtin.firstCells, loadCells, this]
theorem CopyK_sound {P : Program} {t ty : TypeId} {dv sv : Value} {K : Value → Hp → Nat → Prop} {H0 H : Hp} {nx : Nat} {w0 w : World} (hw : Rel H nx w) (hk : Keep H0 w0 H w) (h : CopyK P t dv sv K H nx) :
    ∃ v w' H', (Builtin.copy_ #[t, t] ty #[dv, sv]).run P w = .ok v w' ∧ Rel H' nx w' ∧ Keep H0 w0 H' w' ∧ K v H' nx := by
  obtain ⟨e, size, n, dn, dc, sn, sc, A, A', vs, he, hsz, rfl, rfl, hn, hrow, hone, hz, hp⟩ := h
  have hu := underlying_of_qElem he
  have hf := run_firstCells (P := P) (sn := sn) (sc := sc) hw hrow
  subst hn
  have hlen := hrow.1
  rcases Nat.eq_zero_or_pos (min sn dn) with h0 | h0
  · have hv : vs = [] := List.eq_nil_of_length_eq_zero (by rw [hlen, h0]; simp)
    subst hv
    rw [h0] at hf
    refine ⟨_, w, H, ?_, hw, hk, hz h0⟩
    have h0' : sn.min dn = 0 := h0
    cases A <;> simp [Builtin.copy_, run_underlying hu, Builtin.lenOf, run_sizeOf hsz, h0', hf, storeCells, goInt]
  · obtain ⟨b, off, cs, ty', rfl, hb, hle, hK⟩ := hp h0
    obtain ⟨w', hr, hR, hKe⟩ := run_storeCells_rw (P := P) vs 0 (off := off) hw hk hb (by omega) hone
    refine ⟨_, w', _, ?_, hR, hKe, hK⟩
    have e0 : sn.min dn = min sn dn := rfl
    simp [Builtin.copy_, run_underlying hu, Builtin.lenOf, run_sizeOf hsz, e0, hf, hr, goInt]
theorem ClearK_sound {P : Program} {t ty : TypeId} {sv : Value} {K : Value → Hp → Nat → Prop} {H0 H : Hp} {nx : Nat} {w0 w : World} (hw : Rel H nx w) (hk : Keep H0 w0 H w) (h : ClearK P t sv K H nx) :
    ∃ v w' H', (Builtin.clear_ #[t] ty #[sv]).run P w = .ok v w' ∧ Rel H' nx w' ∧ Keep H0 w0 H' w' ∧ K v H' nx := by
  obtain ⟨e, n, c, A, z, he, hz, rfl, hone, h0, hp⟩ := h
  have hu := underlying_of_qElem he
  rcases Nat.eq_zero_or_pos n with hn | hn
  · subst hn
    refine ⟨_, w, H, ?_, hw, hk, h0 rfl⟩
    cases A <;> simp [Builtin.clear_, run_underlying hu]
  · obtain ⟨b, off, cs, ty', rfl, hb, hle, hK⟩ := hp hn
    have hone2 : (Builtin.zeroCells z.cells n).toList.all Value.oneCell' = true := by
      rw [List.all_eq_true] at hone ⊢
      intro x hx
      simp only [Builtin.zeroCells, Array.toList_map, Array.toList_range, List.mem_map, List.mem_range] at hx
      obtain ⟨i, hi, rfl⟩ := hx
      have hs : 0 < z.cells.size := by
        rcases Nat.eq_zero_or_pos z.cells.size with e0 | e0
        · rw [e0] at hi; simp at hi
        · exact e0
      have hm := Nat.mod_lt i hs
      rw [getElem!_pos z.cells _ hm]
      exact hone _ (by simp)
    have hln : (Builtin.zeroCells z.cells n).toList.length = n * z.cells.size := by simp [size_zeroCells]
    obtain ⟨w', hr, hR, hKe⟩ := run_storeCells_rw (P := P) (Builtin.zeroCells z.cells n).toList 0 (off := off) hw hk hb (by omega) hone2
    refine ⟨_, w', _, ?_, hR, hKe, hK⟩
    obtain ⟨n, rfl⟩ : ∃ m, n = m + 1 := ⟨n - 1, by omega⟩
    simp [Builtin.clear_, run_underlying hu, run_zeroValue hz, hr]

theorem run_callFunc {P : Program} {f : FuncId} (h : callable P f = true) (args : Array Value) (w : World) : (callFunc f args).run P w = .ok (.enter f args) w := by
  unfold callable at h
  split at h
  · rename_i fn hf
    simp only [Bool.and_eq_true, Bool.not_eq_true'] at h
    have h2 : fn.body.isNone = false := by cases hb : fn.body <;> simp_all
    have h1 : fn.name ≠ "runtime.NumGoroutine" := by simpa using h.1
    have h3 : fn.body ≠ none := by intro e; rw [e] at h2; simp at h2
    simp [callFunc, hf, h1, program, Sem.run, h3]
  · cases h

theorem WOp_sound {P : Program} {a : Act} {o : Oper} {K : Value → Hp → Nat → Prop} {H0 H : Hp} {nx : Nat} {w0 w : World} (hw : Rel H nx w) (hk : Keep H0 w0 H w) (h : WOp P o.op K (frOf a) H nx)
    {next : Act → World → Prop} {Q : Exit → Act → World → Prop}
    (hn : ∀ v H' nx' w', Rel H' nx' w' → Keep H0 w0 H' w' → nx ≤ nx' → K v H' nx' → next (a.put o.dst v) w') : o.wp P a w next Q := by
  have quiet : WV P (frOf a) H o.op (fun v => K v H nx) → o.wp P a w next Q := fun h => by
    obtain ⟨v, hv, hr⟩ := WV_sound (ev_frOf a) (nx := nx) h
    unfold Oper.wp
    rw [hr w hw]
    exact hn v H nx w hw hk (Nat.le_refl _) hv
  have he : ev (frOf a) = a.eval := funext (ev_frOf a)
  have hsz := hw.size
  unfold WOp at h
  rw [he] at h
  split at h
  · rename_i t ho
    split at h
    · rename_i z hz
      have := h w.heap.size hsz
      unfold Oper.wp execOp
      simp only [ho, Instr.alloc, newVar, newRow, newObj, Sem.run_bind, run_zeroValue hz, Result.andThen_ok, Sem.run_pure, Sem.run]
      exact hn _ _ _ _ (hw.alloc _ _) (hk.alloc _ _ _) (by omega) this
    · exact h.elim
  · rename_i t x ho
    have := h w.heap.size hsz
    unfold Oper.wp execOp
    simp only [ho, Instr.box, newVar, newRow, newObj, Sem.run_bind, Result.andThen_ok, Sem.run_pure, Sem.run]
    exact hn _ _ _ _ (hw.alloc _ _) (hk.alloc _ _ _) (by omega) this
  · rename_i t len parts ho
    split at h
    · rename_i e hel
      split at h
      · rename_i size z hs hz
        split at h
        · rename_i cells hf
          obtain ⟨hl, h⟩ := h
          have := h w.heap.size hsz
          have hl2 : ¬ len * size > 2 ^ 24 := by simp; omega
          unfold madeCells at hf
          unfold Oper.wp execOp
          simp only [ho, Instr.buildSlice, newRow, newObj, Sem.run_bind, run_underlying (underlying_of_qElem hel), run_sizeOf hs, Result.andThen_ok, if_neg hl2]
          by_cases h0 : len * size = 0
          · have e0 : (Array.range (len * size)) = #[] := by rw [h0]; rfl
            rw [e0] at hf
            simp only [h0, ↓reduceIte, Sem.run_pure]
            rw [show (Array.range 0 : Array Nat) = #[] from rfl]
            simp only [Array.map_empty] at hf ⊢
            rw [hf]
            exact hn _ _ _ _ (hw.alloc _ _) (hk.alloc _ _ _) (by omega) this
          · simp only [h0, ↓reduceIte, Sem.run_bind, run_zeroValue hz, Sem.run_pure, Result.andThen_ok]
            rw [hf]
            exact hn _ _ _ _ (hw.alloc _ _) (hk.alloc _ _ _) (by omega) this
        · exact h.elim
      · exact h.elim
    · exact h.elim
  · rename_i t l c ho
    split at h
    · rename_i kl l' kc c' e hl hc hel
      split at h
      · rename_i size z bytes hs hz hb
        obtain ⟨⟨h1, h2, h3, h4⟩, h⟩ := h
        obtain ⟨i, hi, hi1, hi2, hi3⟩ := underlying_info hs hb hz
        have := h w.heap.size hsz
        have hr := run_make (P := P) w t e i z (underlying_of_qElem hel) hi hi3 kl kc l' c' h1 h2 (by rw [hi2]; exact h3) h4
        unfold Oper.wp execOp
        simp only [ho, hl, hc, Sem.run_bind, hr, Result.andThen_ok, hi1]
        exact hn _ _ _ _ (hw.alloc _ _) (hk.alloc _ _ _) (by omega) this
      · exact h.elim
    · exact h.elim
  · rename_i t x y ho
    split at h
    · rename_i b off hx
      split at h
      · rename_i cs ty n hb hs
        obtain ⟨h1, h2, h3, h⟩ := h
        obtain ⟨w', hr, hR, hK⟩ := run_storeCells_rw (P := P) (a.eval y).cells.toList 0 (off := off) hw hk hb (by simp; omega) h3
        unfold Oper.wp execOp
        simp only [ho, Instr.storeAt, storeVar, hx, Instr.sureAddr, Sem.run_bind, Sem.run_pure, Result.andThen_ok, run_sizeOf hs, h1, ne_eq, not_true_eq_false, ↓reduceIte, hr]
        exact hn _ _ _ _ hR hK (Nat.le_refl _) h
      · exact h.elim
    · exact h.elim
  · rename_i c ho
    split at h
    · rename_i f hc
      split at h
      · rename_i g first cap hf
        unfold Oper.wp execOp
        simp only [ho, resolve, hc, hf, Deferred.ofValue, Sem.run_bind, Sem.run_pure, Result.andThen_ok, invoke]
        rcases h.2 w hw with ⟨hc1, hc2⟩ | ⟨_, v, hr, v', H', nx', e1, hR, hK, hnx, hv⟩
        · rw [run_callFunc hc1]
          refine hc2.mono ?_
          rintro e w' ⟨v, H', nx', rfl, hR, hK, hnx, hv⟩
          exact hn _ _ _ _ hR (hk.trans hK) hnx hv
        · rw [hr]
          cases e1
          exact hn _ _ _ _ hR (hk.trans hK) hnx hv
      · exact h.elim
    · rename_i hc
      split at h
      · rename_i s x t t' ha ht
        have ha' : c.args = #[s, x] := by rw [← Array.toList_inj]; simpa using ha
        split at h
        · rename_i htt
          subst htt
          have ht' : c.argTypes = #[t, t] := by rw [← Array.toList_inj]; simpa using ht
          obtain ⟨v, w', H', nx', hr, hR, hK, hnx, hv⟩ := AppK_sound (ty := o.type) hw hk h
          unfold Oper.wp execOp
          simp only [ho, resolve, hc, ha', ht', Sem.run_bind, Sem.run_pure, Result.andThen_ok, invoke, builtin, List.map_toArray, List.map_cons, List.map_nil, hr]
          exact hn _ _ _ _ hR hK hnx hv
        · have ht' : c.argTypes = #[t, t'] := by rw [← Array.toList_inj]; simpa using ht
          obtain ⟨v, w', H', nx', hr, hR, hK, hnx, hv⟩ := AppZK_sound (ty := o.type) hw hk h
          unfold Oper.wp execOp
          simp only [ho, resolve, hc, ha', ht', Sem.run_bind, Sem.run_pure, Result.andThen_ok, invoke, builtin, List.map_toArray, List.map_cons, List.map_nil, hr]
          exact hn _ _ _ _ hR hK hnx hv
      · exact h.elim
    · rename_i hc
      split at h
      · rename_i s x t t' ha ht
        obtain ⟨rfl, h⟩ := h
        have ha' : c.args = #[s, x] := by rw [← Array.toList_inj]; simpa using ha
        have ht' : c.argTypes = #[t, t] := by rw [← Array.toList_inj]; simpa using ht
        obtain ⟨v, w', H', hr, hR, hK, hv⟩ := CopyK_sound (ty := o.type) hw hk h
        unfold Oper.wp execOp
        simp only [ho, resolve, hc, ha', ht', Sem.run_bind, Sem.run_pure, Result.andThen_ok, invoke, builtin, List.map_toArray, List.map_cons, List.map_nil, hr]
        exact hn _ _ _ _ hR hK (Nat.le_refl _) hv
      · exact h.elim
    · rename_i hc
      split at h
      · rename_i s t ha ht
        have ha' : c.args = #[s] := by rw [← Array.toList_inj]; simpa using ha
        have ht' : c.argTypes = #[t] := by rw [← Array.toList_inj]; simpa using ht
        obtain ⟨v, w', H', hr, hR, hK, hv⟩ := ClearK_sound (ty := o.type) hw hk h
        unfold Oper.wp execOp
        simp only [ho, resolve, hc, ha', ht', Sem.run_bind, Sem.run_pure, Result.andThen_ok, invoke, builtin, List.map_toArray, List.map_cons, List.map_nil, hr]
        exact hn _ _ _ _ hR hK (Nat.le_refl _) hv
      · exact h.elim
    · rename_i hc1 hc2
      exact quiet h
  · exact quiet h

structure Ok (nt : Nat) (a : Act) : Prop where
  size : a.tmps.size = nt
  defers : a.defers = []
theorem Ok.put {nt : Nat} {a : Act} (h : Ok nt a) (d : Option Nat) (v : Value) : Ok nt (a.put d v) := ⟨(size_put a d v).trans h.size, (defers_put a d v).trans h.defers⟩

def dstOk (nt : Nat) (o : Oper) : Bool := o.dst.all (fun d => decide (d < nt))

theorem WO_sound {P : Program} {ops : Array Oper} {nt nx0 : Nat} {K : Fr → Hp → Nat → Prop} {Q : Exit → Act → World → Prop} {H0 : Hp} {w0 : World} (hops : ∀ o ∈ ops, dstOk nt o = true)
    (hQ : ∀ a H nx w, Ok nt a → Rel H nx w → Keep H0 w0 H w → nx0 ≤ nx → K (frOf a) H nx → Q .normal a w) : ∀ (l : List Oper) (a : Act) (H : Hp) (nx : Nat) (w : World), (∀ o ∈ l, dstOk nt o = true) →
    Ok nt a → Rel H nx w → Keep H0 w0 H w → nx0 ≤ nx → WO P ops l K (frOf a) H nx → wpList P ops Q l a w := by
  intro l
  induction l with
  | nil => intro a H nx w _ ha hw hk hn h; exact wpList_nil (hQ a H nx w ha hw hk hn h)
  | cons o rest ih =>
    intro a H nx w hl ha hw hk hn h
    have hd : ∀ v, frOf (a.put o.dst v) = fput (frOf a) o.dst v := fun v => frOf_put a o.dst v (by have := hl o (by simp); unfold dstOk at this; rw [ha.size]; exact this)
    have hrest : ∀ o ∈ rest, dstOk nt o = true := fun o ho => hl o (by simp [ho])
    unfold WO at h
    unfold wpList
    rw [gd_eq ops a o (fun o ho => by have := hops o ho; unfold dstOk at this; rw [ha.size]; exact this)]
    split
    · rename_i hg
      rw [if_pos hg] at h
      refine .inl (WOp_sound hw hk h fun v H' nx' w' hw' hk' hn' hv => ?_)
      rw [← hd] at hv
      exact ih _ _ _ _ hrest (ha.put _ _) hw' hk' (Nat.le_trans hn hn') hv
    · rename_i hg
      rw [if_neg hg, ← hd] at h
      exact ih _ _ _ _ hrest (ha.put _ _) hw hk hn h

theorem WOq_sound {P : Program} {a : Act} {o : Oper} {K : Value → Prop} {H0 H : Hp} {nx : Nat} {w0 : World} (h : WOq P o.op K (frOf a) H nx) :
    ∃ v, (∀ w, (Rel H nx w ∧ Keep H0 w0 H w) → o.quietAt P a (fun w' => Rel H nx w' ∧ Keep H0 w0 H w') w v) ∧ K v := by
  have quiet : WV P (frOf a) H o.op K → ∃ v, (∀ w, (Rel H nx w ∧ Keep H0 w0 H w) → o.quietAt P a (fun w' => Rel H nx w' ∧ Keep H0 w0 H w') w v) ∧ K v := fun h => by
    obtain ⟨v, hv, hr⟩ := WV_sound (ev_frOf a) (nx := nx) h
    refine ⟨v, fun w hw => ?_, hv⟩
    unfold Oper.quietAt
    rw [hr w hw.1]
    exact ⟨rfl, rfl⟩
  have he : ev (frOf a) = a.eval := funext (ev_frOf a)
  unfold WOq at h
  rw [he] at h
  split at h
  · rename_i c ho
    split at h
    · rename_i f hc
      split at h
      · rename_i g first cap hf
        obtain ⟨v, hpc, hv⟩ := h
        refine ⟨v, fun w hw => ?_, hv⟩
        unfold Oper.quietAt execOp
        simp only [ho, resolve, hc, hf, Deferred.ofValue, Sem.run_bind, Sem.run_pure, Result.andThen_ok, invoke]
        rcases hpc.2 w hw.1 with ⟨hc1, hc2⟩ | ⟨_, v2, hr, v', H', nx', e1, hR, hK, hnx, ⟨hv1, hs⟩⟩
        · rw [run_callFunc hc1]
          refine ⟨rfl, hc2.mono ?_⟩
          rintro e w' ⟨v', H', nx', rfl, hR, hK, hnx, ⟨rfl, hs⟩⟩
          exact ⟨rfl, hR.sub hnx hs hw.1.lt, hw.2.trans (hK.forget hs)⟩
        · rw [hr]
          cases e1
          subst hv1
          exact ⟨rfl, rfl⟩
      · exact h.elim
    · exact quiet h
  · exact quiet h

theorem WQ_sound {P : Program} {ops : Array Oper} {nt : Nat} {K : Fr → Prop} {H0 : Hp} {w0 : World} {H : Hp} {nx : Nat} (hops : ∀ o ∈ ops, dstOk nt o = true) {Q : Act → Prop}
    (hQ : ∀ a, Ok nt a → K (frOf a) → Q a) : ∀ (l : List Oper) (a : Act), (∀ o ∈ l, dstOk nt o = true) →
    Ok nt a → WQ P ops l K (frOf a) H nx → wpQuiet P ops (fun w' => Rel H nx w' ∧ Keep H0 w0 H w') Q l a := by
  intro l
  induction l with
  | nil => intro a _ ha h; exact hQ a ha h
  | cons o rest ih =>
    intro a hl ha h
    have hd : ∀ v, frOf (a.put o.dst v) = fput (frOf a) o.dst v := fun v => frOf_put a o.dst v (by have := hl o (by simp); unfold dstOk at this; rw [ha.size]; exact this)
    have hrest : ∀ o ∈ rest, dstOk nt o = true := fun o ho => hl o (by simp [ho])
    unfold WQ at h
    unfold wpQuiet
    rw [gd_eq ops a o (fun o ho => by have := hops o ho; unfold dstOk at this; rw [ha.size]; exact this)]
    split
    · rename_i hg
      rw [if_pos hg] at h
      obtain ⟨v, h1, h2⟩ := WOq_sound (H0 := H0) (w0 := w0) h
      rw [← hd] at h2
      exact ⟨v, h1, ih _ hrest (ha.put _ _) h2⟩
    · rename_i hg
      rw [if_neg hg, ← hd] at h
      exact ih _ hrest (ha.put _ _) h

theorem WV_pure {P : Program} {fr : Fr} {H : Hp} {op : Op} {K : Value → Prop} (hp : pureOp op = true) (h : WV P fr H op K) : WV P fr noKnown op K := by
  cases op <;> first
    | exact h
    | (simp [pureOp] at hp; done)
    | skip
  all_goals first
    | (rename_i t x lo hi mx; cases mx <;> first
       | (cases hi <;> exact h)
       | (simp [pureOp] at hp; done))
    | (rename_i u t x; cases u <;> exact h)
theorem rel_none (w : World) : Rel noKnown 0 w := ⟨Nat.zero_le _, fun b o h => (by cases h), fun b f i v h _ => (by cases h), fun b cs ty h => (by cases h)⟩
theorem WH_sound {P : Program} {ops : Array Oper} {nt : Nat} {K : Fr → Prop} {H0 : Hp} {w0 : World} {H : Hp} {nx : Nat} (hops : ∀ o ∈ ops, dstOk nt o = true) {Q : Act → Prop}
    (hQ : ∀ a, Ok nt a → K (frOf a) → Q a) : ∀ (l : List Nat) (a : Act),
    Ok nt a → WH P ops l K (frOf a) H → wpHi P ops (fun w' => Rel H nx w' ∧ Keep H0 w0 H w') Q l a := by
  intro l
  induction l with
  | nil => intro a ha h; exact hQ a ha h
  | cons i rest ih =>
    intro a ha h
    unfold WH at h
    unfold wpHi
    cases h0 : ops[i]? with
    | none => simp only [h0] at h
    | some o =>
      simp only [h0] at h ⊢
      have hm : o ∈ ops := Array.mem_of_getElem? h0
      have hd : ∀ v, frOf (a.put o.dst v) = fput (frOf a) o.dst v := fun v => frOf_put a o.dst v (by have := hops o hm; unfold dstOk at this; rw [ha.size]; exact this)
      rw [gd_eq ops a o (fun o ho => by have := hops o ho; unfold dstOk at this; rw [ha.size]; exact this)]
      split
      · rename_i hg
        rw [if_pos hg] at h
        cases hp : pureOp o.op
        · obtain ⟨v, h2, h1⟩ := WV_sound (ev_frOf a) (nx := nx) h
          rw [← hd] at h2
          exact ⟨v, fun w hw => by
            have hw : Rel H nx w ∧ Keep H0 w0 H w := by simpa using hw
            exact h1 w hw.1, ih _ (ha.put _ _) h2⟩
        · obtain ⟨v, h2, h1⟩ := WV_sound (ev_frOf a) (nx := 0) (WV_pure hp h)
          rw [← hd] at h2
          exact ⟨v, fun w _ => h1 w (rel_none w), ih _ (ha.put _ _) h2⟩
      · rename_i hg
        rw [if_neg hg, ← hd] at h
        exact ih _ (ha.put _ _) h

theorem WT_sound {P : Program} {ops : Array Oper} {nt nx0 nx1 : Nat} {need : Nat → Bool} {H1 : Hp} {K : Fr → Hp → Nat → Prop} {Q : Exit → Act → World → Prop} {H0 : Hp} {w0 : World} (hops : ∀ o ∈ ops, dstOk nt o = true) (hlt : ∀ b o, H1 b = some o → b < nx1)
    (hQ : ∀ a H nx w, Ok nt a → Rel H nx w → Keep H0 w0 H w → nx0 ≤ nx → K (frOf a) H nx → Q .normal a w) : ∀ (t : Tr) (a : Act) (H : Hp) (nx : Nat) (w : World),
    Ok nt a → Rel H nx w → Keep H0 w0 H w → nx0 ≤ nx → nx1 ≤ nx → WT P ops need H1 t K (frOf a) H nx → wpT P ops Q (fun w' => Rel H1 nx1 w' ∧ Keep H0 w0 H1 w') need t a w := by
  have step : ∀ (i : Nat) (t : Tr) (a : Act) (H : Hp) (nx : Nat) (w : World),
      (∀ (a : Act) (H : Hp) (nx : Nat) (w : World), Ok nt a → Rel H nx w → Keep H0 w0 H w → nx0 ≤ nx → nx1 ≤ nx → WT P ops need H1 t K (frOf a) H nx → wpT P ops Q (fun w' => Rel H1 nx1 w' ∧ Keep H0 w0 H1 w') need t a w) →
      Ok nt a → Rel H nx w → Keep H0 w0 H w → nx0 ≤ nx → nx1 ≤ nx →
      (match ops[i]? with
        | none => False
        | some o => if gd ops (frOf a) o = true then WOp P o.op (fun v H' nx' => sbs (need i) H1 H' ∧ WT P ops need H1 t K (fput (frOf a) o.dst v) H' nx') (frOf a) H nx else sbs (need i) H1 H ∧ WT P ops need H1 t K (fput (frOf a) o.dst undef) H nx) →
      wpOp P ops Q i (fun a' w' => (need i = true → Rel H1 nx1 w' ∧ Keep H0 w0 H1 w') ∧ wpT P ops Q (fun w' => Rel H1 nx1 w' ∧ Keep H0 w0 H1 w') need t a' w') a w := by
    intro i t a H nx w ih ha hw hk hn hn1 h
    unfold wpOp
    cases h0 : ops[i]? with
    | none => simp only [h0] at h
    | some o =>
      simp only [h0] at h ⊢
      have hm : o ∈ ops := Array.mem_of_getElem? h0
      have hd : ∀ v, frOf (a.put o.dst v) = fput (frOf a) o.dst v := fun v => frOf_put a o.dst v (by have := hops o hm; unfold dstOk at this; rw [ha.size]; exact this)
      rw [gd_eq ops a o (fun o ho => by have := hops o ho; unfold dstOk at this; rw [ha.size]; exact this)]
      split
      · rename_i hg
        rw [if_pos hg] at h
        refine .inl (WOp_sound hw hk h fun v H' nx' w' hw' hk' hn' hv => ⟨fun hnd => ⟨hw'.sub (by omega) (hv.1 hnd) hlt, hk'.forget (hv.1 hnd)⟩, ?_⟩)
        have hv2 := hv.2
        rw [← hd] at hv2
        exact ih _ _ _ _ (ha.put _ _) hw' hk' (Nat.le_trans hn hn') (Nat.le_trans hn1 hn') hv2
      · rename_i hg
        rw [if_neg hg, ← hd] at h
        exact ⟨fun hnd => ⟨hw.sub hn1 (h.1 hnd) hlt, hk.forget (h.1 hnd)⟩, ih _ _ _ _ (ha.put _ _) hw hk hn hn1 h.2⟩
  intro t
  induction t with
  | done => intro a H nx w ha hw hk hn hn1 h; exact hQ a H nx w ha hw hk hn h
  | one i t ih =>
    intro a H nx w ha hw hk hn hn1 h
    exact step i t a H nx w ih ha hw hk hn hn1 h
  | alt i t r iht ihr =>
    intro a H nx w ha hw hk hn hn1 h
    exact ⟨step i t a H nx w iht ha hw hk hn hn1 h.1, ihr a H nx w ha hw hk hn hn1 h.2⟩
  | now i t ih =>
    intro a H nx w ha hw hk hn hn1 h
    unfold WT at h
    unfold wpT
    cases h0 : ops[i]? with
    | none => simp only [h0] at h
    | some o =>
      simp only [h0] at h ⊢
      have hm : o ∈ ops := Array.mem_of_getElem? h0
      have hd : ∀ v, frOf (a.put o.dst v) = fput (frOf a) o.dst v := fun v => frOf_put a o.dst v (by have := hops o hm; unfold dstOk at this; rw [ha.size]; exact this)
      rw [gd_eq ops a o (fun o ho => by have := hops o ho; unfold dstOk at this; rw [ha.size]; exact this)]
      split
      · rename_i hg
        rw [if_pos hg] at h
        obtain ⟨v, h2, h1⟩ := WV_sound (ev_frOf a) (nx := 0) h
        rw [← hd] at h2
        exact ⟨v, fun w => h1 w (rel_none w), ih _ _ _ _ (ha.put _ _) hw hk hn hn1 h2⟩
      · rename_i hg
        rw [if_neg hg, ← hd] at h
        exact ih _ _ _ _ (ha.put _ _) hw hk hn hn1 h

/-- Q, but not at a panic. -/
def NP (Q : Exit → Act → World → Prop) : Exit → Act → World → Prop
  | .panic _, _, _ => False
  | e, a, w => Q e a w
theorem NP.imp {Q : Exit → Act → World → Prop} : ∀ (e : Exit) (a : Act) (w : World), NP Q e a w → Q e a w := fun e a w h => by
  cases e <;> first
    | exact h
    | exact (h : False).elim

theorem thn_then {nt nx0 : Nat} {H0 : Hp} {w0 : World} {K : Fr → Hp → Nat → Prop} {KR : Act → World → Prop} {QA : Exit → Fr → Hp → Nat → Prop} {QR : Exit → Act → World → Prop}
    (hK : ∀ a H nx w, Ok nt a → Rel H nx w → Keep H0 w0 H w → nx0 ≤ nx → K (frOf a) H nx → KR a w)
    (hQ : ∀ ex a H nx w, Ok nt a → Rel H nx w → Keep H0 w0 H w → nx0 ≤ nx → QA ex (frOf a) H nx → QR ex a w) :
    ∀ ex a H nx w, Ok nt a → Rel H nx w → Keep H0 w0 H w → nx0 ≤ nx → thn K QA ex (frOf a) H nx → Exit.then KR QR ex a w := by
  intro ex a H nx w ha hw hk hn h
  cases ex <;> first
    | exact hK a H nx w ha hw hk hn h
    | exact hQ _ a H nx w ha hw hk hn h

theorem W_sound {P : Program} (hm : P.follows .mixedOrders = true) {nt nx0 : Nat} {H0 : Hp} {w0 : World} : ∀ (c : Code), Code.fine nt c = true → ∀ (QA : Exit → Fr → Hp → Nat → Prop) (QR : Exit → Act → World → Prop),
    (∀ ex a H nx w, Ok nt a → Rel H nx w → Keep H0 w0 H w → nx0 ≤ nx → QA ex (frOf a) H nx → QR ex a w) →
    ∀ (a : Act) (H : Hp) (nx : Nat) (w : World), Ok nt a → Rel H nx w → Keep H0 w0 H w → nx0 ≤ nx → W P c QA (frOf a) H nx → c.wp P QR a w := by
  intro c
  induction c with
  | skip => intro _ QA QR hQ a H nx w ha hw hk hn h; exact wp_skip (hQ _ a H nx w ha hw hk hn h)
  | exit id => intro _ QA QR hQ a H nx w ha hw hk hn h; exact wp_exit (hQ _ a H nx w ha hw hk hn h)
  | ret => intro _ QA QR hQ a H nx w ha hw hk hn h; exact wp_ret (hQ _ a H nx w ha hw hk hn h)
  | seq x y ihx ihy =>
    intro hf QA QR hQ a H nx w ha hw hk hn h
    simp only [Code.fine, Bool.and_eq_true] at hf
    refine wp_seq (ihx hf.1 _ _ (thn_then (fun a' H' nx' w' ha' hw' hk' hn' h' => ?_) hQ) a H nx w ha hw hk hn h)
    exact ihy hf.2 QA QR hQ a' H' nx' w' ha' hw' hk' hn' h'
  | cond c x y ihx ihy =>
    intro hf QA QR hQ a H nx w ha hw hk hn h
    simp only [Code.fine, Bool.and_eq_true] at hf
    simp only [W] at h
    rw [ev_frOf] at h
    split at h
    · rename_i t ht
      refine wp_cond ht ?_
      cases t
      · exact ihy hf.2 QA QR hQ a H nx w ha hw hk hn (by simpa using h)
      · exact ihx hf.1 QA QR hQ a H nx w ha hw hk hn (by simpa using h)
    · exact h.elim
  | block id c ih =>
    intro hf QA QR hQ a H nx w ha hw hk hn h
    refine wp_block (ih hf _ _ (fun ex a' H' nx' w' ha' hw' hk' hn' h' => ?_) a H nx w ha hw hk hn h)
    cases ex <;> simp only [inB, Exit.inBlock] at h' ⊢
    case exit i =>
      split
      · rename_i e; rw [if_pos e] at h'; exact hQ _ a' H' nx' w' ha' hw' hk' hn' h'
      · rename_i e; rw [if_neg e] at h'; exact hQ _ a' H' nx' w' ha' hw' hk' hn' h'
    all_goals exact hQ _ a' H' nx' w' ha' hw' hk' hn' h'
  | loop c ih =>
    intro hf QA QR hQ a H nx w ha hw hk hn h
    obtain ⟨n, h⟩ := h
    have key : ∀ (n : Nat) (a : Act) (H : Hp) (nx : Nat) (w : World), Ok nt a → Rel H nx w → Keep H0 w0 H w → nx0 ≤ nx → Lp (W P c) QA n (frOf a) H nx → Code.rounds P c QR n a w := by
      intro n
      induction n with
      | zero => intro a H nx w _ _ _ _ h; exact h.elim
      | succ n ihn =>
        intro a H nx w ha hw hk hn h
        exact ih hf _ _ (thn_then (fun a' H' nx' w' ha' hw' hk' hn' h' => ihn a' H' nx' w' ha' hw' hk' hn' h') hQ) a H nx w ha hw hk hn (h hw.lt)
    exact wp_loop_rounds n (key n a H nx w ha hw hk hn h)
  | region id ops draw =>
    intro hf QA QR hQ a H nx w ha hw hk hn h
    simp only [Code.fine, Bool.and_eq_true] at hf
    have hops : ∀ o ∈ ops, dstOk nt o = true := fun o ho => Array.all_eq_true'.1 hf.1 o ho
    have hops' : ∀ o ∈ ops.toList, dstOk nt o = true := fun o ho => hops o (by simpa using ho)
    cases draw
    · simp only [W, Bool.false_eq_true, ↓reduceIte] at h
      exact wp_region_list (WO_sound hops (fun a' H' nx' w' ha' hw' hk' hn' h' => hQ _ a' H' nx' w' ha' hw' hk' hn' h') _ a H nx w hops' ha hw hk hn h)
    · simp only [W, ↓reduceIte] at h
      simp only [Bool.not_true, Bool.false_or] at hf
      split at h
      rotate_left
      · rename_i hd t hme
        simp only [hme] at hf
        obtain ⟨Hk, hsd, h⟩ := h hw.lt
        have hld : ∀ b o, Hk b = some o → b < nx := fun b o e => hw.lt b o (hsd b o e)
        refine Code.wp_mono NP.imp (wp_region_tree (S := fun w' => Rel Hk nx w' ∧ Keep H0 w0 Hk w') hm hf.2 ⟨(hw.drew).sub (Nat.le_refl _) hsd hld, (hk.drew).forget hsd⟩ (fun _ _ _ _ _ h => h) ?_)
        refine WH_sound hops (fun a' ha' h' => ?_) _ a ha h
        exact WT_sound (Q := NP QR) hops hld (fun a2 H2 nx2 w2 ha2 hw2 hk2 hn2 h2 => hQ _ a2 H2 nx2 w2 ha2 hw2 hk2 hn2 h2) t a' H nx w.drew ha' hw.drew hk.drew hn (Nat.le_refl _) h'
      rename_i hme
      simp only [hme] at hf
      refine wp_region_quiet (C := fun w' => Rel H nx w' ∧ Keep H0 w0 H w') hm hf.2 ⟨hw.drew, hk.drew⟩ ?_
      exact WQ_sound hops (fun a' ha' h' w' hw' => hQ _ a' H nx w' ha' hw'.1 hw'.2 hn h') _ a hops' ha h
  | rangeFunc _ _ _ _ _ _ => intro _ QA QR hQ a H nx w ha hw hk hn h; exact h.elim
  | scope _ _ => intro _ QA QR hQ a H nx w ha hw hk hn h; exact h.elim
  | label _ => intro _ QA QR hQ a H nx w ha hw hk hn h; exact h.elim
  | goto _ => intro _ QA QR hQ a H nx w ha hw hk hn h; exact h.elim
  | refuse _ => intro _ QA QR hQ a H nx w ha hw hk hn h; exact h.elim

/-- A result, read. -/
def rsv (P : Program) (H : Hp) (fr : Fr) : ResultVar → Option Value
  | .tmp t => some (fr t)
  | .cell a t => match fr a with
    | .pointer (some ⟨b, off, none⟩) => (match qAgg P t, qSize P t with
      | some true, some n => (rdN H b off 0 n).map fun vs => .agg vs.toArray
      | some false, _ => rd H b off
      | _, _ => none)
    | _ => none
def rsvs (P : Program) (H : Hp) (fr : Fr) : List ResultVar → Option (List Value)
  | [] => some []
  | r :: rs => match rsv P H fr r, rsvs P H fr rs with
    | some v, some vs => some (v :: vs)
    | _, _ => none
def oneOf : List Value → Value
  | [v] => v
  | vs => .tuple vs.toArray
def bodyK (P : Program) (rs : List ResultVar) (R : Value → Hp → Nat → Prop) : Exit → Fr → Hp → Nat → Prop
  | .normal => fun fr H nx => match rsvs P H fr rs with
    | some vs => R (oneOf vs) H nx
    | none => False
  | .ret => fun fr H nx => match rsvs P H fr rs with
    | some vs => R (oneOf vs) H nx
    | none => False
  | _ => fun _ _ _ => False
def bot : Fr := fun _ => undef
def fr0 (args : Array Value) : Fr := fun i => args.getD i undef

def rvSem (tmps : Array Value) : ResultVar → Sem Value
  | .tmp t => pure (tmps.getD t undef)
  | .cell ad t => do loadVar t (← asAddr (tmps.getD ad undef))
theorem run_rsv {P : Program} {H : Hp} {nx : Nat} {w : World} (hw : Rel H nx w) (a : Act) {r : ResultVar} {v : Value} (h : rsv P H (frOf a) r = some v) :
    (rvSem a.tmps r).run P w = .ok v w := by
  cases r with
  | tmp t => simp only [rsv, Option.some.injEq] at h; subst h; rfl
  | cell ad t =>
    simp only [rsv] at h
    split at h
    · rename_i b off hp
      have hp' : a.tmps.getD ad undef = .pointer (some ⟨b, off, none⟩) := hp
      split at h
      · rename_i n ha hs
        cases hv : rdN H b off 0 n with
        | none => rw [hv] at h; cases h
        | some vs =>
          rw [hv] at h
          simp only [Option.map_some, Option.some.injEq] at h
          subst h
          have := run_loadCellsFrom (P := P) hw n 0 vs #[] hv
          simp only [rvSem, hp', asAddr, Sem.run_bind, Sem.run_pure, Result.andThen_ok, loadVar, run_isAgg ha, ↓reduceIte, run_sizeOf hs, loadCells, this, Array.empty_append]
      · rename_i n ha
        have := hw.rdc h
        simp [rvSem, hp', asAddr, loadVar, run_isAgg ha, Go.load, Sem.run, this]
      · cases h
    · cases h
theorem run_rsvs {P : Program} {H : Hp} {nx : Nat} {w : World} (hw : Rel H nx w) (a : Act) : ∀ {rs : List ResultVar} {vs : List Value}, rsvs P H (frOf a) rs = some vs →
    (rs.mapM (rvSem a.tmps)).run P w = .ok vs w
  | [], vs, h => by simp only [rsvs, Option.some.injEq] at h; subst h; simp
  | r :: rs, vs, h => by
    simp only [rsvs] at h
    split at h
    · rename_i v vs' h1 h2
      simp only [Option.some.injEq] at h
      subst h
      have e1 := run_rsv hw a h1
      have e2 := run_rsvs hw a h2
      simp only [List.mapM_cons, Sem.run_bind, Sem.run_pure, e1, Result.andThen_ok, e2]
    · cases h
theorem results_eq (fn : Func) (tmps : Array Value) : results fn tmps = (do let vs ← fn.results.mapM (rvSem tmps); pure (if h : vs.size = 1 then vs[0] else .tuple vs)) := by
  unfold results
  congr 1
theorem run_results {P : Program} {fn : Func} {H : Hp} {nx : Nat} {w : World} (hw : Rel H nx w) (a : Act) {vs : List Value} (h : rsvs P H (frOf a) fn.results.toList = some vs) :
    (results fn a.tmps).run P w = .ok (oneOf vs) w := by
  have e := run_rsvs hw a h
  rw [results_eq, Sem.run_bind, Array.mapM_eq_mapM_toList]
  simp only [Sem.run_map, e, Result.andThen_ok, Sem.run_pure]
  congr 1
  match vs with
  | [] => rfl
  | [v] => rfl
  | v :: v' :: vs => simp [oneOf]

/-- A body's walk gives the call's contract. -/
theorem AC_of_W {P : Program} (hm : P.follows .mixedOrders = true) {f : FuncId} {fn : Func} {c : Code} {rs : List ResultVar} {args : Array Value} {H : Hp} {nx : Nat} {R : Value → Hp → Nat → Prop}
    (hf : P.funcs[f]? = some fn) (hc : callable P f = true) (hb : fn.body = some c) (hfine : Code.fine fn.ntmps c = true) (hr : fn.results.toList = rs) (ha : args.size ≤ fn.ntmps)
    (h : Bd H nx → W P c (bodyK P rs R) (fr0 args) H nx) : AC P f args H nx R := by
  refine ⟨trivial, fun w hw => .inl ⟨hc, calls_of_wp hf hb ?_⟩⟩
  have h := h hw.lt
  have hfr : frOf { tmps := args ++ Array.replicate (fn.ntmps - args.size) undef, defers := [] } = fr0 args := by
    funext i
    simp only [frOf, fr0, Array.getD_eq_getD_getElem?, Array.getElem?_append, Array.getElem?_replicate]
    by_cases hi : i < args.size
    · simp [hi]
    · simp only [hi, ↓reduceIte, Array.getElem?_eq_none (Nat.le_of_not_lt hi), Option.getD_none]
      split <;> rfl
  rw [← hfr] at h
  refine W_sound (nt := fn.ntmps) (nx0 := nx) (H0 := H) (w0 := w) hm c hfine _ _ ?_ _ H nx w ⟨by simp; omega, rfl⟩ hw (Keep.refl _ _) (Nat.le_refl _) h
  intro ex a H' nx' w' hok hw' hk' hn' hq
  cases ex <;> simp only [bodyK] at hq
  case normal =>
    split at hq
    · rename_i vs hvs
      rw [← hr] at hvs
      exact ⟨hok.defers, _, run_results hw' a hvs, _, H', nx', rfl, hw', hk', hn', hq⟩
    · exact hq.elim
  case ret =>
    split at hq
    · rename_i vs hvs
      rw [← hr] at hvs
      exact ⟨hok.defers, _, run_results hw' a hvs, _, H', nx', rfl, hw', hk', hn', hq⟩
    · exact hq.elim

/-! The text in short: edges struck, a guard names its slot. -/
structure Oc where
  dst : Option Nat
  op : Op
  g : Option (Nat × Bool)
/-- The rest of a region that draws, as a tree: at each step an operation, whether what was known must be known behind it. -/
inductive Tc where
  | done
  | one (nd : Bool) (o : Oc) (t : Tc)
  | alt (nd : Bool) (o : Oc) (t r : Tc)
  | now (o : Oc) (t : Tc)
  | bad
inductive Cd where
  | skip
  | seq (a b : Cd)
  | cond (c : Operand) (a b : Cd)
  | block (id : Nat) (c : Cd)
  | loop (c : Cd)
  | exit (id : Nat)
  | ret
  | reg (ops : List Oc)
  | regq (ops : List Oc)
  | regt (hd : List Oc) (t : Tc) (os : List Operand)
  | bad
def shortG (ops : Array Oper) : Option (Nat × Bool) → Option (Option (Nat × Bool))
  | none => some none
  | some (j, w) => match (ops[j]?).bind (·.dst) with
    | some t => some (some (t, w))
    | none => none
def shortO (ops : Array Oper) : List Oper → Option (List Oc)
  | [] => some []
  | o :: rest => match shortG ops o.guard, shortO ops rest with
    | some g, some r => some (⟨o.dst, o.op, g⟩ :: r)
    | _, _ => none
def shortI (ops : Array Oper) (i : Nat) : Option Oc := match ops[i]? with
  | none => none
  | some o => match shortG ops o.guard with
    | some g => some ⟨o.dst, o.op, g⟩
    | none => none
def shortH (ops : Array Oper) : List Nat → Option (List Oc)
  | [] => some []
  | i :: l => match shortI ops i, shortH ops l with
    | some o, some r => some (o :: r)
    | _, _ => none
def shortT (ops : Array Oper) (need : Nat → Bool) : Tr → Tc
  | .done => .done
  | .one i t => match shortI ops i with
    | some o => .one (need i) o (shortT ops need t)
    | none => .bad
  | .alt i t r => match shortI ops i with
    | some o => .alt (need i) o (shortT ops need t) (shortT ops need r)
    | none => .bad
  | .now i t => match shortI ops i with
    | some o => .now o (shortT ops need t)
    | none => .bad
def short : Code → Cd
  | .skip => .skip
  | .seq a b => .seq (short a) (short b)
  | .cond c a b => .cond c (short a) (short b)
  | .block id c => .block id (short c)
  | .loop c => .loop (short c)
  | .exit id => .exit id
  | .ret => .ret
  | .region _ ops draw => match shortO ops ops.toList with
    | some l => if draw = true then (match planOf ops with
      | none => .regq l
      | some (hd, t) => (match shortH ops hd with
        | some lh => .regt lh (shortT ops (needOf ops hd) t) (outs ops)
        | none => .bad)) else .reg l
    | none => .bad
  | _ => .bad
def gw : Bool → Bool → Bool
  | b, true => b
  | b, false => !b
def gdc (fr : Fr) : Option (Nat × Bool) → Bool
  | none => true
  | some (t, want) => match fr t with
    | .bool b => gw b want
    | _ => false
def gif (c : Bool) (A B : Unit → Prop) : Prop := if c = true then A () else B ()
theorem gif_t (A B : Unit → Prop) : gif true A B = A () := by simp [gif]
theorem gif_f (A B : Unit → Prop) : gif false A B = B () := by simp [gif]
theorem gif_not (c : Bool) (A B : Unit → Prop) : gif (!c) A B = gif c B A := by cases c <;> simp [gif]
theorem gif_split {c : Bool} {A B : Unit → Prop} (h1 : c = true → A ()) (h2 : c = false → B ()) : gif c A B := by cases c <;> simp_all [gif]
def VO (P : Program) : List Oc → (Fr → Hp → Nat → Prop) → Fr → Hp → Nat → Prop
  | [], K => K
  | o :: rest, K => fun fr H nx =>
    gif (gdc fr o.g) (fun _ => WOp P o.op (fun v H' nx' => VO P rest K (fput fr o.dst v) H' nx') fr H nx) (fun _ => VO P rest K (fput fr o.dst undef) H nx)
def VQ (P : Program) : List Oc → (Fr → Prop) → Fr → Hp → Nat → Prop
  | [], K => fun fr _ _ => K fr
  | o :: rest, K => fun fr H nx =>
    gif (gdc fr o.g) (fun _ => WOq P o.op (fun v => VQ P rest K (fput fr o.dst v) H nx) fr H nx) (fun _ => VQ P rest K (fput fr o.dst undef) H nx)
def VH (P : Program) : List Oc → (Fr → Prop) → Fr → Hp → Prop
  | [], K => fun fr _ => K fr
  | o :: rest, K => fun fr H => gif (gdc fr o.g) (fun _ => WV P fr H o.op (fun v => VH P rest K (fput fr o.dst v) H)) (fun _ => VH P rest K (fput fr o.dst undef) H)
def VT (P : Program) (H0 : Hp) : Tc → (Fr → Hp → Nat → Prop) → Fr → Hp → Nat → Prop
  | .done, K => K
  | .one nd o t, K => fun fr H nx =>
    gif (gdc fr o.g) (fun _ => WOp P o.op (fun v H' nx' => sbs nd H0 H' ∧ VT P H0 t K (fput fr o.dst v) H' nx') fr H nx) (fun _ => sbs nd H0 H ∧ VT P H0 t K (fput fr o.dst undef) H nx)
  | .alt nd o t r, K => fun fr H nx =>
    gif (gdc fr o.g) (fun _ => WOp P o.op (fun v H' nx' => sbs nd H0 H' ∧ VT P H0 t K (fput fr o.dst v) H' nx') fr H nx) (fun _ => sbs nd H0 H ∧ VT P H0 t K (fput fr o.dst undef) H nx) ∧ VT P H0 r K fr H nx
  | .now o t, K => fun fr H nx =>
    gif (gdc fr o.g) (fun _ => WV P fr noKnown o.op (fun v => VT P H0 t K (fput fr o.dst v) H nx)) (fun _ => VT P H0 t K (fput fr o.dst undef) H nx)
  | .bad, _ => fun _ _ _ => False
def V (P : Program) : Cd → (Exit → Fr → Hp → Nat → Prop) → Fr → Hp → Nat → Prop
  | .skip, Q => Q .normal
  | .seq a b, Q => V P a (thn (V P b Q) Q)
  | .cond c x y, Q => fun fr H nx => match ev fr c with
    | .bool t => gif t (fun _ => V P x Q fr H nx) (fun _ => V P y Q fr H nx)
    | _ => False
  | .block id c, Q => V P c (inB id Q)
  | .exit id, Q => Q (.exit id)
  | .ret, Q => Q .ret
  | .loop c, Q => fun fr H nx => ∃ n, Lp (V P c) Q n fr H nx
  | .reg ops, Q => VO P ops (Q .normal)
  | .regq ops, Q => fun fr H nx => VQ P ops (fun fr' => Q .normal fr' H nx) fr H nx
  | .regt hd t os, Q => fun fr H nx => Bd H nx → ∃ H0, Sub H0 H ∧ VH P hd (fun fr' => VT P H0 t (Q .normal) fr' H nx) fr H0
  | .bad, _ => fun _ _ _ => False
theorem gdc_eq {ops : Array Oper} {fr : Fr} {o : Oper} {g : Option (Nat × Bool)} (h : shortG ops o.guard = some g) : gd ops fr o = gdc fr g := by
  unfold gd
  cases hg : o.guard with
  | none => rw [hg] at h; simp only [shortG, Option.some.injEq] at h; subst h; rfl
  | some p =>
    obtain ⟨j, w⟩ := p
    rw [hg] at h
    simp only [shortG] at h ⊢
    split at h
    · rename_i t ht
      simp only [Option.some.injEq] at h
      subst h
      simp only [ht, gdc]
      cases fr t <;> try rfl
      rename_i b
      cases b <;> cases w <;> rfl
    · cases h
theorem VO_eq {P : Program} {ops : Array Oper} : ∀ (l : List Oper) (l' : List Oc), shortO ops l = some l' → ∀ K, VO P l' K = WO P ops l K
  | [], l', h, K => by simp only [shortO, Option.some.injEq] at h; subst h; rfl
  | o :: rest, l', h, K => by
    simp only [shortO] at h
    split at h
    · rename_i g r hg hr
      simp only [Option.some.injEq] at h
      subst h
      funext fr H nx
      simp only [VO, WO, VO_eq rest r hr, gdc_eq hg, gif]
    · cases h
theorem VQ_eq {P : Program} {ops : Array Oper} : ∀ (l : List Oper) (l' : List Oc), shortO ops l = some l' → ∀ K, VQ P l' K = WQ P ops l K
  | [], l', h, K => by simp only [shortO, Option.some.injEq] at h; subst h; rfl
  | o :: rest, l', h, K => by
    simp only [shortO] at h
    split at h
    · rename_i g r hg hr
      simp only [Option.some.injEq] at h
      subst h
      funext fr H nx
      simp only [VQ, WQ, VQ_eq rest r hr, gdc_eq hg, gif]
    · cases h
theorem shortI_some {ops : Array Oper} {i : Nat} {oc : Oc} (h : shortI ops i = some oc) : ∃ o, ops[i]? = some o ∧ shortG ops o.guard = some oc.g ∧ oc.dst = o.dst ∧ oc.op = o.op := by
  unfold shortI at h
  cases h0 : ops[i]? with
  | none => simp [h0] at h
  | some o =>
    simp only [h0] at h
    split at h
    · rename_i g hg
      simp only [Option.some.injEq] at h
      subst h
      exact ⟨o, rfl, hg, rfl, rfl⟩
    · cases h
theorem VH_eq {P : Program} {ops : Array Oper} : ∀ (l : List Nat) (l' : List Oc), shortH ops l = some l' → ∀ K, VH P l' K = WH P ops l K
  | [], l', h, K => by simp only [shortH, Option.some.injEq] at h; subst h; rfl
  | i :: rest, l', h, K => by
    simp only [shortH] at h
    split at h
    · rename_i oc r hg hr
      simp only [Option.some.injEq] at h
      subst h
      obtain ⟨o, h0, hg, hd, ho⟩ := shortI_some hg
      funext fr H
      simp only [VH, WH, VH_eq rest r hr, h0, gdc_eq hg, gif, hd, ho]
    · cases h
def Tc.fine : Tc → Bool
  | .done => true
  | .one _ _ t => fine t
  | .alt _ _ t r => fine t && fine r
  | .now _ t => fine t
  | .bad => false
theorem VT_eq {P : Program} {ops : Array Oper} {need : Nat → Bool} {H0 : Hp} : ∀ (t : Tr), (shortT ops need t).fine = true → ∀ K, VT P H0 (shortT ops need t) K = WT P ops need H0 t K
  | .done, _, K => rfl
  | .one i t, h, K => by
    cases hi : shortI ops i with
    | none => simp [shortT, hi, Tc.fine] at h
    | some oc =>
      simp only [shortT, hi, Tc.fine] at h ⊢
      obtain ⟨o, h0, hg, hd, ho⟩ := shortI_some hi
      funext fr H nx
      simp only [VT, WT, VT_eq t h, h0, gdc_eq hg, gif, hd, ho]
  | .alt i t r, h, K => by
    cases hi : shortI ops i with
    | none => simp [shortT, hi, Tc.fine] at h
    | some oc =>
      simp only [shortT, hi, Tc.fine, Bool.and_eq_true] at h ⊢
      obtain ⟨o, h0, hg, hd, ho⟩ := shortI_some hi
      funext fr H nx
      simp only [VT, WT, VT_eq t h.1, VT_eq r h.2, h0, gdc_eq hg, gif, hd, ho]
  | .now i t, h, K => by
    cases hi : shortI ops i with
    | none => simp [shortT, hi, Tc.fine] at h
    | some oc =>
      simp only [shortT, hi, Tc.fine] at h ⊢
      obtain ⟨o, h0, hg, hd, ho⟩ := shortI_some hi
      funext fr H nx
      simp only [VT, WT, VT_eq t h, h0, gdc_eq hg, gif, hd, ho]
def Cd.fine : Cd → Bool
  | .seq a b => fine a && fine b
  | .cond _ a b => fine a && fine b
  | .block _ c => fine c
  | .loop c => fine c
  | .regt _ t _ => t.fine
  | .bad => false
  | _ => true
theorem V_eq {P : Program} : ∀ (c : Code), (short c).fine = true → ∀ Q, V P (short c) Q = W P c Q
  | .skip, _, Q => rfl
  | .exit _, _, Q => rfl
  | .ret, _, Q => rfl
  | .seq a b, h, Q => by
    simp only [short, Cd.fine, Bool.and_eq_true] at h
    simp only [short, V, W, V_eq a h.1, V_eq b h.2]
  | .cond c a b, h, Q => by
    simp only [short, Cd.fine, Bool.and_eq_true] at h
    simp only [short, V, W, V_eq a h.1, V_eq b h.2, gif]
    try rfl
  | .block id c, h, Q => by
    simp only [short, Cd.fine] at h
    simp only [short, V, W, V_eq c h]
  | .loop c, h, Q => by
    simp only [short, Cd.fine] at h
    have e : V P (short c) = W P c := by funext Q; exact V_eq c h Q
    simp only [short, V, W, e]
  | .region id ops draw, h, Q => by
    simp only [short] at h ⊢
    cases hl : shortO ops ops.toList with
    | none => simp [hl, Cd.fine] at h
    | some l =>
      cases draw
      · simp only [Bool.false_eq_true, ↓reduceIte, V, W, VO_eq _ _ hl]
      · simp only [↓reduceIte, W]
        cases hme : planOf ops with
        | none => simp only [V, VQ_eq _ _ hl]
        | some p =>
          obtain ⟨hd, t⟩ := p
          simp only [hl, hme, ↓reduceIte] at h
          cases hh : shortH ops hd with
          | none => simp [hh, Cd.fine] at h
          | some lh =>
            simp only [hh, Cd.fine] at h
            simp only [hh, V, VH_eq _ _ hh, VT_eq _ h]
  | .rangeFunc _ _ _ _, h, Q => by simp [short, Cd.fine] at h
  | .scope _, h, Q => by simp [short, Cd.fine] at h
  | .label _, h, Q => by simp [short, Cd.fine] at h
  | .goto _, h, Q => by simp [short, Cd.fine] at h
  | .refuse _, h, Q => by simp [short, Cd.fine] at h

/-- All that is asked of a function's text, in one closed fact. -/
structure Txt (P : Program) (f : FuncId) (c : Cd) (rs : List ResultVar) (nargs : Nat) : Prop where
  mixed : P.follows .mixedOrders = true
  call : callable P f = true
  ex : ∃ fn code, P.funcs[f]? = some fn ∧ fn.body = some code ∧ Code.fine fn.ntmps code = true ∧ short code = c ∧ c.fine = true ∧ fn.results.toList = rs ∧ nargs ≤ fn.ntmps
theorem AC_of {P : Program} {f : FuncId} {c : Cd} {rs : List ResultVar} {n : Nat} (T : Txt P f c rs n) {args : Array Value} (ha : args.size = n) {H : Hp} {nx : Nat} {R : Value → Hp → Nat → Prop}
    (h : Bd H nx → V P c (bodyK P rs R) (fr0 args) H nx) : AC P f args H nx R := by
  obtain ⟨fn, code, hf, hb, hfine, rfl, hc, hr, hn⟩ := T.ex
  have h : Bd H nx → W P code (bodyK P rs R) (fr0 args) H nx := fun hB => by rw [← V_eq code hc]; exact h hB
  exact AC_of_W T.mixed hf T.call hb hfine hr (by omega) h

theorem Lp_rule {B : (Exit → Fr → Hp → Nat → Prop) → Fr → Hp → Nat → Prop} {Q : Exit → Fr → Hp → Nat → Prop} (I : Nat → Fr → Hp → Nat → Prop)
    (hs : ∀ (n : Nat) (K : Fr → Hp → Nat → Prop), (∀ fr H nx, I n fr H nx → K fr H nx) → ∀ fr H nx, I (n + 1) fr H nx → B (thn K Q) fr H nx)
    (h0 : ∀ fr H nx, ¬ I 0 fr H nx) {fr : Fr} {H : Hp} {nx : Nat} (n : Nat) (hI : I n fr H nx) : ∃ n, Lp B Q n fr H nx := by
  refine ⟨n, ?_⟩
  induction n generalizing fr H nx with
  | zero => exact (h0 _ _ _ hI).elim
  | succ n ih => exact fun _ => hs n _ (fun fr H nx h => ih h) fr H nx hI
theorem Lp_ruleB {B : (Exit → Fr → Hp → Nat → Prop) → Fr → Hp → Nat → Prop} {Q : Exit → Fr → Hp → Nat → Prop} (I : Nat → Fr → Hp → Nat → Prop)
    (hs : ∀ (n : Nat) (K : Fr → Hp → Nat → Prop), (∀ fr H nx, I n fr H nx → K fr H nx) → ∀ fr H nx, Bd H nx → I (n + 1) fr H nx → B (thn K Q) fr H nx)
    (h0 : ∀ fr H nx, ¬ I 0 fr H nx) {fr : Fr} {H : Hp} {nx : Nat} (n : Nat) (hI : I n fr H nx) : ∃ n, Lp B Q n fr H nx := by
  refine ⟨n, ?_⟩
  induction n generalizing fr H nx with
  | zero => exact (h0 _ _ _ hI).elim
  | succ n ih => exact fun hb => hs n _ (fun fr H nx h => ih h) fr H nx hb hI

/-! The rules, each at all its arguments; what follows stands behind names, so that simp does not run it before its time. -/
section
variable {P : Program} {H : Hp} {nx : Nat} {Q : Exit → Fr → Hp → Nat → Prop} {fr : Fr}
def LpE (P : Program) (c : Cd) (Q : Exit → Fr → Hp → Nat → Prop) (fr : Fr) (H : Hp) (nx : Nat) : Prop := ∃ n, Lp (V P c) Q n fr H nx
def thV (P : Program) (c : Cd) (Q : Exit → Fr → Hp → Nat → Prop) (fr : Fr) (H : Hp) (nx : Nat) (_ : Unit) : Prop := V P c Q fr H nx
def thO (P : Program) (l : List Oc) (K : Fr → Hp → Nat → Prop) (fr : Fr) (H : Hp) (nx : Nat) (_ : Unit) : Prop := VO P l K fr H nx
def thQ (P : Program) (l : List Oc) (K : Fr → Prop) (fr : Fr) (H : Hp) (nx : Nat) (_ : Unit) : Prop := VQ P l K fr H nx
def thW (P : Program) (d : Option Nat) (op : Op) (l : List Oc) (K : Fr → Hp → Nat → Prop) (fr : Fr) (H : Hp) (nx : Nat) (_ : Unit) : Prop := WOp P op (fun v H' nx' => VO P l K (fput fr d v) H' nx') fr H nx
def thU (P : Program) (d : Option Nat) (op : Op) (l : List Oc) (K : Fr → Prop) (fr : Fr) (H : Hp) (nx : Nat) (_ : Unit) : Prop := WOq P op (fun v => VQ P l K (fput fr d v) H nx) fr H nx
def goO (P : Program) (l : List Oc) (K : Fr → Hp → Nat → Prop) (fr : Fr) (d : Option Nat) (v : Value) (H : Hp) (nx : Nat) : Prop := VO P l K (fput fr d v) H nx
def goQ (P : Program) (l : List Oc) (K : Fr → Prop) (fr : Fr) (d : Option Nat) (H : Hp) (nx : Nat) (v : Value) : Prop := VQ P l K (fput fr d v) H nx
def enQ (Q : Exit → Fr → Hp → Nat → Prop) (H : Hp) (nx : Nat) (fr : Fr) : Prop := Q .normal fr H nx
def thH (P : Program) (d : Option Nat) (op : Op) (l : List Oc) (K : Fr → Prop) (fr : Fr) (H : Hp) (_ : Unit) : Prop := WV P fr H op (fun v => VH P l K (fput fr d v) H)
def thI (P : Program) (l : List Oc) (K : Fr → Prop) (fr : Fr) (H : Hp) (_ : Unit) : Prop := VH P l K fr H
def goH (P : Program) (l : List Oc) (K : Fr → Prop) (fr : Fr) (d : Option Nat) (H : Hp) (v : Value) : Prop := VH P l K (fput fr d v) H
def thE (P : Program) (H0 : Hp) (nd : Bool) (d : Option Nat) (op : Op) (t : Tc) (K : Fr → Hp → Nat → Prop) (fr : Fr) (H : Hp) (nx : Nat) (_ : Unit) : Prop := WOp P op (fun v H' nx' => sbs nd H0 H' ∧ VT P H0 t K (fput fr d v) H' nx') fr H nx
def thJ (P : Program) (H0 : Hp) (nd : Bool) (t : Tc) (K : Fr → Hp → Nat → Prop) (fr : Fr) (H : Hp) (nx : Nat) (_ : Unit) : Prop := sbs nd H0 H ∧ VT P H0 t K fr H nx
def thN (P : Program) (H0 : Hp) (d : Option Nat) (op : Op) (t : Tc) (K : Fr → Hp → Nat → Prop) (fr : Fr) (H : Hp) (nx : Nat) (_ : Unit) : Prop := WV P fr noKnown op (fun v => VT P H0 t K (fput fr d v) H nx)
def thM (P : Program) (H0 : Hp) (t : Tc) (K : Fr → Hp → Nat → Prop) (fr : Fr) (H : Hp) (nx : Nat) (_ : Unit) : Prop := VT P H0 t K fr H nx
def goN (P : Program) (H0 : Hp) (t : Tc) (K : Fr → Hp → Nat → Prop) (fr : Fr) (d : Option Nat) (H : Hp) (nx : Nat) (v : Value) : Prop := VT P H0 t K (fput fr d v) H nx
def goE (P : Program) (H0 : Hp) (nd : Bool) (t : Tc) (K : Fr → Hp → Nat → Prop) (fr : Fr) (d : Option Nat) (v : Value) (H : Hp) (nx : Nat) : Prop := sbs nd H0 H ∧ VT P H0 t K (fput fr d v) H nx
def enM (P : Program) (Q : Exit → Fr → Hp → Nat → Prop) (t : Tc) (Hs H : Hp) (nx : Nat) (fr : Fr) : Prop := VT P Hs t (Q .normal) fr H nx
/-- A region that draws its order: what is known of memory when its reads are made may be chosen. -/
def RgE (P : Program) (hd : List Oc) (t : Tc) (os : List Operand) (Q : Exit → Fr → Hp → Nat → Prop) (fr : Fr) (H : Hp) (nx : Nat) : Prop := Bd H nx → ∃ H0, Sub H0 H ∧ VH P hd (enM P Q t H0 H nx) fr H0
theorem V_regt (hd : List Oc) (t : Tc) (os : List Operand) : V P (.regt hd t os) Q fr H nx = RgE P hd t os Q fr H nx := of_eq_true (eq_self _)
theorem RgE_i {hd : List Oc} {t : Tc} {os : List Operand} (h : Bd H nx → VH P hd (enM P Q t (dels os fr H) H nx) fr (dels os fr H)) : RgE P hd t os Q fr H nx := fun hB => ⟨_, sub_dels _ _ _, h hB⟩
/-- What is known ahead may be chosen. -/
theorem RgE_w {hd : List Oc} {t : Tc} {os : List Operand} {H0 : Hp} (hs : Sub H0 H) (h : Bd H nx → VH P hd (enM P Q t H0 H nx) fr H0) : RgE P hd t os Q fr H nx := fun hB => ⟨_, hs, h hB⟩
/-- What a pointer's callee may change is forgotten ahead. -/
theorem RgE_del {hd : List Oc} {t : Tc} {os : List Operand} (b : Nat) (h : Bd H nx → VH P hd (enM P Q t (del (dels os fr H) b) H nx) fr (del (dels os fr H) b)) : RgE P hd t os Q fr H nx := fun hB => ⟨_, (sub_del _ _).trans (sub_dels _ _ _), h hB⟩
theorem dels_nil : dels [] fr H = H := of_eq_true (eq_self _)
theorem dels_cons (x : Operand) (l : List Operand) : dels (x :: l) fr H = (match ev fr x with
    | .pointer (some a) => dels l fr (del H a.block)
    | _ => dels l fr H) := of_eq_true (eq_self _)
theorem VH_nil {K : Fr → Prop} : VH P [] K fr H = K fr := of_eq_true (eq_self _)
theorem VH_cons {K : Fr → Prop} (d : Option Nat) (op : Op) (g : Option (Nat × Bool)) (l : List Oc) : VH P (⟨d, op, g⟩ :: l) K fr H = gif (gdc fr g) (thH P d op l K fr H) (thI P l K (fput fr d undef) H) := of_eq_true (eq_self _)
theorem thH_r (d : Option Nat) (op : Op) (l : List Oc) (K : Fr → Prop) : thH P d op l K fr H () = WV P fr H op (goH P l K fr d H) := of_eq_true (eq_self _)
theorem thI_r (l : List Oc) (K : Fr → Prop) : thI P l K fr H () = VH P l K fr H := of_eq_true (eq_self _)
theorem goH_r (l : List Oc) (K : Fr → Prop) (d : Option Nat) (v : Value) : goH P l K fr d H v = VH P l K (fput fr d v) H := of_eq_true (eq_self _)
theorem enM_r (t : Tc) (Hs : Hp) : enM P Q t Hs H nx fr = VT P Hs t (Q .normal) fr H nx := of_eq_true (eq_self _)
theorem VT_done {H0 : Hp} {K : Fr → Hp → Nat → Prop} : VT P H0 .done K fr H nx = K fr H nx := of_eq_true (eq_self _)
theorem VT_one {H0 : Hp} {K : Fr → Hp → Nat → Prop} (nd : Bool) (d : Option Nat) (op : Op) (g : Option (Nat × Bool)) (t : Tc) : VT P H0 (.one nd ⟨d, op, g⟩ t) K fr H nx = gif (gdc fr g) (thE P H0 nd d op t K fr H nx) (thJ P H0 nd t K (fput fr d undef) H nx) := of_eq_true (eq_self _)
theorem VT_alt {H0 : Hp} {K : Fr → Hp → Nat → Prop} (nd : Bool) (d : Option Nat) (op : Op) (g : Option (Nat × Bool)) (t r : Tc) : VT P H0 (.alt nd ⟨d, op, g⟩ t r) K fr H nx = (gif (gdc fr g) (thE P H0 nd d op t K fr H nx) (thJ P H0 nd t K (fput fr d undef) H nx) ∧ VT P H0 r K fr H nx) := of_eq_true (eq_self _)
theorem VT_now {H0 : Hp} {K : Fr → Hp → Nat → Prop} (d : Option Nat) (op : Op) (g : Option (Nat × Bool)) (t : Tc) : VT P H0 (.now ⟨d, op, g⟩ t) K fr H nx = gif (gdc fr g) (thN P H0 d op t K fr H nx) (thM P H0 t K (fput fr d undef) H nx) := of_eq_true (eq_self _)
theorem thN_r {H0 : Hp} (d : Option Nat) (op : Op) (t : Tc) (K : Fr → Hp → Nat → Prop) : thN P H0 d op t K fr H nx () = WV P fr noKnown op (goN P H0 t K fr d H nx) := of_eq_true (eq_self _)
theorem thM_r {H0 : Hp} (t : Tc) (K : Fr → Hp → Nat → Prop) : thM P H0 t K fr H nx () = VT P H0 t K fr H nx := of_eq_true (eq_self _)
theorem goN_r {H0 : Hp} (t : Tc) (K : Fr → Hp → Nat → Prop) (d : Option Nat) (v : Value) : goN P H0 t K fr d H nx v = VT P H0 t K (fput fr d v) H nx := of_eq_true (eq_self _)
theorem thE_r {H0 : Hp} (nd : Bool) (d : Option Nat) (op : Op) (t : Tc) (K : Fr → Hp → Nat → Prop) : thE P H0 nd d op t K fr H nx () = WOp P op (goE P H0 nd t K fr d) fr H nx := of_eq_true (eq_self _)
theorem thJ_r {H0 : Hp} (nd : Bool) (t : Tc) (K : Fr → Hp → Nat → Prop) : thJ P H0 nd t K fr H nx () = (sbs nd H0 H ∧ VT P H0 t K fr H nx) := of_eq_true (eq_self _)
theorem goE_r {H0 : Hp} (nd : Bool) (t : Tc) (K : Fr → Hp → Nat → Prop) (d : Option Nat) (v : Value) : goE P H0 nd t K fr d v H nx = (sbs nd H0 H ∧ VT P H0 t K (fput fr d v) H nx) := of_eq_true (eq_self _)
theorem sbs_t (H H' : Hp) : sbs true H H' = Sub H H' := by simp [sbs]
theorem sbs_f (H H' : Hp) : sbs false H H' = True := by simp [sbs]
theorem V_skip : V P .skip Q fr H nx = Q .normal fr H nx := of_eq_true (eq_self _)
theorem V_ret : V P .ret Q fr H nx = Q .ret fr H nx := of_eq_true (eq_self _)
theorem V_exit (id : Nat) : V P (.exit id) Q fr H nx = Q (.exit id) fr H nx := of_eq_true (eq_self _)
theorem V_seq (a b : Cd) : V P (.seq a b) Q fr H nx = V P a (thn (V P b Q) Q) fr H nx := of_eq_true (eq_self _)
theorem V_block (id : Nat) (c : Cd) : V P (.block id c) Q fr H nx = V P c (inB id Q) fr H nx := of_eq_true (eq_self _)
theorem V_loop (c : Cd) : V P (.loop c) Q fr H nx = LpE P c Q fr H nx := of_eq_true (eq_self _)
theorem V_reg (l : List Oc) : V P (.reg l) Q fr H nx = VO P l (Q .normal) fr H nx := of_eq_true (eq_self _)
theorem V_regq (l : List Oc) : V P (.regq l) Q fr H nx = VQ P l (enQ Q H nx) fr H nx := of_eq_true (eq_self _)
theorem V_cond (c : Operand) (x y : Cd) : V P (.cond c x y) Q fr H nx = (match ev fr c with
    | .bool t => gif t (thV P x Q fr H nx) (thV P y Q fr H nx)
    | _ => False) := of_eq_true (eq_self _)
theorem VO_nil {K : Fr → Hp → Nat → Prop} : VO P [] K fr H nx = K fr H nx := of_eq_true (eq_self _)
theorem VO_cons {K : Fr → Hp → Nat → Prop} (d : Option Nat) (op : Op) (g : Option (Nat × Bool)) (l : List Oc) : VO P (⟨d, op, g⟩ :: l) K fr H nx =
    gif (gdc fr g) (thW P d op l K fr H nx) (thO P l K (fput fr d undef) H nx) := of_eq_true (eq_self _)
theorem VQ_nil {K : Fr → Prop} : VQ P [] K fr H nx = K fr := of_eq_true (eq_self _)
theorem VQ_cons {K : Fr → Prop} (d : Option Nat) (op : Op) (g : Option (Nat × Bool)) (l : List Oc) : VQ P (⟨d, op, g⟩ :: l) K fr H nx =
    gif (gdc fr g) (thU P d op l K fr H nx) (thQ P l K (fput fr d undef) H nx) := of_eq_true (eq_self _)
theorem enQ_r : enQ Q H nx fr = Q .normal fr H nx := of_eq_true (eq_self _)
theorem thV_r (c : Cd) : thV P c Q fr H nx () = V P c Q fr H nx := of_eq_true (eq_self _)
theorem thO_r (l : List Oc) (K : Fr → Hp → Nat → Prop) : thO P l K fr H nx () = VO P l K fr H nx := of_eq_true (eq_self _)
theorem thQ_r (l : List Oc) (K : Fr → Prop) : thQ P l K fr H nx () = VQ P l K fr H nx := of_eq_true (eq_self _)
theorem thW_r (d : Option Nat) (op : Op) (l : List Oc) (K : Fr → Hp → Nat → Prop) : thW P d op l K fr H nx () = WOp P op (goO P l K fr d) fr H nx := of_eq_true (eq_self _)
theorem thU_r (d : Option Nat) (op : Op) (l : List Oc) (K : Fr → Prop) : thU P d op l K fr H nx () = WOq P op (goQ P l K fr d H nx) fr H nx := of_eq_true (eq_self _)
theorem goO_r (l : List Oc) (K : Fr → Hp → Nat → Prop) (d : Option Nat) (v : Value) : goO P l K fr d v H nx = VO P l K (fput fr d v) H nx := of_eq_true (eq_self _)
theorem goQ_r (l : List Oc) (K : Fr → Prop) (d : Option Nat) (v : Value) : goQ P l K fr d H nx v = VQ P l K (fput fr d v) H nx := of_eq_true (eq_self _)
theorem thn_normal (K : Fr → Hp → Nat → Prop) : thn K Q .normal fr H nx = K fr H nx := of_eq_true (eq_self _)
theorem thn_exit (K : Fr → Hp → Nat → Prop) (i : Nat) : thn K Q (.exit i) fr H nx = Q (.exit i) fr H nx := of_eq_true (eq_self _)
theorem thn_ret (K : Fr → Hp → Nat → Prop) : thn K Q .ret fr H nx = Q .ret fr H nx := of_eq_true (eq_self _)
theorem inB_normal (i : Nat) : inB i Q .normal fr H nx = Q .normal fr H nx := of_eq_true (eq_self _)
theorem inB_ret (i : Nat) : inB i Q .ret fr H nx = Q .ret fr H nx := of_eq_true (eq_self _)
theorem inB_exit_same (i : Nat) : inB i Q (.exit i) fr H nx = Q .normal fr H nx := by simp [inB]
theorem inB_exit (i j : Nat) (h : j ≠ i) : inB i Q (.exit j) fr H nx = Q (.exit j) fr H nx := by simp [inB, h]
def rK (R : Value → Hp → Nat → Prop) (H : Hp) (nx : Nat) : Option (List Value) → Prop
  | some vs => R (oneOf vs) H nx
  | none => False
theorem bodyK_normal (rs : List ResultVar) (R : Value → Hp → Nat → Prop) : bodyK P rs R .normal fr H nx = rK R H nx (rsvs P H fr rs) := of_eq_true (eq_self _)
theorem bodyK_ret (rs : List ResultVar) (R : Value → Hp → Nat → Prop) : bodyK P rs R .ret fr H nx = rK R H nx (rsvs P H fr rs) := of_eq_true (eq_self _)
theorem rK_some (R : Value → Hp → Nat → Prop) (vs : List Value) : rK R H nx (some vs) = R (oneOf vs) H nx := of_eq_true (eq_self _)
theorem noH_r (K : Value → Hp → Nat → Prop) (v : Value) : noH K H nx v = K v H nx := of_eq_true (eq_self _)
theorem nbP_r (K : Value → Hp → Nat → Prop) (cs : List Value) (ty : TypeId) (b : Nat) : nbP K H cs ty b = K (.pointer (some ⟨b, 0, none⟩)) (upd H b (.rw cs ty)) (b + 1) := of_eq_true (eq_self _)
theorem nbS_r (K : Value → Hp → Nat → Prop) (cs : List Value) (ty : TypeId) (l c b : Nat) : nbS K H cs ty l c b = K (.slice (some ⟨b, 0, none⟩) l c) (upd H b (.rw cs ty)) (b + 1) := of_eq_true (eq_self _)
end

theorem wrap_in {x : Int} (h1 : -9223372036854775808 ≤ x) (h2 : x ≤ 9223372036854775807) : IntKind.i64.wrap x = x := by rw [IntKind.wrap_i64]; omega
theorem fr0_1 (a : Value) : fr0 #[a] = fset bot 0 a := by
  funext i; simp only [fr0, fset, bot]; match i with
  | 0 => rfl
  | i + 1 => simp
theorem fr0_0 : fr0 #[] = bot := by funext i; simp [fr0, bot]
theorem fr0_2 (a b : Value) : fr0 #[a, b] = fset (fset bot 0 a) 1 b := by
  funext i; simp only [fr0, fset, bot]; match i with
  | 0 => rfl
  | 1 => rfl
  | i + 2 => simp
theorem fr0_3 (a b c : Value) : fr0 #[a, b, c] = fset (fset (fset bot 0 a) 1 b) 2 c := by
  funext i; simp only [fr0, fset, bot]; match i with
  | 0 => rfl
  | 1 => rfl
  | 2 => rfl
  | i + 3 => simp
theorem fr0_4 (a b c d : Value) : fr0 #[a, b, c, d] = fset (fset (fset (fset bot 0 a) 1 b) 2 c) 3 d := by
  funext i; simp only [fr0, fset, bot]; match i with
  | 0 => rfl
  | 1 => rfl
  | 2 => rfl
  | 3 => rfl
  | i + 4 => simp
theorem rd_upd_same (H : Hp) (b : Nat) (o : Blk) (i : Nat) : rd (upd H b o) b i = rdB (some o) i := by simp [rd, upd]
theorem rd_upd_ne {H : Hp} {b b' : Nat} {o : Blk} {i : Nat} (h : b' ≠ b) : rd (upd H b o) b' i = rd H b' i := by simp [rd, upd, h]
theorem rd_del_ne {H : Hp} {b b' i : Nat} (h : b' ≠ b) : rd (del H b) b' i = rd H b' i := by simp [rd, del, h]
theorem sub_del_upd {H H' : Hp} {b : Nat} {o : Blk} (h : Sub H H') : Sub (del H b) (upd H' b o) := fun k o' e => by
  unfold del at e
  split at e
  · cases e
  · rename_i hk; rw [show upd H' b o k = H' k by simp [upd, hk]]; exact h k o' e
theorem rd_ro {H : Hp} {b : Nat} {f : Nat → Option Value} (h : H b = some (.ro f)) (i : Nat) : rd H b i = f i := by simp [rd, h, rdB]
theorem rd_rw {H : Hp} {b : Nat} {cs : List Value} {ty : TypeId} (h : H b = some (.rw cs ty)) (i : Nat) : rd H b i = cs[i]? := by simp [rd, h, rdB]
theorem rdB_rw (cs : List Value) (ty : TypeId) (i : Nat) : rdB (some (.rw cs ty)) i = cs[i]? := of_eq_true (eq_self _)
theorem upd_ne {H : Hp} {b b' : Nat} {o : Blk} (h : b' ≠ b) : upd H b o b' = H b' := by simp [upd, h]
theorem sub_upd {H0 H : Hp} {b : Nat} {o : Blk} (h : Sub H0 H) (hb : H0 b = none) : Sub H0 (upd H b o) := fun k o' e => by
  unfold upd
  split
  · rename_i e'; subst e'; rw [hb] at e; cases e
  · exact h k o' e
theorem newB_i {nx : Nat} {F : Nat → Prop} (h : ∀ b, nx ≤ b → F b) : newB nx F := h
theorem fset_get (fr : Fr) (d : Nat) (v : Value) (i : Nat) : fset fr d v i = if i = d then v else fr i := of_eq_true (eq_self _)
theorem fput_some (fr : Fr) (d : Nat) (v : Value) : fput fr (some d) v = fset fr d v := of_eq_true (eq_self _)
theorem fput_none (fr : Fr) (v : Value) : fput fr none v = fr := of_eq_true (eq_self _)
theorem ev_tmp (fr : Fr) (t : Nat) : ev fr (.tmp t) = fr t := of_eq_true (eq_self _)
theorem ev_const (fr : Fr) (v : Value) : ev fr (.const v) = v := of_eq_true (eq_self _)
theorem ev_func (fr : Fr) (f : Nat) : ev fr (.func f) = .func (.func f) #[] #[] := of_eq_true (eq_self _)
theorem Is_i {v : Value} {H H' : Hp} {nx : Nat} (h : Sub H H') : Is v H v H' nx := ⟨rfl, h⟩
theorem Is_e {v v' : Value} {H H' : Hp} {nx : Nat} (e : v' = v) (h : Sub H H') : Is v H v' H' nx := ⟨e, h⟩
theorem QC_i {P : Program} {f : FuncId} {args : Array Value} {H : Hp} {nx : Nat} {K : Value → Prop} {v : Value} (h : PC P f args H nx v) (k : K v) : QC P f args H nx K := ⟨v, h, k⟩
theorem sub_up {H H' : Hp} {nx b : Nat} {o : Blk} (hb : nx ≤ b) (hB : Bd H nx) (hs : Sub H H') : Sub H (upd H' b o) := fun k o' e => by
  have := hB k o' e
  rw [upd_ne (by omega)]
  exact hs k o' e
theorem rd_lt {H : Hp} {nx b i : Nat} {v : Value} (hB : Bd H nx) (h : rd H b i = some v) : b < nx := by
  unfold rd at h
  cases hb : H b with
  | none => rw [hb] at h; cases h
  | some o => exact hB b o hb
theorem rd_sub {H H' : Hp} {b i : Nat} {v : Value} (hs : Sub H H') (h : rd H b i = some v) : rd H' b i = some v := by
  unfold rd at h ⊢
  cases hb : H b with
  | none => rw [hb] at h; cases h
  | some o => rw [hs b o hb]; rw [hb] at h; exact h
theorem toNat_pred (k : Nat) : ((k : Int) - 1).toNat = k - 1 := by omega
theorem toNat_succ (k : Nat) : ((k : Int) + 1).toNat = k + 1 := by omega
theorem LpE_rule {P : Program} {c : Cd} {Q : Exit → Fr → Hp → Nat → Prop} (I : Nat → Fr → Hp → Nat → Prop)
    (hs : ∀ (n : Nat) (K : Fr → Hp → Nat → Prop), (∀ fr H nx, I n fr H nx → K fr H nx) → ∀ fr H nx, I (n + 1) fr H nx → V P c (thn K Q) fr H nx)
    (h0 : ∀ fr H nx, ¬ I 0 fr H nx) {fr : Fr} {H : Hp} {nx : Nat} (n : Nat) (hI : I n fr H nx) : LpE P c Q fr H nx := Lp_rule I hs h0 n hI
theorem LpB_rule {P : Program} {c : Cd} {Q : Exit → Fr → Hp → Nat → Prop} (I : Nat → Fr → Hp → Nat → Prop)
    (hs : ∀ (n : Nat) (K : Fr → Hp → Nat → Prop), (∀ fr H nx, I n fr H nx → K fr H nx) → ∀ fr H nx, Bd H nx → I (n + 1) fr H nx → V P c (thn K Q) fr H nx)
    (h0 : ∀ fr H nx, ¬ I 0 fr H nx) {fr : Fr} {H : Hp} {nx : Nat} (n : Nat) (hI : I n fr H nx) : LpE P c Q fr H nx := Lp_ruleB I hs h0 n hI
theorem Bd.up {H : Hp} {nx b : Nat} {o : Blk} (h : Bd H nx) (hb : nx ≤ b) : Bd (upd H b o) (b + 1) := fun k o' e => by
  unfold upd at e
  split at e
  · omega
  · have := h k o' e; omega
theorem Bd.mono {H : Hp} {nx nx' : Nat} (h : Bd H nx) (hn : nx ≤ nx') : Bd H nx' := fun k o e => Nat.lt_of_lt_of_le (h k o e) hn
theorem Bd.set {H : Hp} {nx b : Nat} {o : Blk} (h : Bd H nx) (hb : b < nx) : Bd (upd H b o) nx := fun k o' e => by
  unfold upd at e
  split at e
  · omega
  · exact h k o' e
theorem fill_nil (pl : Nat → Option (Nat × Nat)) (cs : Array Value) : Instr.fill pl cs [] = some cs := of_eq_true (eq_self _)
theorem foldl_setN (vs : List Value) : ∀ (cs : List Value) (off j : Nat), (vs.zipIdx j).foldl (fun (cs : Array Value) x => cs.setIfInBounds (off + x.2) x.1) cs.toArray = (setN cs off j vs).toArray := by
  induction vs with
  | nil => intro cs off j; rfl
  | cons v vs ih =>
    intro cs off j
    simp only [List.zipIdx_cons, List.foldl_cons, setN]
    rw [← ih]
    simp
theorem fill_cons (pl : Nat → Option (Nat × Nat)) (cs : List Value) (i : Nat) (v : Value) (r : List (Nat × Value)) : Instr.fill pl cs.toArray ((i, v) :: r) =
    (match pl i with
     | none => none
     | some p => if v.cells.size = p.2 ∧ p.1 + p.2 ≤ cs.length then Instr.fill pl (setN cs p.1 0 v.cells.toList).toArray r else none) := by
  rw [Instr.fill]
  cases pl i with
  | none => rfl
  | some p =>
    obtain ⟨off, size⟩ := p
    simp only
    by_cases h : v.cells.size = size
    · subst h
      by_cases h2 : off + v.cells.size ≤ cs.length
      · rw [if_neg (by simp; omega), if_pos ⟨rfl, h2⟩]
        congr 1
        rw [← foldl_setN, ← Array.foldl_toList, Array.toList_zipIdx]
      · rw [if_pos (by simp; omega), if_neg (by omega)]
    · rw [if_pos (by simp [h]), if_neg (fun hh => h hh.1)]
theorem mcg (z : Array Value) (n : Nat) : madeCells z n = ((List.range n).map fun i => z[i % z.size]!).toArray := by
  apply Array.ext'
  simp [madeCells]
theorem mc1_0 (z0 : Value) : madeCells #[z0] 0 = [].toArray := by rw [mcg]; simp [List.range_succ]
theorem mc1_1 (z0 : Value) : madeCells #[z0] 1 = [z0].toArray := by rw [mcg]; simp [List.range_succ]
theorem mc1_2 (z0 : Value) : madeCells #[z0] 2 = [z0, z0].toArray := by rw [mcg]; simp [List.range_succ]
theorem mc1_3 (z0 : Value) : madeCells #[z0] 3 = [z0, z0, z0].toArray := by rw [mcg]; simp [List.range_succ]
theorem mc1_4 (z0 : Value) : madeCells #[z0] 4 = [z0, z0, z0, z0].toArray := by rw [mcg]; simp [List.range_succ]
theorem mc1_5 (z0 : Value) : madeCells #[z0] 5 = [z0, z0, z0, z0, z0].toArray := by rw [mcg]; simp [List.range_succ]
theorem mc1_6 (z0 : Value) : madeCells #[z0] 6 = [z0, z0, z0, z0, z0, z0].toArray := by rw [mcg]; simp [List.range_succ]
theorem mc1_7 (z0 : Value) : madeCells #[z0] 7 = [z0, z0, z0, z0, z0, z0, z0].toArray := by rw [mcg]; simp [List.range_succ]
theorem mc1_8 (z0 : Value) : madeCells #[z0] 8 = [z0, z0, z0, z0, z0, z0, z0, z0].toArray := by rw [mcg]; simp [List.range_succ]
theorem mc1_9 (z0 : Value) : madeCells #[z0] 9 = [z0, z0, z0, z0, z0, z0, z0, z0, z0].toArray := by rw [mcg]; simp [List.range_succ]
theorem mc1_10 (z0 : Value) : madeCells #[z0] 10 = [z0, z0, z0, z0, z0, z0, z0, z0, z0, z0].toArray := by rw [mcg]; simp [List.range_succ]
theorem mc1_11 (z0 : Value) : madeCells #[z0] 11 = [z0, z0, z0, z0, z0, z0, z0, z0, z0, z0, z0].toArray := by rw [mcg]; simp [List.range_succ]
theorem mc1_12 (z0 : Value) : madeCells #[z0] 12 = [z0, z0, z0, z0, z0, z0, z0, z0, z0, z0, z0, z0].toArray := by rw [mcg]; simp [List.range_succ]
theorem mc2_0 (z0 z1 : Value) : madeCells #[z0, z1] 0 = [].toArray := by rw [mcg]; simp [List.range_succ]
theorem mc2_1 (z0 z1 : Value) : madeCells #[z0, z1] 2 = [z0, z1].toArray := by rw [mcg]; simp [List.range_succ]
theorem mc2_2 (z0 z1 : Value) : madeCells #[z0, z1] 4 = [z0, z1, z0, z1].toArray := by rw [mcg]; simp [List.range_succ]
theorem mc2_3 (z0 z1 : Value) : madeCells #[z0, z1] 6 = [z0, z1, z0, z1, z0, z1].toArray := by rw [mcg]; simp [List.range_succ]
theorem mc2_4 (z0 z1 : Value) : madeCells #[z0, z1] 8 = [z0, z1, z0, z1, z0, z1, z0, z1].toArray := by rw [mcg]; simp [List.range_succ]
theorem mc2_5 (z0 z1 : Value) : madeCells #[z0, z1] 10 = [z0, z1, z0, z1, z0, z1, z0, z1, z0, z1].toArray := by rw [mcg]; simp [List.range_succ]
theorem mc2_6 (z0 z1 : Value) : madeCells #[z0, z1] 12 = [z0, z1, z0, z1, z0, z1, z0, z1, z0, z1, z0, z1].toArray := by rw [mcg]; simp [List.range_succ]
theorem mc3_0 (z0 z1 z2 : Value) : madeCells #[z0, z1, z2] 0 = [].toArray := by rw [mcg]; simp [List.range_succ]
theorem mc3_1 (z0 z1 z2 : Value) : madeCells #[z0, z1, z2] 3 = [z0, z1, z2].toArray := by rw [mcg]; simp [List.range_succ]
theorem mc3_2 (z0 z1 z2 : Value) : madeCells #[z0, z1, z2] 6 = [z0, z1, z2, z0, z1, z2].toArray := by rw [mcg]; simp [List.range_succ]
theorem mc3_3 (z0 z1 z2 : Value) : madeCells #[z0, z1, z2] 9 = [z0, z1, z2, z0, z1, z2, z0, z1, z2].toArray := by rw [mcg]; simp [List.range_succ]
theorem mc4_0 (z0 z1 z2 z3 : Value) : madeCells #[z0, z1, z2, z3] 0 = [].toArray := by rw [mcg]; simp [List.range_succ]
theorem mc4_1 (z0 z1 z2 z3 : Value) : madeCells #[z0, z1, z2, z3] 4 = [z0, z1, z2, z3].toArray := by rw [mcg]; simp [List.range_succ]
theorem mc4_2 (z0 z1 z2 z3 : Value) : madeCells #[z0, z1, z2, z3] 8 = [z0, z1, z2, z3, z0, z1, z2, z3].toArray := by rw [mcg]; simp [List.range_succ]
theorem mc4_3 (z0 z1 z2 z3 : Value) : madeCells #[z0, z1, z2, z3] 12 = [z0, z1, z2, z3, z0, z1, z2, z3, z0, z1, z2, z3].toArray := by rw [mcg]; simp [List.range_succ]
theorem mc5_0 (z0 z1 z2 z3 z4 : Value) : madeCells #[z0, z1, z2, z3, z4] 0 = [].toArray := by rw [mcg]; simp [List.range_succ]
theorem mc5_1 (z0 z1 z2 z3 z4 : Value) : madeCells #[z0, z1, z2, z3, z4] 5 = [z0, z1, z2, z3, z4].toArray := by rw [mcg]; simp [List.range_succ]
theorem mc5_2 (z0 z1 z2 z3 z4 : Value) : madeCells #[z0, z1, z2, z3, z4] 10 = [z0, z1, z2, z3, z4, z0, z1, z2, z3, z4].toArray := by rw [mcg]; simp [List.range_succ]
theorem mc5_3 (z0 z1 z2 z3 z4 : Value) : madeCells #[z0, z1, z2, z3, z4] 15 = [z0, z1, z2, z3, z4, z0, z1, z2, z3, z4, z0, z1, z2, z3, z4].toArray := by rw [mcg]; simp [List.range_succ]
theorem mc6_0 (z0 z1 z2 z3 z4 z5 : Value) : madeCells #[z0, z1, z2, z3, z4, z5] 0 = [].toArray := by rw [mcg]; simp [List.range_succ]
theorem mc6_1 (z0 z1 z2 z3 z4 z5 : Value) : madeCells #[z0, z1, z2, z3, z4, z5] 6 = [z0, z1, z2, z3, z4, z5].toArray := by rw [mcg]; simp [List.range_succ]
theorem mc6_2 (z0 z1 z2 z3 z4 z5 : Value) : madeCells #[z0, z1, z2, z3, z4, z5] 12 = [z0, z1, z2, z3, z4, z5, z0, z1, z2, z3, z4, z5].toArray := by rw [mcg]; simp [List.range_succ]
theorem mc6_3 (z0 z1 z2 z3 z4 z5 : Value) : madeCells #[z0, z1, z2, z3, z4, z5] 18 = [z0, z1, z2, z3, z4, z5, z0, z1, z2, z3, z4, z5, z0, z1, z2, z3, z4, z5].toArray := by rw [mcg]; simp [List.range_succ]
theorem u8s_nil : u8s [] = some [] := of_eq_true (eq_self _)
theorem u8s_cons (n : Int) (r : List Value) : u8s (.int .u8 n :: r) = (match u8s r with
    | some ns => some (n :: ns)
    | none => none) := of_eq_true (eq_self _)
/-- An entry of the model's own that only answers. -/
theorem AC_entry {P : Program} {f : FuncId} {args : Array Value} {H : Hp} {nx : Nat} {v : Value} {R : Value → Hp → Nat → Prop} (hc : callable P f = false)
    (hr : ∀ w, Rel H nx w → (callFunc f args).run P w = .ok (.value v) w) (hR : R v H nx) : AC P f args H nx R :=
  ⟨trivial, fun w hw => .inr ⟨hc, v, hr w hw, v, H, nx, rfl, hw, Keep.refl _ _, Nat.le_refl _, hR⟩⟩
/-- A contract of the kit that leaves the world as it is. -/
theorem PC_still {P : Program} {f : FuncId} {args : Array Value} {H : Hp} {nx : Nat} {v : Value} (hc : callable P f = true) (h : ∀ w, Calls P f args w fun e w' => e = .returned v ∧ w' = w) : PC P f args H nx v :=
  ⟨trivial, fun w hw => .inl ⟨hc, (h w).mono fun e w' ⟨h1, h2⟩ => ⟨v, H, nx, h1, by rw [h2]; exact hw, by rw [h2]; exact Keep.refl _ _, Nat.le_refl _, rfl, Sub.refl _⟩⟩⟩
theorem cutA_zero (a : Option Addr) (cap sz : Nat) : cutA a cap 0 sz = a := by
  unfold cutA
  split
  · rfl
  · cases a <;> simp [Addr.add]
theorem cutA_pos {b off cap l sz : Nat} (h : l < cap) : cutA (some ⟨b, off, none⟩) cap l sz = some ⟨b, off + l * sz, none⟩ := by
  unfold cutA
  rw [if_neg (by omega)]
  by_cases e : l * sz = 0 <;> simp [Addr.add, e]
theorem fr0_5 (a b c d e : Value) : fr0 #[a, b, c, d, e] = fset (fset (fset (fset (fset bot 0 a) 1 b) 2 c) 3 d) 4 e := by
  funext i
  unfold fr0 fset bot
  match i with
  | 0 => simp
  | 1 => simp
  | 2 => simp
  | 3 => simp
  | 4 => simp
  | k + 5 => simp
theorem fr0_6 (a b c d e g : Value) : fr0 #[a, b, c, d, e, g] = fset (fset (fset (fset (fset (fset bot 0 a) 1 b) 2 c) 3 d) 4 e) 5 g := by
  funext i
  unfold fr0 fset bot
  match i with
  | 0 => simp
  | 1 => simp
  | 2 => simp
  | 3 => simp
  | 4 => simp
  | 5 => simp
  | k + 6 => simp
set_option linter.defProp false
/-- The rules of the machine and some plain ones, in one name. -/
def bsW := And.intro @V_skip <| And.intro @V_ret <| And.intro @V_exit <| And.intro @V_seq <| And.intro @V_block <| And.intro @V_loop <| And.intro @V_reg <| And.intro @V_regq <| And.intro @sbs_f <| And.intro @sbs_t <| And.intro @VT_alt <| And.intro @VT_one <| And.intro @VT_done <| And.intro @V_regt <| And.intro @V_cond <| And.intro @VO_nil <| And.intro @VO_cons <| And.intro @VQ_nil <| And.intro @VQ_cons <| And.intro @enQ_r <| And.intro @thV_r <| And.intro @thO_r <| And.intro @thQ_r <| And.intro @thW_r <| And.intro @thU_r <| And.intro @goO_r <| And.intro @goQ_r <| And.intro @noH_r <| And.intro @nbP_r <| And.intro @nbS_r <| And.intro @rK_some <| And.intro @gif_t <| And.intro @gif_f <| And.intro @gif_not <| And.intro @thn_normal <| And.intro @thn_ret <| And.intro @thn_exit <| And.intro @inB_normal <| And.intro @inB_ret <| And.intro @inB_exit_same <| And.intro @inB_exit <| And.intro @fr0_0 <| And.intro @fr0_1 <| And.intro @fr0_2 <| And.intro @fr0_3 <| And.intro @fr0_4 <| And.intro @fr0_5 <| And.intro @fr0_6 <| And.intro @upd_upd <| And.intro @cutA_zero <| And.intro @Nat.sub_zero <| And.intro @Int.toNat_zero <| And.intro @fput_some <| And.intro @fput_none <| And.intro @ev_tmp <| And.intro @ev_const <| And.intro @ev_func <| And.intro @fset_get <| And.intro @bodyK_normal <| And.intro @bodyK_ret <| And.intro @rd_upd_same <| And.intro @rd_upd_ne <| And.intro @rdB_rw <| And.intro @upd_same <| And.intro @upd_ne <| And.intro @true_and <| And.intro @and_true <| And.intro @not_false_eq_true <| And.intro @decide_true <| And.intro @decide_false <| And.intro @Bool.not_true <| And.intro @Bool.not_false <| And.intro @Bool.not_not <| And.intro @Nat.add_zero <| And.intro @Nat.zero_add <| And.intro @List.map_toArray.{0,0} <| And.intro @List.map_cons.{0,0} <| And.intro @List.map_nil.{0,0} <| And.intro @Array.empty_append.{0} <| And.intro @Array.append_empty.{0} <| And.intro @Array.append_assoc.{0} <| And.intro @List.append_toArray.{0} <| And.intro @List.nil_append.{0} <| And.intro @List.cons_append.{0} <| And.intro @Option.map_some.{0,0} <| And.intro @Option.map_none.{0,0} <| And.intro @Option.isSome_some.{0} <| And.intro @List.size_toArray.{0} <| And.intro @List.length_cons.{0} <| And.intro @List.length_nil.{0} <| And.intro @List.set_cons_zero.{0} <| And.intro @List.set_cons_succ.{0} <| And.intro @List.all_cons.{0} <| And.intro @List.all_nil.{0} <| And.intro @Bool.and_self <| And.intro @Bool.and_true <| And.intro @Bool.true_and <| And.intro @List.getElem?_cons_zero.{0} <| And.intro @List.getElem?_cons_succ.{0} <| And.intro @List.getElem?_toArray.{0} <| And.intro @Nat.le_refl <| And.intro @Int.toNat_natCast <| And.intro @toNat_pred <| And.intro @toNat_succ <| And.intro @wrap_in <| And.intro @Bool.false_eq_true <| And.intro @bne_self_eq_false.{0} <| And.intro @beq_self_eq_true.{0} <| And.intro @fill_nil <| And.intro @fill_cons <| And.intro @mc1_0 <| And.intro @mc1_1 <| And.intro @mc1_2 <| And.intro @mc1_3 <| And.intro @mc1_4 <| And.intro @mc1_5 <| And.intro @mc1_6 <| And.intro @mc1_7 <| And.intro @mc1_8 <| And.intro @mc1_9 <| And.intro @mc1_10 <| And.intro @mc1_11 <| And.intro @mc1_12 <| And.intro @mc2_0 <| And.intro @mc2_1 <| And.intro @mc2_2 <| And.intro @mc2_3 <| And.intro @mc2_4 <| And.intro @mc2_5 <| And.intro @mc2_6 <| And.intro @mc3_0 <| And.intro @mc3_1 <| And.intro @mc3_2 <| And.intro @mc3_3 <| And.intro @mc4_0 <| And.intro @mc4_1 <| And.intro @mc4_2 <| And.intro @mc4_3 <| And.intro @mc5_0 <| And.intro @mc5_1 <| And.intro @mc5_2 <| And.intro @mc5_3 <| And.intro @mc6_0 <| And.intro @mc6_1 <| And.intro @mc6_2 <| And.intro @mc6_3 <| And.intro @and_self <| And.intro @VH_nil <| And.intro @VH_cons <| And.intro @thH_r <| And.intro @thI_r <| And.intro @goH_r <| And.intro @enM_r <| And.intro @thE_r <| And.intro @thJ_r <| And.intro @goE_r <| And.intro @u8s_nil <| And.intro @u8s_cons <| And.intro @dels_nil <| And.intro @dels_cons <| And.intro @rd_del_ne <| And.intro @VT_now <| And.intro @thN_r <| And.intro @thM_r <| And.intro @goN_r <| True.intro
end Go.Proofs.YtnjlleopgjggpaaDoor
