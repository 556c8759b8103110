/- The end: from a contract of W to the row's statement; arguments opened. For every program. -/
import Derived.Test.YtnjlleopgjggpaaDoorD
import Derived.ProofKit
import Derived.SizedLaws
import Derived.Deep.Slices
import Derived.Deep.Fields
set_option linter.unusedVariables false
set_option linter.unusedSimpArgs false
namespace Go.Proofs.YtnjlleopgjggpaaDoor
open Go Go.RowKit Go.ChangeShapes Go.WideShapes Go.Deep Go.ChangeAt

/-- What is known at the start: every block reads as it lies. -/
noncomputable def hp0 (W : World) : Hp := fun b => if b < W.heap.size then some (.ro fun i => W.cell? ⟨b, i, none⟩) else none
theorem hp0_lt {W : World} {b : Nat} (h : b < W.heap.size) : hp0 W b = some (.ro fun i => W.cell? ⟨b, i, none⟩) := if_pos h
theorem hp0_bd (W : World) : Bd (hp0 W) W.heap.size := fun b o h => by
  unfold hp0 at h
  split at h
  · assumption
  · cases h
theorem rel0 (W : World) : Rel (hp0 W) W.heap.size W := by
  refine ⟨Nat.le_refl _, hp0_bd W, fun b f i v h hv => ?_, fun b cs ty h => ?_⟩
  · have hb := hp0_bd W b _ h
    rw [hp0_lt hb] at h
    cases h
    exact hv
  · have hb := hp0_bd W b _ h
    rw [hp0_lt hb] at h
    cases h
theorem cell_lt {W : World} {a : Addr} {v : Value} (h : W.cell? a = some v) : a.block < W.heap.size := by
  unfold World.cell? at h
  split at h
  · rename_i hs
    exact (Array.getElem?_eq_some_iff.1 hs).1
  · cases h
theorem rd0 {W : World} {b off : Nat} {v : Value} (h : W.cell? ⟨b, off, none⟩ = some v) : rd (hp0 W) b off = some v := by
  have hb : b < W.heap.size := cell_lt h
  unfold rd
  rw [hp0_lt hb]
  exact h
theorem keep_below {W W' : World} {H' : Hp} (k : Keep (hp0 W) W H' W') : Below W.heap.size W W' :=
  ⟨k.os, k.tape, k.output, k.size, fun b hb => k.block b hb (fun cs ty e => by rw [hp0_lt hb] at e; cases e)⟩

theorem trodAll_cons_mk_ {H : Type} {enc : TypeId × Value → H} {P : Program} {w : World} {base : Nat} {spare : Nat → Bool} {held : Bool} {t : TypeId} {ts : List TypeId} {v : Value} {vs : List Value} {d : DataW H} {ds : List (DataW H)} {p p' : List MemPlace}
    (h : DataW.Trod enc P w base spare held t v d p) (hs : DataW.TrodAll enc P w base spare held ts vs ds p') : DataW.TrodAll enc P w base spare held (t :: ts) (v :: vs) (d :: ds) (p ++ p') := ⟨p, p', h, hs, rfl⟩
theorem trodAll_below {H : Type} {enc : TypeId × Value → H} {P : Program} (hl : laidOutB P = true) {W W' : World} (hb : Below W.heap.size W W') :
    ∀ {ts : List TypeId} {vs : List Value} {ds : List (DataW H)} {ps : List MemPlace}, (ts.all fun t => P.readableRec t && decide (t < P.types.size)) = true →
      DataW.TrodAll enc P W 0 (fun _ => true) true ts vs ds ps → (∀ x ∈ ps, x.block < W.heap.size) → DataW.TrodAll enc P W' 0 (fun b => decide (b < W.heap.size)) true ts vs ds ps
  | [], vs, ds, ps, _, h, _ => by
    obtain ⟨rfl, rfl, rfl⟩ := trodAll_nil h
    exact trodAll_mk0
  | t :: ts, vs, ds, ps, hr, h, hlt => by
    obtain ⟨v, vs', d, ds', p, q, rfl, rfl, rfl, h1, h2⟩ := trodAll_cons h
    simp only [List.all_cons, Bool.and_eq_true, decide_eq_true_eq] at hr
    exact trodAll_cons_mk_ (Below.trod hl hr.1.1 hr.1.2 h1 hb fun x hx => hlt x (List.mem_append.2 (.inl hx)))
      (trodAll_below hl hb (by simpa using hr.2) h2 fun x hx => hlt x (List.mem_append.2 (.inr hx)))

/-- One argument: how it reads, that it is of its type, that it is of a size that is handed in. -/
def Arg {H : Type} (enc : TypeId × Value → H) (P : Program) (W : World) (base : Nat) (t : TypeId) (v : Value) : Prop :=
  ∃ d p, DataW.Trod enc P W 0 (fun _ => true) true t v d p ∧ Value.okWide P W .any base t v ∧ (d.weights P t).all (· ≤ reachBytes) = true
def ArgsOK {H : Type} (enc : TypeId × Value → H) (P : Program) (W : World) (base : Nat) : List TypeId → List Value → Prop
  | t :: ts, vs => ∃ v vs', vs = v :: vs' ∧ Arg enc P W base t v ∧ ArgsOK enc P W base ts vs'
  | [], vs => vs = []

theorem argsOK {H : Type} {enc : TypeId × Value → H} {P : Program} {W : World} {base : Nat} :
    ∀ {ts : List TypeId} {vs : List Value} {ds : List (DataW H)} {ps : List MemPlace}, DataW.TrodAll enc P W 0 (fun _ => true) true ts vs ds ps →
      (∀ (j : Nat) t v, ts[j]? = some t → vs[j]? = some v → Value.okWide P W .any base t v) → (DataW.weightsEach P ts ds).all (· ≤ reachBytes) = true → ArgsOK enc P W base ts vs
  | [], vs, ds, ps, h, _, _ => (trodAll_nil h).1
  | t :: ts, vs, ds, ps, h, hok, hw => by
    obtain ⟨v, vs', d, ds', p, q, rfl, rfl, rfl, h1, h2⟩ := trodAll_cons h
    simp only [DataW.weightsEach, List.all_append, Bool.and_eq_true] at hw
    exact ⟨v, vs', rfl, ⟨d, p, h1, hok 0 t v rfl rfl, hw.1⟩, argsOK h2 (fun j t' v' a b => hok (j + 1) t' v' a b) hw.2⟩

theorem trodAll_length {H : Type} {enc : TypeId × Value → H} {P : Program} {W : World} {b : Nat} {sp : Nat → Bool} {hd : Bool} :
    ∀ {ts : List TypeId} {vs : List Value} {ds : List (DataW H)} {ps : List MemPlace}, DataW.TrodAll enc P W b sp hd ts vs ds ps → ds.length = ts.length
  | [], vs, ds, ps, h => by
    obtain ⟨rfl, rfl, rfl⟩ := trodAll_nil h
    rfl
  | t :: ts, vs, ds, ps, h => by
    obtain ⟨v, vs', d, ds', p, q, rfl, rfl, rfl, h1, h2⟩ := trodAll_cons h
    simp [trodAll_length h2]

theorem post_of_below {H : Type} {enc : TypeId × Value → H} {P : Program} {f : Func} {s : ChangeSpec} {apart fresh handsOn again : Bool} {W W' : World} {args : Array Value} {v : Value} {ds gs : List (DataW H)} {before pa pv : List MemPlace}
    (hW : DataW.Whole enc P f.params.toList s.vars apart W args.toList ds gs before)
    (hres : ∀ (b : Nat) (sp : Nat → Bool) (hd : Bool), DataW.TrodAll enc P W' b sp hd f.resultTypes.toList (v.resultList f.resultTypes.size) (s.fn H (ds ++ gs)).results [])
    (hargs : DataW.TrodAll enc P W' 0 (fun b => decide (b < W.heap.size)) true f.params.toList args.toList (s.fn H (ds ++ gs)).args pa)
    (hvars : DataW.TrodVars enc P W' (fun b => decide (b < W.heap.size)) s.vars (s.fn H (ds ++ gs)).vars pv)
    (hps : before = pa ++ pv) (hb : Below W.heap.size W W') (hag : again = false) :
    s.post enc P f apart fresh handsOn again W args v W' := by
  subst hag
  refine ⟨ds, gs, before, [], pa, pv, hW, hres _ _ _, hargs, hvars, World.keptBut_mono (fun p hp => ⟨hp, ?_⟩) (hb.frame (· ∈ before)), fun h => by cases h⟩
  rw [hps, List.mem_append] at hp
  exact Or.inr hp

/-- THE LAW's STATEMENT, lifted: a call that is known to give 'true' of arguments that are all right. -/
theorem law_lifted {C : Checked} {os : Os} {fid : FuncId} {fn : Func} {s : ChangeSpec} {conds : List PathCond} {tb : TypeId} {H : Type} {enc : TypeId × Value → H} {apart : Bool}
    (hcall : callable C.prog fid = true) (own : ownKnob C.prog.godebug = none) (started : os.Started) (hl : laidOutB C.prog = true) (noInit : C.prog.inits.idxOf? fid = none) (hfn : C.prog.funcs[fid]? = some fn)
    (hvars : s.vars = []) (hrt : fn.resultTypes = #[tb]) (htb : C.prog.underlying tb = some .bool)
    (hread : (fn.params.toList.all fun t => C.prog.readableRec t && decide (t < C.prog.types.size)) = true)
    (hspec : ∀ ds : List (DataW H), ds.length = fn.params.toList.length → s.fn H ds = { results := [.lit (.bool true)], args := ds })
    (witness : ∃ (w : World) (tape : Tape) (i : Input), w.os = os ∧ (w.forCall tape i).Shaped C.prog ∧ i.vars = [] ∧ Input.okWide C.prog (w.forCall tape i) .any w.heap.size fid i ∧
      s.pre6 enc C.prog fn conds apart (w.forCall tape i).memory i.args ∧ ({} : Assume).holds C.prog (lone (Frame.enter C.prog fid i.args .normal) [] (w.forCall tape i)))
    (hPC : ∀ (W : World) (base : Nat) (args : Array Value), ArgsOK enc C.prog W base fn.params.toList args.toList → PC C.prog fid args (hp0 W) W.heap.size (.bool true)) :
    ReturnsInHanded {} C os fid .any (s.pre6 enc C.prog fn conds apart) (s.post enc C.prog fn apart true false false) := by
  refine returnsInHanded_of_change_sized own started noInit hfn witness ?_
  intro W base args ds gs before hval hW hcnd hsz _
  have hW' := hW
  obtain ⟨p, q, hA, hV, rfl, _, _⟩ := hW
  have hvt : s.plain.varTypes C.prog = [] := by
    have : s.plain.vars = [] := hvars
    simp [DataSpec.varTypes, this]
  rw [hvars] at hV
  obtain ⟨rfl, rfl⟩ := trodVars_none hV
  rw [hvt, List.append_nil, List.append_nil] at hsz
  have hlt : ∀ x ∈ p, x.block < W.heap.size := fun x hx => hW'.lt x (List.mem_append.2 (.inl hx))
  have hok : ∀ (j : Nat) t v, fn.params.toList[j]? = some t → args.toList[j]? = some v → Value.okWide C.prog W .any base t v := fun j t v a b => hval j t v (by simpa using a) (by simpa using b)
  have hfnd : s.fn H (ds ++ []) = { results := [.lit (.bool true)], args := ds } := by
    rw [List.append_nil]
    exact hspec ds (trodAll_length hA)
  refine (((hPC W base args (argsOK hA hok hsz)).2 W (rel0 W)).calls hcall).mono fun e W' ⟨v, H', nx', he, hrel, hkeep, _, hv⟩ => ?_
  have hb := keep_below hkeep
  obtain ⟨rfl, _⟩ := hv
  refine ⟨_, he, post_of_below (pa := p) (pv := []) hW' (fun b sp hd => ?_) ?_ ?_ rfl hb rfl⟩
  · rw [hfnd, hrt]
    exact trodAll_mk1 (shut_bool htb true)
  · rw [hfnd]
    exact trodAll_below hl hb hread hA hlt
  · rw [hfnd, hvars]
    rfl

/-! Arguments, opened. -/
section
variable {H : Type} {enc : TypeId × Value → H} {P : Program} {W : World} {base : Nat}
theorem wf_i64 {n : Int} (h : (Lit.int .i64 n).wf = true) : -9223372036854775808 ≤ n ∧ n ≤ 9223372036854775807 := by
  have h1 : IntKind.i64.min = -9223372036854775808 := rfl
  have h2 : IntKind.i64.max = 9223372036854775807 := rfl
  simp only [Lit.wf, Bool.and_eq_true, decide_eq_true_eq] at h
  omega
theorem arg_int {t : TypeId} {v : Value} (ht : P.underlying t = some (.int .i64)) (h : Arg enc P W base t v) : ∃ n : Int, v = .int .i64 n ∧ -9223372036854775808 ≤ n ∧ n ≤ 9223372036854775807 := by
  obtain ⟨d, p, h1, h2, _⟩ := h
  obtain ⟨n, rfl, _, _, hw⟩ := open_int ht h2 h1
  exact ⟨n, rfl, wf_i64 hw⟩
def isI64 : Option TypeDesc → Bool
  | some (.int .i64) => true
  | _ => false
theorem isI64_eq {o : Option TypeDesc} (h : isI64 o = true) : o = some (.int .i64) := by
  unfold isI64 at h
  split at h
  · rfl
  · cases h
def intOf : Option Value → Int
  | some (.int _ n) => n
  | _ => 0
/-- A slice whose elements are k int cells each (a struct of ints). -/
theorem arg_rows {t e : TypeId} {fs : Array Field} {k : Nat} {v : Value} (ht : P.underlying t = some (.slice e)) (he : P.underlying e = some (.struct fs))
    (hone : oneCellFields P fs = true) (hC : P.cellsOf e = k) (hk : fs.size = k) (hk0 : 0 < k) (hi : (fs.toList.all fun f => isI64 (P.underlying f.type)) = true) (h : Arg enc P W base t v) :
    ∃ A n c f, v = .slice A n c ∧ n * P.bytesOf e ≤ reachBytes ∧ n ≤ c ∧ Rd (hp0 W) A n k f ∧ ∀ i j, i < n → j < k → -9223372036854775808 ≤ f i j ∧ f i j ≤ 9223372036854775807 := by
  obtain ⟨d, p, h1, h2, h3⟩ := h
  obtain ⟨A, n, c, rfl⟩ := okWide_slice ht h2
  obtain ⟨fuel, hf⟩ := h1
  rcases open_slice ht hf with ⟨hcs, hx⟩ | ⟨a, len, cap, m, n', D, Pl, hcs, hb, hl, hm, hmm, hx, hcell⟩
  · simp [Value.cells] at hcs
    obtain ⟨rfl, rfl, rfl⟩ := hcs
    exact ⟨none, 0, 0, fun _ _ => 0, rfl, by omega, Nat.le_refl _, Rd.zero, fun i j hi => by omega⟩
  · simp [Value.cells] at hcs
    obtain ⟨rfl, rfl, rfl⟩ := hcs
    simp only [Prod.mk.injEq] at hx
    obtain ⟨rfl, rfl⟩ := hx
    have hm' : m = c := by simpa using hmm
    subst hm'
    have hre : n * P.bytesOf e ≤ reachBytes := by
      have := List.all_eq_true.1 h3 ((((List.range n).map D).length + ((List.range (m - n)).map fun j => D (n + j)).length) * P.bytesOf e) (by simp [DataW.weights, ht])
      simp only [List.length_map, List.length_range, decide_eq_true_eq] at this
      exact Nat.le_trans (Nat.mul_le_mul_right _ (by omega)) this
    have key : ∀ i j, i < n → j < k → ∃ x : Int, W.cell? (a.add (i * k + j)) = some (.int .i64 x) ∧ -9223372036854775808 ≤ x ∧ x ≤ 9223372036854775807 := by
      intro i j hi' hj
      obtain ⟨cs', hc, ht'⟩ := hcell i (by omega)
      rw [hC] at hc
      obtain ⟨ys, n'', hn', hy, hlen, hyl, hfl⟩ := DataW.trod_struct he ht'
      obtain ⟨_, hcl, hat⟩ := World.cells?_some hc
      have hjs : j < fs.size := by omega
      obtain ⟨ho, hk1⟩ := hone_of hone j fs[j] (Array.getElem?_eq_getElem hjs)
      have hty : P.underlying fs[j].type = some (.int .i64) := by
        exact isI64_eq (List.all_eq_true.1 hi fs[j] (by simp))
      have h1 := hfl j fs[j] (Array.getElem?_eq_getElem hjs)
      rw [ho, hk1] at h1
      have hone' : (cs'.drop j).take 1 = [cs'[j]'(by omega)] := by
        rw [List.drop_eq_getElem_cons (by omega)]
        rfl
      rw [hone'] at h1
      have hys : ys[j]? = some (ys[j]'(by omega)) := List.getElem?_eq_getElem (by omega)
      rw [hys] at h1
      obtain ⟨x, hx, hx2, hw⟩ := DataW.trod_int hty h1
      simp at hx
      refine ⟨x, ?_, wf_i64 hw⟩
      rw [← Go.Deep.add_add, hat j hj, List.getElem?_eq_getElem (by omega), hx]
    refine ⟨some a, n, m, fun i j => intOf (W.cell? (a.add (i * k + j))), rfl, hre, hl, ⟨fun hn => ?_⟩, fun i j hi' hj => ?_⟩
    · obtain ⟨b, off, spot⟩ := a
      have hspot : spot = none := by
        obtain ⟨x, hx, _⟩ := key 0 0 hn hk0
        have := World.cell?_spot hx
        simpa [Addr.add] using this
      subst hspot
      refine ⟨b, off, rfl, fun i j hi' hj => ?_⟩
      obtain ⟨x, hx, _⟩ := key i j hi' hj
      have e : off + i * k + j = off + (i * k + j) := by omega
      have ea : Addr.add ⟨b, off, none⟩ (i * k + j) = ⟨b, off + (i * k + j), none⟩ := by simp [Addr.add]
      rw [e]
      simp only [hx, intOf]
      rw [ea] at hx
      exact rd0 hx
    · obtain ⟨x, hx, hb⟩ := key i j hi' hj
      simp only [hx, intOf]
      exact hb
/-- A slice of ints. -/
theorem arg_ints {t e : TypeId} {v : Value} (ht : P.underlying t = some (.slice e)) (he : P.underlying e = some (.int .i64)) (hC : P.cellsOf e = 1) (h : Arg enc P W base t v) :
    ∃ A n c f, v = .slice A n c ∧ n * P.bytesOf e ≤ reachBytes ∧ n ≤ c ∧ Rd (hp0 W) A n 1 f ∧ ∀ i j, i < n → j < 1 → -9223372036854775808 ≤ f i j ∧ f i j ≤ 9223372036854775807 := by
  obtain ⟨d, p, h1, h2, h3⟩ := h
  obtain ⟨A, n, c, rfl⟩ := okWide_slice ht h2
  obtain ⟨fuel, hf⟩ := h1
  rcases open_slice ht hf with ⟨hcs, hx⟩ | ⟨a, len, cap, m, n', D, Pl, hcs, hb, hl, hm, hmm, hx, hcell⟩
  · simp [Value.cells] at hcs
    obtain ⟨rfl, rfl, rfl⟩ := hcs
    exact ⟨none, 0, 0, fun _ _ => 0, rfl, by omega, Nat.le_refl _, Rd.zero, fun i j hi => by omega⟩
  · simp [Value.cells] at hcs
    obtain ⟨rfl, rfl, rfl⟩ := hcs
    simp only [Prod.mk.injEq] at hx
    obtain ⟨rfl, rfl⟩ := hx
    have hm' : m = c := by simpa using hmm
    subst hm'
    have hre : n * P.bytesOf e ≤ reachBytes := by
      have := List.all_eq_true.1 h3 ((((List.range n).map D).length + ((List.range (m - n)).map fun j => D (n + j)).length) * P.bytesOf e) (by simp [DataW.weights, ht])
      simp only [List.length_map, List.length_range, decide_eq_true_eq] at this
      exact Nat.le_trans (Nat.mul_le_mul_right _ (by omega)) this
    have key : ∀ i j, i < n → j < 1 → ∃ x : Int, W.cell? (a.add (i * 1 + j)) = some (.int .i64 x) ∧ -9223372036854775808 ≤ x ∧ x ≤ 9223372036854775807 := by
      intro i j hi' hj
      obtain ⟨cs', hc, ht'⟩ := hcell i (by omega)
      rw [hC] at hc
      obtain ⟨_, hcl, hat⟩ := World.cells?_some hc
      obtain ⟨x, hx, hx2, hw⟩ := DataW.trod_int he ht'
      subst hx
      refine ⟨x, ?_, wf_i64 hw⟩
      rw [← Go.Deep.add_add, hat j hj]
      have : j = 0 := by omega
      subst this
      rfl
    refine ⟨some a, n, m, fun i j => intOf (W.cell? (a.add (i * 1 + j))), rfl, hre, hl, ⟨fun hn => ?_⟩, fun i j hi' hj => ?_⟩
    · obtain ⟨b, off, spot⟩ := a
      have hspot : spot = none := by
        obtain ⟨x, hx, _⟩ := key 0 0 hn (by omega)
        have := World.cell?_spot hx
        simpa [Addr.add] using this
      subst hspot
      refine ⟨b, off, rfl, fun i j hi' hj => ?_⟩
      obtain ⟨x, hx, _⟩ := key i j hi' hj
      have e : off + i * 1 + j = off + (i * 1 + j) := by omega
      have ea : Addr.add ⟨b, off, none⟩ (i * 1 + j) = ⟨b, off + (i * 1 + j), none⟩ := by simp [Addr.add]
      rw [e]
      simp only [hx, intOf]
      rw [ea] at hx
      exact rd0 hx
    · obtain ⟨x, hx, hb⟩ := key i j hi' hj
      simp only [hx, intOf]
      exact hb
end
end Go.Proofs.YtnjlleopgjggpaaDoor
