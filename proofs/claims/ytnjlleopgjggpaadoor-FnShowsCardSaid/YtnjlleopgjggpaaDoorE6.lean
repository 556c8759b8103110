/- The end of a row that lists variables ('laid'): from a contract of W, told where these read as listed, to the row's statement. For every program. -/
import Derived.Test.YtnjlleopgjggpaaDoorE
import Derived.OpenShut
import Derived.LaidMore
import Derived.Lay
import Derived.SevenTiedAt
import Derived.Stop.Joined
import Derived.Lib.LaidTab
import Derived.Shelf.Strconv.Itoa3
set_option linter.unusedVariables false
set_option linter.unusedSimpArgs false
namespace Go.Proofs.YtnjlleopgjggpaaDoor
open Go Go.RowKit Go.ChangeShapes Go.WideShapes Go.Deep Go.ChangeAt

/-- What is known at the start where one variable's whole block is known. -/
noncomputable def hpT (W : World) (g : Nat) (cs : List Value) (ty : TypeId) : Hp := fun b => if b = g then some (.rw cs ty) else hp0 W b
section
variable {W : World} {g : Nat} {cs : List Value} {ty : TypeId} (hg : W.heap[g]? = some (.cells cs.toArray ty (0, 0)))
include hg
theorem hpT_rd : ∀ (b off : Nat) (v : Value), rd (hp0 W) b off = some v → rd (hpT W g cs ty) b off = some v := by
  intro b off v h
  have hgl : g < W.heap.size := (Array.getElem?_eq_some_iff.1 hg).1
  by_cases e : b = g
  · subst e
    unfold rd at h ⊢
    rw [hp0_lt hgl] at h
    have h' : W.cell? ⟨b, off, none⟩ = some v := h
    unfold hpT
    rw [if_pos rfl]
    simpa [World.cell?, hg, rdB] using h'
  · unfold rd hpT at *
    rw [if_neg e]
    exact h
theorem hpT_bd : Bd (hpT W g cs ty) W.heap.size := fun b o h => by
  unfold hpT at h
  split at h
  · rename_i e; subst e; exact (Array.getElem?_eq_some_iff.1 hg).1
  · exact hp0_bd W b o h
theorem relT : Rel (hpT W g cs ty) W.heap.size W := by
  refine ⟨Nat.le_refl _, hpT_bd hg, fun b f i v h hv => ?_, fun b cs' ty' h => ?_⟩
  · unfold hpT at h
    split at h
    · cases h
    · exact (rel0 W).ro b f i v h hv
  · unfold hpT at h
    split at h
    · rename_i e; subst e; cases h; exact hg
    · exact (rel0 W).rw b cs' ty' h
theorem keepT_below {W' : World} {H' : Hp} {nx' : Nat} (k : Keep (hpT W g cs ty) W H' W') (r : Rel H' nx' W') (hs : Sub (hpT W g cs ty) H') : Below W.heap.size W W' :=
  ⟨k.os, k.tape, k.output, k.size, fun b hb => by
    by_cases e : b = g
    · subst e
      have h1 : hpT W b cs ty b = some (.rw cs ty) := if_pos rfl
      rw [r.rw b cs ty (hs _ _ h1), hg]
    · refine k.block b hb (fun cs' ty' h => ?_)
      unfold hpT at h
      rw [if_neg e, hp0_lt hb] at h
      cases h⟩
end
theorem Rd.tr {H H' : Hp} {A : Option Addr} {n k : Nat} {f : Nat → Nat → Int} (h : Rd H A n k f) (hrd : ∀ (b off : Nat) (v : Value), rd H b off = some v → rd H' b off = some v) : Rd H' A n k f :=
  ⟨fun hn => by
    obtain ⟨b, off, e, hc⟩ := h.at_ hn
    exact ⟨b, off, e, fun i j hi hj => hrd _ _ _ (hc i j hi hj)⟩⟩
/-- What a law over a listed table asks: in every start that fits, it yields true. -/
def LaidPC {H : Type} (enc : TypeId × Value → H) (P : Program) (fid : FuncId) (ts : List TypeId) (g : Nat) (cs : List Value) : Prop :=
  ∀ (W : World) (base : Nat) (args : Array Value) (Hp0 : Hp) (ty : TypeId), Bd Hp0 W.heap.size → (∀ (b off : Nat) (v : Value), rd (hp0 W) b off = some v → rd Hp0 b off = some v) → Hp0 g = some (.rw cs ty) →
    ArgsOK enc P W base ts args.toList → PC P fid args Hp0 W.heap.size (.bool true)
theorem law_lifted_laid {C : Checked} {os : Os} {fid : FuncId} {fn : Func} {s : ChangeSpec} {conds : List PathCond} {laid : List (String × DataW Unit)} {tb : TypeId} {H : Type} {enc : TypeId × Value → H} {apart : Bool}
    (hcall : callable C.prog fid = true) (own : ownKnob C.prog.godebug = none) (started : os.Started) (hl : laidOutB C.prog = true) (noInit : C.prog.inits.idxOf? fid = none) (hfn : C.prog.funcs[fid]? = some fn)
    (hvars : s.vars = []) (hrt : fn.resultTypes = #[tb]) (htb : C.prog.underlying tb = some .bool)
    (hread : (fn.params.toList.all fun t => C.prog.readableRec t && decide (t < C.prog.types.size)) = true)
    (hspec : ∀ ds : List (DataW H), ds.length = fn.params.toList.length → s.fn H ds = { results := [.lit (.bool true)], args := ds })
    (witness : ∃ (w : World) (tape : Tape) (i : Input), w.os = os ∧ (w.forCall tape i).Shaped C.prog ∧ i.vars = [] ∧ Input.okWide C.prog (w.forCall tape i) .any w.heap.size fid i ∧
      ((s.pre enc C.prog fn conds apart (w.forCall tape i).memory i.args ∧ laidMetH C.prog laid (w.forCall tape i).memory) ∧ sizedMet enc C.prog fn (OpenSpec.ofChange s) apart (w.forCall tape i).memory i.args) ∧ ({} : Assume).holds C.prog (lone (Frame.enter C.prog fid i.args .normal) [] (w.forCall tape i)))
    {g : Nat} {cs : List Value} (htab : ∀ W, laidMetH C.prog laid W → ∃ ty, W.heap[g]? = some (.cells cs.toArray ty (0, 0))) (hPC : LaidPC enc C.prog fid fn.params.toList g cs) :
    ReturnsInHanded {} C os fid .any (fun w args => (s.pre enc C.prog fn conds apart w args ∧ laidMetH C.prog laid w) ∧ sizedMet enc C.prog fn (OpenSpec.ofChange s) apart w args) (s.post enc C.prog fn apart true false false) := by
  refine returnsInHanded_of_change_and (X := fun w _ => laidMetH C.prog laid w) (fun _ _ _ hh h => h.of_heap hh) own started noInit hfn witness ?_
  intro W base args ds gs before hval hW hcnd hsz hL _
  have hW' := hW
  obtain ⟨p, q, hA, hV, rfl, _, _⟩ := hW
  have hvt : s.plain.varTypes C.prog = [] := by
    have : s.plain.vars = [] := hvars
    simp [DataSpec.varTypes, this]
  rw [hvars] at hV
  obtain ⟨rfl, rfl⟩ := trodVars_none hV
  rw [hvt, List.append_nil, List.append_nil] at hsz
  have hlt : ∀ x ∈ p, x.block < W.heap.size := fun x hx => hW'.lt x (List.mem_append.2 (.inl hx))
  have hok : ∀ (j : Nat) t v, fn.params.toList[j]? = some t → args.toList[j]? = some v → Value.okWide C.prog W .any base t v := fun j t v a b => hval j t v (by simpa using a) (by simpa using b)
  have hfnd : s.fn H (ds ++ []) = { results := [.lit (.bool true)], args := ds } := by
    rw [List.append_nil]
    exact hspec ds (trodAll_length hA)
  obtain ⟨ty, hgt⟩ := htab W hL
  refine (((hPC W base args _ ty (hpT_bd hgt) (hpT_rd hgt) (if_pos rfl) (argsOK hA hok hsz)).2 W (relT hgt)).calls hcall).mono fun e W' ⟨v, H', nx', he, hrel, hkeep, _, hv⟩ => ?_
  obtain ⟨rfl, hsub⟩ := hv
  have hb := keepT_below hgt hkeep hrel hsub
  refine ⟨_, he, post_of_below (pa := p) (pv := []) hW' (fun b sp hd => ?_) ?_ ?_ rfl hb rfl⟩
  · rw [hfnd, hrt]
    exact trodAll_mk1 (shut_bool htb true)
  · rw [hfnd]
    exact trodAll_below hl hb hread hA hlt
  · rw [hfnd, hvars]
    rfl

theorem laid_mem {P : Program} {W : World} {name : String} {d : DataW Unit} : ∀ {laid : List (String × DataW Unit)} {ps : List MemPlace}, DataW.LaidVars P W laid ps → (name, d) ∈ laid →
    ∃ g t cs fuel p, P.globalNamed name = some g ∧ (P.globals[g]?).map (·.type) = some t ∧ W.var? P name = some cs ∧ DataW.trod (fun _ => ()) P W 0 (fun _ => true) false fuel t cs.toList = some (d, p) ∧ ∀ x ∈ MemPlace.row ⟨g, 0, none⟩ cs.size, x ∈ ps
  | [], _, _, hm => by cases hm
  | (n', d') :: r, ps, h, hm => by
    obtain ⟨g, t, cs, fuel, p, q, h1, h2, h3, h4, h5, rfl⟩ := h
    rcases List.mem_cons.1 hm with e | hm
    · cases e
      exact ⟨g, t, cs, fuel, p, h1, h2, h3, h4, fun x hx => by simp [hx]⟩
    · obtain ⟨g', t', cs', fuel', p', a1, a2, a3, a4, a5⟩ := laid_mem h5 hm
      exact ⟨g', t', cs', fuel', p', a1, a2, a3, a4, fun x hx => by simp [a5 x hx]⟩
/-- A listed table's block. -/
theorem tab_heap {P : Program} {W : World} {name : String} {k : IntKind} {zs : List Int} {laid : List (String × DataW Unit)} {g : Nat} {t e : TypeId} {n : Nat}
    (hg : P.globalNamed name = some g) (hty : (P.globals[g]?).map (·.type) = some t) (ht : P.underlying t = some (.array n e)) (he : P.underlying e = some (.int k)) (hce : P.cellsOf e = 1) (hct : P.cellsOf t = n)
    (hz : 0 < zs.length) (hm : (name, Lib.tabData k zs) ∈ laid) (h : laidMet P laid W) : ∃ ty, W.heap[g]? = some (.cells (zs.map fun z => Value.int k z).toArray ty (0, 0)) := by
  obtain ⟨ps, hl, _, hc⟩ := h
  obtain ⟨g', t', cs, fuel, p, hg', ht', hvar, hd, hps⟩ := laid_mem hl hm
  obtain rfl := Option.some.inj (hg.symm.trans hg')
  obtain rfl := Option.some.inj (hty.symm.trans ht')
  have e1 := Lib.cells_of_tab ht he hce hct hd
  have e2 : 0 < cs.size := by
    have := congrArg List.length e1
    simp at this
    omega
  obtain ⟨c, ty, hh⟩ := (hc g 0 (hps _ (by simp [MemPlace.row, e2]))).1
  refine ⟨ty, ?_⟩
  have e3 : W.var? P name = some c := by simp [World.var?, hg, hh]
  rw [hvar] at e3
  cases e3
  rw [hh]
  congr 2
  rw [← e1]
/-- strconv.Itoa, where its table's block is known. -/
theorem itoa_pc {P : Program} {f : FuncId} {H : Hp} {nx g : Nat} {ty : TypeId} {name : String} {tab : List Int} (hcall : callable P f = true)
    (hc : ∀ (n : Int), -9223372036854775808 ≤ n → n ≤ 9223372036854775807 → ∀ w : World, Lib.TabIs P w name .u64 tab →
      Calls P f #[.int .i64 n] w fun e w' => e = .returned (.string ⟨(Lib.itoa n).toArray⟩) ∧ ∃ k os, w' = Sort.grow (w.drewN k) os)
    (hg : P.globalNamed name = some g) (hH : H g = some (.rw (tab.map fun z => Value.int .u64 z) ty)) (n : Int) (h0 : -9223372036854775808 ≤ n) (h1 : n ≤ 9223372036854775807) :
    PC P f #[.int .i64 n] H nx (.string ⟨(Lib.itoa n).toArray⟩) := by
  refine ⟨trivial, fun w hw => .inl ⟨hcall, ?_⟩⟩
  have ht : Lib.TabIs P w name .u64 tab := by
    unfold Lib.TabIs
    simp [World.var?, hg, hw.rw g _ _ hH]
  refine (hc n h0 h1 w ht).mono ?_
  rintro e w' ⟨rfl, k, os, rfl⟩
  refine ⟨_, H, nx, rfl, ?_, ?_, Nat.le_refl _, rfl, Sub.refl _⟩
  · have hs : ∀ b, b < w.heap.size → (Sort.grow (w.drewN k) os).heap[b]? = w.heap[b]? := fun b hb => by
      show (w.heap ++ os)[b]? = _
      rw [Array.getElem?_append_left hb]
    refine ⟨?_, hw.lt, fun b f i v hb hv => ?_, fun b cs ty hb => ?_⟩
    · show nx ≤ (w.heap ++ os).size
      have := hw.size
      rw [Array.size_append]; omega
    · have h := hw.ro b f i v hb hv
      have hl : b < w.heap.size := cell_lt h
      unfold World.cell? at h ⊢
      rw [hs b hl]
      exact h
    · have h := hw.rw b cs ty hb
      rw [hs b (Array.getElem?_eq_some_iff.1 h).1]
      exact h
  · refine ⟨rfl, rfl, rfl, ?_, fun b hb _ => ?_, fun b cs ty h _ => ⟨cs, ty, h⟩⟩
    · show w.heap.size ≤ (w.heap ++ os).size
      rw [Array.size_append]; omega
    · show (w.heap ++ os)[b]? = _
      rw [Array.getElem?_append_left hb]
end Go.Proofs.YtnjlleopgjggpaaDoor
