/- strings.Join. -/
import Derived.Shelf.Strings.OnBuilder
import Derived.Test.YtbhabpenlaklcaaDoorX1
set_option linter.unusedVariables false
set_option linter.unusedSimpArgs false
set_option maxRecDepth 100000
set_option maxHeartbeats 1000000
namespace Go.Proofs.YtbhabpenlaklcaaDoor
open Go Go.RowKit Go.Proofs

/-- A contract of the kit that leaves what lay below the heap's end. -/
theorem pc_below {P : Program} {f : FuncId} {args : Array Value} {H : Hp} {nx : Nat} {v : Value} (hcall : callable P f = true)
    (hc : ∀ w : World, Rel H nx w → Calls P f args w fun e w' => e = .returned v ∧ Below w.heap.size w w') : PC P f args H nx v := by
  refine ⟨trivial, fun w hw => .inl ⟨hcall, (hc w hw).mono ?_⟩⟩
  rintro e w' ⟨rfl, hb⟩
  refine ⟨_, H, nx, rfl, ?_, ?_, Nat.le_refl _, rfl, Sub.refl _⟩
  · refine ⟨Nat.le_trans hw.size hb.size, hw.lt, fun b f i v hb' hv => ?_, fun b cs ty hb' => ?_⟩
    · have h := hw.ro b f i v hb' hv
      have hl : b < w.heap.size := cell_lt h
      unfold World.cell? at h ⊢
      rw [hb.block b hl]
      exact h
    · have h := hw.rw b cs ty hb'
      rw [hb.block b (Array.getElem?_eq_some_iff.1 h).1]
      exact h
  · exact ⟨hb.os, hb.tape, hb.output, hb.size, fun b hl _ => hb.block b hl, fun b cs ty h _ => ⟨cs, ty, h⟩⟩
theorem lens_le {M : Nat} : ∀ (xs : List (List UInt8)), (∀ x ∈ xs, x.length ≤ M) → Lib.lens xs ≤ M * xs.length
  | [], _ => by simp [Lib.lens]
  | x :: r, h => by
    have ih := lens_le r (fun y hy => h y (List.mem_cons_of_mem _ hy))
    have hx := h x List.mem_cons_self
    simp only [Lib.lens, List.map_cons, List.sum_cons, List.length_cons] at ih ⊢
    rw [Nat.mul_succ]
    omega
theorem join_len {xs : List (List UInt8)} {sep : List UInt8} (h : ∀ x ∈ xs, x.length ≤ 21) (hs : sep.length ≤ 10) : (Lib.join xs sep).length ≤ 31 * xs.length := by
  cases xs with
  | nil => simp [Lib.join_nil]
  | cons x r =>
    have hl := lens_le r (fun y hy => h y (List.mem_cons_of_mem _ hy))
    have hx := h x List.mem_cons_self
    have hm : sep.length * r.length ≤ 10 * r.length := Nat.mul_le_mul_right _ hs
    rw [Lib.join_cons, List.length_append, Lib.joinTail_length, List.length_cons]
    omega
theorem bs_data (l : List UInt8) : (bs l).data.toList = l := of_eq_true (eq_self _)
/-- strings.Join: words known to memory. -/
theorem Join (bk o c : Nat) (xs : List (List UInt8)) (sep : List UInt8) (H : Hp) (nx n : Nat) (hn : xs.length = n) (hn8 : n ≤ 100) (hc : ∀ j, j < n → rd H bk (o + j) = some (.string (bs (xs.getD j [])))) (h0 : 0 < n) (hcap : n ≤ c) (hl : ∀ x ∈ xs, x.length ≤ 21) (hs : sep.length ≤ 10) :
    PC Tryd.prog 61 #[.slice (some ⟨bk, o, none⟩) n c, .string (bs sep)] H nx (.string (bs (Lib.join xs sep))) := by
  subst hn
  have hjl := join_len hl hs
  have e1 : (xs.map bs).map (fun x => x.data.toList) = xs := by rw [List.map_map]; exact List.map_id'' (fun x => bs_data x) xs
  have e2 : (xs.map bs).length = xs.length := by simp
  refine pc_below (by kernel_rfl) fun w hw => ?_
  have := Any.strings_Join sh_lays156 sh_Builder_Extra_156 bk o c (xs.map bs) (bs sep) w ?_ ?_ ?_ ?_ ?_
  · rw [e1, e2, bs_data] at this
    exact this
  · intro j x hx
    rw [List.getElem?_map, Option.map_eq_some_iff] at hx
    obtain ⟨y, hy, rfl⟩ := hx
    have hj : j < xs.length := (List.getElem?_eq_some_iff.1 hy).1
    have h1 := hw.rdc (hc j hj)
    rw [List.getD_eq_getElem?_getD, hy] at h1
    exact h1
  · exact cell_lt (hw.rdc (hc 0 h0))
  · rw [e2]; omega
  · rw [e2]; exact hcap
  · rw [e1, bs_data]; omega
end Go.Proofs.YtbhabpenlaklcaaDoor
