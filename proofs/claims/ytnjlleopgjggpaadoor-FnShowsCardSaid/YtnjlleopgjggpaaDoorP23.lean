/- Exhibits: plain laws. No program stands here. -/
import Derived.Test.YtnjlleopgjggpaaDoorD5
set_option linter.unusedVariables false
set_option linter.unusedSimpArgs false
namespace Go.Proofs.YtnjlleopgjggpaaDoor
open Go Go.RowKit

def lowB (b : UInt8) : Bool := decide (97 ≤ b.toNat ∧ b.toNat ≤ 122)
def wordB (t : ByteArray) : Bool := t.data.toList.all lowB && inR t.size 1 10
theorem wordB_no {t : ByteArray} {k : Nat} (hk : k < t.size) (h : ¬ (97 ≤ (t.data.toList.getD k 0).toNat ∧ (t.data.toList.getD k 0).toNat ≤ 122)) : wordB t = false := by
  unfold wordB
  have hk' : k < t.data.toList.length := by simpa using hk
  have e : t.data.toList.getD k 0 = t.data.toList[k] := by rw [List.getD_eq_getElem?_getD, List.getElem?_eq_getElem hk']; rfl
  rw [e] at h
  have : t.data.toList.all lowB = false := by
    rw [List.all_eq_false]
    exact ⟨_, List.getElem_mem hk', by simpa [lowB] using h⟩
  rw [this]; rfl
theorem wordB_end {t : ByteArray} (h : ∀ i, i < t.size → 97 ≤ (t.data.toList.getD i 0).toNat ∧ (t.data.toList.getD i 0).toNat ≤ 122) : wordB t = inR t.size 1 10 := by
  unfold wordB
  have : t.data.toList.all lowB = true := by
    rw [List.all_eq_true]
    intro x hx
    obtain ⟨i, hi, rfl⟩ := List.getElem_of_mem hx
    have := h i (by simpa using hi)
    have e : t.data.toList.getD i 0 = t.data.toList[i] := by rw [List.getD_eq_getElem?_getD, List.getElem?_eq_getElem hi]; rfl
    rw [e] at this
    simpa [lowB] using this
  rw [this]; rfl
def mxV (mk : Nat → Int) : Nat → Int
  | 0 => mk 0
  | k + 1 => if mxV mk k < mk k then mk k else mxV mk k
def mnV (mk : Nat → Int) : Nat → Int
  | 0 => mk 0
  | k + 1 => if mk k < mnV mk k then mk k else mnV mk k
def smV (mk : Nat → Int) : Nat → Int
  | 0 => 0
  | k + 1 => smV mk k + mk k
def scV (mk : Nat → Int) (m : Nat) : Int := smV mk m - mxV mk m - mnV mk m
def okM (mk : Nat → Int) (m : Nat) : Prop := ∀ i, i < m → 0 ≤ mk i ∧ mk i ≤ 100
theorem mV_bd {mk : Nat → Int} {m : Nat} (h : okM mk m) (hm : 0 < m) : ∀ k, k ≤ m → 0 ≤ mxV mk k ∧ mxV mk k ≤ 100 ∧ 0 ≤ mnV mk k ∧ mnV mk k ≤ 100 ∧ 0 ≤ smV mk k ∧ smV mk k ≤ 100 * k ∧ mnV mk k ≤ mxV mk k
  | 0, _ => by have := h 0 hm; simp [mxV, mnV, smV]; omega
  | k + 1, hk => by
    have h1 := mV_bd h hm k (by omega)
    have h2 := h k (by omega)
    simp only [mxV, mnV, smV]
    (repeat' split) <;> omega
theorem scV_pos {mk : Nat → Int} {m : Nat} (h : okM mk m) : ∀ k, k + 2 ≤ m → mxV mk (k + 2) + mnV mk (k + 2) ≤ smV mk (k + 2)
  | 0, hk => by
    have h0 := h 0 (by omega)
    have h1 := h 1 (by omega)
    simp only [mxV, mnV, smV]
    (repeat' split) <;> omega
  | k + 1, hk => by
    have h1 := scV_pos h k (by omega)
    have h2 := h (k + 2) (by omega)
    have h3 := mV_bd h (by omega) (k + 2) (by omega)
    have e1 : mxV mk (k + 1 + 2) = if mxV mk (k + 2) < mk (k + 2) then mk (k + 2) else mxV mk (k + 2) := rfl
    have e2 : mnV mk (k + 1 + 2) = if mk (k + 2) < mnV mk (k + 2) then mk (k + 2) else mnV mk (k + 2) := rfl
    have e3 : smV mk (k + 1 + 2) = smV mk (k + 2) + mk (k + 2) := rfl
    rw [e1, e2, e3]
    (repeat' split) <;> omega
theorem scV_bd {mk : Nat → Int} {m : Nat} (h : okM mk m) (hm : 2 ≤ m) : 0 ≤ scV mk m ∧ scV mk m ≤ 100 * m := by
  have h1 := scV_pos h (m - 2) (by omega)
  rw [show m - 2 + 2 = m by omega] at h1
  have h2 := mV_bd h (by omega) m (Nat.le_refl _)
  unfold scV
  omega
def medV (sc c : Int) : Int := if 85 * c ≤ sc then 4 else if 70 * c ≤ sc then 3 else if 55 * c ≤ sc then 2 else if 40 * c ≤ sc then 1 else 0
/-- The exhibits' data. -/
structure Shw where
  id : Nat → Int
  title : Nat → ByteArray
  fr : Nat → Int
  m : Nat → Nat
  mks : Nat → Nat → Int
def exB (id : Int) (t : ByteArray) (fr : Int) (m : Nat) (mk : Nat → Int) : Bool := inR id 1 99 && wordB t && inR fr 1 16 && inR m 3 7 && !anyB (fun q => !inR (mk q) 0 100) m
theorem exB_bd {id : Int} {t : ByteArray} {fr : Int} {m : Nat} {mk : Nat → Int} (h : exB id t fr m mk = true) : 1 ≤ id ∧ id ≤ 99 ∧ 1 ≤ fr ∧ fr ≤ 16 ∧ 3 ≤ m ∧ m ≤ 7 ∧ okM mk m := by
  simp only [exB, Bool.and_eq_true, Bool.not_eq_true', inR_true] at h
  obtain ⟨⟨⟨⟨h1, h2⟩, h3⟩, h4⟩, h5⟩ := h
  refine ⟨h1.1, h1.2, h3.1, h3.2, by omega, by omega, fun i hi => ?_⟩
  have := anyB_false.1 h5 i hi
  simp only [Bool.not_eq_false'] at this
  exact inR_true.1 this
def exOk (s : Shw) (i : Nat) : Prop := exB (s.id i) (s.title i) (s.fr i) (s.m i) (s.mks i) = true ∧ s.m i = s.m 0 ∧ (0 < i → s.id (i - 1) < s.id i)
def exsOk (n : Nat) (s : Shw) : Prop := (∀ i, i < n → exOk s i) ∧ n ≤ 10
open Classical in
noncomputable def exsB (n : Nat) (s : Shw) : Bool := decide (exsOk n s)
open Classical in
theorem exsB_iff {n : Nat} {s : Shw} : exsB n s = true ↔ exsOk n s := by unfold exsB; exact decide_eq_true_iff
theorem exsB_no {n : Nat} {s : Shw} {k : Nat} (hk : k < n) (h : ¬ exOk s k) : exsB n s = false := by
  rw [Bool.eq_false_iff, Ne, exsB_iff]; exact fun hh => h (hh.1 k hk)
theorem exsB_end {n : Nat} {s : Shw} (h : ∀ i, i < n → exOk s i) : exsB n s = decide ((n : Int) ≤ 10) := by
  rw [Bool.eq_iff_iff, exsB_iff, decide_eq_true_iff]; exact ⟨fun hh => by have := hh.2; omega, fun hh => ⟨h, by omega⟩⟩
def Shw.cells (s : Shw) (B : Nat → Option Addr) (d : Nat → Nat) (i : Nat) : Nat → Value
  | 0 => .int .i64 (s.id i)
  | 1 => .string (s.title i)
  | 2 => .int .i64 (s.fr i)
  | _ => .slice (B i) (s.m i) (d i)
/-- A slice of n exhibits. -/
structure RdS (H : Hp) (A : Option Addr) (n : Nat) (s : Shw) : Prop where
  ex : ∃ (B : Nat → Option Addr) (d : Nat → Nat), RdV H A n 4 (s.cells B d) ∧ ∀ i, i < n → s.m i ≤ d i ∧ Rd H (B i) (s.m i) 1 (fun q _ => s.mks i q)
theorem RdS.sub {H H' : Hp} {A : Option Addr} {n : Nat} {s : Shw} (h : RdS H A n s) (hs : Sub H H') : RdS H' A n s := by
  obtain ⟨B, d, h1, h2⟩ := h.ex
  exact ⟨B, d, h1.sub hs, fun i hi => ⟨(h2 i hi).1, (h2 i hi).2.sub hs⟩⟩
/-- One exhibit's four cells. -/
theorem RdS.at_ {H : Hp} {A : Option Addr} {n : Nat} {s : Shw} (h : RdS H A n s) {i : Nat} (hi : i < n) : ∃ b off B d, A = some ⟨b, off, none⟩ ∧ rd H b (off + i * 4) = some (.int .i64 (s.id i)) ∧ rd H b (off + i * 4 + 1) = some (.string (s.title i)) ∧ rd H b (off + i * 4 + 2) = some (.int .i64 (s.fr i)) ∧
    rd H b (off + i * 4 + 3) = some (.slice B (s.m i) d) ∧ s.m i ≤ d ∧ Rd H B (s.m i) 1 (fun q _ => s.mks i q) := by
  obtain ⟨B, d, h1, h2⟩ := h.ex
  obtain ⟨b, off, e, hc⟩ := h1.at_ (by omega)
  exact ⟨b, off, B i, d i, e, hc i 0 hi (by omega), hc i 1 hi (by omega), hc i 2 hi (by omega), hc i 3 hi (by omega), (h2 i hi).1, (h2 i hi).2⟩
end Go.Proofs.YtnjlleopgjggpaaDoor
