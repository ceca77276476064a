/- YtjjkfbjidpolmaaDoorWkU: part of the proof of this seat, by an AI agent: atoms and columns. No condition of its own but those that its theorems state. -/
import Derived.Test.YtjjkfbjidpolmaaDoorWkT
set_option linter.unusedVariables false
set_option linter.unusedSimpArgs false
namespace Go.Wk
open Go Go.RowKit Go.Lib
/-! ### atoms -/
structure At where
  p : ByteArray
  args : List Tm
def Tm.none : Tm := ⟨⟨#[]⟩, ⟨0, 0, ⟨#[]⟩⟩⟩
def tmAt (l : List Tm) (j : Nat) : Tm := l.getD j Tm.none
theorem tmAt_of {l : List Tm} {y : Tm} {j : Nat} (h : l[j]? = some y) : tmAt l j = y := by simp [tmAt, List.getD_eq_getElem?_getD, h]
theorem tmAt_there {l : List Tm} {j : Nat} (h : j < l.length) : l[j]? = some (tmAt l j) := by simp [tmAt, List.getD_eq_getElem?_getD, h]
structure At.okc (x : At) (c : Nat) : Prop where
  p : x.p.size ≤ 140737488351232
  l : x.args.length ≤ c
  c : x.args.length * 48 ≤ 140737488351232
def RA (w : World) (x : At) (cs : List Value) : Prop := ∃ A c, cs = [.string x.p, .slice A x.args.length c] ∧ x.okc c ∧ Row RT 4 w A x.args
theorem RA.ext {w w' : World} (k : Ext w w') {x : At} {cs : List Value} (h : RA w x cs) : RA w' x cs := by
  obtain ⟨A, c, h1, h2, h3⟩ := h; exact ⟨A, c, h1, h2, h3.extT k⟩
def atB (x : At) : Bool := nameB x.p && decide ((x.args.length : Int) ≤ 24) && x.args.all tmB
/-! columns -/
def colP (l : List ByteArray) : Nat → ByteArray
  | 0 => ⟨#[]⟩
  | i + 1 => colP l i ++ (if i = 0 then ⟨#[40]⟩ else ⟨#[44, 32]⟩) ++ l.getD i ⟨#[]⟩
def colW (nm : ByteArray) (l : List ByteArray) : ByteArray := if l.length = 0 then nm else nm ++ colP l l.length ++ ⟨#[41]⟩
def atW (x : At) : ByteArray := colW x.p (x.args.map termW)
theorem colP_le {l : List ByteArray} {M : Nat} (h : ∀ i, i < l.length → (l.getD i ⟨#[]⟩).size ≤ M) : ∀ i, i ≤ l.length → (colP l i).size ≤ i * (M + 2)
  | 0, _ => by simp [colP, z0]
  | i + 1, hi => by
    have := colP_le h i (by omega)
    have h2 := h i (by omega)
    have h3 : (if i = 0 then (⟨#[40]⟩ : ByteArray) else ⟨#[44, 32]⟩).size ≤ 2 := by split <;> decide
    simp only [colP, ByteArray.size_append, Nat.add_mul, Nat.one_mul]
    omega
theorem termW_at {l : List Tm} {i : Nat} (h : i < l.length) : (l.map termW).getD i ⟨#[]⟩ = termW (tmAt l i) := by
  simp [tmAt, List.getD_eq_getElem?_getD, h]
theorem wordB_ne {s : ByteArray} {lo hi : Int} (h : wordB s lo hi = true) : s.size ≠ 0 := by
  simp only [wordB, decide_eq_true_eq] at h; omega
theorem atW_ne {x : At} (h : atB x = true) : (atW x).size ≠ 0 := by
  simp only [atB, nameB, Bool.and_eq_true] at h
  have := wordB_ne h.1.1.1
  unfold atW colW
  split
  · exact this
  · simp only [ByteArray.size_append]; omega
theorem atB_parts {x : At} (h : atB x = true) : nameB x.p = true ∧ x.p.size ≤ 120 ∧ x.args.length ≤ 24 ∧ ∀ i, i < x.args.length → tmB (tmAt x.args i) = true := by
  simp only [atB, Bool.and_eq_true, decide_eq_true_eq] at h
  have h1 := h.1.1
  simp only [nameB, Bool.and_eq_true] at h1
  exact ⟨h.1.1, wordB_size h1.1, by omega, fun i hi => all_kid h.2 (tmAt_there hi)⟩
theorem RT_wf {w : World} {A : Option Addr} {l : List Tm} {m i : Nat} (h : Row RT m w A l) (hi : i < l.length) : (tmAt l i).wf := by
  obtain ⟨_, _, y, _, _, hy, h, _⟩ := h.at_ i hi
  rw [tmAt_of hy]
  exact h.2
end Go.Wk
