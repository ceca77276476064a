/- YtjjkfbjidpolmaaDoorWkP: part of the proof of this seat, by an AI agent: plain functions of names and terms. No condition of its own but those that its theorems state. -/
import Derived.Test.YtjjkfbjidpolmaaDoorWkD
set_option linter.unusedVariables false
set_option linter.unusedSimpArgs false
namespace Go.Wk
open Go
/-! ### what the words of the document say, as plain functions -/
def letterB (c : Int) : Bool := decide ((97 ≤ c ∧ c ≤ 122) ∨ (65 ≤ c ∧ c ≤ 90) ∨ (48 ≤ c ∧ c ≤ 57) ∨ c = 95)
def wordB (s : ByteArray) (lo hi : Int) : Bool := decide (1 ≤ s.size ∧ s.size ≤ 120 ∧ lo ≤ (byteAt s 0 : Int) ∧ (byteAt s 0 : Int) ≤ hi ∧ ∀ j, j < s.size → letterB (byteAt s j) = true)
def kwB (s : ByteArray) : Bool := decide (s = ⟨#[110, 111, 116]⟩ ∨ s = ⟨#[99, 111, 117, 110, 116]⟩ ∨ s = ⟨#[115, 117, 109]⟩ ∨ s = ⟨#[109, 105, 110]⟩ ∨ s = ⟨#[109, 97, 120]⟩ ∨ s = ⟨#[108, 101, 110]⟩ ∨ s = ⟨#[99, 104, 97, 114, 115]⟩ ∨ s = ⟨#[98, 97, 99, 107]⟩)
def nameB (s : ByteArray) : Bool := wordB s 97 122 && !kwB s
def varB (s : ByteArray) : Bool := wordB s 65 90
def okV (x : Vl) : Bool := decide ((x.k = 1 ∧ x.s = ⟨#[]⟩) ∨ (x.k = 2 ∧ x.n = 0 ∧ x.s.size ≤ 200))
def zV (x : Vl) : Bool := decide (x.k = 0 ∧ x.n = 0 ∧ x.s = ⟨#[]⟩)
def zT (x : Tm) : Bool := decide (x.v = ⟨#[]⟩) && zV x.l
def tmB (t : Tm) : Bool := if t.v = ⟨#[]⟩ then okV t.l else if t.v = ⟨#[95]⟩ then zV t.l else varB t.v && zV t.l
def kidsN (op : Int) : Int := if op = 1 ∨ (8 ≤ op ∧ op ≤ 10) then 1 else if 2 ≤ op ∧ op ≤ 7 then 2 else -1
def exB : Nat → Ex → Bool
  | 0, _ => false
  | d + 1, e => if e.op = 0 then decide (e.kids.length = 0) && !decide (e.t.v = ⟨#[95]⟩) && tmB e.t else zT e.t && decide ((e.kids.length : Int) = kidsN e.op) && e.kids.all (exB d)
def code (b : Bool) : Int := if b then 0 else 40
def fast (e : Ex) : Int := if e.op = 2 ∨ e.op = 3 ∨ e.op = 7 then 1 else if e.op = 4 ∨ e.op = 5 ∨ e.op = 6 then 2 else if e.op = 1 then 3 else 4
def signW (op : Int) : ByteArray := if op = 2 then ⟨#[43]⟩ else if op = 3 then ⟨#[45]⟩ else if op = 4 then ⟨#[42]⟩ else if op = 5 then ⟨#[47]⟩ else if op = 6 then ⟨#[37]⟩ else ⟨#[38]⟩
def wordW (op : Int) : ByteArray := if op = 8 then ⟨#[108, 101, 110]⟩ else if op = 9 then ⟨#[99, 104, 97, 114, 115]⟩ else ⟨#[98, 97, 99, 107]⟩
theorem toList_nil_iff (s : ByteArray) : s.toList = [] ↔ s = ⟨#[]⟩ := by
  rw [Go.toList_nil_iff_emptyBytes]; rfl
theorem byteAt_lt (s : ByteArray) (j : Nat) : byteAt s j < 256 := by unfold byteAt; exact UInt8.toNat_lt _
theorem letter_lo {c : Int} (h : 97 ≤ c ∧ c ≤ 122) : letterB c = true := by simp [letterB]; omega
theorem letter_up {c : Int} (h : 65 ≤ c ∧ c ≤ 90) : letterB c = true := by simp [letterB]; omega
/-- What written asks, with the bytes behind the first. -/
theorem wordB_yes {s : ByteArray} {lo hi : Int} (hl : (lo = 97 ∧ hi = 122) ∨ (lo = 65 ∧ hi = 90)) (h1 : 1 ≤ s.size) (h2 : s.size ≤ 120) (h3 : lo ≤ (byteAt s 0 : Int)) (h4 : (byteAt s 0 : Int) ≤ hi) (h5 : ∀ j, 1 ≤ j → j < s.size → letterB (byteAt s j) = true) : wordB s lo hi = true := by
  simp only [wordB, decide_eq_true_eq]
  refine ⟨h1, h2, h3, h4, fun j hj => ?_⟩
  by_cases h0 : j = 0
  · subst h0
    rcases hl with ⟨rfl, rfl⟩ | ⟨rfl, rfl⟩
    · exact letter_lo ⟨h3, h4⟩
    · exact letter_up ⟨h3, h4⟩
  · exact h5 j (by omega) hj
theorem wordB_no {s : ByteArray} {lo hi : Int} (j : Nat) (hj : j < s.size) (h : letterB (byteAt s j) = false) : wordB s lo hi = false := by
  simp only [wordB, decide_eq_false_iff_not]
  rintro ⟨_, _, _, _, h5⟩
  rw [h5 j hj] at h
  cases h
theorem step_all {p : Nat → Prop} {i : Nat} (h : ∀ j, 1 ≤ j → j < i → p j) (hi : p i) : ∀ j, 1 ≤ j → j < i + 1 → p j := fun j h1 hj => by
  rcases Nat.lt_succ_iff_lt_or_eq.1 hj with hj | rfl
  · exact h j h1 hj
  · exact hi
theorem step_all0 {p : Nat → Prop} {i : Nat} (h : ∀ j, j < i → p j) (hi : p i) : ∀ j, j < i + 1 → p j := fun j hj => by
  rcases Nat.lt_succ_iff_lt_or_eq.1 hj with hj | rfl
  · exact h j hj
  · exact hi
end Go.Wk
