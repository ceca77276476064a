/- YtjjkfbjidpolmaaDoorWkY: part of the proof of this seat, by an AI agent: bytes of a text, the first that fits. No condition of its own but those that its theorems state. -/
import Derived.Test.YtjjkfbjidpolmaaDoorWkX
import Derived.Lib.ConvBytes
set_option linter.unusedVariables false
set_option linter.unusedSimpArgs false
namespace Go.Wk
open Go Go.RowKit Go.Lib
section
variable {P : Program} {ops : Array Oper} {Q : Exit → Act → World → Prop} {rest : List Oper} {n d t : Nat} {env : Nat → Value} {ds : List Deferred} {w w' : World} {v u : Value}
  {ty T : TypeId} {pos : String} {af : Array Edge} {gd : Option (Nat × Bool)} {x y z : Operand}
/-- A text's bytes in a block. -/
def SB (w : World) (g : Nat) (s : ByteArray) : Prop := ∀ j, j < s.size → w.cell? ⟨g, 0 + j * 1, none⟩ = some (.int .u8 (byteAt s j))
theorem SB.ext {g : Nat} {s : ByteArray} (h : SB w g s) (k : Ext w w') : SB w' g s := fun j hj => k.cell (h j hj)
/-- []byte(s) -/
theorem s_sbytes {S2 e : TypeId} {s : ByteArray} (hs : P.underlying T = some .string) (hd : P.underlying S2 = some (.slice e)) (he : P.underlying e = some (.int .u8)) (hx : (mkA n env ds).eval x = .string s)
    (hw : Region.wanted ⟨some d, .convert T S2 x, ty, pos, af, gd⟩ (yielded ops (mkA n env ds).tmps) = true)
    (k : ∀ w' g c, SB w' g s → Ext w w' → wpList P ops Q rest (mkA n (upd env d (.slice (some ⟨g, 0, none⟩) s.size c)) ds) w') : wpList P ops Q (⟨some d, .convert T S2 x, ty, pos, af, gd⟩ :: rest) (mkA n env ds) w := by
  refine s_val hw (w' := bytesWorld w e s) (v := .slice (some ⟨w.heap.size, 0, none⟩) s.size (grownCap w s.size 0 e)) ?_ (k _ _ _ ?_ ?_)
  · simp only [execOp, hx]
    rw [Sem.run_bind, Go.Lib.run_convert_string_bytes w T S2 e s hs hd he]
    rfl
  · intro j hj
    have := bytesWorld_cell w e s j hj
    rw [Nat.zero_add, Nat.mul_one, this]
    congr 2
    simp [byteAt, Array.getD_eq_getD_getElem?, List.getD_eq_getElem?_getD]
  · refine ⟨rfl, rfl, rfl, ?_, fun j hj _ => bytesWorld_at_old w e s j hj⟩
    rw [bytesWorld_size]; omega
end
/-- A word is one, asked from the first byte on. -/
theorem wordB_yes0 {s : ByteArray} {lo hi : Int} (h1 : ¬ (s.size : Int) = 0) (h2 : ¬ (120 : Int) < s.size) (h3 : ¬ (byteAt s 0 : Int) < lo) (h4 : ¬ hi < (byteAt s 0 : Int)) {i : Nat} (hi' : ¬ (i : Int) < s.size) (h5 : ∀ j, j < i → letterB (byteAt s j) = true) : wordB s lo hi = true := by
  simp only [wordB, decide_eq_true_eq]
  exact ⟨by omega, by omega, by omega, by omega, fun j hj => h5 j (by omega)⟩
/-- Where the first one lies, or -1. -/
def posB {α : Type} (p : α → Bool) (l : List α) : Int := match l.findIdx? p with
  | some i => (i : Int)
  | none => -1
theorem posB_at {α : Type} {p : α → Bool} {l : List α} {i : Nat} {z : α} (h : ∀ j y, j < i → l[j]? = some y → p y = false) (hz : l[i]? = some z) (hp : p z = true) : posB p l = i := by
  have hi : i < l.length := (List.getElem?_eq_some_iff.1 hz).1
  have he : l[i] = z := (List.getElem?_eq_some_iff.1 hz).2
  have : l.findIdx? p = some i := by
    rw [List.findIdx?_eq_some_iff_getElem]
    refine ⟨hi, by rw [he]; exact hp, fun j hj => ?_⟩
    have := h j (l[j]'(by omega)) hj (List.getElem?_eq_getElem _)
    simp [this]
  simp [posB, this]
theorem posB_none {α : Type} {p : α → Bool} {l : List α} {i : Nat} (hi : ¬ (i : Int) < l.length) (h : ∀ j y, j < i → l[j]? = some y → p y = false) : posB p l = -1 := by
  have : l.findIdx? p = none := by
    rw [List.findIdx?_eq_none_iff]
    intro y hy
    obtain ⟨j, hj, rfl⟩ := List.getElem_of_mem hy
    exact h j _ (by omega) (List.getElem?_eq_getElem hj)
  simp [posB, this]
theorem kids_stepF {α : Type} {p : α → Bool} {l : List α} {i : Nat} {z : α} (h : ∀ j y, j < i → l[j]? = some y → p y = false) (hz : l[i]? = some z) (hp : p z = false) : ∀ j y, j < i + 1 → l[j]? = some y → p y = false := by
  intro j y hj hy
  rcases Nat.lt_succ_iff_lt_or_eq.1 hj with hj | rfl
  · exact h j y hj hy
  · rw [hz] at hy; cases hy; exact hp
theorem posB_all {α : Type} (p : α → Bool) (l : List α) : (!decide (0 ≤ posB (fun y => !p y) l)) = l.all p := by
  rw [Bool.eq_iff_iff]
  simp only [Bool.not_eq_true', decide_eq_false_iff_not, List.all_eq_true]
  unfold posB
  cases h : l.findIdx? (fun y => !p y) with
  | none =>
    rw [List.findIdx?_eq_none_iff] at h
    simp only [Int.reduceNeg]
    exact ⟨fun _ y hy => by simpa using h y hy, fun _ => by omega⟩
  | some i =>
    rw [List.findIdx?_eq_some_iff_getElem] at h
    obtain ⟨hi, h1, _⟩ := h
    simp only
    refine ⟨fun h => absurd (Int.natCast_nonneg i) h, fun h => ?_⟩
    have := h _ (List.getElem_mem hi)
    simp [this] at h1
theorem posB_le {α : Type} (p : α → Bool) (l : List α) : -1 ≤ posB p l ∧ posB p l < l.length ∨ l = [] := by
  by_cases h0 : l = []
  · exact .inr h0
  · left
    unfold posB
    have : 0 < l.length := List.length_pos_iff.2 h0
    cases h : l.findIdx? p with
    | none => simp only [Int.reduceNeg]; omega
    | some i =>
      rw [List.findIdx?_eq_some_iff_getElem] at h
      obtain ⟨hi, _⟩ := h
      simp only; omega
end Go.Wk
