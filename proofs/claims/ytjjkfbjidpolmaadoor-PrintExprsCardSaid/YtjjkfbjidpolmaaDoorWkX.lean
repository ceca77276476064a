/- YtjjkfbjidpolmaaDoorWkX: part of the proof of this seat, by an AI agent: expressions: may it be, its text. No condition of its own but those that its theorems state. -/
import Derived.Test.YtjjkfbjidpolmaaDoorWkH
set_option linter.unusedVariables false
set_option linter.unusedSimpArgs false
namespace Go.Wk
open Go Go.RowKit Go.Lib
/-! ### expressions: what is said of them -/
theorem Ex.kid_lt {x y : Ex} {j : Nat} (h : x.kids[j]? = some y) : SizeOf.sizeOf y < SizeOf.sizeOf x := by
  obtain ⟨o, t, l⟩ := x
  have := List.sizeOf_lt_of_mem (List.mem_of_getElem? h)
  simp only [Ex.kids] at this
  simp only [Ex.mk.sizeOf_spec]
  omega
theorem exB_zero (x : Ex) : exB 0 x = false := rfl
theorem exB_pos {d : Nat} (h : d ≠ 0) (x : Ex) : exB d x = if x.op = 0 then decide ((x.kids.length : Int) = 0) && !decide (x.t.v = ⟨#[95]⟩) && tmB x.t else zT x.t && decide ((x.kids.length : Int) = kidsN x.op) && x.kids.all (exB (d - 1)) := by
  obtain ⟨d', rfl⟩ := Nat.exists_eq_succ_of_ne_zero h
  have e : decide ((x.kids.length : Int) = 0) = decide (x.kids.length = 0) := by congr 1; simp
  rw [e]
  rfl
theorem all_no {α : Type} {p : α → Bool} {l : List α} {i : Nat} {y : α} (h : l[i]? = some y) (hp : p y = false) : l.all p = false := by
  rw [List.all_eq_false]
  exact ⟨y, List.mem_of_getElem? h, by simp [hp]⟩
theorem all_yes {α : Type} {p : α → Bool} {l : List α} {i : Nat} (hi : ¬ (i : Int) < l.length) (h : ∀ j y, j < i → l[j]? = some y → p y = true) : l.all p = true := by
  rw [List.all_eq_true]
  intro y hy
  obtain ⟨j, hj, rfl⟩ := List.getElem_of_mem hy
  exact h j _ (by omega) (List.getElem?_eq_getElem hj)
theorem all_kid {α : Type} {p : α → Bool} {l : List α} {j : Nat} {y : α} (h : l.all p = true) (hj : l[j]? = some y) : p y = true := List.all_eq_true.1 h y (List.mem_of_getElem? hj)
theorem kids_step {α : Type} {p : α → Bool} {l : List α} {i : Nat} {z : α} (h : ∀ j y, j < i → l[j]? = some y → p y = true) (hz : l[i]? = some z) (hp : p z = true) : ∀ j y, j < i + 1 → l[j]? = some y → p y = true := by
  intro j y hj hy
  rcases Nat.lt_succ_iff_lt_or_eq.1 hj with hj | rfl
  · exact h j y hj hy
  · rw [hz] at hy; cases hy; exact hp
def Ex.none : Ex := .mk 0 ⟨⟨#[]⟩, ⟨0, 0, ⟨#[]⟩⟩⟩ []
def Ex.kid (x : Ex) (j : Nat) : Ex := x.kids.getD j Ex.none
theorem Ex.kid_of {x y : Ex} {j : Nat} (h : x.kids[j]? = some y) : x.kid j = y := by simp [Ex.kid, List.getD_eq_getElem?_getD, h]
def inB (b : Bool) (s : ByteArray) : ByteArray := if b then (⟨#[40]⟩ : ByteArray) ++ s ++ ⟨#[41]⟩ else s
def numB (x : Ex) : Bool := decide (x.op = 0) && decide (x.t.v = ⟨#[]⟩) && decide (x.t.l.k = 1) && decide (0 ≤ x.t.l.n)
def exW : Nat → Ex → ByteArray
  | 0, _ => ⟨#[]⟩
  | d + 1, x => if x.op = 0 then termW x.t
    else if 8 ≤ x.op ∧ x.op ≤ 10 then wordW x.op ++ ⟨#[40]⟩ ++ exW d (x.kid 0) ++ ⟨#[41]⟩
    else if x.op = 1 then (⟨#[45]⟩ : ByteArray) ++ inB (decide (fast (x.kid 0) < 3) || numB (x.kid 0)) (exW d (x.kid 0))
    else inB (decide (fast (x.kid 0) < fast x)) (exW d (x.kid 0)) ++ ⟨#[32]⟩ ++ signW x.op ++ ⟨#[32]⟩ ++ inB (decide (fast (x.kid 1) ≤ fast x)) (exW d (x.kid 1))
theorem exW_pos {d : Nat} (h : d ≠ 0) (x : Ex) : exW d x = if x.op = 0 then termW x.t
    else if 8 ≤ x.op ∧ x.op ≤ 10 then wordW x.op ++ ⟨#[40]⟩ ++ exW (d - 1) (x.kid 0) ++ ⟨#[41]⟩
    else if x.op = 1 then (⟨#[45]⟩ : ByteArray) ++ inB (decide (fast (x.kid 0) < 3) || numB (x.kid 0)) (exW (d - 1) (x.kid 0))
    else inB (decide (fast (x.kid 0) < fast x)) (exW (d - 1) (x.kid 0)) ++ ⟨#[32]⟩ ++ signW x.op ++ ⟨#[32]⟩ ++ inB (decide (fast (x.kid 1) ≤ fast x)) (exW (d - 1) (x.kid 1)) := by
  obtain ⟨d', rfl⟩ := Nat.exists_eq_succ_of_ne_zero h
  rfl
/-! sizes -/
section
variable {a b c e f g : UInt8}
theorem z0 : (⟨#[]⟩ : ByteArray).size = 0 := rfl
theorem z1 : (⟨#[a]⟩ : ByteArray).size = 1 := rfl
theorem z2 : (⟨#[a, b]⟩ : ByteArray).size = 2 := rfl
theorem z3 : (⟨#[a, b, c]⟩ : ByteArray).size = 3 := rfl
theorem z4 : (⟨#[a, b, c, e]⟩ : ByteArray).size = 4 := rfl
theorem z5 : (⟨#[a, b, c, e, f]⟩ : ByteArray).size = 5 := rfl
theorem z6 : (⟨#[a, b, c, e, f, g]⟩ : ByteArray).size = 6 := rfl
end
theorem signW_size (o : Int) : (signW o).size = 1 := by unfold signW; (repeat' split) <;> rfl
theorem wordW_size (o : Int) : (wordW o).size ≤ 5 := by unfold wordW; (repeat' split) <;> decide
theorem inB_size (b : Bool) (s : ByteArray) : (inB b s).size ≤ s.size + 2 := by
  unfold inB; split
  · simp only [ByteArray.size_append, z1]; omega
  · omega
theorem quotB_size (s : ByteArray) : (quotB s).size ≤ 4 * s.size + 2 := by
  have := quotL_le s s.size
  simp only [quotB, ByteArray.size, List.size_toArray, List.length_append, List.length_singleton]
  simp only [ByteArray.size] at this
  omega
theorem itoaB_size {n : Int} (h : -9223372036854775808 ≤ n ∧ n ≤ 9223372036854775807) : (itoaB n).size ≤ 21 := by
  by_cases hn : n < 0
  · rw [itoaB_neg hn h.1, ByteArray.size_append, z1]
    have := digB_size (u := n.natAbs) (by omega)
    omega
  · rw [itoaB_pos hn]
    have := digB_size (u := n.toNat) (by omega)
    omega
theorem showB_size {x : Vl} (h : okV x = true) (hx : x.wf) : (showB x).size ≤ 802 := by
  unfold showB
  have h3 := h
  simp only [okV, decide_eq_true_eq] at h3
  split
  · have := itoaB_size hx.n; omega
  · have hs : x.s.size ≤ 200 := by
      rcases h3 with h3 | h3
      · exact absurd h3.1 (by assumption)
      · exact h3.2.2
    split
    · omega
    · have := quotB_size x.s; omega
theorem wordB_size {s : ByteArray} {lo hi : Int} (h : wordB s lo hi = true) : s.size ≤ 120 := by
  simp only [wordB, decide_eq_true_eq] at h; exact h.2.1
theorem termW_size {t : Tm} (h : tmB t = true) (ht : t.wf) : (termW t).size ≤ 802 := by
  unfold termW
  unfold tmB at h
  split
  · rename_i h0
    rw [if_pos h0] at h
    rw [if_pos h]
    exact showB_size h ht.l
  · rename_i h0
    rw [if_neg h0] at h
    split at h
    · rename_i h1; rw [h1, z1]; omega
    · simp only [Bool.and_eq_true, varB] at h
      have := wordB_size h.1
      omega
/-- The kids are there. -/
theorem kid_there {x : Ex} {j : Nat} (h : j < x.kids.length) : x.kids[j]? = some (x.kid j) := by
  simp [Ex.kid, List.getD_eq_getElem?_getD, h]
theorem exB_parts {d : Nat} {x : Ex} (h : exB d x = true) : d ≠ 0 ∧ (x.op = 0 → x.kids = [] ∧ ¬ x.t.v = ⟨#[95]⟩ ∧ tmB x.t = true) ∧ (¬ x.op = 0 → zT x.t = true ∧ (x.kids.length : Int) = kidsN x.op ∧ ∀ (j : Nat) (y : Ex), x.kids[j]? = some y → exB (d - 1) y = true) := by
  have hd : d ≠ 0 := by rintro rfl; simp [exB] at h
  rw [exB_pos hd] at h
  refine ⟨hd, fun h0 => ?_, fun h0 => ?_⟩
  · rw [if_pos h0] at h
    simp only [Bool.and_eq_true, decide_eq_true_eq, Bool.not_eq_true', decide_eq_false_iff_not] at h
    exact ⟨List.eq_nil_of_length_eq_zero (by omega), h.1.2, h.2⟩
  · rw [if_neg h0] at h
    simp only [Bool.and_eq_true, decide_eq_true_eq] at h
    exact ⟨h.1.1, h.1.2, fun j y hy => all_kid h.2 hy⟩
/-- One kid. -/
theorem ex_one {d : Nat} {x : Ex} (h : exB d x = true) (ho : x.op = 1 ∨ 8 ≤ x.op ∧ x.op ≤ 10) : 0 < x.kids.length ∧ exB (d - 1) (x.kid 0) = true := by
  obtain ⟨_, _, h2⟩ := exB_parts h
  obtain ⟨_, h3, h4⟩ := h2 (by omega)
  have e : kidsN x.op = 1 := by simp [kidsN]; omega
  have : 0 < x.kids.length := by omega
  exact ⟨this, h4 0 _ (kid_there this)⟩
theorem ex_ops {d : Nat} {x : Ex} (h : exB d x = true) : 0 ≤ x.op ∧ x.op ≤ 10 := by
  obtain ⟨_, _, h2⟩ := exB_parts h
  by_cases h0 : x.op = 0
  · omega
  · obtain ⟨_, h3, _⟩ := h2 h0
    unfold kidsN at h3
    split at h3
    · omega
    · split at h3
      · omega
      · omega
/-- Two kids. -/
theorem ex_two {d : Nat} {x : Ex} (h : exB d x = true) (h0 : ¬ x.op = 0) (h1 : ¬ x.op = 1) (h8 : ¬ (8 ≤ x.op ∧ x.op ≤ 10)) : 1 < x.kids.length ∧ exB (d - 1) (x.kid 0) = true ∧ exB (d - 1) (x.kid 1) = true := by
  have hop := ex_ops h
  obtain ⟨_, _, h2⟩ := exB_parts h
  obtain ⟨_, h3, h4⟩ := h2 h0
  have e : kidsN x.op = 2 := by unfold kidsN; rw [if_neg (by omega), if_pos (by omega)]
  have : 1 < x.kids.length := by omega
  exact ⟨this, h4 0 _ (kid_there (by omega)), h4 1 _ (kid_there this)⟩
/-- Every term is one. -/
inductive Ex.Ok : Ex → Prop
  | mk (x : Ex) (h : x.t.wf) (k : ∀ (j : Nat) (y : Ex), x.kids[j]? = some y → Ex.Ok y) : Ex.Ok x
theorem Ex.Ok.t {x : Ex} (h : x.Ok) : x.t.wf := by cases h; assumption
theorem Ex.Ok.kid {x y : Ex} {j : Nat} (h : x.Ok) (hy : x.kids[j]? = some y) : y.Ok := by cases h with | mk _ _ k => exact k j y hy
theorem RE.ok {w : World} {x : Ex} {cs : List Value} (h : RE w x cs) : x.Ok := by
  induction h with
  | mk op t kids A c b o f hop ht hl hc hA hr hcell ih => exact .mk _ ht ih
theorem Row.ok {w : World} {A : Option Addr} {x : Ex} (h : Row RE 6 w A x.kids) (ht : x.t.wf) : x.Ok := by
  refine .mk x ht fun j y hy => ?_
  rcases h with h | ⟨b, o, _, h⟩
  · rw [h] at hy; simp at hy
  · obtain ⟨cs, h, _⟩ := h j y hy
    exact h.ok
theorem exW_size : ∀ (d : Nat) (x : Ex), exB d x = true → x.Ok → (exW d x).size ≤ 2 ^ d * 900 - 8
  | 0, x, h, _ => by simp [exB] at h
  | d + 1, x, h, hx => by
    have ih : ∀ j, j < x.kids.length → exB d (x.kid j) = true → (exW d (x.kid j)).size ≤ 2 ^ d * 900 - 8 := fun j hj hb => exW_size d _ hb (hx.kid (kid_there hj))
    have hp : 1 ≤ 2 ^ d := Nat.one_le_two_pow
    have hp2 : 2 ^ (d + 1) = 2 * 2 ^ d := by rw [Nat.pow_succ]; omega
    rw [exW_pos (by omega)]
    simp only [Nat.add_sub_cancel]
    split
    · rename_i h0
      have := termW_size ((exB_parts h).2.1 h0).2.2 hx.t
      omega
    · rename_i h0
      split
      · rename_i h1
        obtain ⟨h2, h3⟩ := ex_one h (.inr h1)
        have := ih 0 h2 h3
        have := wordW_size x.op
        simp only [ByteArray.size_append, z1]
        omega
      · rename_i h1
        split
        · rename_i h2
          obtain ⟨h2, h3⟩ := ex_one h (.inl h2)
          have := ih 0 h2 h3
          have := inB_size (decide (fast (x.kid 0) < 3) || numB (x.kid 0)) (exW d (x.kid 0))
          simp only [ByteArray.size_append, z1]
          omega
        · rename_i h2
          obtain ⟨h3, h4, h5⟩ := ex_two h h0 h2 h1
          have := ih 0 (by omega) h4
          have := ih 1 h3 h5
          have := inB_size (decide (fast (x.kid 0) < fast x)) (exW d (x.kid 0))
          have := inB_size (decide (fast (x.kid 1) ≤ fast x)) (exW d (x.kid 1))
          have := signW_size x.op
          simp only [ByteArray.size_append, z1]
          omega
theorem exW_le {d : Nat} {x : Ex} (hd : d ≤ 8) (h : exB d x = true) (hx : x.Ok) : (exW d x).size ≤ 230400 := by
  have := exW_size d x h hx
  have h2 : 2 ^ d ≤ 2 ^ 8 := Nat.pow_le_pow_right (by omega) hd
  omega
theorem ci_t {b : Bool} {t e : Int} (h : e ≠ t) : cmpI .eql (if b then t else e) t = some b := by cases b <;> simp [cmpI, h]
theorem ci_tn {b : Bool} {t e : Int} (h : e ≠ t) : cmpI .neq (if b then t else e) t = some (!b) := by cases b <;> simp [cmpI, h]
theorem ci_e {b : Bool} {t e : Int} (h : t ≠ e) : cmpI .eql (if b then t else e) e = some (!b) := by cases b <;> simp [cmpI, h]
theorem ci_en {b : Bool} {t e : Int} (h : t ≠ e) : cmpI .neq (if b then t else e) e = some b := by cases b <;> simp [cmpI, h]
theorem okV_s {x : Vl} (h : okV x = true) : x.s.size ≤ 200 := by
  simp only [okV, decide_eq_true_eq] at h
  rcases h with h | h
  · rw [h.2]; decide
  · exact h.2.2
end Go.Wk
