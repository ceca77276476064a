/- YtjjkfbjidpolmaaDoorWkA: part of the proof of this seat, by an AI agent: frames as functions. No condition of its own but those that its theorems state. -/
import Derived.WalkKit
import Derived.Deep.Quiet
import Derived.KernelRfl
set_option linter.unusedVariables false
set_option linter.unusedSimpArgs false
namespace Go.Wk
open Go

/-! ### frames as functions -/
def upd (env : Nat → Value) (d : Nat) (v : Value) : Nat → Value := fun t => bif Nat.beq t d then v else env t
def argE (l : List Value) : Nat → Value := fun t => l.getD t undef
def mkA (n : Nat) (env : Nat → Value) (ds : List Deferred) : Act := ⟨Array.ofFn (n := n) (fun i => env i), ds⟩

section
variable {P : Program} {ops : Array Oper} {Q : Exit → Act → World → Prop} {rest : List Oper} {n d t : Nat} {env : Nat → Value} {ds : List Deferred} {w w' : World} {v : Value}

theorem mkA_size : (mkA n env ds).tmps.size = n := by simp [mkA]
theorem mkA_get (h : t < n) : (mkA n env ds).tmps[t]? = some (env t) := by simp [mkA, h]
theorem mkA_getD (h : t < n) : (mkA n env ds).tmps.getD t undef = env t := by
  rw [Array.getD_eq_getD_getElem?, mkA_get h]; rfl
theorem ev_t (h : Nat.blt t n = true) (hv : env t = v) : (mkA n env ds).eval (.tmp t) = v := by
  have h' : t < n := Nat.lt_of_succ_le (by simpa [Nat.blt] using h)
  rw [← hv]; exact mkA_getD h'
theorem ev_c : (mkA n env ds).eval (.const v) = v := rfl
theorem ev_g {g : Nat} : (mkA n env ds).eval (.global g) = .pointer (some ⟨g, 0, none⟩) := rfl
theorem ev_f {f : FuncId} : (mkA n env ds).eval (.func f) = .func (.func f) #[] #[] := rfl
theorem put_some : (mkA n env ds).put (some d) v = mkA n (upd env d v) ds := by
  simp only [Act.put, mkA]
  congr 1
  apply Array.ext
  · simp
  · intro i h1 h2
    have hi : i < n := by simpa using h2
    rw [Array.getElem_setIfInBounds (by simpa using hi)]
    simp only [Array.getElem_ofFn, upd]
    by_cases e : d = i
    · subst e; simp
    · have : Nat.beq i d = false := by
        cases hb : Nat.beq i d with
        | false => rfl
        | true => exact absurd (Nat.eq_of_beq_eq_true hb).symm e
      simp [e, this]
theorem put_none : (mkA n env ds).put none v = mkA n env ds := rfl

theorem yielded_at {j : Nat} {b : Bool} (hd : (ops[j]?).bind (·.dst) = some t) (h : Nat.blt t n = true) (hv : env t = .bool b) : yielded ops (mkA n env ds).tmps j = some b := by
  have h' : t < n := Nat.lt_of_succ_le (by simpa [Nat.blt] using h)
  unfold yielded
  rw [hd]
  show (match (mkA n env ds).tmps[t]? with | some (.bool b) => some b | _ => none) = some b
  rw [mkA_get h', hv]
/-- No guard. -/
theorem w0 {o : Oper} {a : Act} (h : o.guard = none) : Region.wanted o (yielded ops a.tmps) = true := by simp [Region.wanted, h]
theorem wy {o : Oper} {j : Nat} {b : Bool} (hg : o.guard = some (j, b)) (hd : (ops[j]?).bind (·.dst) = some t) (h : Nat.blt t n = true) (hv : env t = .bool b) : Region.wanted o (yielded ops (mkA n env ds).tmps) = true := by
  simp [Region.wanted, hg, yielded_at hd h hv]
theorem wn {o : Oper} {j : Nat} {b c : Bool} (hg : o.guard = some (j, b)) (hd : (ops[j]?).bind (·.dst) = some t) (h : Nat.blt t n = true) (hv : env t = .bool c) (hc : (c == b) = false) : Region.wanted o (yielded ops (mkA n env ds).tmps) = false := by
  simp only [Region.wanted, hg, yielded_at hd h hv]
  cases b <;> cases c <;> simp_all

theorem wu {o : Oper} {j : Nat} {b : Bool} (hg : o.guard = some (j, b)) (hd : (ops[j]?).bind (·.dst) = some t) (h : Nat.blt t n = true) (hv : env t = undef) : Region.wanted o (yielded ops (mkA n env ds).tmps) = false := by
  have h' : t < n := Nat.lt_of_succ_le (by simpa [Nat.blt] using h)
  have : yielded ops (mkA n env ds).tmps j = none := by
    unfold yielded
    rw [hd]
    show (match (mkA n env ds).tmps[t]? with | some (.bool b) => some b | _ => none) = none
    rw [mkA_get h', hv]
    rfl
  simp [Region.wanted, hg, this]

/-! ### one operation -/
theorem step_gen {o : Oper} {a : Act} (hw : Region.wanted o (yielded ops a.tmps) = true) (h : ∀ K : Act → World → Prop, (∀ a w, wpList P ops Q rest a w → K a w) → o.wp P a w K Q) : wpList P ops Q (o :: rest) a w :=
  wpList_step fun K hK => by rw [if_pos hw]; exact h K hK
theorem s_val {op : Op} {ty : TypeId} {pos : String} {af : Array Edge} {g : Option (Nat × Bool)} (hw : Region.wanted ⟨some d, op, ty, pos, af, g⟩ (yielded ops (mkA n env ds).tmps) = true)
    (hrun : (execOp (mkA n env ds).eval ⟨some d, op, ty, pos, af, g⟩).run P w = .ok (.value v) w') (k : wpList P ops Q rest (mkA n (upd env d v) ds) w') :
    wpList P ops Q (⟨some d, op, ty, pos, af, g⟩ :: rest) (mkA n env ds) w :=
  step_gen hw fun K hK => by
    unfold Oper.wp
    rw [hrun, Oper.upon_value, put_some]
    exact hK _ _ k
theorem s_unit {op : Op} {ty : TypeId} {pos : String} {af : Array Edge} {g : Option (Nat × Bool)} (hw : Region.wanted ⟨none, op, ty, pos, af, g⟩ (yielded ops (mkA n env ds).tmps) = true)
    (hrun : (execOp (mkA n env ds).eval ⟨none, op, ty, pos, af, g⟩).run P w = .ok .skip w') (k : wpList P ops Q rest (mkA n env ds) w') :
    wpList P ops Q (⟨none, op, ty, pos, af, g⟩ :: rest) (mkA n env ds) w :=
  step_gen hw fun K hK => by
    unfold Oper.wp
    rw [hrun, Oper.upon_skip, put_none]
    exact hK _ _ k
/-- The operation isn't wanted. -/
theorem s_skip {op : Op} {ty : TypeId} {pos : String} {af : Array Edge} {g : Option (Nat × Bool)} (hw : Region.wanted ⟨some d, op, ty, pos, af, g⟩ (yielded ops (mkA n env ds).tmps) = false)
    (k : wpList P ops Q rest (mkA n (upd env d undef) ds) w) : wpList P ops Q (⟨some d, op, ty, pos, af, g⟩ :: rest) (mkA n env ds) w :=
  wpList_step fun K hK => by
    rw [hw, if_neg (by simp)]
    show K ((mkA n env ds).put (some d) undef) w
    rw [put_some]
    exact hK _ _ k
theorem s_skip0 {op : Op} {ty : TypeId} {pos : String} {af : Array Edge} {g : Option (Nat × Bool)} (hw : Region.wanted ⟨none, op, ty, pos, af, g⟩ (yielded ops (mkA n env ds).tmps) = false)
    (k : wpList P ops Q rest (mkA n env ds) w) : wpList P ops Q (⟨none, op, ty, pos, af, g⟩ :: rest) (mkA n env ds) w :=
  wpList_step fun K hK => by
    rw [hw, if_neg (by simp)]
    exact hK _ _ k
end
end Go.Wk
