/- YtjjkfbjidpolmaaDoorWkH: part of the proof of this seat, by an AI agent: drawn regions with a head and a tail. No condition of its own but those that its theorems state. -/
import Derived.Test.YtjjkfbjidpolmaaDoorWkQ
import Derived.OrdersHeld
import Derived.StillTail
set_option linter.unusedVariables false
set_option linter.unusedSimpArgs false
namespace Go.Wk
open Go
/-! ### a drawn region: a head that may be taken first under S, and a tail in its order -/
section
variable {P : Program} {ops : Array Oper} {Q R : Exit → Act → World → Prop} {S : World → Prop} {Lq : Act → Prop} {md : Region.Mode}
/-- Only the normal way out. -/
def onlyN (T : Act → World → Prop) : Exit → Act → World → Prop
  | .normal => T
  | _ => fun _ _ => False
theorem wp_onlyN {o : Oper} {a : Act} {w : World} {K T : Act → World → Prop} (h : o.wp P a w K (onlyN T)) : o.wp P a w K Q := by
  unfold Oper.wp at *
  generalize (execOp a.eval o).run P w = r at *
  cases r with
  | ok n w' =>
    cases n <;> simp only [Oper.upon] at h ⊢
    case value => exact h
    case skip => exact h
    case defer => exact h
    case enter f args =>
      refine Calls.mono h fun e w'' he => ?_
      cases e with
      | returned u => exact he
      | panicked c => exact he.elim
      | outgrown => obtain ⟨_, _, h⟩ := he; exact h.elim
    case row => exact h
  | halt x w' =>
    cases x <;> simp only [Oper.upon] at h ⊢
    case panic => exact h.elim
theorem wpOp_onlyN {i : Nat} {a : Act} {w : World} {K T : Act → World → Prop} (h : wpOp P ops (onlyN T) i K a w) : wpOp P ops Q i K a w := by
  unfold wpOp at *
  split
  · rename_i ho; simpa [ho] using h
  · rename_i o ho
    simp only [ho] at h
    split
    · rename_i hw
      simp only [hw, if_true] at h
      rcases h with h | ⟨_, _, _, h⟩
      · exact .inl (wp_onlyN h)
      · exact h.elim
    · rename_i hw
      simp only [hw] at h
      exact h
theorem wpAny_onlyN : ∀ (fuel : Nat) (listed : Array Bool) (a : Act) (w : World), wpAny P md ops (onlyN (Q .normal)) fuel listed a w → wpAny P md ops Q fuel listed a w
  | 0, _, _, _, h => h
  | fuel + 1, _, _, _, h => ⟨h.1, fun i hi => wpOp_mono (fun a' w' h' => wpAny_onlyN fuel _ a' w' h') (wpOp_onlyN (h.2 i hi))⟩
/-- The tail: each operation walked by itself, S shown behind it. -/
def wpTailS (P : Program) (ops : Array Oper) (S : World → Prop) (T : Act → World → Prop) : List Oper → Act → World → Prop
  | [], a, w => T a w
  | o :: rest, a, w => wpList P ops (onlyN fun a' w' => S w' ∧ wpTailS P ops S T rest a' w') [o] a w
theorem tl_cons {T : Act → World → Prop} {o : Oper} {rest : List Oper} {a : Act} {w : World} (h : wpList P ops (onlyN fun a' w' => S w' ∧ wpTailS P ops S T rest a' w') [o] a w) : wpTailS P ops S T (o :: rest) a w := h
theorem tl_nil {T : Act → World → Prop} {a : Act} {w : World} (h : T a w) : wpTailS P ops S T [] a w := h
theorem tl_done {T : Act → World → Prop} {a : Act} {w : World} (h : T a w) : wpList P ops (onlyN T) [] a w := h
theorem wpAnyH_seq {T : Act → World → Prop} : ∀ (l : List Oper) (k : Nat) (listed : Array Bool) (a : Act) (w : World), (∀ j, l[j]? = ops[k + j]?) → Region.seqB md ops l.length k listed = true →
    wpTailS P ops S T l a w → wpAnyH P md ops (onlyN T) S l.length listed a w
  | [], k, listed, a, w, _, hB, h => ⟨by simpa [Region.seqB] using hB, h⟩
  | o :: l, k, listed, a, w, hl, hB, h => by
    have h0 : ops[k]? = some o := by simpa using (hl 0).symm
    simp only [List.length_cons, Region.seqB, Bool.and_eq_true, decide_eq_true_eq] at hB
    refine ⟨fun h1 => (by rw [hB.1] at h1; cases h1), fun i hi => ?_⟩
    rw [hB.1] at hi
    have hik : i = k := by simpa using hi
    subst hik
    have hw : wpOp P ops (onlyN T) i (fun a' w' => S w' ∧ wpTailS P ops S T l a' w') a w := by
      have h2 : wpList P ops (onlyN fun a' w' => S w' ∧ wpTailS P ops S T l a' w') [o] a w := h
      unfold wpOp
      simp only [h0]
      unfold wpList at h2
      split
      · rename_i hw
        simp only [hw, if_true] at h2
        rcases h2 with h2 | ⟨_, _, _, h2⟩
        · exact .inl (wp_onlyN h2)
        · exact h2.elim
      · rename_i hw
        simp only [hw] at h2
        exact h2
    exact wpOp_mono (fun a' w' h' => ⟨h'.1, wpAnyH_seq l (i + 1) _ a' w' (fun j => by have := hl (j + 1); simpa [Nat.add_assoc, Nat.add_comm 1 j] using this) hB.2 h'.2⟩) hw
/-- The head: each operation yields one value in every world that meets S. -/
def wpHead (P : Program) (ops : Array Oper) (S : World → Prop) (Lq : Act → Prop) : List Oper → Act → Prop
  | [], a => Lq a
  | o :: rest, a => ∃ v, YieldsIf P ops S o v a ∧ wpHead P ops S Lq rest (a.put o.dst v)
theorem wpAnyH_head {T : Act → World → Prop} {g n : Nat} {w : World} (hsel : Region.noSelect ops = true) (hS : S w) (hT : ∀ a listed, Lq a → Region.seqB md ops g n listed = true → wpAnyH P md ops (onlyN T) S g listed a w) :
    ∀ (l : List Oper) (k : Nat) (listed : Array Bool) (a : Act), (∀ j, j < l.length → l[j]? = ops[k + j]?) → k + l.length = n → Region.lexHead md ops g l.length k listed = true → wpHead P ops S Lq l a →
    wpAnyH P md ops (onlyN T) S (l.length + g) listed a w
  | [], k, listed, a, _, hk, hB, h => by
    have : k = n := by simpa using hk
    subst this
    rw [List.length_nil, Nat.zero_add]
    exact hT a listed h (by simpa [Region.lexHead] using hB)
  | o :: l, k, listed, a, hl, hk, hB, h => by
    have h0 : ops[k]? = some o := by simpa using (hl 0 (by simp)).symm
    simp only [List.length_cons, Region.lexHead, Bool.and_eq_true] at hB
    obtain ⟨⟨hr, hf⟩, hB'⟩ := hB
    obtain ⟨v, hy, hK⟩ := h
    have := wpAnyH_head hsel hS hT l (k + 1) _ _ (fun j hj => by have := hl (j + 1) (by simp; omega); simpa [Nat.add_assoc, Nat.add_comm 1 j] using this) (by simp only [List.length_cons] at hk; omega) hB' hK
    have e : (o :: l).length + g = l.length + g + 1 := by simp; omega
    rw [e]
    exact wpAnyH_take h0 hsel hf hr (fun c a w h => h.elim) hy hS this
end
section
variable {P : Program} {ops : Array Oper} {Q : Exit → Act → World → Prop} {S : World → Prop} {Q' : Act → Prop} {rest : List Oper} {n d t : Nat} {env : Nat → Value} {ds : List Deferred} {w w' : World} {v u : Value}
def headB (ops : Array Oper) (n : Nat) : Bool := Region.noSelect ops && decide (n ≤ ops.size) && Region.lexHead .any ops (ops.size - n) n 0 (Array.replicate ops.size false)
theorem c_head {id : Nat} {l : List Oper} {a : Act} (S : World → Prop) (m : Nat) (hm : P.follows .mixedOrders = true) (hB : headB l.toArray m = true) (hS : ∀ wd, Ext w wd → S wd)
    (h : ∀ wd, Ext w wd → wpHead P l.toArray S (fun a' => wpTailS P l.toArray S (Q .normal) (l.drop m) a' wd) (l.take m) a) : (Code.region id l.toArray true).wp P Q a w := by
  simp only [headB, Bool.and_eq_true, decide_eq_true_eq] at hB
  obtain ⟨⟨hsel, hn⟩, hlex⟩ := hB
  have hn' : m ≤ l.length := by simpa using hn
  have htl : (l.take m).length = m := by simp; omega
  have hdl : (l.drop m).length = l.toArray.size - m := by simp
  have hd : Ext w { w with drawn := w.drawn + 1 } := ⟨rfl, rfl, rfl, Nat.le_refl _, fun _ _ _ => rfl⟩
  refine wp_region_any hm (wpAny_onlyN _ _ _ _ (wpAny_of_held (S := S) _ _ _ _ ?_))
  have := wpAnyH_head (P := P) (md := .any) (g := l.toArray.size - m) (n := m) (T := Q .normal) hsel (hS _ hd) (fun a' listed h1 h2 => by
    have := wpAnyH_seq (P := P) (md := .any) (S := S) (T := Q .normal) (l.drop m) m listed a' { w with drawn := w.drawn + 1 } (fun j => by simp [List.getElem?_drop]) (by rw [hdl]; exact h2) h1
    rwa [hdl] at this) (l.take m) 0 (Array.replicate l.toArray.size false) a (fun j hj => by
      have hj' : j < m := by rw [htl] at hj; exact hj
      simp [hj']) (by simpa using htl) (by rw [htl]; exact hlex) (h _ hd)
  rw [htl, show m + (l.toArray.size - m) = l.toArray.size by simp; omega] at this
  exact this
/-- The head's check, with another one behind it. -/
def headF (md : Region.Mode) (ops : Array Oper) (fin : Array Bool → Bool) : Nat → Nat → Array Bool → Bool
  | 0, k, listed => fin listed
  | f + 1, k, listed => (Region.ready md ops listed).contains k && Region.free md ops listed k && headF md ops fin f (k + 1) (listed.setIfInBounds k true)
theorem wpAnyH_headF {md : Region.Mode} {T : Act → World → Prop} {Lq : Act → Prop} {fin : Array Bool → Bool} {g : Nat} {w : World} (hsel : Region.noSelect ops = true) (hS : S w) (hT : ∀ a listed, Lq a → fin listed = true → wpAnyH P md ops (onlyN T) S g listed a w) :
    ∀ (l : List Oper) (k : Nat) (listed : Array Bool) (a : Act), (∀ j, j < l.length → l[j]? = ops[k + j]?) → headF md ops fin l.length k listed = true → wpHead P ops S Lq l a →
    wpAnyH P md ops (onlyN T) S (l.length + g) listed a w
  | [], k, listed, a, _, hB, h => by
    rw [List.length_nil, Nat.zero_add]
    exact hT a listed h (by simpa [headF] using hB)
  | o :: l, k, listed, a, hl, hB, h => by
    have h0 : ops[k]? = some o := by simpa using (hl 0 (by simp)).symm
    simp only [List.length_cons, headF, Bool.and_eq_true] at hB
    obtain ⟨⟨hr, hf⟩, hB'⟩ := hB
    obtain ⟨v, hy, hK⟩ := h
    have := wpAnyH_headF hsel hS hT l (k + 1) _ _ (fun j hj => by have := hl (j + 1) (by simp; omega); simpa [Nat.add_assoc, Nat.add_comm 1 j] using this) hB' hK
    have e : (o :: l).length + g = l.length + g + 1 := by simp; omega
    rw [e]
    exact wpAnyH_take h0 hsel hf hr (fun c a w h => h.elim) hy hS this
/-- One operation of the tail. -/
theorem wpOp_tail {md : Region.Mode} {T : Act → World → Prop} {K : Act → World → Prop} {k : Nat} {o : Oper} {a : Act} {w : World} (h0 : ops[k]? = some o) (h2 : wpList P ops (onlyN K) [o] a w) : wpOp P ops (onlyN T) k K a w := by
  unfold wpOp
  simp only [h0]
  unfold wpList at h2
  split
  · rename_i hw
    simp only [hw, if_true] at h2
    rcases h2 with h2 | ⟨_, _, _, h2⟩
    · exact .inl (wp_onlyN h2)
    · exact h2.elim
  · rename_i hw
    simp only [hw] at h2
    exact h2
/-- Two that may come in either order, then the rest in its own. -/
def twoB (md : Region.Mode) (ops : Array Oper) (m g : Nat) (listed : Array Bool) : Bool :=
  decide (Region.ready md ops listed = [m, m + 1]) && Region.seqB md ops (g + 1) (m + 1) (listed.setIfInBounds m true) && decide (Region.ready md ops (listed.setIfInBounds (m + 1) true) = [m]) && Region.seqB md ops g (m + 2) ((listed.setIfInBounds (m + 1) true).setIfInBounds m true)
def head2B (ops : Array Oper) (n : Nat) : Bool := Region.noSelect ops && decide (n + 2 ≤ ops.size) && headF .any ops (twoB .any ops n (ops.size - n - 2)) n 0 (Array.replicate ops.size false)
theorem c_head2 {id : Nat} {l : List Oper} {a : Act} (S : World → Prop) (m : Nat) {o1 o2 : Oper} {rest : List Oper} (hm : P.follows .mixedOrders = true) (hB : head2B l.toArray m = true) (e2 : l.drop m = o1 :: o2 :: rest) (hS : ∀ wd, Ext w wd → S wd)
    (h : ∀ wd, Ext w wd → wpHead P l.toArray S (fun a' => wpTailS P l.toArray S (Q .normal) (o1 :: o2 :: rest) a' wd ∧ wpTailS P l.toArray S (Q .normal) (o2 :: o1 :: rest) a' wd) (l.take m) a) : (Code.region id l.toArray true).wp P Q a w := by
  simp only [head2B, Bool.and_eq_true, decide_eq_true_eq] at hB
  obtain ⟨⟨hsel, hn⟩, hlex⟩ := hB
  have hn' : m + 2 ≤ l.length := by simpa using hn
  have htl : (l.take m).length = m := by simp; omega
  have hrl : rest.length = l.toArray.size - m - 2 := by
    have := congrArg List.length e2
    simp at this
    simp
    omega
  have ho : ∀ j, (o1 :: o2 :: rest)[j]? = l.toArray[m + j]? := fun j => by rw [← e2]; simp [List.getElem?_drop]
  have hd : Ext w { w with drawn := w.drawn + 1 } := ⟨rfl, rfl, rfl, Nat.le_refl _, fun _ _ _ => rfl⟩
  refine wp_region_any hm (wpAny_onlyN _ _ _ _ (wpAny_of_held (S := S) _ _ _ _ ?_))
  have := wpAnyH_headF (P := P) (md := .any) (g := rest.length + 2) (T := Q .normal) (fin := twoB .any l.toArray m (l.toArray.size - m - 2)) hsel (hS _ hd) (fun a' listed h1 h2 => by
    simp only [twoB, Bool.and_eq_true, decide_eq_true_eq, ← hrl] at h2
    obtain ⟨⟨⟨q1, q2⟩, q3⟩, q4⟩ := h2
    refine wpAnyH_all (rs := [m, m + 1]) q1 (by simp) fun i hi => ?_
    have hi' : i = m ∨ i = m + 1 := by simpa using hi
    rcases hi' with rfl | rfl
    · exact wpOp_mono (fun a2 w2 h' => ⟨h'.1, wpAnyH_seq (o2 :: rest) (i + 1) _ a2 w2 (fun j => by have := ho (j + 1); simpa [Nat.add_assoc, Nat.add_comm 1 j] using this) q2 h'.2⟩) (wpOp_tail (md := .any) (by have := ho 0; simpa using this.symm) h1.1)
    · refine wpOp_mono (fun a2 w2 h' => ⟨h'.1, ?_⟩) (wpOp_tail (md := .any) (by have := ho 1; simpa using this.symm) h1.2)
      refine wpAnyH_all (rs := [m]) q3 (by simp) fun i hi => ?_
      obtain rfl : i = m := by simpa using hi
      exact wpOp_mono (fun a3 w3 h' => ⟨h'.1, wpAnyH_seq rest (i + 2) _ a3 w3 (fun j => by have := ho (j + 2); simpa [Nat.add_assoc, Nat.add_comm 2 j] using this) q4 h'.2⟩) (wpOp_tail (md := .any) (by have := ho 0; simpa using this.symm) h'.2)) (l.take m) 0 (Array.replicate l.toArray.size false) a (fun j hj => by
      have hj' : j < m := by rw [htl] at hj; exact hj
      simp [hj']) (by rw [htl]; exact hlex) (h _ hd)
  rw [htl, hrl, show m + (l.toArray.size - m - 2 + 2) = l.toArray.size by simp; omega] at this
  exact this
theorem h_val {op : Op} {ty : TypeId} {pos : String} {af : Array Edge} {g : Option (Nat × Bool)} (hw : Region.wanted ⟨some d, op, ty, pos, af, g⟩ (yielded ops (mkA n env ds).tmps) = true)
    (hrun : ∀ w, S w → (execOp (mkA n env ds).eval ⟨some d, op, ty, pos, af, g⟩).run P w = .ok (.value v) w) (k : wpHead P ops S Q' rest (mkA n (upd env d v) ds)) :
    wpHead P ops S Q' (⟨some d, op, ty, pos, af, g⟩ :: rest) (mkA n env ds) :=
  ⟨v, .inl ⟨hw, hrun⟩, by rw [put_some]; exact k⟩
theorem h_skip {op : Op} {ty : TypeId} {pos : String} {af : Array Edge} {g : Option (Nat × Bool)} (hw : Region.wanted ⟨some d, op, ty, pos, af, g⟩ (yielded ops (mkA n env ds).tmps) = false)
    (k : wpHead P ops S Q' rest (mkA n (upd env d undef) ds)) : wpHead P ops S Q' (⟨some d, op, ty, pos, af, g⟩ :: rest) (mkA n env ds) :=
  ⟨undef, .inr ⟨hw, rfl⟩, by rw [put_some]; exact k⟩
theorem h_skip0 {op : Op} {ty : TypeId} {pos : String} {af : Array Edge} {g : Option (Nat × Bool)} (hw : Region.wanted ⟨none, op, ty, pos, af, g⟩ (yielded ops (mkA n env ds).tmps) = false)
    (k : wpHead P ops S Q' rest (mkA n env ds)) : wpHead P ops S Q' (⟨none, op, ty, pos, af, g⟩ :: rest) (mkA n env ds) :=
  ⟨undef, .inr ⟨hw, rfl⟩, by rw [put_none]; exact k⟩
theorem h_done {a : Act} (h : Q' a) : wpHead P ops S Q' [] a := h
end
end Go.Wk
