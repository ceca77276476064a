/- YtjjkfbjidpolmaaDoorWkC: part of the proof of this seat, by an AI agent: rows of values, terms, expressions. No condition of its own but those that its theorems state. -/
import Derived.Test.YtjjkfbjidpolmaaDoorWkO
set_option linter.unusedVariables false
set_option linter.unusedSimpArgs false
namespace Go.Wk
open Go Go.RowKit

/-! ### answers of comparisons -/
theorem cm {op : BinOp} {a b : Int} {r r' : Bool} (h : cmpI op a b = some r) (hr : r = r') : cmpI op a b = some r' := hr ▸ h
theorem cmS {op : BinOp} {a b : ByteArray} {r r' : Bool} (h : cmpS op a b = some r) (hr : r = r') : cmpS op a b = some r' := hr ▸ h
theorem nb1 {p : Prop} [Decidable p] (h : ¬ p) : (!decide p) = true := by simp [h]
theorem nb0 {p : Prop} [Decidable p] (h : p) : (!decide p) = false := by simp [h]
theorem nbt {b : Bool} (h : b = true) : (!b) = false := by rw [h]; rfl
theorem nbf {b : Bool} (h : b = false) : (!b) = true := by rw [h]; rfl
theorem vb {e : Value} {r r' : Bool} (h : e = .bool r) (hr : r = r') : e = .bool r' := hr ▸ h
theorem NewB.eq {w w' : World} {g : Nat} {o : Obj} (h : NewB w g o w') : g = w.heap.size := h.1
theorem NewB.size {w w' : World} {g : Nat} {o : Obj} (h : NewB w g o w') : w'.heap.size = w.heap.size + 1 := h.2.1
theorem NewB.blk {w w' : World} {g : Nat} {o : Obj} (h : NewB w g o w') : w'.heap[g]? = some o := h.2.2.1
theorem NewB.ext {w w' : World} {g : Nat} {o : Obj} (h : NewB w g o w') : Ext w w' := h.2.2.2

/-! ### rows that are read -/
def Row {α : Type} (R : World → α → List Value → Prop) (m : Nat) (w : World) (A : Option Addr) (xs : List α) : Prop :=
  xs = [] ∨ ∃ b o, A = some ⟨b, o, none⟩ ∧ ∀ (j : Nat) (x : α), xs[j]? = some x → ∃ cs : List Value, R w x cs ∧ ∀ (i : Nat) (u : Value), cs[i]? = some u → w.cell? ⟨b, o + j * m + i, none⟩ = some u
section
variable {α : Type} {R : World → α → List Value → Prop} {m : Nat} {w w' : World} {A : Option Addr} {xs : List α}
theorem Row.map (h : Row R m w A xs) (hc : ∀ ad v, w.cell? ad = some v → w'.cell? ad = some v) (hR : ∀ x cs, x ∈ xs → R w x cs → R w' x cs) : Row R m w' A xs := by
  rcases h with h | ⟨b, o, hA, h⟩
  · exact .inl h
  · refine .inr ⟨b, o, hA, fun j x hx => ?_⟩
    obtain ⟨cs, h1, h2⟩ := h j x hx
    exact ⟨cs, hR x cs (List.mem_of_getElem? hx) h1, fun i u hu => hc _ _ (h2 i u hu)⟩
theorem Row.ext (h : Row R m w A xs) (k : Ext w w') (hR : ∀ x cs, Ext w w' → R w x cs → R w' x cs) : Row R m w' A xs := h.map (fun _ _ hc => k.cell hc) (fun x cs _ => hR x cs k)
/-- The element's cells, at its place. -/
structure AtRow {α : Type} (R : World → α → List Value → Prop) (m : Nat) (w : World) (b o : Nat) (xs : List α) : Prop where
  el : ∀ (j : Nat) (x : α), xs[j]? = some x → ∃ cs : List Value, R w x cs ∧ ∀ (i : Nat) (u : Value), cs[i]? = some u → w.cell? ⟨b, o + j * m + i, none⟩ = some u
theorem Row.at_ (h : Row R m w A xs) (j : Nat) (hj : j < xs.length) : ∃ b o x cs, A = some ⟨b, o, none⟩ ∧ xs[j]? = some x ∧ R w x cs ∧ ∀ (i : Nat) (u : Value), cs[i]? = some u → w.cell? ⟨b, o + j * m + i, none⟩ = some u := by
  rcases h with h | ⟨b, o, hA, h⟩
  · subst h; simp at hj
  · have hx : xs[j]? = some xs[j] := List.getElem?_eq_getElem hj
    obtain ⟨cs, h1, h2⟩ := h j _ hx
    exact ⟨b, o, _, cs, hA, hx, h1, h2⟩
theorem Row.nil : Row R m w A ([] : List α) := .inl rfl
end
/-- The cells from off on, k of them, of a block. -/
theorem blk_cells {w : World} {g : Nat} {ca : Array Value} {t : TypeId} {fz : Nat × Nat} (h : w.heap[g]? = some (.cells ca t fz)) (off : Nat) {cs : List Value} (hcs : (ca.toList.drop off).take cs.length = cs) : ∀ (i : Nat) u, cs[i]? = some u → w.cell? ⟨g, off + i, none⟩ = some u := by
  intro i u hu
  refine cell_of_blk h ?_
  have hi : i < cs.length := (List.getElem?_eq_some_iff.1 hu).1
  rw [← hcs, List.getElem?_take, if_pos hi, List.getElem?_drop] at hu
  simpa using hu
/-- Cells within an element's cells. -/
theorem sub_cells {w : World} {b o : Nat} {cs : List Value} (h : ∀ (i : Nat) u, cs[i]? = some u → w.cell? ⟨b, o + i, none⟩ = some u) (off : Nat) {cs2 : List Value} (hcs : (cs.drop off).take cs2.length = cs2) : ∀ (i : Nat) u, cs2[i]? = some u → w.cell? ⟨b, o + off + i, none⟩ = some u := by
  intro i u hu
  have hi : i < cs2.length := (List.getElem?_eq_some_iff.1 hu).1
  rw [← hcs, List.getElem?_take, if_pos hi, List.getElem?_drop] at hu
  have := h (off + i) u hu
  rwa [← Nat.add_assoc] at this
theorem cells_ext {w w' : World} (k : Ext w w') {b o : Nat} {cs : List Value} (h : ∀ (i : Nat) u, cs[i]? = some u → w.cell? ⟨b, o + i, none⟩ = some u) : ∀ (i : Nat) u, cs[i]? = some u → w'.cell? ⟨b, o + i, none⟩ = some u := fun i u hu => k.cell (h i u hu)

/-! ### the values -/
structure Vl where
  k : Int
  n : Int
  s : ByteArray
structure Tm where
  v : ByteArray
  l : Vl
inductive Ex where
  | mk (op : Int) (t : Tm) (kids : List Ex)
def Ex.op : Ex → Int | .mk o _ _ => o
def Ex.t : Ex → Tm | .mk _ t _ => t
def Ex.kids : Ex → List Ex | .mk _ _ l => l
structure Vl.wf (x : Vl) : Prop where
  k : -128 ≤ x.k ∧ x.k ≤ 127
  n : -9223372036854775808 ≤ x.n ∧ x.n ≤ 9223372036854775807
  s : x.s.size ≤ 140737488351232
structure Tm.wf (x : Tm) : Prop where
  v : x.v.size ≤ 140737488351232
  l : x.l.wf
def RV (w : World) (x : Vl) (cs : List Value) : Prop := cs = [.int .i8 x.k, .int .i64 x.n, .string x.s] ∧ x.wf
def RT (w : World) (x : Tm) (cs : List Value) : Prop := cs = [.string x.v, .int .i8 x.l.k, .int .i64 x.l.n, .string x.l.s] ∧ x.wf
/-- An expression's cells: nested as it is. -/
inductive RE (w : World) : Ex → List Value → Prop
  | mk (op : Int) (t : Tm) (kids : List Ex) (A : Option Addr) (c b o : Nat) (f : Nat → List Value) (hop : -128 ≤ op ∧ op ≤ 127) (ht : t.wf) (hl : kids.length ≤ c) (hc : kids.length * 80 ≤ 140737488351232) (hA : kids = [] ∨ A = some ⟨b, o, none⟩)
    (hr : ∀ (j : Nat) (x : Ex), kids[j]? = some x → RE w x (f j)) (hcell : ∀ (j : Nat) (x : Ex), kids[j]? = some x → ∀ (i : Nat) (u : Value), (f j)[i]? = some u → w.cell? ⟨b, o + j * 6 + i, none⟩ = some u) :
    RE w (.mk op t kids) [.int .i8 op, .string t.v, .int .i8 t.l.k, .int .i64 t.l.n, .string t.l.s, .slice A kids.length c]
structure Ex.okc (x : Ex) (c : Nat) : Prop where
  op : -128 ≤ x.op ∧ x.op ≤ 127
  t : x.t.wf
  l : x.kids.length ≤ c
  c : x.kids.length * 80 ≤ 140737488351232
theorem RE.open_ {w : World} {x : Ex} {cs : List Value} (h : RE w x cs) : ∃ A c, cs = [.int .i8 x.op, .string x.t.v, .int .i8 x.t.l.k, .int .i64 x.t.l.n, .string x.t.l.s, .slice A x.kids.length c] ∧ x.okc c ∧ Row RE 6 w A x.kids := by
  cases h with
  | mk op t kids A c b o f hop ht hl hc hA hr hcell =>
    refine ⟨A, c, rfl, ⟨hop, ht, hl, hc⟩, ?_⟩
    rcases hA with hA | hA
    · exact .inl hA
    · exact .inr ⟨b, o, hA, fun j x hx => ⟨f j, hr j x hx, hcell j x hx⟩⟩
theorem RE.mk_ {w : World} {x : Ex} {A : Option Addr} {c : Nat} (ho : x.okc c) (h : Row RE 6 w A x.kids) : RE w x [.int .i8 x.op, .string x.t.v, .int .i8 x.t.l.k, .int .i64 x.t.l.n, .string x.t.l.s, .slice A x.kids.length c] := by
  obtain ⟨op, t, kids⟩ := x
  rcases h with h | ⟨b, o, hA, h⟩
  · simp only [Ex.kids] at h
    subst h
    exact .mk op t [] A c 0 0 (fun _ => []) ho.op ho.t ho.l ho.c (.inl rfl) (fun j x hx => by simp at hx) (fun j x hx => by simp at hx)
  · have hf : ∃ f : Nat → List Value, ∀ (j : Nat) (x : Ex), kids[j]? = some x → RE w x (f j) ∧ ∀ (i : Nat) (u : Value), (f j)[i]? = some u → w.cell? ⟨b, o + j * 6 + i, none⟩ = some u := by
      refine ⟨fun j => if hj : j < kids.length then Classical.choose (h j _ (List.getElem?_eq_getElem hj)) else [], fun j x hx => ?_⟩
      have hj : j < kids.length := (List.getElem?_eq_some_iff.1 hx).1
      have hx2 : kids[j] = x := (List.getElem?_eq_some_iff.1 hx).2
      simp only [dif_pos hj]
      have hs := Classical.choose_spec (h j _ (List.getElem?_eq_getElem hj))
      exact ⟨hx2 ▸ hs.1, hs.2⟩
    obtain ⟨f, hf⟩ := hf
    exact .mk op t kids A c b o f ho.op ho.t ho.l ho.c (.inr hA) (fun j x hx => (hf j x hx).1) (fun j x hx => (hf j x hx).2)
theorem RE.map {w w' : World} (hc : ∀ ad v, w.cell? ad = some v → w'.cell? ad = some v) {x : Ex} {cs : List Value} (h : RE w x cs) : RE w' x cs := by
  induction h with
  | mk op t kids A c b o f hop ht hl hcap hA hr hcell ih => exact .mk op t kids A c b o f hop ht hl hcap hA ih (fun j x hx i u hu => hc _ _ (hcell j x hx i u hu))
theorem RE.ext {w w' : World} (k : Ext w w') {x : Ex} {cs : List Value} (h : RE w x cs) : RE w' x cs := h.map (fun _ _ => k.cell)
theorem RV.ext {w w' : World} (k : Ext w w') {x : Vl} {cs : List Value} (h : RV w x cs) : RV w' x cs := h
theorem RT.ext {w w' : World} (k : Ext w w') {x : Tm} {cs : List Value} (h : RT w x cs) : RT w' x cs := h
theorem Row.extE {w w' : World} {A : Option Addr} {xs : List Ex} (h : Row RE 6 w A xs) (k : Ext w w') : Row RE 6 w' A xs := h.ext k (fun _ _ k h => h.ext k)
theorem Row.extT {w w' : World} {A : Option Addr} {xs : List Tm} (h : Row RT 4 w A xs) (k : Ext w w') : Row RT 4 w' A xs := h.ext k (fun _ _ k h => h)
theorem Row.extV {w w' : World} {A : Option Addr} {xs : List Vl} (h : Row RV 3 w A xs) (k : Ext w w') : Row RV 3 w' A xs := h.ext k (fun _ _ k h => h)
end Go.Wk
