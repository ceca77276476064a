/- YtjjkfbjidpolmaaDoorWkD: part of the proof of this seat, by an AI agent: stores. No condition of its own but those that its theorems state. -/
import Derived.Test.YtjjkfbjidpolmaaDoorWkC
set_option linter.unusedVariables false
set_option linter.unusedSimpArgs false
namespace Go.Wk
open Go Go.RowKit
/-! ### stores into blocks that are known whole -/
section
variable {P : Program} {ops : Array Oper} {Q : Exit → Act → World → Prop} {rest : List Oper} {n d t : Nat} {env : Nat → Value} {ds : List Deferred} {w w' : World} {v u : Value}
  {ty T : TypeId} {pos : String} {af : Array Edge} {gd : Option (Nat × Bool)} {x y z : Operand}
/-- w' is w but for block g. -/
def Wrote (w : World) (g : Nat) (o : Obj) (w' : World) : Prop := w'.heap.size = w.heap.size ∧ w'.heap[g]? = some o ∧ Keep (fun k => k = g) w w'
theorem Wrote.size {g : Nat} {o : Obj} (h : Wrote w g o w') : w'.heap.size = w.heap.size := h.1
theorem Wrote.blk {g : Nat} {o : Obj} (h : Wrote w g o w') : w'.heap[g]? = some o := h.2.1
theorem Wrote.keep {g : Nat} {o : Obj} (h : Wrote w g o w') : Keep (fun k => k = g) w w' := h.2.2
theorem setCells_spec (g : Nat) (t : TypeId) : ∀ (l : List Value) (i k : Nat) (cs : Array Value) (w : World), w.heap[g]? = some (.cells cs t (0, 0)) → (∀ u ∈ l, u.oneCell' = true) → k + i + l.length ≤ cs.size →
    ∃ w', (storeCells ⟨g, k, none⟩ l i).run P w = .ok () w' ∧ Wrote w g (.cells (cs.toList.take (k + i) ++ l ++ cs.toList.drop (k + i + l.length)).toArray t (0, 0)) w'
  | [], i, k, cs, w, hb, h1, hl => ⟨w, by simp [storeCells], rfl, by simpa using hb, Keep.refl _ _⟩
  | u :: l, i, k, cs, w, hb, h1, hl => by
    have hu : u.oneCell' = true := h1 u (by simp)
    have hlt : k + i < cs.size := by simp at hl; omega
    have hc : w.cell? ⟨g, k + i, none⟩ = some cs[k + i] := cell_of_blk hb (by simp [hlt])
    have hf : w.frozen? ⟨g, k + i, none⟩ = false := by simp [World.frozen?, hb]
    have hs : (store ((⟨g, k, none⟩ : Addr).add i) u).run P w = .ok () (w.setCell ⟨g, k + i, none⟩ u) := by
      simp only [add0]
      rw [run_store P w _ u .plain hu, hc]
      simp [hf]
    have hb2 : (w.setCell ⟨g, k + i, none⟩ u).heap[g]? = some (.cells (cs.setIfInBounds (k + i) u) t (0, 0)) := by
      simp only [World.setCell, Array.getElem?_modify, if_true, hb, Option.map_some]
      simp
    obtain ⟨w', hr, hz, hbk, hk⟩ := setCells_spec g t l (i + 1) k (cs.setIfInBounds (k + i) u) _ hb2 (fun x hx => h1 x (by simp [hx])) (by simp at hl ⊢; omega)
    refine ⟨w', ?_, ?_, ?_, ?_⟩
    · rw [storeCells, Sem.run_bind]
      rw [hs, Result.andThen_ok]
      exact hr
    · rw [hz]; simp [World.setCell]
    · rw [hbk]
      congr 2
      apply Array.ext'
      have hl2 : k + i < cs.toList.length := by simpa using hlt
      simp only [Array.toList_setIfInBounds]
      rw [List.take_set, List.drop_set, if_pos (by omega)]
      have e1 : (cs.toList.take (k + (i + 1))).set (k + i) u = cs.toList.take (k + i) ++ [u] := by
        rw [← Nat.add_assoc, List.take_succ_eq_append_getElem hl2, List.set_append_right (k + i) u (by simp; omega)]
        have e3 : k + i - min (k + i) cs.size = 0 := by omega
        simp [e3]
      have e2 : (cs.toList.drop (k + (i + 1) + l.length)) = cs.toList.drop (k + i + (u :: l).length) := by congr 1; simp; omega
      rw [e1, e2]
      simp
    · have h0 : Keep (fun k => k = g) w (w.setCell ⟨g, k + i, none⟩ u) := ⟨rfl, rfl, rfl, by simp [World.setCell], fun j _ hj => Below.heap_setCell _ _ _ _ hj⟩
      exact h0.then_ hk (fun j _ h => h)
theorem s_store {g o m : Nat} {cs : Array Value} {t : TypeId} {l : List Value} {cs' : Array Value} (hsz : (P.info? T).map (·.size) = some m) (hx : (mkA n env ds).eval x = .pointer (some ⟨g, o, none⟩)) (hy : (mkA n env ds).eval y = v) (hv : v.cells = l.toArray) (hl : l.length = m) (h1 : (l.all (·.oneCell')) = true)
    (hb : w.heap[g]? = some (.cells cs t (0, 0))) (ho : o + m ≤ cs.size) (hcs : (cs.toList.take o ++ l ++ cs.toList.drop (o + m)).toArray = cs') (hw : Region.wanted ⟨none, .store T x y, ty, pos, af, gd⟩ (yielded ops (mkA n env ds).tmps) = true)
    (k : ∀ w', Wrote w g (.cells cs' t (0, 0)) w' → wpList P ops Q rest (mkA n env ds) w') : wpList P ops Q (⟨none, .store T x y, ty, pos, af, gd⟩ :: rest) (mkA n env ds) w := by
  obtain ⟨w', hr, hwr⟩ := setCells_spec (P := P) g t l 0 o cs w hb (fun u hu => List.all_eq_true.1 h1 u hu) (by omega)
  obtain ⟨i, hi, him⟩ := Option.map_eq_some_iff.1 hsz
  have hwr' : Wrote w g (.cells cs' t (0, 0)) w' := by rw [← hcs]; simpa [hl] using hwr
  refine s_unit hw (w' := w') ?_ (k w' hwr')
  simp only [execOp, hx, hy, Instr.storeAt, Instr.sureAddr, storeVar, sizeOf, typeInfo, Sem.run_bind, Sem.run_pure, Result.andThen_ok, run_program, hi]
  have hne : ¬ (v.cells.size ≠ i.size) := by rw [hv]; simp [hl, him]
  rw [if_neg hne, hv]
  simp [hr]
theorem ne_blk {g g' : Nat} {cs cs' : Array Value} {t t' : TypeId} {f f' : Nat × Nat} (h : w.heap[g]? = some (.cells cs t f)) (h' : w.heap[g']? = some (.cells cs' t' f')) (ht : t ≠ t') : g ≠ g' := by
  rintro rfl
  rw [h] at h'
  injection h' with h'
  injection h' with _ ht'
  exact ht ht'
end
section
variable {f : Operand → Value} {v1 v2 v3 v4 : Value} {x1 x2 x3 x4 : Operand} {i1 i2 i3 i4 : Nat}
theorem b0 : ((#[] : Array (Nat × Operand)).map fun p => (p.1, f p.2)) = ([] : List (Nat × Value)).toArray := by simp
theorem b1 (h1 : f x1 = v1) : (#[(i1, x1)].map fun p => (p.1, f p.2)) = [(i1, v1)].toArray := by simp [h1]
theorem b2 (h1 : f x1 = v1) (h2 : f x2 = v2) : (#[(i1, x1), (i2, x2)].map fun p => (p.1, f p.2)) = [(i1, v1), (i2, v2)].toArray := by simp [h1, h2]
theorem b3 (h1 : f x1 = v1) (h2 : f x2 = v2) (h3 : f x3 = v3) : (#[(i1, x1), (i2, x2), (i3, x3)].map fun p => (p.1, f p.2)) = [(i1, v1), (i2, v2), (i3, v3)].toArray := by simp [h1, h2, h3]
theorem b4 (h1 : f x1 = v1) (h2 : f x2 = v2) (h3 : f x3 = v3) (h4 : f x4 = v4) : (#[(i1, x1), (i2, x2), (i3, x3), (i4, x4)].map fun p => (p.1, f p.2)) = [(i1, v1), (i2, v2), (i3, v3), (i4, v4)].toArray := by simp [h1, h2, h3, h4]
end
theorem conv_u8 {z : Int} (h : 0 ≤ z ∧ z ≤ 255) : IntKind.u8.wrap z = z := by simp [IntKind.wrap, IntKind.bits, IntKind.signed]; omega
theorem conv_u64 {z : Int} (h : 0 ≤ z ∧ z ≤ 18446744073709551615) : IntKind.u64.wrap z = z := by simp [IntKind.wrap, IntKind.bits, IntKind.signed]; omega
theorem conv_i64 {z : Int} (h : -9223372036854775808 ≤ z ∧ z ≤ 9223372036854775807) : IntKind.i64.wrap z = z := i64_id h.1 h.2
theorem eqv {x y : Operand} {Pp : Program} {T : TypeId} {op : BinOp} {a b : Value} {r r' : Bool} (h : ∀ w, (do eqGuard op T x y a b; binOp op T a b : Sem Value).run Pp w = .ok (.bool r) w) (hr : r = r') : ∀ w, (do eqGuard op T x y a b; binOp op T a b : Sem Value).run Pp w = .ok (.bool r') w := hr ▸ h
end Go.Wk
