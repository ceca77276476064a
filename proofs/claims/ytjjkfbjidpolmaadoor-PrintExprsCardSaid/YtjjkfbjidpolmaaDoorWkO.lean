/- YtjjkfbjidpolmaaDoorWkO: part of the proof of this seat, by an AI agent: single operations. No condition of its own but those that its theorems state. -/
import Derived.Test.YtjjkfbjidpolmaaDoorWkB
import Derived.StillTailTactics
set_option linter.unusedVariables false
set_option linter.unusedSimpArgs false
namespace Go.Wk
open Go Go.RowKit

def arrayT (P : Program) (t : TypeId) (ln m : Nat) : Bool := match P.underlying t with
  | some (.array k e) => k == ln && 2 ≤ ln && (match P.info? e with
    | some i => i.size == m
    | none => false)
  | _ => false
theorem arrayT_spec {P : Program} {T : TypeId} {ln m : Nat} (h : arrayT P T ln m = true) : ∃ e i, P.underlying T = some (.array ln e) ∧ P.info? e = some i ∧ i.size = m := by
  unfold arrayT at h
  split at h
  · rename_i k e hu
    simp only [Bool.and_eq_true, beq_iff_eq] at h
    obtain ⟨⟨rfl, _⟩, h⟩ := h
    split at h
    · rename_i i hi
      exact ⟨e, i, hu, hi, by simpa using h⟩
    · cases h
  · cases h
section
variable {P : Program} {ops : Array Oper} {Q : Exit → Act → World → Prop} {C : World → Prop} {Q' : Act → Prop} {rest : List Oper} {n d t : Nat} {env : Nat → Value} {ds : List Deferred} {w w' : World} {v u : Value}
/-- In a region of open order, over a class of worlds. -/
theorem q_val {op : Op} {ty : TypeId} {pos : String} {af : Array Edge} {g : Option (Nat × Bool)} (hw : Region.wanted ⟨some d, op, ty, pos, af, g⟩ (yielded ops (mkA n env ds).tmps) = true)
    (hrun : ∀ w, C w → (execOp (mkA n env ds).eval ⟨some d, op, ty, pos, af, g⟩).run P w = .ok (.value v) w) (k : wpQuiet P ops C Q' rest (mkA n (upd env d v) ds)) :
    wpQuiet P ops C Q' (⟨some d, op, ty, pos, af, g⟩ :: rest) (mkA n env ds) :=
  wpQuiet_step fun K hK => by
    rw [if_pos hw]
    refine ⟨v, fun w hC => ?_, ?_⟩
    · unfold Oper.quietAt
      rw [hrun w hC]
      exact ⟨rfl, rfl⟩
    · show K ((mkA n env ds).put (some d) v)
      rw [put_some]
      exact hK _ k
theorem q_skip {op : Op} {ty : TypeId} {pos : String} {af : Array Edge} {g : Option (Nat × Bool)} (hw : Region.wanted ⟨some d, op, ty, pos, af, g⟩ (yielded ops (mkA n env ds).tmps) = false)
    (k : wpQuiet P ops C Q' rest (mkA n (upd env d undef) ds)) : wpQuiet P ops C Q' (⟨some d, op, ty, pos, af, g⟩ :: rest) (mkA n env ds) :=
  wpQuiet_step fun K hK => by
    rw [hw, if_neg (by simp)]
    show K ((mkA n env ds).put (some d) undef)
    rw [put_some]
    exact hK _ k
theorem q_call {F : FuncId} {first captured args vs : Array Value} {xs : Array Operand} {ts : Array TypeId} {ty : TypeId} {pos : String} {af : Array Edge} {gd : Option (Nat × Bool)} {x : Operand} (he : enterable P F = true)
    (hw : Region.wanted ⟨some d, .call ⟨.value x, xs, ts⟩, ty, pos, af, gd⟩ (yielded ops (mkA n env ds).tmps) = true) (hx : (mkA n env ds).eval x = .func (.func F) first captured) (hxs : xs.map (mkA n env ds).eval = vs) (ha : first ++ vs ++ captured = args)
    (hC : ∀ w, C w → Rt P F args w (fun v' w' => v' = v ∧ C w')) (k : wpQuiet P ops C Q' rest (mkA n (upd env d v) ds)) : wpQuiet P ops C Q' (⟨some d, .call ⟨.value x, xs, ts⟩, ty, pos, af, gd⟩ :: rest) (mkA n env ds) :=
  wpQuiet_step fun K hK => by
    rw [if_pos hw]
    refine ⟨v, fun w hw' => ?_, ?_⟩
    · unfold Oper.quietAt
      have hrun : (execOp (mkA n env ds).eval ⟨some d, .call ⟨.value x, xs, ts⟩, ty, pos, af, gd⟩).run P w = .ok (.enter F args) w := by
        simp only [execOp, resolve, hx, hxs, Deferred.ofValue, Sem.run_bind, Sem.run_pure, Result.andThen_ok, invoke]
        rw [ha]
        exact run_callFunc he args
      rw [hrun]
      refine ⟨rfl, Calls.mono (hC w hw') ?_⟩
      rintro e w'' ⟨v', rfl, rfl, hc⟩
      exact ⟨rfl, hc⟩
    · show K ((mkA n env ds).put (some d) v)
      rw [put_some]
      exact hK _ k
theorem q_done {a : Act} (h : Q' a) : wpQuiet P ops C Q' [] a := wpQuiet_nil h
/-- A region of open order, all of whose operations are quiet over the extensions of w. -/
theorem c_quiet {id : Nat} {l : List Oper} {a : Act} (hm : P.follows .mixedOrders = true) (hB : Region.lexB .any l.toArray = true) (h : wpQuiet P l.toArray (Ext w) (fun a' => ∀ w', Ext w w' → Q .normal a' w') l a) : (Code.region id l.toArray true).wp P Q a w :=
  wp_region_quiet (C := Ext w) hm hB ⟨rfl, rfl, rfl, Nat.le_refl _, fun _ _ _ => rfl⟩ (by simpa using h)
/-- .. a head that leaves the world, then a tail in its order. -/
theorem t_val {op : Op} {ty : TypeId} {pos : String} {af : Array Edge} {g : Option (Nat × Bool)} (hw : Region.wanted ⟨some d, op, ty, pos, af, g⟩ (yielded ops (mkA n env ds).tmps) = true)
    (hrun : (execOp (mkA n env ds).eval ⟨some d, op, ty, pos, af, g⟩).run P w = .ok (.value v) w) (k : wpStill P ops w Q' rest (mkA n (upd env d v) ds)) :
    wpStill P ops w Q' (⟨some d, op, ty, pos, af, g⟩ :: rest) (mkA n env ds) :=
  wpStill_step fun K hK => by
    rw [if_pos hw]
    unfold Oper.still
    rw [hrun, Oper.stillUpon_value]
    show K ((mkA n env ds).put (some d) v)
    rw [put_some]
    exact hK _ k
theorem t_skip {op : Op} {ty : TypeId} {pos : String} {af : Array Edge} {g : Option (Nat × Bool)} (hw : Region.wanted ⟨some d, op, ty, pos, af, g⟩ (yielded ops (mkA n env ds).tmps) = false)
    (k : wpStill P ops w Q' rest (mkA n (upd env d undef) ds)) : wpStill P ops w Q' (⟨some d, op, ty, pos, af, g⟩ :: rest) (mkA n env ds) :=
  wpStill_step fun K hK => by
    rw [hw, if_neg (by simp)]
    show K ((mkA n env ds).put (some d) undef)
    rw [put_some]
    exact hK _ k
theorem t_done {a : Act} (h : Q' a) : wpStill P ops w Q' [] a := wpStill_nil h
theorem drawn_ext (w : World) : Ext w { w with drawn := w.drawn + 1 } := ⟨rfl, rfl, rfl, Nat.le_refl _, fun _ _ _ => rfl⟩
theorem c_tail {id : Nat} {l : List Oper} {a : Act} (m : Nat) {h1 h2 : List Oper} (hm : P.follows .mixedOrders = true) (hB : Region.lexTailB .any l.toArray m = true) (e1 : l.take m = h1) (e2 : l.drop m = h2)
    (h : ∀ wd, Ext w wd → wpStill P l.toArray wd (fun a' => wpList P l.toArray Q h2 a' wd) h1 a) : (Code.region id l.toArray true).wp P Q a w := by
  subst e1 e2
  exact wp_region_still_tail m hm hB (h _ (drawn_ext w))
end
section
variable {P : Program} {ops : Array Oper} {Q : Exit → Act → World → Prop} {C : World → Prop} {Q' : Act → Prop} {rest : List Oper} {n d t : Nat} {env : Nat → Value} {ds : List Deferred} {w w' : World} {v u : Value}
  {ty T : TypeId} {pos : String} {af : Array Edge} {gd : Option (Nat × Bool)} {x y z : Operand}
theorem r_move (hx : (mkA n env ds).eval x = v) : (execOp (mkA n env ds).eval ⟨some d, .move x, ty, pos, af, gd⟩).run P w = .ok (.value v) w := by rw [← hx]; rfl
theorem r_assign (hx : (mkA n env ds).eval x = v) : (execOp (mkA n env ds).eval ⟨some d, .assign x, ty, pos, af, gd⟩).run P w = .ok (.value v) w := by rw [← hx]; rfl
theorem r_pick1 (hx : (mkA n env ds).eval x = .bool true) (hy : (mkA n env ds).eval y = v) : (execOp (mkA n env ds).eval ⟨some d, .pick x y z, ty, pos, af, gd⟩).run P w = .ok (.value v) w := by simp [execOp, hx, hy, asBool]
theorem r_pick0 (hx : (mkA n env ds).eval x = .bool false) (hz : (mkA n env ds).eval z = v) : (execOp (mkA n env ds).eval ⟨some d, .pick x y z, ty, pos, af, gd⟩).run P w = .ok (.value v) w := by simp [execOp, hx, hz, asBool]
theorem r_load (h1 : one P T = true) {ad : Addr} (hx : (mkA n env ds).eval x = .pointer (some ad)) (hc : w.cell? ad = some v) : (execOp (mkA n env ds).eval ⟨some d, .load T x, ty, pos, af, gd⟩).run P w = .ok (.value v) w := by
  obtain ⟨D, hu, hD⟩ := one_spec h1
  simp [execOp, hx, Instr.loadAt, Instr.sureAddr, loadVar, run_isAgg hu, hD, hc]
theorem r_loadL {m b o : Nat} {cs : List Value} {ca : Array Value} (h1 : many P T m = true) (hx : (mkA n env ds).eval x = .pointer (some ⟨b, o, none⟩)) (hs : cs.length = m) (hca : ca = cs.toArray) (hc : ∀ (i : Nat) u, cs[i]? = some u → w.cell? ⟨b, o + i, none⟩ = some u) : (execOp (mkA n env ds).eval ⟨some d, .load T x, ty, pos, af, gd⟩).run P w = .ok (.value (.agg ca)) w := by
  subst hca
  obtain ⟨D, i, hu, hD, hi, hz⟩ := many_spec h1
  have hl : (loadCells ⟨b, o, none⟩ m).run P w = .ok cs.toArray w := by
    have := run_loadCells_list (P := P) (w := w) ⟨b, o, none⟩ cs (fun j v hv => by rw [add0]; exact hc j v hv)
    simpa [hs] using this
  simp [execOp, hx, Instr.loadAt, Instr.sureAddr, loadVar, run_isAgg hu, hD, sizeOf, typeInfo, hi, hz, hl]
theorem r_field {i off g o o' : Nat} (h1 : fieldAt P T i off = true) (hx : (mkA n env ds).eval x = .pointer (some ⟨g, o, none⟩)) (ho : o + off = o') : (execOp (mkA n env ds).eval ⟨some d, .fieldAddr T x i, ty, pos, af, gd⟩).run P w = .ok (.value (.pointer (some ⟨g, o', none⟩))) w := by
  obtain ⟨fs, f, j, hu, hf, hof, hj, hz⟩ := fieldAt_spec h1
  simp [execOp, hx, Instr.fieldAt, run_under hu, hf, Instr.sureAddr, fieldPlace, sizeOf, typeInfo, hj, hz, add0, hof, ho]
theorem r_index {m b o ln cap j : Nat} {kk : IntKind} {jv : Int} (h1 : sliceT P T m = true) (hx : (mkA n env ds).eval x = .slice (some ⟨b, o, none⟩) ln cap) (hy : (mkA n env ds).eval y = .int kk jv) (hj : jv = (j : Int)) (hl : j < ln) : (execOp (mkA n env ds).eval ⟨some d, .indexAddr T x y, ty, pos, af, gd⟩).run P w = .ok (.value (.pointer (some ⟨b, o + j * m, none⟩))) w := by
  obtain ⟨e, i, hu, hi, hz⟩ := sliceT_spec h1
  subst hj
  simp [execOp, hx, hy, Instr.indexAt, asIntOf, run_under hu, hl, sizeOf, typeInfo, hi, hz, add0]
theorem r_indexR {m ln cap j b o : Nat} {A : Option Addr} {kk : IntKind} {jv : Int} (h1 : sliceT P T m = true) (hx : (mkA n env ds).eval x = .slice A ln cap) (hA : A = some ⟨b, o, none⟩) (hy : (mkA n env ds).eval y = .int kk jv) (hj : jv = (j : Int)) (hl : j < ln) : (execOp (mkA n env ds).eval ⟨some d, .indexAddr T x y, ty, pos, af, gd⟩).run P w = .ok (.value (.pointer (some ⟨b, o + j * m, none⟩))) w := r_index h1 (hA ▸ hx) hy hj hl
theorem r_indexA {m g o ln j : Nat} {kk : IntKind} {jv : Int} (h1 : arrayT P T ln m = true) (hx : (mkA n env ds).eval x = .pointer (some ⟨g, o, none⟩)) (hy : (mkA n env ds).eval y = .int kk jv) (hj : jv = (j : Int)) (hl : j < ln) : (execOp (mkA n env ds).eval ⟨some d, .indexAddr T x y, ty, pos, af, gd⟩).run P w = .ok (.value (.pointer (some ⟨g, o + j * m, none⟩))) w := by
  obtain ⟨e, i, hu, hi, hz⟩ := arrayT_spec h1
  subst hj
  simp [execOp, hx, hy, Instr.indexAt, asIntOf, run_under hu, hl, sizeOf, typeInfo, hi, hz, add0, Instr.sureAddr]
theorem r_byte {j : Nat} {s : ByteArray} {kk : IntKind} {jv : Int} (h1 : P.underlying T = some .string) (hx : (mkA n env ds).eval x = .string s) (hy : (mkA n env ds).eval y = .int kk jv) (hj : jv = (j : Int)) (hl : j < s.size) : (execOp (mkA n env ds).eval ⟨some d, .index T x y, ty, pos, af, gd⟩).run P w = .ok (.value (.int .u8 (byteAt s j))) w := by
  subst hj
  have hb : s[j]? = some (s.data.getD j 0) := by
    have : j < s.data.size := hl
    have hl2 : j < s.size := hl
    rw [getElem?_pos s j hl2]
    simp only [Array.getD, dif_pos this]
    rfl
  simp [execOp, hx, hy, Instr.index, asIntOf, run_under h1, hb, byteAt]
theorem r_lenS {s : ByteArray} (h1 : P.underlying T = some .string) (hx : (mkA n env ds).eval x = .string s) : (execOp (mkA n env ds).eval ⟨some d, .call ⟨.builtin .len, #[x], #[T]⟩, ty, pos, af, gd⟩).run P w = .ok (.value (.int .i64 s.size)) w := by simp [execOp, resolve, invoke, builtin, Builtin.len_, hx, run_under h1, goInt]
theorem r_lenL {m ln cap : Nat} {A : Option Addr} (h1 : sliceT P T m = true) (hx : (mkA n env ds).eval x = .slice A ln cap) : (execOp (mkA n env ds).eval ⟨some d, .call ⟨.builtin .len, #[x], #[T]⟩, ty, pos, af, gd⟩).run P w = .ok (.value (.int .i64 ln)) w := by
  obtain ⟨e, i, hu, hi, hz⟩ := sliceT_spec h1
  simp [execOp, resolve, invoke, builtin, Builtin.len_, hx, run_under hu, goInt]
theorem r_extract {l : Array Value} {j : Nat} (hx : (mkA n env ds).eval x = .tuple l) (hv : l[j]? = some v) : (execOp (mkA n env ds).eval ⟨some d, .extract x j, ty, pos, af, gd⟩).run P w = .ok (.value v) w := by simp [execOp, hx, Instr.extract, hv]
theorem r_not {b : Bool} (hx : (mkA n env ds).eval x = .bool b) : (execOp (mkA n env ds).eval ⟨some d, .unOp .not T x, ty, pos, af, gd⟩).run P w = .ok (.value (.bool (!b))) w := by simp [execOp, hx, Op.unary]
theorem r_neg {kk : IntKind} {a r : Int} (hx : (mkA n env ds).eval x = .int kk a) (hr : kk.wrap (0 - a) = r) : (execOp (mkA n env ds).eval ⟨some d, .unOp .neg T x, ty, pos, af, gd⟩).run P w = .ok (.value (.int kk r)) w := by simp [execOp, hx, Op.unary, Op.intArith, ← hr]
theorem r_cmp {op : BinOp} {kk : IntKind} {a b : Int} {r : Bool} {T2 : TypeId} (hx : (mkA n env ds).eval x = .int kk a) (hy : (mkA n env ds).eval y = .int kk b) (hr : cmpI op a b = some r) : (execOp (mkA n env ds).eval ⟨some d, .binOp op T x y T2, ty, pos, af, gd⟩).run P w = .ok (.value (.bool r)) w := by
  have e1 : (a == b) = decide (a = b) := by rw [Bool.eq_iff_iff]; simp
  cases op <;> simp only [cmpI, Option.some.injEq, reduceCtorEq] at hr <;> subst hr <;> simp [execOp, hx, hy, eqGuard, binOp, Op.intCmp, e1, bne, GT.gt, GE.ge]
theorem r_cmpS {op : BinOp} {a b : ByteArray} {r : Bool} {T2 : TypeId} (hx : (mkA n env ds).eval x = .string a) (hy : (mkA n env ds).eval y = .string b) (hr : cmpS op a b = some r) : (execOp (mkA n env ds).eval ⟨some d, .binOp op T x y T2, ty, pos, af, gd⟩).run P w = .ok (.value (.bool r)) w := by
  cases op <;> simp only [Wk.cmpS, Option.some.injEq, reduceCtorEq] at hr <;> subst hr <;> simp [execOp, hx, hy, eqGuard, binOp, Op.stringOp, bytes_toList_inj]
theorem r_cmpG {op : BinOp} {a b : Value} {r : Bool} {T2 : TypeId} (hx : (mkA n env ds).eval x = a) (hy : (mkA n env ds).eval y = b) (hr : ∀ w, (do eqGuard op T x y a b; binOp op T a b : Sem Value).run P w = .ok (.bool r) w) : (execOp (mkA n env ds).eval ⟨some d, .binOp op T x y T2, ty, pos, af, gd⟩).run P w = .ok (.value (.bool r)) w := by
  have := hr w
  simp only [execOp, hx, hy]
  rw [Sem.run_bind, this]
  rfl
theorem r_cat {a b : ByteArray} {T2 : TypeId} (hx : (mkA n env ds).eval x = .string a) (hy : (mkA n env ds).eval y = .string b) (hs : a.size + b.size ≤ 9223372036854775807) : (execOp (mkA n env ds).eval ⟨some d, .binOp .add T x y T2, ty, pos, af, gd⟩).run P w = .ok (.value (.string (a ++ b))) w := by
  have : ¬ (((a.size + b.size : Nat) : Int) > IntKind.i64.max) := by
    have : IntKind.i64.max = 9223372036854775807 := by decide
    omega
  simp only [execOp, hx, hy, eqGuard, binOp, Op.stringOp, if_neg this]
  simp
theorem r_ar {op : BinOp} {kk : IntKind} {a b r : Int} {T2 : TypeId} (hx : (mkA n env ds).eval x = .int kk a) (hy : (mkA n env ds).eval y = .int kk b) (hr : arI op kk a b = some r) : (execOp (mkA n env ds).eval ⟨some d, .binOp op T x y T2, ty, pos, af, gd⟩).run P w = .ok (.value (.int kk r)) w := by
  cases op <;> simp only [arI, Option.some.injEq, reduceCtorEq] at hr <;> subst hr <;> simp [execOp, hx, hy, eqGuard, binOp, Op.intArith]
theorem r_add {a b r : Int} {T2 : TypeId} (hx : (mkA n env ds).eval x = .int .i64 a) (hy : (mkA n env ds).eval y = .int .i64 b) (hr : a + b = r) (h1 : -9223372036854775808 ≤ r ∧ r ≤ 9223372036854775807) : (execOp (mkA n env ds).eval ⟨some d, .binOp .add T x y T2, ty, pos, af, gd⟩).run P w = .ok (.value (.int .i64 r)) w := r_ar hx hy (by simp only [arI]; rw [hr, i64_id h1.1 h1.2])
theorem r_sub {a b r : Int} {T2 : TypeId} (hx : (mkA n env ds).eval x = .int .i64 a) (hy : (mkA n env ds).eval y = .int .i64 b) (hr : a - b = r) (h1 : -9223372036854775808 ≤ r ∧ r ≤ 9223372036854775807) : (execOp (mkA n env ds).eval ⟨some d, .binOp .sub T x y T2, ty, pos, af, gd⟩).run P w = .ok (.value (.int .i64 r)) w := r_ar hx hy (by simp only [arI]; rw [hr, i64_id h1.1 h1.2])
theorem r_quo {kk : IntKind} {a b r : Int} {T2 : TypeId} (hx : (mkA n env ds).eval x = .int kk a) (hy : (mkA n env ds).eval y = .int kk b) (hb : b ≠ 0) (hr : kk.wrap (a.tdiv b) = r) : (execOp (mkA n env ds).eval ⟨some d, .binOp .quo T x y T2, ty, pos, af, gd⟩).run P w = .ok (.value (.int kk r)) w := by simp [execOp, hx, hy, eqGuard, binOp, Op.intDiv, hb, ← hr]
theorem r_rem {kk : IntKind} {a b r : Int} {T2 : TypeId} (hx : (mkA n env ds).eval x = .int kk a) (hy : (mkA n env ds).eval y = .int kk b) (hb : b ≠ 0) (hr : a.tmod b = r) : (execOp (mkA n env ds).eval ⟨some d, .binOp .rem T x y T2, ty, pos, af, gd⟩).run P w = .ok (.value (.int kk r)) w := by simp [execOp, hx, hy, eqGuard, binOp, Op.intDiv, hb, ← hr]
theorem r_conv {kk k2 : IntKind} {a r : Int} {S2 : TypeId} (h1 : (match P.underlying T, P.underlying S2 with | some (.int _), some (.int k) => decide (k = k2) | _, _ => false) = true) (hx : (mkA n env ds).eval x = .int kk a) (hr : k2.wrap a = r) : (execOp (mkA n env ds).eval ⟨some d, .convert T S2 x, ty, pos, af, gd⟩).run P w = .ok (.value (.int k2 r)) w := by
  split at h1
  · rename_i k0 k hu1 hu2
    obtain rfl : k = k2 := of_decide_eq_true h1
    simp [execOp, hx, convert, run_under hu1, run_under hu2, Conv.intToInt, ← hr]
  · cases h1
theorem r_build {ps : Array (Nat × Operand)} {vs : List (Nat × Value)} (hv : (ps.map fun p => (p.1, (mkA n env ds).eval p.2)) = vs.toArray) (h1 : ∀ w, (Instr.build T vs.toArray).run P w = .ok v w) : (execOp (mkA n env ds).eval ⟨some d, .build T ps, ty, pos, af, gd⟩).run P w = .ok (.value v) w := by
  have := h1 w
  simp only [execOp, hv]
  rw [Sem.run_bind, this]
  rfl
theorem r_makeFunc {fn : Fn} {fs cs : Array Operand} {vf vc : Array Value} (hf : fs.map (mkA n env ds).eval = vf) (hc : cs.map (mkA n env ds).eval = vc) : (execOp (mkA n env ds).eval ⟨some d, .makeFunc fn fs cs, ty, pos, af, gd⟩).run P w = .ok (.value (.func fn vf vc)) w := by simp only [execOp, hf, hc, Instr.makeFunc]; rfl
theorem r_nilCheck {ad : Addr} (hx : (mkA n env ds).eval x = .pointer (some ad)) : (execOp (mkA n env ds).eval ⟨some d, .nilCheck x, ty, pos, af, gd⟩).run P w = .ok (.value (.pointer (some ad))) w := by simp [execOp, hx]
theorem r_mkIface (h1 : (match P.underlying T with | some (.interface _) => false | some _ => true | none => false) = true) (hx : (mkA n env ds).eval x = v) : (execOp (mkA n env ds).eval ⟨some d, .makeInterface T x, ty, pos, af, gd⟩).run P w = .ok (.value (.iface T v)) w := by
  split at h1
  · cases h1
  · rename_i D hD hu
    have : (Instr.makeInterface T v).run P w = .ok (.iface T v) w := by
      simp only [Instr.makeInterface, Sem.run_bind, run_under hu, Result.andThen_ok]
      first
      | rfl
      | (split
         · rename_i h; exact absurd rfl (hD _)
         · rfl)
    simp only [execOp, hx]
    rw [Sem.run_bind, this]
    rfl
  · cases h1
theorem r_subS {s : ByteArray} {i j : Nat} {lo hi : Option Operand} {r : ByteArray} (h1 : P.underlying T = some .string) (hx : (mkA n env ds).eval x = .string s) (hlo : (lo.map (mkA n env ds).eval = none ∧ i = 0) ∨ ∃ k, lo.map (mkA n env ds).eval = some (.int k i)) (hhi : (hi.map (mkA n env ds).eval = none ∧ j = s.size) ∨ ∃ k, hi.map (mkA n env ds).eval = some (.int k j)) (hij : i ≤ j) (hj : j ≤ s.size) (hr : s.extract i j = r) : (execOp (mkA n env ds).eval ⟨some d, .slice T x lo hi none, ty, pos, af, gd⟩).run P w = .ok (.value (.string r)) w := by
  have hij' : (i : Int) ≤ (j : Int) := by omega
  have hj' : (j : Int) ≤ (s.size : Int) := by omega
  subst hr
  rcases hlo with ⟨hl, rfl⟩ | ⟨k, hl⟩ <;> rcases hhi with ⟨hh, rfl⟩ | ⟨k2, hh⟩ <;> simp [execOp, hx, hl, hh, Instr.sliceAt, Instr.slice, run_under h1, Instr.sliceBounds, Instr.sliceBound, asIntOf, hij, hj]
theorem s_move (hx : (mkA n env ds).eval x = v) (hw : Region.wanted ⟨some d, .move x, ty, pos, af, gd⟩ (yielded ops (mkA n env ds).tmps) = true) (k : wpList P ops Q rest (mkA n (upd env d v) ds) w) : wpList P ops Q (⟨some d, .move x, ty, pos, af, gd⟩ :: rest) (mkA n env ds) w := s_val hw (r_move hx) k
theorem s_assign (hx : (mkA n env ds).eval x = v) (hw : Region.wanted ⟨some d, .assign x, ty, pos, af, gd⟩ (yielded ops (mkA n env ds).tmps) = true) (k : wpList P ops Q rest (mkA n (upd env d v) ds) w) : wpList P ops Q (⟨some d, .assign x, ty, pos, af, gd⟩ :: rest) (mkA n env ds) w := s_val hw (r_assign hx) k
theorem s_pick1 (hx : (mkA n env ds).eval x = .bool true) (hy : (mkA n env ds).eval y = v) (hw : Region.wanted ⟨some d, .pick x y z, ty, pos, af, gd⟩ (yielded ops (mkA n env ds).tmps) = true) (k : wpList P ops Q rest (mkA n (upd env d v) ds) w) : wpList P ops Q (⟨some d, .pick x y z, ty, pos, af, gd⟩ :: rest) (mkA n env ds) w := s_val hw (r_pick1 hx hy) k
theorem s_pick0 (hx : (mkA n env ds).eval x = .bool false) (hz : (mkA n env ds).eval z = v) (hw : Region.wanted ⟨some d, .pick x y z, ty, pos, af, gd⟩ (yielded ops (mkA n env ds).tmps) = true) (k : wpList P ops Q rest (mkA n (upd env d v) ds) w) : wpList P ops Q (⟨some d, .pick x y z, ty, pos, af, gd⟩ :: rest) (mkA n env ds) w := s_val hw (r_pick0 hx hz) k
theorem s_load (h1 : one P T = true) {ad : Addr} (hx : (mkA n env ds).eval x = .pointer (some ad)) (hc : w.cell? ad = some v) (hw : Region.wanted ⟨some d, .load T x, ty, pos, af, gd⟩ (yielded ops (mkA n env ds).tmps) = true) (k : wpList P ops Q rest (mkA n (upd env d v) ds) w) : wpList P ops Q (⟨some d, .load T x, ty, pos, af, gd⟩ :: rest) (mkA n env ds) w := s_val hw (r_load h1 hx hc) k
theorem s_loadL {m b o : Nat} {cs : List Value} {ca : Array Value} (h1 : many P T m = true) (hx : (mkA n env ds).eval x = .pointer (some ⟨b, o, none⟩)) (hs : cs.length = m) (hca : ca = cs.toArray) (hc : ∀ (i : Nat) u, cs[i]? = some u → w.cell? ⟨b, o + i, none⟩ = some u) (hw : Region.wanted ⟨some d, .load T x, ty, pos, af, gd⟩ (yielded ops (mkA n env ds).tmps) = true) (k : wpList P ops Q rest (mkA n (upd env d (.agg ca)) ds) w) : wpList P ops Q (⟨some d, .load T x, ty, pos, af, gd⟩ :: rest) (mkA n env ds) w := s_val hw (r_loadL h1 hx hs hca hc) k
theorem s_field {i off g o o' : Nat} (h1 : fieldAt P T i off = true) (hx : (mkA n env ds).eval x = .pointer (some ⟨g, o, none⟩)) (ho : o + off = o') (hw : Region.wanted ⟨some d, .fieldAddr T x i, ty, pos, af, gd⟩ (yielded ops (mkA n env ds).tmps) = true) (k : wpList P ops Q rest (mkA n (upd env d (.pointer (some ⟨g, o', none⟩))) ds) w) : wpList P ops Q (⟨some d, .fieldAddr T x i, ty, pos, af, gd⟩ :: rest) (mkA n env ds) w := s_val hw (r_field h1 hx ho) k
theorem s_index {m b o ln cap j : Nat} {kk : IntKind} {jv : Int} (h1 : sliceT P T m = true) (hx : (mkA n env ds).eval x = .slice (some ⟨b, o, none⟩) ln cap) (hy : (mkA n env ds).eval y = .int kk jv) (hj : jv = (j : Int)) (hl : j < ln) (hw : Region.wanted ⟨some d, .indexAddr T x y, ty, pos, af, gd⟩ (yielded ops (mkA n env ds).tmps) = true) (k : wpList P ops Q rest (mkA n (upd env d (.pointer (some ⟨b, o + j * m, none⟩))) ds) w) : wpList P ops Q (⟨some d, .indexAddr T x y, ty, pos, af, gd⟩ :: rest) (mkA n env ds) w := s_val hw (r_index h1 hx hy hj hl) k
theorem s_indexR {m ln cap j b o : Nat} {A : Option Addr} {kk : IntKind} {jv : Int} (h1 : sliceT P T m = true) (hx : (mkA n env ds).eval x = .slice A ln cap) (hA : A = some ⟨b, o, none⟩) (hy : (mkA n env ds).eval y = .int kk jv) (hj : jv = (j : Int)) (hl : j < ln) (hw : Region.wanted ⟨some d, .indexAddr T x y, ty, pos, af, gd⟩ (yielded ops (mkA n env ds).tmps) = true) (k : wpList P ops Q rest (mkA n (upd env d (.pointer (some ⟨b, o + j * m, none⟩))) ds) w) : wpList P ops Q (⟨some d, .indexAddr T x y, ty, pos, af, gd⟩ :: rest) (mkA n env ds) w := s_val hw (r_indexR h1 hx hA hy hj hl) k
theorem s_indexA {m g o ln j : Nat} {kk : IntKind} {jv : Int} (h1 : arrayT P T ln m = true) (hx : (mkA n env ds).eval x = .pointer (some ⟨g, o, none⟩)) (hy : (mkA n env ds).eval y = .int kk jv) (hj : jv = (j : Int)) (hl : j < ln) (hw : Region.wanted ⟨some d, .indexAddr T x y, ty, pos, af, gd⟩ (yielded ops (mkA n env ds).tmps) = true) (k : wpList P ops Q rest (mkA n (upd env d (.pointer (some ⟨g, o + j * m, none⟩))) ds) w) : wpList P ops Q (⟨some d, .indexAddr T x y, ty, pos, af, gd⟩ :: rest) (mkA n env ds) w := s_val hw (r_indexA h1 hx hy hj hl) k
theorem s_byte {j : Nat} {s : ByteArray} {kk : IntKind} {jv : Int} (h1 : P.underlying T = some .string) (hx : (mkA n env ds).eval x = .string s) (hy : (mkA n env ds).eval y = .int kk jv) (hj : jv = (j : Int)) (hl : j < s.size) (hw : Region.wanted ⟨some d, .index T x y, ty, pos, af, gd⟩ (yielded ops (mkA n env ds).tmps) = true) (k : wpList P ops Q rest (mkA n (upd env d (.int .u8 (byteAt s j))) ds) w) : wpList P ops Q (⟨some d, .index T x y, ty, pos, af, gd⟩ :: rest) (mkA n env ds) w := s_val hw (r_byte h1 hx hy hj hl) k
theorem s_lenS {s : ByteArray} (h1 : P.underlying T = some .string) (hx : (mkA n env ds).eval x = .string s) (hw : Region.wanted ⟨some d, .call ⟨.builtin .len, #[x], #[T]⟩, ty, pos, af, gd⟩ (yielded ops (mkA n env ds).tmps) = true) (k : wpList P ops Q rest (mkA n (upd env d (.int .i64 s.size)) ds) w) : wpList P ops Q (⟨some d, .call ⟨.builtin .len, #[x], #[T]⟩, ty, pos, af, gd⟩ :: rest) (mkA n env ds) w := s_val hw (r_lenS h1 hx) k
theorem s_lenL {m ln cap : Nat} {A : Option Addr} (h1 : sliceT P T m = true) (hx : (mkA n env ds).eval x = .slice A ln cap) (hw : Region.wanted ⟨some d, .call ⟨.builtin .len, #[x], #[T]⟩, ty, pos, af, gd⟩ (yielded ops (mkA n env ds).tmps) = true) (k : wpList P ops Q rest (mkA n (upd env d (.int .i64 ln)) ds) w) : wpList P ops Q (⟨some d, .call ⟨.builtin .len, #[x], #[T]⟩, ty, pos, af, gd⟩ :: rest) (mkA n env ds) w := s_val hw (r_lenL h1 hx) k
theorem s_extract {l : Array Value} {j : Nat} (hx : (mkA n env ds).eval x = .tuple l) (hv : l[j]? = some v) (hw : Region.wanted ⟨some d, .extract x j, ty, pos, af, gd⟩ (yielded ops (mkA n env ds).tmps) = true) (k : wpList P ops Q rest (mkA n (upd env d v) ds) w) : wpList P ops Q (⟨some d, .extract x j, ty, pos, af, gd⟩ :: rest) (mkA n env ds) w := s_val hw (r_extract hx hv) k
theorem s_not {b : Bool} (hx : (mkA n env ds).eval x = .bool b) (hw : Region.wanted ⟨some d, .unOp .not T x, ty, pos, af, gd⟩ (yielded ops (mkA n env ds).tmps) = true) (k : wpList P ops Q rest (mkA n (upd env d (.bool (!b))) ds) w) : wpList P ops Q (⟨some d, .unOp .not T x, ty, pos, af, gd⟩ :: rest) (mkA n env ds) w := s_val hw (r_not hx) k
theorem s_neg {kk : IntKind} {a r : Int} (hx : (mkA n env ds).eval x = .int kk a) (hr : kk.wrap (0 - a) = r) (hw : Region.wanted ⟨some d, .unOp .neg T x, ty, pos, af, gd⟩ (yielded ops (mkA n env ds).tmps) = true) (k : wpList P ops Q rest (mkA n (upd env d (.int kk r)) ds) w) : wpList P ops Q (⟨some d, .unOp .neg T x, ty, pos, af, gd⟩ :: rest) (mkA n env ds) w := s_val hw (r_neg hx hr) k
theorem s_cmp {op : BinOp} {kk : IntKind} {a b : Int} {r : Bool} {T2 : TypeId} (hx : (mkA n env ds).eval x = .int kk a) (hy : (mkA n env ds).eval y = .int kk b) (hr : cmpI op a b = some r) (hw : Region.wanted ⟨some d, .binOp op T x y T2, ty, pos, af, gd⟩ (yielded ops (mkA n env ds).tmps) = true) (k : wpList P ops Q rest (mkA n (upd env d (.bool r)) ds) w) : wpList P ops Q (⟨some d, .binOp op T x y T2, ty, pos, af, gd⟩ :: rest) (mkA n env ds) w := s_val hw (r_cmp hx hy hr) k
theorem s_cmpS {op : BinOp} {a b : ByteArray} {r : Bool} {T2 : TypeId} (hx : (mkA n env ds).eval x = .string a) (hy : (mkA n env ds).eval y = .string b) (hr : cmpS op a b = some r) (hw : Region.wanted ⟨some d, .binOp op T x y T2, ty, pos, af, gd⟩ (yielded ops (mkA n env ds).tmps) = true) (k : wpList P ops Q rest (mkA n (upd env d (.bool r)) ds) w) : wpList P ops Q (⟨some d, .binOp op T x y T2, ty, pos, af, gd⟩ :: rest) (mkA n env ds) w := s_val hw (r_cmpS hx hy hr) k
theorem s_cmpG {op : BinOp} {a b : Value} {r : Bool} {T2 : TypeId} (hx : (mkA n env ds).eval x = a) (hy : (mkA n env ds).eval y = b) (hr : ∀ w, (do eqGuard op T x y a b; binOp op T a b : Sem Value).run P w = .ok (.bool r) w) (hw : Region.wanted ⟨some d, .binOp op T x y T2, ty, pos, af, gd⟩ (yielded ops (mkA n env ds).tmps) = true) (k : wpList P ops Q rest (mkA n (upd env d (.bool r)) ds) w) : wpList P ops Q (⟨some d, .binOp op T x y T2, ty, pos, af, gd⟩ :: rest) (mkA n env ds) w := s_val hw (r_cmpG hx hy hr) k
theorem s_cat {a b : ByteArray} {T2 : TypeId} (hx : (mkA n env ds).eval x = .string a) (hy : (mkA n env ds).eval y = .string b) (hs : a.size + b.size ≤ 9223372036854775807) (hw : Region.wanted ⟨some d, .binOp .add T x y T2, ty, pos, af, gd⟩ (yielded ops (mkA n env ds).tmps) = true) (k : wpList P ops Q rest (mkA n (upd env d (.string (a ++ b))) ds) w) : wpList P ops Q (⟨some d, .binOp .add T x y T2, ty, pos, af, gd⟩ :: rest) (mkA n env ds) w := s_val hw (r_cat hx hy hs) k
theorem s_ar {op : BinOp} {kk : IntKind} {a b r : Int} {T2 : TypeId} (hx : (mkA n env ds).eval x = .int kk a) (hy : (mkA n env ds).eval y = .int kk b) (hr : arI op kk a b = some r) (hw : Region.wanted ⟨some d, .binOp op T x y T2, ty, pos, af, gd⟩ (yielded ops (mkA n env ds).tmps) = true) (k : wpList P ops Q rest (mkA n (upd env d (.int kk r)) ds) w) : wpList P ops Q (⟨some d, .binOp op T x y T2, ty, pos, af, gd⟩ :: rest) (mkA n env ds) w := s_val hw (r_ar hx hy hr) k
theorem s_add {a b r : Int} {T2 : TypeId} (hx : (mkA n env ds).eval x = .int .i64 a) (hy : (mkA n env ds).eval y = .int .i64 b) (hr : a + b = r) (h1 : -9223372036854775808 ≤ r ∧ r ≤ 9223372036854775807) (hw : Region.wanted ⟨some d, .binOp .add T x y T2, ty, pos, af, gd⟩ (yielded ops (mkA n env ds).tmps) = true) (k : wpList P ops Q rest (mkA n (upd env d (.int .i64 r)) ds) w) : wpList P ops Q (⟨some d, .binOp .add T x y T2, ty, pos, af, gd⟩ :: rest) (mkA n env ds) w := s_val hw (r_add hx hy hr h1) k
theorem s_sub {a b r : Int} {T2 : TypeId} (hx : (mkA n env ds).eval x = .int .i64 a) (hy : (mkA n env ds).eval y = .int .i64 b) (hr : a - b = r) (h1 : -9223372036854775808 ≤ r ∧ r ≤ 9223372036854775807) (hw : Region.wanted ⟨some d, .binOp .sub T x y T2, ty, pos, af, gd⟩ (yielded ops (mkA n env ds).tmps) = true) (k : wpList P ops Q rest (mkA n (upd env d (.int .i64 r)) ds) w) : wpList P ops Q (⟨some d, .binOp .sub T x y T2, ty, pos, af, gd⟩ :: rest) (mkA n env ds) w := s_val hw (r_sub hx hy hr h1) k
theorem s_quo {kk : IntKind} {a b r : Int} {T2 : TypeId} (hx : (mkA n env ds).eval x = .int kk a) (hy : (mkA n env ds).eval y = .int kk b) (hb : b ≠ 0) (hr : kk.wrap (a.tdiv b) = r) (hw : Region.wanted ⟨some d, .binOp .quo T x y T2, ty, pos, af, gd⟩ (yielded ops (mkA n env ds).tmps) = true) (k : wpList P ops Q rest (mkA n (upd env d (.int kk r)) ds) w) : wpList P ops Q (⟨some d, .binOp .quo T x y T2, ty, pos, af, gd⟩ :: rest) (mkA n env ds) w := s_val hw (r_quo hx hy hb hr) k
theorem s_rem {kk : IntKind} {a b r : Int} {T2 : TypeId} (hx : (mkA n env ds).eval x = .int kk a) (hy : (mkA n env ds).eval y = .int kk b) (hb : b ≠ 0) (hr : a.tmod b = r) (hw : Region.wanted ⟨some d, .binOp .rem T x y T2, ty, pos, af, gd⟩ (yielded ops (mkA n env ds).tmps) = true) (k : wpList P ops Q rest (mkA n (upd env d (.int kk r)) ds) w) : wpList P ops Q (⟨some d, .binOp .rem T x y T2, ty, pos, af, gd⟩ :: rest) (mkA n env ds) w := s_val hw (r_rem hx hy hb hr) k
theorem s_conv {kk k2 : IntKind} {a r : Int} {S2 : TypeId} (h1 : (match P.underlying T, P.underlying S2 with | some (.int _), some (.int k) => decide (k = k2) | _, _ => false) = true) (hx : (mkA n env ds).eval x = .int kk a) (hr : k2.wrap a = r) (hw : Region.wanted ⟨some d, .convert T S2 x, ty, pos, af, gd⟩ (yielded ops (mkA n env ds).tmps) = true) (k : wpList P ops Q rest (mkA n (upd env d (.int k2 r)) ds) w) : wpList P ops Q (⟨some d, .convert T S2 x, ty, pos, af, gd⟩ :: rest) (mkA n env ds) w := s_val hw (r_conv h1 hx hr) k
theorem s_build {ps : Array (Nat × Operand)} {vs : List (Nat × Value)} (hv : (ps.map fun p => (p.1, (mkA n env ds).eval p.2)) = vs.toArray) (h1 : ∀ w, (Instr.build T vs.toArray).run P w = .ok v w) (hw : Region.wanted ⟨some d, .build T ps, ty, pos, af, gd⟩ (yielded ops (mkA n env ds).tmps) = true) (k : wpList P ops Q rest (mkA n (upd env d v) ds) w) : wpList P ops Q (⟨some d, .build T ps, ty, pos, af, gd⟩ :: rest) (mkA n env ds) w := s_val hw (r_build hv h1) k
theorem s_makeFunc {fn : Fn} {fs cs : Array Operand} {vf vc : Array Value} (hf : fs.map (mkA n env ds).eval = vf) (hc : cs.map (mkA n env ds).eval = vc) (hw : Region.wanted ⟨some d, .makeFunc fn fs cs, ty, pos, af, gd⟩ (yielded ops (mkA n env ds).tmps) = true) (k : wpList P ops Q rest (mkA n (upd env d (.func fn vf vc)) ds) w) : wpList P ops Q (⟨some d, .makeFunc fn fs cs, ty, pos, af, gd⟩ :: rest) (mkA n env ds) w := s_val hw (r_makeFunc hf hc) k
theorem s_nilCheck {ad : Addr} (hx : (mkA n env ds).eval x = .pointer (some ad)) (hw : Region.wanted ⟨some d, .nilCheck x, ty, pos, af, gd⟩ (yielded ops (mkA n env ds).tmps) = true) (k : wpList P ops Q rest (mkA n (upd env d (.pointer (some ad))) ds) w) : wpList P ops Q (⟨some d, .nilCheck x, ty, pos, af, gd⟩ :: rest) (mkA n env ds) w := s_val hw (r_nilCheck hx) k
theorem s_mkIface (h1 : (match P.underlying T with | some (.interface _) => false | some _ => true | none => false) = true) (hx : (mkA n env ds).eval x = v) (hw : Region.wanted ⟨some d, .makeInterface T x, ty, pos, af, gd⟩ (yielded ops (mkA n env ds).tmps) = true) (k : wpList P ops Q rest (mkA n (upd env d (.iface T v)) ds) w) : wpList P ops Q (⟨some d, .makeInterface T x, ty, pos, af, gd⟩ :: rest) (mkA n env ds) w := s_val hw (r_mkIface h1 hx) k
theorem s_subS {s : ByteArray} {i j : Nat} {lo hi : Option Operand} {r : ByteArray} (h1 : P.underlying T = some .string) (hx : (mkA n env ds).eval x = .string s) (hlo : (lo.map (mkA n env ds).eval = none ∧ i = 0) ∨ ∃ k, lo.map (mkA n env ds).eval = some (.int k i)) (hhi : (hi.map (mkA n env ds).eval = none ∧ j = s.size) ∨ ∃ k, hi.map (mkA n env ds).eval = some (.int k j)) (hij : i ≤ j) (hj : j ≤ s.size) (hr : s.extract i j = r) (hw : Region.wanted ⟨some d, .slice T x lo hi none, ty, pos, af, gd⟩ (yielded ops (mkA n env ds).tmps) = true) (k : wpList P ops Q rest (mkA n (upd env d (.string r)) ds) w) : wpList P ops Q (⟨some d, .slice T x lo hi none, ty, pos, af, gd⟩ :: rest) (mkA n env ds) w := s_val hw (r_subS h1 hx hlo hhi hij hj hr) k
end
end Go.Wk
