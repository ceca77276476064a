/- YtjjkfbjidpolmaaDoorWkB: part of the proof of this seat, by an AI agent: worlds, calls, control. No condition of its own but those that its theorems state. -/
import Derived.Test.YtjjkfbjidpolmaaDoorWkA
set_option linter.unusedVariables false
set_option linter.unusedSimpArgs false
namespace Go.Wk
open Go Go.RowKit

/-! ### worlds -/
/-- All old blocks outside S stay. -/
structure Keep (S : Nat → Prop) (w w' : World) : Prop where
  os : w'.os = w.os
  tape : w'.tape = w.tape
  output : w'.output = w.output
  size : w.heap.size ≤ w'.heap.size
  block : ∀ k, k < w.heap.size → ¬ S k → w'.heap[k]? = w.heap[k]?
abbrev Ext (w w' : World) : Prop := Keep (fun _ => False) w w'
theorem Ext.refl (w : World) : Ext w w := ⟨rfl, rfl, rfl, Nat.le_refl _, fun _ _ _ => rfl⟩
theorem Keep.refl (S : Nat → Prop) (w : World) : Keep S w w := ⟨rfl, rfl, rfl, Nat.le_refl _, fun _ _ _ => rfl⟩
theorem Ext.trans {a b c : World} (h : Ext a b) (k : Ext b c) : Ext a c :=
  ⟨k.os.trans h.os, k.tape.trans h.tape, k.output.trans h.output, Nat.le_trans h.size k.size, fun i hi hn => (k.block i (Nat.lt_of_lt_of_le hi h.size) hn).trans (h.block i hi hn)⟩
/-- What the second step writes is new, or may be written. -/
theorem Keep.then_ {S S2 : Nat → Prop} {a b c : World} (h : Keep S a b) (k : Keep S2 b c) (hs : ∀ i, i < a.heap.size → S2 i → S i) : Keep S a c :=
  ⟨k.os.trans h.os, k.tape.trans h.tape, k.output.trans h.output, Nat.le_trans h.size k.size, fun i hi hn => (k.block i (Nat.lt_of_lt_of_le hi h.size) (fun h2 => hn (hs i hi h2))).trans (h.block i hi hn)⟩
theorem Keep.ext {S : Nat → Prop} {a b c : World} (h : Keep S a b) (k : Ext b c) : Keep S a c := h.then_ k (fun _ _ h => h.elim)
theorem Keep.mono {S S2 : Nat → Prop} {a b : World} (h : Keep S a b) (hs : ∀ i, i < a.heap.size → S i → S2 i) : Keep S2 a b := ⟨h.os, h.tape, h.output, h.size, fun i hi hn => h.block i hi (fun h2 => hn (hs i hi h2))⟩
theorem lt_of_blk {w : World} {g : Nat} {o : Obj} (h : w.heap[g]? = some o) : g < w.heap.size := (Array.getElem?_eq_some_iff.1 h).1
theorem Keep.blk {S : Nat → Prop} {a b : World} {g : Nat} {o : Obj} (k : Keep S a b) (h : a.heap[g]? = some o) (hn : ¬ S g) : b.heap[g]? = some o := (k.block g (lt_of_blk h) hn).trans h
theorem Ext.blk {a b : World} {g : Nat} {o : Obj} (k : Ext a b) (h : a.heap[g]? = some o) : b.heap[g]? = some o := Keep.blk k h (fun h => h)
theorem Ext.below {a b : World} (h : Ext a b) : Below a.heap.size a b := ⟨h.os, h.tape, h.output, h.size, fun k hk => h.block k hk (fun h => h)⟩
theorem Ext.of_below {a b : World} (h : Below a.heap.size a b) : Ext a b := ⟨h.os, h.tape, h.output, h.size, fun k hk _ => h.block k hk⟩
theorem ext_alloc (w : World) (o : Obj) : Ext w (w.alloc o) := Ext.of_below ((Below.refl _ _).alloc (Nat.le_refl _) o)
theorem alloc_new (w : World) (o : Obj) : (w.alloc o).heap[w.heap.size]? = some o := by
  show (w.heap.push o)[w.heap.size]? = some o
  simp
theorem alloc_size (w : World) (o : Obj) : (w.alloc o).heap.size = w.heap.size + 1 := by
  show (w.heap.push o).size = _
  simp
theorem cell_of_blk {w : World} {g i : Nat} {cs : Array Value} {t : TypeId} {fz : Nat × Nat} {v : Value} (h : w.heap[g]? = some (.cells cs t fz)) (hc : cs[i]? = some v) : w.cell? ⟨g, i, none⟩ = some v := by
  simp [World.cell?, h, hc]
theorem Keep.cell {S : Nat → Prop} {a b : World} (k : Keep S a b) {x : Addr} {v : Value} (h : a.cell? x = some v) (hn : ¬ S x.block) : b.cell? x = some v := by
  have hl := World.block_lt_of_cell? a x h
  have := k.block x.block hl hn
  simpa [World.cell?, this] using h
theorem Ext.cell {a b : World} (k : Ext a b) {x : Addr} {v : Value} (h : a.cell? x = some v) : b.cell? x = some v := Keep.cell k h (fun h => h)

/-! ### types -/
def isAggD : TypeDesc → Bool
  | .struct _ | .array .. => true
  | _ => false
/-- A one-cell type. -/
def one (P : Program) (t : TypeId) : Bool := match P.underlying t with
  | some d => !isAggD d
  | none => false
/-- A struct or an array of m cells. -/
def many (P : Program) (t : TypeId) (m : Nat) : Bool := match P.underlying t, P.info? t with
  | some d, some i => isAggD d && i.size == m
  | _, _ => false
def fieldAt (P : Program) (s : TypeId) (i off : Nat) : Bool := match P.underlying s with
  | some (.struct fs) => match fs[i]? with
    | some f => f.offset == off && (match P.info? f.type with | some j => j.size != 0 | none => false)
    | none => false
  | _ => false
/-- A slice type whose elements have m cells. -/
def sliceT (P : Program) (t : TypeId) (m : Nat) : Bool := match P.underlying t with
  | some (.slice e) => match P.info? e with
    | some i => i.size == m
    | none => false
  | _ => false
def enterable (P : Program) (f : FuncId) : Bool := match P.funcs[f]? with
  | some fn => fn.name != "runtime.NumGoroutine" && fn.body.isSome
  | none => false

section
variable {P : Program} {ops : Array Oper} {Q : Exit → Act → World → Prop} {rest : List Oper} {n d t : Nat} {env : Nat → Value} {ds : List Deferred} {w w' : World} {v u : Value}
  {ty T : TypeId} {pos : String} {af : Array Edge} {gd : Option (Nat × Bool)} {x y z : Operand}

/-- A new block. -/
def NewB (w : World) (g : Nat) (o : Obj) (w' : World) : Prop := g = w.heap.size ∧ w'.heap.size = w.heap.size + 1 ∧ w'.heap[g]? = some o ∧ Ext w w'
theorem newB (w : World) (o : Obj) : NewB w w.heap.size o (w.alloc o) := ⟨rfl, alloc_size w o, alloc_new w o, ext_alloc w o⟩
theorem s_box {cs : Array Value} (hw : Region.wanted ⟨some d, .box T x, ty, pos, af, gd⟩ (yielded ops (mkA n env ds).tmps) = true) (hx : (mkA n env ds).eval x = v) (hcs : v.cells = cs)
    (k : ∀ w' g, NewB w g (.cells cs T (0, 0)) w' → wpList P ops Q rest (mkA n (upd env d (.pointer (some ⟨g, 0, none⟩))) ds) w') : wpList P ops Q (⟨some d, .box T x, ty, pos, af, gd⟩ :: rest) (mkA n env ds) w :=
  s_val hw (w' := w.alloc (.cells cs T (0, 0))) (by simp [execOp, hx, Instr.box, newVar, newRow, hcs]) (k _ _ (newB w _))
theorem s_alloc {zv : Value} {cs : Array Value} (hw : Region.wanted ⟨some d, .alloc T, ty, pos, af, gd⟩ (yielded ops (mkA n env ds).tmps) = true) (hz : (P.info? T).bind (·.zero) = some zv) (hcs : zv.cells = cs)
    (k : ∀ w' g, NewB w g (.cells cs T (0, 0)) w' → wpList P ops Q rest (mkA n (upd env d (.pointer (some ⟨g, 0, none⟩))) ds) w') : wpList P ops Q (⟨some d, .alloc T, ty, pos, af, gd⟩ :: rest) (mkA n env ds) w := by
  obtain ⟨i, hi, hz⟩ := Option.bind_eq_some_iff.1 hz
  exact s_val hw (w' := w.alloc (.cells cs T (0, 0))) (by simp [execOp, Instr.alloc, zeroValue, typeInfo, hi, hz, newVar, newRow, hcs]) (k _ _ (newB w _))
theorem run_under {D : TypeDesc} (h : P.underlying T = some D) : (underlying T).run P w = .ok D w := Go.run_underlying h w
theorem run_isAgg {D : TypeDesc} (h : P.underlying T = some D) : (isAgg T).run P w = .ok (isAggD D) w := by
  simp only [isAgg]
  cases D <;> simp [run_under h, isAggD]

theorem one_spec (h : one P T = true) : ∃ D, P.underlying T = some D ∧ isAggD D = false := by
  unfold one at h
  cases hu : P.underlying T with
  | none => rw [hu] at h; simp at h
  | some D => rw [hu] at h; exact ⟨D, rfl, by simpa using h⟩
theorem many_spec {m : Nat} (h : many P T m = true) : ∃ D i, P.underlying T = some D ∧ isAggD D = true ∧ P.info? T = some i ∧ i.size = m := by
  unfold many at h
  split at h
  · rename_i D i hu hi
    simp at h
    exact ⟨D, i, hu, h.1, hi, h.2⟩
  · cases h
theorem add0 (g o j : Nat) : (⟨g, o, none⟩ : Addr).add j = ⟨g, o + j, none⟩ := by unfold Addr.add; split <;> simp_all
theorem fieldAt_spec {i off : Nat} (h : fieldAt P T i off = true) : ∃ fs f j, P.underlying T = some (.struct fs) ∧ fs[i]? = some f ∧ f.offset = off ∧ P.info? f.type = some j ∧ j.size ≠ 0 := by
  unfold fieldAt at h
  split at h
  · rename_i fs hu
    split at h
    · rename_i f hf
      simp at h
      obtain ⟨h1, h2⟩ := h
      split at h2
      · rename_i j hj
        exact ⟨fs, f, j, hu, hf, h1, hj, by simpa using h2⟩
      · cases h2
    · cases h
  · cases h
theorem sliceT_spec {m : Nat} (h : sliceT P T m = true) : ∃ e i, P.underlying T = some (.slice e) ∧ P.info? e = some i ∧ i.size = m := by
  unfold sliceT at h
  split at h
  · rename_i e hu
    split at h
    · rename_i i hi
      exact ⟨e, i, hu, hi, by simpa using h⟩
    · cases h
  · cases h
def byteAt (s : ByteArray) (j : Nat) : Nat := (s.data.getD j 0).toNat
/-! comparisons: the answer is told -/
def cmpI : BinOp → Int → Int → Option Bool
  | .eql, a, b => some (decide (a = b))
  | .neq, a, b => some (!decide (a = b))
  | .lss, a, b => some (decide (a < b))
  | .leq, a, b => some (decide (a ≤ b))
  | .gtr, a, b => some (decide (b < a))
  | .geq, a, b => some (decide (b ≤ a))
  | _, _, _ => none
def cmpS : BinOp → ByteArray → ByteArray → Option Bool
  | .eql, a, b => some (decide (a = b))
  | .neq, a, b => some (!decide (a = b))
  | _, _, _ => none
theorem bytes_toList_inj (a b : ByteArray) : (a.toList == b.toList) = decide (a = b) := by
  rw [Bool.eq_iff_iff]
  simp only [beq_iff_eq, decide_eq_true_eq, ByteArray.toList_eq]
  constructor
  · intro h; exact Go.WideShapes.bytes_inj h
  · rintro rfl; rfl
/-- Sums and products of one kind, wrapped. -/
def arI : BinOp → IntKind → Int → Int → Option Int
  | .add, k, a, b => some (k.wrap (a + b))
  | .sub, k, a, b => some (k.wrap (a - b))
  | .mul, k, a, b => some (k.wrap (a * b))
  | _, _, _, _ => none
theorem i64_id {z : Int} (h1 : -9223372036854775808 ≤ z) (h2 : z ≤ 9223372036854775807) : IntKind.i64.wrap z = z := Go.IntWalk.i64_in z ⟨h1, h2⟩
/-! ### calls -/
def Rt (P : Program) (F : FuncId) (args : Array Value) (w : World) (T : Value → World → Prop) : Prop := Calls P F args w fun e w' => ∃ v, e = .returned v ∧ T v w'
theorem Rt.mono {F : FuncId} {args : Array Value} {T1 T2 : Value → World → Prop} (h : Rt P F args w T1) (k : ∀ v w', T1 v w' → T2 v w') : Rt P F args w T2 :=
  Calls.mono h fun _ _ ⟨v, he, ht⟩ => ⟨v, he, k v _ ht⟩
theorem enter_spec {F : FuncId} (h : enterable P F = true) : ∃ fn, P.funcs[F]? = some fn ∧ (fn.name == "runtime.NumGoroutine") = false ∧ fn.body.isNone = false := by
  unfold enterable at h
  split at h
  · rename_i fn hf
    simp at h
    refine ⟨fn, hf, by simpa using h.1, ?_⟩
    cases hb : fn.body <;> simp_all
  · cases h
theorem run_callFunc {F : FuncId} (h : enterable P F = true) (args : Array Value) : (callFunc F args).run P w = .ok (.enter F args) w := by
  obtain ⟨fn, hf, h1, h2⟩ := enter_spec h
  simp only [callFunc, Sem.run_bind, run_program, Result.andThen_ok]
  rw [hf]
  simp [h1, h2]
theorem s_call {F : FuncId} {first captured args vs : Array Value} {xs : Array Operand} {ts : Array TypeId} {Tc : Value → World → Prop} (he : enterable P F = true)
    (hw : Region.wanted ⟨some d, .call ⟨.value x, xs, ts⟩, ty, pos, af, gd⟩ (yielded ops (mkA n env ds).tmps) = true) (hx : (mkA n env ds).eval x = .func (.func F) first captured) (hxs : xs.map (mkA n env ds).eval = vs) (ha : first ++ vs ++ captured = args)
    (hC : Rt P F args w Tc) (k : ∀ v w', Tc v w' → wpList P ops Q rest (mkA n (upd env d v) ds) w') : wpList P ops Q (⟨some d, .call ⟨.value x, xs, ts⟩, ty, pos, af, gd⟩ :: rest) (mkA n env ds) w :=
  step_gen hw fun K hK => by
    unfold Oper.wp
    have hrun : (execOp (mkA n env ds).eval ⟨some d, .call ⟨.value x, xs, ts⟩, ty, pos, af, gd⟩).run P w = .ok (.enter F args) w := by
      simp only [execOp, resolve, hx, hxs, Deferred.ofValue, Sem.run_bind, Sem.run_pure, Result.andThen_ok, invoke]
      rw [ha]
      exact run_callFunc he args
    rw [hrun, Oper.upon_enter]
    refine Calls.mono hC ?_
    rintro e w' ⟨v, rfl, ht⟩
    show K ((mkA n env ds).put (some d) v) w'
    rw [put_some]
    exact hK _ _ (k v w' ht)
theorem m0 {f : Operand → Value} : (#[] : Array Operand).map f = #[] := by simp
theorem m1 {f : Operand → Value} {v1 : Value} {x1 : Operand} (h1 : f x1 = v1) : #[x1].map f = #[v1] := by simp [h1]
theorem m2 {f : Operand → Value} {v1 v2 : Value} {x1 x2 : Operand} (h1 : f x1 = v1) (h2 : f x2 = v2) : #[x1, x2].map f = #[v1, v2] := by simp [h1, h2]
theorem m3 {f : Operand → Value} {v1 v2 v3 : Value} {x1 x2 x3 : Operand} (h1 : f x1 = v1) (h2 : f x2 = v2) (h3 : f x3 = v3) : #[x1, x2, x3].map f = #[v1, v2, v3] := by simp [h1, h2, h3]
theorem m4 {f : Operand → Value} {v1 v2 v3 v4 : Value} {x1 x2 x3 x4 : Operand} (h1 : f x1 = v1) (h2 : f x2 = v2) (h3 : f x3 = v3) (h4 : f x4 = v4) : #[x1, x2, x3, x4].map f = #[v1, v2, v3, v4] := by simp [h1, h2, h3, h4]

/-! ### entering, returning -/
theorem enter {F : FuncId} {fn : Func} {c : Code} {args : Array Value} {R : Ending → World → Prop} (hf : P.funcs[F]? = some fn) (hb : fn.body = some c) {l : List Value} (hl : args = l.toArray) {m : Nat} (hn : fn.ntmps = m) (hm : l.length ≤ m)
    (h : c.wp P (bodyPost P fn R) (mkA m (argE l) []) w) : Calls P F args w R := by
  refine calls_of_wp hf hb ?_
  have : args ++ Array.replicate (fn.ntmps - args.size) undef = Array.ofFn (n := m) (fun i => argE l i) := by
    subst hl hn
    apply Array.ext
    · simp; omega
    · intro i h1 h2
      have hi : i < fn.ntmps := by simpa using h2
      simp only [Array.getElem_ofFn, argE, Array.getElem_append]
      split
      · rename_i h3
        have h3' : i < l.length := by simpa using h3
        simp [List.getD_eq_getElem?_getD, h3']
      · rename_i h3
        have h3' : l.length ≤ i := by simpa using h3
        simp [List.getD_eq_getElem?_getD, h3']
  rw [this]
  exact h
theorem ret1 {fn : Func} {R : Ending → World → Prop} (hr : fn.results = #[.tmp t]) (ht : Nat.blt t n = true) (hv : env t = v) (hR : R (.returned v) w) : bodyPost P fn R .ret (mkA n env []) w := by
  have h' : t < n := Nat.lt_of_succ_le (by simpa [Nat.blt] using ht)
  refine bodyPost_ret (results_tmp hr _ _ _) rfl ?_
  rw [mkA_getD h', hv]
  exact hR
theorem ret2 {fn : Func} {R : Ending → World → Prop} {t2 : Nat} {v2 : Value} (hr : fn.results = #[.tmp t, .tmp t2]) (ht : Nat.blt t n = true) (ht2 : Nat.blt t2 n = true) (hv : env t = v) (hv2 : env t2 = v2) (hR : R (.returned (.tuple #[v, v2])) w) : bodyPost P fn R .ret (mkA n env []) w := by
  have h' : t < n := Nat.lt_of_succ_le (by simpa [Nat.blt] using ht)
  have h2' : t2 < n := Nat.lt_of_succ_le (by simpa [Nat.blt] using ht2)
  refine bodyPost_ret (results_tmp2 hr _ _ _) rfl ?_
  rw [mkA_getD h', hv, mkA_getD h2', hv2]
  exact hR
theorem ret0 {fn : Func} {R : Ending → World → Prop} (hr : fn.results = #[]) (hR : R (.returned (.tuple #[])) w) : bodyPost P fn R .normal (mkA n env []) w :=
  bodyPost_end (results_none hr _ _ _) rfl hR
theorem ret0r {fn : Func} {R : Ending → World → Prop} (hr : fn.results = #[]) (hR : R (.returned (.tuple #[])) w) : bodyPost P fn R .ret (mkA n env []) w :=
  bodyPost_ret (results_none hr _ _ _) rfl hR
/-! ### control -/
theorem c_cond {c : Operand} {a b : Code} {r : Bool} (hc : (mkA n env ds).eval c = .bool r) (h1 : r = true → a.wp P Q (mkA n env ds) w) (h0 : r = false → b.wp P Q (mkA n env ds) w) : (Code.cond c a b).wp P Q (mkA n env ds) w := wp_cond_split hc h1 h0
theorem c_cond1 {c : Operand} {a b : Code} (hc : (mkA n env ds).eval c = .bool true) (h1 : a.wp P Q (mkA n env ds) w) : (Code.cond c a b).wp P Q (mkA n env ds) w := wp_cond_true hc h1
theorem c_cond0 {c : Operand} {a b : Code} (hc : (mkA n env ds).eval c = .bool false) (h0 : b.wp P Q (mkA n env ds) w) : (Code.cond c a b).wp P Q (mkA n env ds) w := wp_cond_false hc h0
theorem c_seq {a b : Code} {act : Act} (h : a.wp P (Exit.then (b.wp P Q) Q) act w) : (Code.seq a b).wp P Q act w := wp_seq h
theorem c_reg {id : Nat} {l : List Oper} {act : Act} (h : wpList P l.toArray Q l act w) : (Code.region id l.toArray false).wp P Q act w := wp_region_lit h
theorem c_done {act : Act} (h : Q .normal act w) : wpList P ops Q [] act w := h
theorem n_then {K : Act → World → Prop} {act : Act} (h : K act w) : Exit.then K Q .normal act w := h
theorem r_then {K : Act → World → Prop} {act : Act} (h : Q .ret act w) : Exit.then K Q .ret act w := h
theorem e_then {K : Act → World → Prop} {act : Act} {i : Nat} (h : Q (.exit i) act w) : Exit.then K Q (.exit i) act w := h
theorem n_block {act : Act} {i : Nat} (h : Q .normal act w) : Exit.inBlock i Q .normal act w := h
theorem r_block {act : Act} {i : Nat} (h : Q .ret act w) : Exit.inBlock i Q .ret act w := h
theorem e_hit {act : Act} {i : Nat} (h : Q .normal act w) : Exit.inBlock i Q (.exit i) act w := by simp only [Exit.inBlock, if_pos rfl]; exact h
theorem e_miss {act : Act} {i j : Nat} (hn : (j == i) = false) (h : Q (.exit j) act w) : Exit.inBlock i Q (.exit j) act w := by
  have : ¬ j = i := by simpa using hn
  simp only [Exit.inBlock, if_neg this]; exact h
theorem c_skip {act : Act} (h : Q .normal act w) : Code.skip.wp P Q act w := wp_skip h
theorem c_exit {act : Act} {i : Nat} (h : Q (.exit i) act w) : (Code.exit i).wp P Q act w := wp_exit h
theorem c_ret {act : Act} (h : Q .ret act w) : Code.ret.wp P Q act w := wp_ret h
theorem c_block {act : Act} {i : Nat} {c : Code} (h : c.wp P (Exit.inBlock i Q) act w) : (Code.block i c).wp P Q act w := wp_block h
theorem c_loop {c : Code} {α : Type} (I : α → (Nat → Value) → World → Prop) (μ : α → Nat) (x0 : α) (h0 : I x0 env w)
    (round : ∀ x env w, I x env w → c.wp P (Exit.then (fun a' w' => ∃ x' env', a' = mkA n env' ds ∧ I x' env' w' ∧ μ x' < μ x) Q) (mkA n env ds) w) : (Code.loop c).wp P Q (mkA n env ds) w := by
  intro b k cs
  have key : ∀ m (x : α) env w, μ x = m → I x env w →
      ∃ e a' w', Q e a' w' ∧ Arrives P (lone (b.at (mkA n env ds) (.code c :: .inLoop c :: k)) cs w) b k cs e a' w' := by
    intro m
    induction m using Nat.strongRecOn with
    | _ m ih =>
      intro x env w hm hI
      obtain ⟨e, a₁, w₁, hq, harr⟩ := round x env w hI b (.inLoop c :: k) cs
      cases e with
      | normal =>
        obtain ⟨x', env', rfl, hI', hlt⟩ := hq
        obtain ⟨e₂, a₂, w₂, hq₂, harr₂⟩ := ih (μ x') (hm ▸ hlt) x' env' w₁ rfl hI'
        exact ⟨e₂, a₂, w₂, hq₂, .of_steps (Steps.trans harr (.one step_inLoop)) harr₂⟩
      | exit id => exact ⟨_, a₁, w₁, hq, .pass (x := .inLoop c) rfl (fun _ _ => .inl (by simp)) harr⟩
      | goto l => exact ⟨_, a₁, w₁, hq, .pass (x := .inLoop c) rfl (fun _ _ => .inl (by simp)) harr⟩
      | ret => exact ⟨_, a₁, w₁, hq, .pass (x := .inLoop c) rfl (fun _ _ => .inl (by simp)) harr⟩
      | panic ch => exact ⟨_, a₁, w₁, hq, .pass (x := .inLoop c) rfl (fun _ _ => .inl (by simp)) harr⟩
      | outgrown => exact ⟨_, a₁, w₁, hq, .pass (x := .inLoop c) rfl (fun _ _ => .inl (by simp)) harr⟩
  obtain ⟨e, a', w', hq, harr⟩ := key _ x0 env w rfl h0
  exact ⟨e, a', w', hq, .of_steps (.one step_loop) harr⟩
/-- A slot's Bool is known. -/
theorem c_known {r r' : Bool} (h : r = r') {G : (Nat → Value) → Prop} (k : G (upd env d (.bool r'))) : G (upd env d (.bool r)) := h ▸ k
end
end Go.Wk
